/- The law's small helpers, and entry.Check. -/
import Derived.Test.YtdcegdonppfbkaaDoorProg
import Derived.Test.YtdcegdonppfbkaaDoorSpec
namespace Go.Proofs.YtdcegdonppfbkaaDoor
set_option linter.unusedSimpArgs false
set_option linter.unusedVariables false
open Go.RowKit

theorem ret_int {k : IntKind} {a b : Int} (h : a = b) : Ending.returned (.int k a) = .returned (.int k b) := by rw [h]
theorem ret_bool {a b : Bool} (h : a = b) : Ending.returned (.bool a) = .returned (.bool b) := by rw [h]

theorem at_calls (k n : Int) (w : World) (hn : 0 < n) (hn' : n ≤ 1000000) :
    Calls Tryd.prog 37 #[.int .i64 k, .int .i64 n] w fun e w' => e = .returned (.int .i64 (k % n)) ∧ w = w' := by
  have h1 := Int.tmod_lt_of_pos k hn
  have h2 : -n < k.tmod n := by
    have := Int.lt_tmod_of_pos k hn
    omega
  have h3 : (if k.tmod n < 0 then k.tmod n + n else k.tmod n) = k % n := by
    have e : k % n = k.tmod n % n := by
      have h := Int.tmod_add_mul_tdiv k n
      rw [← h, Int.add_mul_emod_self_left, h]
    rw [e]
    split
    · rw [← Int.add_emod_right, Int.emod_eq_of_lt (by omega) (by omega)]
    · rw [Int.emod_eq_of_lt (by omega) (by omega)]
  have H3 := Lib.hid h3
  clear h3
  go_enter Tryd.func37, Tryd.ntmps37
  go_wp2
  all_goals
    go_ret
    refine ⟨ret_int ?_, rfl⟩
    rw [← H3.out]
    split <;> omega

theorem put_calls (j v t : Int) (w : World) :
    Calls Tryd.prog 55 #[.int .i64 j, .int .i64 v, .int .i64 t] w fun e w' => e = .returned (.agg #[.int .i64 1, .int .i64 j, .int .i64 v, .int .i64 t, .int .i64 0]) ∧ Below w.heap.size w w' := by
  go_enter Tryd.func55, Tryd.ntmps55
  go_wp2
  refine bodyPost_ret (v := .agg #[.int .i64 1, .int .i64 j, .int .i64 v, .int .i64 t, .int .i64 0]) (by simp [results, Tryd.results55, go_sem]) rfl ⟨rfl, ?_⟩
  repeat (first | exact Below.refl _ _ | refine Below.alloc ?_ (by simp <;> omega) _ | refine Below.setCell ?_ (by simp) _)

set_option maxHeartbeats 4000000 in
theorem Check_calls (k j v t c : Int) (w : World) :
    Calls Tryd.prog 17 #[.agg #[.int .i64 k, .int .i64 j, .int .i64 v, .int .i64 t, .int .i64 c]] w fun e w' => e = .returned (.int .i64 (checkE ⟨k, j, v, t, c⟩)) ∧ Below w.heap.size w w' := by
  obtain ⟨r, hr⟩ : ∃ r, r = checkE ⟨k, j, v, t, c⟩ := ⟨_, rfl⟩
  rw [← hr]
  have HR := Lib.hid hr
  clear hr
  go_enter Tryd.func17, Tryd.ntmps17
  go_wp2
  all_goals
    go_ret
    refine ⟨ret_int ?_, ?_⟩
    · rw [HR.out]; clear HR; (try simp only [beq_iff_eq, beq_eq_false_iff_ne, bne_iff_ne, bne_eq_false_iff_eq, ne_eq] at *); unfold checkE; dsimp only; (repeat' split) <;> omega
    · repeat (first | exact Below.refl _ _ | refine Below.alloc ?_ (by simp <;> omega) _ | refine Below.setCell ?_ (by simp) _)
end Go.Proofs.YtdcegdonppfbkaaDoor
