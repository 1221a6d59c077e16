/- due.When. -/
import Derived.Test.YtiphoihijalfkaaCount
namespace Go.Proofs.Ytiphoihijalfkaa
set_option linter.unusedSimpArgs false
set_option linter.unusedVariables false
open Go.RowKit

set_option maxHeartbeats 4000000 in
set_option maxRecDepth 100000 in
theorem When_calls (A A' : Option Addr) (n c m d : Nat) (b : Book) (w : World) (h : S w 3 A n (b.jobs.map encJ)) (h' : S w 3 A' m (b.rung.map encR)) :
    Calls Try.prog 36 #[.agg #[.slice A n c, .slice A' m d]] w fun e w' => e = .returned (.tuple #[.int .i64 (if checkB b = 0 then whenL (-1) b.jobs else 0), .int .i64 (checkB b)]) ∧ Onto w w' := by
  obtain ⟨r, hr⟩ : ∃ r, r = checkB b := ⟨_, rfl⟩
  rw [← hr]
  have HR := Lib.hid hr
  by_cases h0 : r = 0
  · have hg := checkB_iff.1 (h0 ▸ hr.symm)
    have hl : b.jobs.length = n := by have := h.len; simpa using this
    subst h0
    rw [if_pos rfl]
    have HL := Lib.hid hl
    have hn6 : n ≤ 6 := by have := hg.nj; omega
    obtain ⟨fin, hfin⟩ : ∃ fin, fin = whenL (-1) b.jobs := ⟨_, rfl⟩
    rw [← hfin]
    have HF := Lib.hid hfin
    clear hr hl hfin
    go_enter Try.func36, Try.ntmps36
    go_wp2_with fail
    refine Calls.mono (BCheck_calls A A' n c m d _ b.jobs b.rung _ (h.new _) (h'.new _) (Nat.le_refl _)) ?_
    rintro e w1 ⟨rfl, hb1⟩
    rw [show checkB ⟨b.jobs, b.rung⟩ = 0 from HR.out.symm]
    have q0 : w1.cell? ⟨w.heap.size, 0, none⟩ = some (.slice A n c) := cellB hb1 (by simp [go_sem])
    have h01 : Onto w w1 := ((Below.refl _ _).alloc (Nat.le_refl _) _).trans (hb1.mono (by simp))
    have z0 : w.heap.size < w1.heap.size := World.block_lt_of_cell? _ _ q0
    have hS := h.onto h01
    clear hb1 h h'
    go_wp2_with fail
    go_loopw [5, 16] (fun s5 s wr => ∃ k : Nat, ∃ a : Int, k ≤ n ∧ s = .int .i64 k ∧ s5 = .int .i64 a ∧ Onto w1 wr ∧ Hid (a = whenL (-1) (b.jobs.take k))) (fun _ s _ => n - (intOf s).toNat)
    case atStart => exact ⟨0, -1, Nat.zero_le _, rfl, rfl, Below.refl _ _, rfl⟩
    case round =>
      obtain ⟨k, a, hk, rfl, rfl, hbr, HA⟩ := hrel
      by_cases hlt : k < n
      · obtain ⟨bb, off, x, rfl, hb, hx, c0, c1, c2⟩ := (hS.onto hbr).atJ hlt
        have hct := whenL_take hx (-1)
        rw [← HA.out] at hct
        have HC := Lib.hid hct
        clear hx hct
        have hal : Onto wr (wr.alloc (Obj.cells #[.int .i64 x.id, .int .i64 x.every, .int .i64 x.next] 46)) := (Below.refl _ _).alloc (Nat.le_refl _) _
        by_cases ha : a < 0
        · go_wp2_with fail
          go_roundw
          case measure => simp [intOf] <;> omega
          case rel => exact ⟨k + 1, x.next, by omega, by go_num, rfl, Onto.to hbr hal, by show _ = _; rw [HC.out, if_pos (by omega)]⟩
        · have had : decide (a < 0) = false := by simpa using ha
          by_cases hnx : x.next < a
          · go_wp2_with fail
            go_roundw
            case measure => simp [intOf] <;> omega
            case rel => exact ⟨k + 1, x.next, by omega, by go_num, rfl, Onto.to hbr hal, by show _ = _; rw [HC.out, if_pos (by omega)]⟩
          · have hnd : decide (x.next < a) = false := by simpa using hnx
            go_wp2_with fail
            go_roundw
            case measure => simp [intOf] <;> omega
            case rel => exact ⟨k + 1, a, by omega, by go_num, rfl, Onto.to hbr hal, by show _ = _; rw [HC.out, if_neg (by omega)]⟩
      · obtain rfl : k = n := by omega
        have hfin : a = fin := by rw [HA.out, HF.out, List.take_of_length_le (by rw [HL.out]; omega)]
        have HFin := Lib.hid hfin
        clear hfin
        go_wp2_with fail
        go_ret2
        refine ⟨?_, Onto.to h01 hbr⟩
        show Ending.returned (.tuple #[.int .i64 a, .int .i64 0]) = _
        rw [HFin.out]
  · rw [if_neg h0]
    have hr0 : (r != 0) = true := by simpa using h0
    clear h0 hr
    go_enter Try.func36, Try.ntmps36
    go_wp2_with fail
    refine Calls.mono (BCheck_calls A A' n c m d _ b.jobs b.rung _ (h.new _) (h'.new _) (Nat.le_refl _)) ?_
    rintro e w1 ⟨rfl, hb1⟩
    rw [show checkB ⟨b.jobs, b.rung⟩ = r from HR.out.symm]
    have h01 : Onto w w1 := ((Below.refl _ _).alloc (Nat.le_refl _) _).trans (hb1.mono (by simp))
    clear h h' hb1
    go_wp2_with fail
    go_ret2
    exact ⟨rfl, h01⟩
end Go.Proofs.Ytiphoihijalfkaa
