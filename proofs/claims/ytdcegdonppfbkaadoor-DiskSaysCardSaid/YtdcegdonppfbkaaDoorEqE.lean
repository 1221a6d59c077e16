/- slices.Equal at entries: whether the two lists are one. -/
import Derived.Test.YtdcegdonppfbkaaDoorProg
import Derived.Test.YtdcegdonppfbkaaDoorLib
namespace Go.Proofs.YtdcegdonppfbkaaDoor
set_option linter.unusedSimpArgs false
set_option linter.unusedVariables false
open Go.RowKit
theorem neqE (a0 a1 a2 a3 a4 b0 b1 b2 b3 b4 : Int) (w : World) : (binOp .neq 23 (.agg #[.int .i64 a0, .int .i64 a1, .int .i64 a2, .int .i64 a3, .int .i64 a4]) (.agg #[.int .i64 b0, .int .i64 b1, .int .i64 b2, .int .i64 b3, .int .i64 b4])).run Tryd.prog w = .ok (.bool (!((a0 == b0) && (a1 == b1) && (a2 == b2) && (a3 == b3) && (a4 == b4)))) w := by
  have hu3 := Tryd.underlying3; have ha3 := Tryd.isAgg3; have hz3 := Tryd.sizeOf3
  have hS : Tryd.prog.underlying 23 = some (.struct (Tryd.prog.fieldsOf 23)) := by kernel_rfl
  have hp : Tryd.prog.stoodInHeld 23 = false := by kernel_rfl
  rw [run_neq_struct, show (10000 : Nat) = 9999 + 1 from rfl, run_equalIn_agg w 9999 23 _ _ hS hp]
  simp only [Program.fieldsOf, Tryd.underlying23]
  go_simp
  by_cases h0 : a0 = b0 <;> by_cases h1 : a1 = b1 <;> by_cases h2 : a2 = b2 <;> by_cases h3 : a3 = b3 <;> by_cases h4 : a4 = b4 <;> simp [h0, h1, h2, h3, h4]
theorem eqlE (a0 a1 a2 a3 a4 b0 b1 b2 b3 b4 : Int) (w : World) : (binOp .eql 23 (.agg #[.int .i64 a0, .int .i64 a1, .int .i64 a2, .int .i64 a3, .int .i64 a4]) (.agg #[.int .i64 b0, .int .i64 b1, .int .i64 b2, .int .i64 b3, .int .i64 b4])).run Tryd.prog w = .ok (.bool (((a0 == b0) && (a1 == b1) && (a2 == b2) && (a3 == b3) && (a4 == b4)))) w := by
  have hu3 := Tryd.underlying3; have ha3 := Tryd.isAgg3; have hz3 := Tryd.sizeOf3
  have hS : Tryd.prog.underlying 23 = some (.struct (Tryd.prog.fieldsOf 23)) := by kernel_rfl
  have hp : Tryd.prog.stoodInHeld 23 = false := by kernel_rfl
  rw [run_eql_struct, show (10000 : Nat) = 9999 + 1 from rfl, run_equalIn_agg w 9999 23 _ _ hS hp]
  simp only [Program.fieldsOf, Tryd.underlying23]
  go_simp
  by_cases h0 : a0 = b0 <;> by_cases h1 : a1 = b1 <;> by_cases h2 : a2 = b2 <;> by_cases h3 : a3 = b3 <;> by_cases h4 : a4 = b4 <;> simp [h0, h1, h2, h3, h4]
set_option maxHeartbeats 1000000 in
theorem EqualE_calls (A A' : Option Addr) (n m c d B : Nat) (l l' : List Entry) (w : World) (h : Sl w B 5 A n (l.map encE)) (h' : Sl w B 5 A' m (l'.map encE)) (hn : n ≤ 9223372036854775807) :
    Calls Tryd.prog 27 #[.slice A n c, .slice A' m d] w fun e w' => e = .returned (.bool (decide (l = l'))) ∧ ∃ q, w' = w.drewN q := by
  by_cases hnm : n = m
  · subst hnm
    go_enter Tryd.func27, Tryd.ntmps27
    go_wp2
    go_loopg [13] n (fun g s13 wr => ∃ kk q : Nat, kk ≤ n ∧ n - kk ≤ g ∧ s13 = .int .i64 kk ∧ wr = w.drewN q ∧ Hid (∀ j, j < kk → l[j]? = l'[j]?))
    case atStart => exact ⟨0, 0, Nat.zero_le _, by omega, rfl, rfl, fun j hj => absurd hj (Nat.not_lt_zero _)⟩
    case round =>
      obtain ⟨kk, q, hkk, hg, rfl, rfl, H⟩ := hrel
      by_cases hlt : kk < n
      · obtain ⟨b, off, x, rfl, hb, hx, c0, c1, c2, c3, c4⟩ := h.atE hlt
        obtain ⟨b', off', x', rfl, hb', hx', d0, d1, d2, d3, d4⟩ := h'.atE hlt
        have HX := Lib.hid hx; have HX' := Lib.hid hx'; clear hx hx'
        clear h h'
        have hne := neqE
        go_wp2_with fail
        go_quiet (fail)
        go_wp2
        · go_ret
          refine ⟨?_, q + nq, by simp⟩
          have hd : l ≠ l' := by
            rintro rfl
            have := HX.out.symm.trans HX'.out
            simp at this; subst this; simp_all
          simp [hd]
        · go_roundg (n - (kk + 1))
          case measure => omega
          case rel =>
            refine ⟨kk + 1, q + nq, by omega, by omega, by go_num, by simp, ?_⟩
            intro j hj
            by_cases e : j = kk
            · subst e
              rw [HX.out, HX'.out]; congr 1; rw [entry_eq_iff]; simp_all
            · exact H.out j (by omega)
      · have : kk = n := by omega
        subst this
        have hl := h.len; have hl' := h'.len
        simp at hl hl'
        have he : l = l' := list_eq_of (by omega) (fun j hj => H.out j (by omega))
        clear h h' hl hl'
        go_wp2
        go_ret
        refine ⟨by simp [he], q, rfl⟩
  · have hnm' : ¬ (n : Int) = (m : Int) := by omega
    have hd : l ≠ l' := by
      rintro rfl
      exact hnm (h.len.symm.trans h'.len)
    clear h h'
    go_enter Tryd.func27, Tryd.ntmps27
    go_wp2
    go_ret
    exact ⟨by simp [hd], 0, rfl⟩


end Go.Proofs.YtdcegdonppfbkaaDoor
