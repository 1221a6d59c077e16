/- slices.Equal at jobs, rungs: whether the two lists are one. -/
import Derived.Test.YtbipmoehcmighaaProg
import Derived.Test.YtbipmoehcmighaaLib
namespace Go.Proofs.Ytbipmoehcmighaa
set_option linter.unusedSimpArgs false
set_option linter.unusedVariables false
open Go.RowKit
theorem neqJ (a0 a1 a2 b0 b1 b2 : Int) (w : World) : (binOp .neq 73 (.agg #[.int .i64 a0, .int .i64 a1, .int .i64 a2]) (.agg #[.int .i64 b0, .int .i64 b1, .int .i64 b2])).run Try.prog w = .ok (.bool (!((a0 == b0) && (a1 == b1) && (a2 == b2)))) w := by
  have u3 := Try.underlying3; have a3 := Try.isAgg3; have z3 := Try.sizeOf3
  have hS : Try.prog.underlying 73 = some (.struct (Try.prog.fieldsOf 73)) := by kernel_rfl
  have hp : Try.prog.stoodInHeld 73 = false := by kernel_rfl
  rw [run_neq_struct, show (10000 : Nat) = 9999 + 1 from rfl, run_equalIn_agg w 9999 73 _ _ hS hp]
  simp only [Program.fieldsOf, Try.underlying73]
  go_simp
  by_cases h0 : a0 = b0 <;> by_cases h1 : a1 = b1 <;> by_cases h2 : a2 = b2 <;> simp [h0, h1, h2]
theorem eqlJ (a0 a1 a2 b0 b1 b2 : Int) (w : World) : (binOp .eql 73 (.agg #[.int .i64 a0, .int .i64 a1, .int .i64 a2]) (.agg #[.int .i64 b0, .int .i64 b1, .int .i64 b2])).run Try.prog w = .ok (.bool (((a0 == b0) && (a1 == b1) && (a2 == b2)))) w := by
  have u3 := Try.underlying3; have a3 := Try.isAgg3; have z3 := Try.sizeOf3
  have hS : Try.prog.underlying 73 = some (.struct (Try.prog.fieldsOf 73)) := by kernel_rfl
  have hp : Try.prog.stoodInHeld 73 = false := by kernel_rfl
  rw [run_eql_struct, show (10000 : Nat) = 9999 + 1 from rfl, run_equalIn_agg w 9999 73 _ _ hS hp]
  simp only [Program.fieldsOf, Try.underlying73]
  go_simp
  by_cases h0 : a0 = b0 <;> by_cases h1 : a1 = b1 <;> by_cases h2 : a2 = b2 <;> simp [h0, h1, h2]
set_option maxHeartbeats 1000000 in
theorem EqualJ_calls (A A' : Option Addr) (n m c d B : Nat) (l l' : List Job) (w : World) (h : Sl w B 3 A n (l.map encJ)) (h' : Sl w B 3 A' m (l'.map encJ)) (hn : n ≤ 9223372036854775807) :
    Calls Try.prog 75 #[.slice A n c, .slice A' m d] w fun e w' => e = .returned (.bool (decide (l = l'))) ∧ ∃ q, w' = w.drewN q := by
  by_cases hnm : n = m
  · subst hnm
    go_enter Try.func75, Try.ntmps75
    go_wp2
    go_loopg [13] n (fun g s13 wr => ∃ kk q : Nat, kk ≤ n ∧ n - kk ≤ g ∧ s13 = .int .i64 kk ∧ wr = w.drewN q ∧ Hid (∀ j, j < kk → l[j]? = l'[j]?))
    case atStart => exact ⟨0, 0, Nat.zero_le _, by omega, rfl, rfl, fun j hj => absurd hj (Nat.not_lt_zero _)⟩
    case round =>
      obtain ⟨kk, q, hkk, hg, rfl, rfl, H⟩ := hrel
      by_cases hlt : kk < n
      · obtain ⟨b, off, x, rfl, hb, hx, c0, c1, c2⟩ := h.atJ hlt
        obtain ⟨b', off', x', rfl, hb', hx', d0, d1, d2⟩ := h'.atJ hlt
        have HX := Lib.hid hx; have HX' := Lib.hid hx'; clear hx hx'
        clear h h'
        have hne := neqJ
        go_wp2_with fail
        go_quiet (fail)
        go_wp2
        · go_ret
          refine ⟨?_, q + nq, by simp⟩
          have hd : l ≠ l' := by
            rintro rfl
            have := HX.out.symm.trans HX'.out
            simp at this; subst this; simp_all
          simp [hd]
        · go_roundg (n - (kk + 1))
          case measure => omega
          case rel =>
            refine ⟨kk + 1, q + nq, by omega, by omega, by go_num, by simp, ?_⟩
            intro j hj
            by_cases e : j = kk
            · subst e
              rw [HX.out, HX'.out]; congr 1; rw [job_eq_iff]; simp_all
            · exact H.out j (by omega)
      · have : kk = n := by omega
        subst this
        have hl := h.len; have hl' := h'.len
        simp at hl hl'
        have he : l = l' := list_eq_of (by omega) (fun j hj => H.out j (by omega))
        clear h h' hl hl'
        go_wp2
        go_ret
        refine ⟨by simp [he], q, rfl⟩
  · have hnm' : ¬ (n : Int) = (m : Int) := by omega
    have hd : l ≠ l' := by
      rintro rfl
      exact hnm (h.len.symm.trans h'.len)
    clear h h'
    go_enter Try.func75, Try.ntmps75
    go_wp2
    go_ret
    exact ⟨by simp [hd], 0, rfl⟩

theorem neqR (a0 a1 a2 b0 b1 b2 : Int) (w : World) : (binOp .neq 95 (.agg #[.int .i64 a0, .int .i64 a1, .int .i64 a2]) (.agg #[.int .i64 b0, .int .i64 b1, .int .i64 b2])).run Try.prog w = .ok (.bool (!((a0 == b0) && (a1 == b1) && (a2 == b2)))) w := by
  have u3 := Try.underlying3; have a3 := Try.isAgg3; have z3 := Try.sizeOf3
  have hS : Try.prog.underlying 95 = some (.struct (Try.prog.fieldsOf 95)) := by kernel_rfl
  have hp : Try.prog.stoodInHeld 95 = false := by kernel_rfl
  rw [run_neq_struct, show (10000 : Nat) = 9999 + 1 from rfl, run_equalIn_agg w 9999 95 _ _ hS hp]
  simp only [Program.fieldsOf, Try.underlying95]
  go_simp
  by_cases h0 : a0 = b0 <;> by_cases h1 : a1 = b1 <;> by_cases h2 : a2 = b2 <;> simp [h0, h1, h2]
theorem eqlR (a0 a1 a2 b0 b1 b2 : Int) (w : World) : (binOp .eql 95 (.agg #[.int .i64 a0, .int .i64 a1, .int .i64 a2]) (.agg #[.int .i64 b0, .int .i64 b1, .int .i64 b2])).run Try.prog w = .ok (.bool (((a0 == b0) && (a1 == b1) && (a2 == b2)))) w := by
  have u3 := Try.underlying3; have a3 := Try.isAgg3; have z3 := Try.sizeOf3
  have hS : Try.prog.underlying 95 = some (.struct (Try.prog.fieldsOf 95)) := by kernel_rfl
  have hp : Try.prog.stoodInHeld 95 = false := by kernel_rfl
  rw [run_eql_struct, show (10000 : Nat) = 9999 + 1 from rfl, run_equalIn_agg w 9999 95 _ _ hS hp]
  simp only [Program.fieldsOf, Try.underlying95]
  go_simp
  by_cases h0 : a0 = b0 <;> by_cases h1 : a1 = b1 <;> by_cases h2 : a2 = b2 <;> simp [h0, h1, h2]
set_option maxHeartbeats 1000000 in
theorem EqualR_calls (A A' : Option Addr) (n m c d B : Nat) (l l' : List Rung) (w : World) (h : Sl w B 3 A n (l.map encR)) (h' : Sl w B 3 A' m (l'.map encR)) (hn : n ≤ 9223372036854775807) :
    Calls Try.prog 76 #[.slice A n c, .slice A' m d] w fun e w' => e = .returned (.bool (decide (l = l'))) ∧ ∃ q, w' = w.drewN q := by
  by_cases hnm : n = m
  · subst hnm
    go_enter Try.func76, Try.ntmps76
    go_wp2
    go_loopg [13] n (fun g s13 wr => ∃ kk q : Nat, kk ≤ n ∧ n - kk ≤ g ∧ s13 = .int .i64 kk ∧ wr = w.drewN q ∧ Hid (∀ j, j < kk → l[j]? = l'[j]?))
    case atStart => exact ⟨0, 0, Nat.zero_le _, by omega, rfl, rfl, fun j hj => absurd hj (Nat.not_lt_zero _)⟩
    case round =>
      obtain ⟨kk, q, hkk, hg, rfl, rfl, H⟩ := hrel
      by_cases hlt : kk < n
      · obtain ⟨b, off, x, rfl, hb, hx, c0, c1, c2⟩ := h.atR hlt
        obtain ⟨b', off', x', rfl, hb', hx', d0, d1, d2⟩ := h'.atR hlt
        have HX := Lib.hid hx; have HX' := Lib.hid hx'; clear hx hx'
        clear h h'
        have hne := neqR
        go_wp2_with fail
        go_quiet (fail)
        go_wp2
        · go_ret
          refine ⟨?_, q + nq, by simp⟩
          have hd : l ≠ l' := by
            rintro rfl
            have := HX.out.symm.trans HX'.out
            simp at this; subst this; simp_all
          simp [hd]
        · go_roundg (n - (kk + 1))
          case measure => omega
          case rel =>
            refine ⟨kk + 1, q + nq, by omega, by omega, by go_num, by simp, ?_⟩
            intro j hj
            by_cases e : j = kk
            · subst e
              rw [HX.out, HX'.out]; congr 1; rw [rung_eq_iff]; simp_all
            · exact H.out j (by omega)
      · have : kk = n := by omega
        subst this
        have hl := h.len; have hl' := h'.len
        simp at hl hl'
        have he : l = l' := list_eq_of (by omega) (fun j hj => H.out j (by omega))
        clear h h' hl hl'
        go_wp2
        go_ret
        refine ⟨by simp [he], q, rfl⟩
  · have hnm' : ¬ (n : Int) = (m : Int) := by omega
    have hd : l ≠ l' := by
      rintro rfl
      exact hnm (h.len.symm.trans h'.len)
    clear h h'
    go_enter Try.func76, Try.ntmps76
    go_wp2
    go_ret
    exact ⟨by simp [hd], 0, rfl⟩

end Go.Proofs.Ytbipmoehcmighaa
