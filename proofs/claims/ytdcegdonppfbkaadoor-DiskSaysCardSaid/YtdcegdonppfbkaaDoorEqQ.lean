/- slices.Equal at records. -/
import Derived.Test.YtdcegdonppfbkaaDoorNBack
import Derived.Test.YtdcegdonppfbkaaDoorRec
namespace Go.Proofs.YtdcegdonppfbkaaDoor
set_option linter.unusedSimpArgs false
set_option linter.unusedVariables false
open Go.RowKit

theorem rec_eq_iff (x y : Rec) : x = y ↔ x.kind = y.kind ∧ x.at_ = y.at_ ∧ x.epoch = y.epoch ∧ x.e.kind = y.e.kind ∧ x.e.job = y.e.job ∧ x.e.every = y.e.every ∧ x.e.time = y.e.time ∧ x.e.client = y.e.client := by
  cases x; cases y
  simp [entry_eq_iff]
theorem Sl.atQ' {w : World} {B n : Nat} {A : Option Addr} {l : List Rec} (h : Sl w B 8 A n (l.map encQ)) {i : Nat} (hi : i < n) : ∃ b off x, A = some ⟨b, off, none⟩ ∧ b < B ∧ l[i]? = some x ∧
    w.cell? ⟨b, off + i * 8, none⟩ = some (.int .i64 x.kind) ∧ w.cell? ⟨b, off + i * 8 + 1, none⟩ = some (.int .i64 x.at_) ∧ w.cell? ⟨b, off + i * 8 + 2, none⟩ = some (.int .i64 x.epoch) ∧
    w.cell? ⟨b, off + i * 8 + 3, none⟩ = some (.int .i64 x.e.kind) ∧ w.cell? ⟨b, off + i * 8 + 4, none⟩ = some (.int .i64 x.e.job) ∧ w.cell? ⟨b, off + i * 8 + 5, none⟩ = some (.int .i64 x.e.every) ∧ w.cell? ⟨b, off + i * 8 + 6, none⟩ = some (.int .i64 x.e.time) ∧ w.cell? ⟨b, off + i * 8 + 7, none⟩ = some (.int .i64 x.e.client) := by
  obtain ⟨b, off, x, e, hb, hx, hc⟩ := h.at_ hi
  exact ⟨b, off, x, e, hb, hx, by simpa using hc 0 _ rfl, hc 1 _ rfl, hc 2 _ rfl, hc 3 _ rfl, hc 4 _ rfl, hc 5 _ rfl, hc 6 _ rfl, hc 7 _ rfl⟩
set_option maxHeartbeats 1000000 in
theorem EqualQ_calls (A A' : Option Addr) (n m c d B : Nat) (l l' : List Rec) (w : World) (h : Sl w B 8 A n (l.map encQ)) (h' : Sl w B 8 A' m (l'.map encQ)) (hn : n ≤ 9223372036854775807) :
    Calls Tryd.prog 39 #[.slice A n c, .slice A' m d] w fun e w' => e = .returned (.bool (decide (l = l'))) ∧ ∃ q, w' = w.drewN q := by
  by_cases hnm : n = m
  · subst hnm
    go_enter Tryd.func39, Tryd.ntmps39
    go_wp2
    go_loopg [13] n (fun g s13 wr => ∃ kk q : Nat, kk ≤ n ∧ n - kk ≤ g ∧ s13 = .int .i64 kk ∧ wr = w.drewN q ∧ Hid (∀ j, j < kk → l[j]? = l'[j]?))
    case atStart => exact ⟨0, 0, Nat.zero_le _, by omega, rfl, rfl, fun j hj => absurd hj (Nat.not_lt_zero _)⟩
    case round =>
      obtain ⟨kk, q, hkk, hg, rfl, rfl, H⟩ := hrel
      by_cases hlt : kk < n
      · obtain ⟨b, off, x, rfl, hb, hx, c0, c1, c2, c3, c4, c5, c6, c7⟩ := h.atQ' hlt
        obtain ⟨b', off', x', rfl, hb', hx', d0, d1, d2, d3, d4, d5, d6, d7⟩ := h'.atQ' hlt
        have HX := Lib.hid hx; have HX' := Lib.hid hx'; clear hx hx'
        clear h h'
        have hne := neqRI
        go_wp2_with fail
        go_quiet (fail)
        go_wp2
        · go_ret
          refine ⟨?_, q + nq, by simp⟩
          have hd : l ≠ l' := by
            rintro rfl
            have := HX.out.symm.trans HX'.out
            simp at this; subst this; simp_all
          simp [hd]
        · go_roundg (n - (kk + 1))
          case measure => omega
          case rel =>
            refine ⟨kk + 1, q + nq, by omega, by omega, by go_num, by simp, ?_⟩
            intro j hj
            by_cases e : j = kk
            · subst e
              rw [HX.out, HX'.out]; congr 1; rw [rec_eq_iff]; simp_all
            · exact H.out j (by omega)
      · have : kk = n := by omega
        subst this
        have hl := h.len; have hl' := h'.len
        simp at hl hl'
        have he : l = l' := list_eq_of (by omega) (fun j hj => H.out j (by omega))
        clear h h' hl hl'
        go_wp2
        go_ret
        refine ⟨by simp [he], q, rfl⟩
  · have hnm' : ¬ (n : Int) = (m : Int) := by omega
    have hd : l ≠ l' := by
      rintro rfl
      exact hnm (h.len.symm.trans h'.len)
    clear h h'
    go_enter Tryd.func39, Tryd.ntmps39
    go_wp2
    go_ret
    exact ⟨by simp [hd], 0, rfl⟩


end Go.Proofs.YtdcegdonppfbkaaDoor
