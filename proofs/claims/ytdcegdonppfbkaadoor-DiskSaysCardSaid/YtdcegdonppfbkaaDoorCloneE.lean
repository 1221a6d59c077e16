/- slices.Clone at entries and units: a copy in memory of the call's own. -/
import Derived.Test.YtdcegdonppfbkaaDoorProg
import Derived.Test.YtdcegdonppfbkaaDoorLib
namespace Go.Proofs.YtdcegdonppfbkaaDoor
set_option linter.unusedSimpArgs false
set_option linter.unusedVariables false
open Go.RowKit
theorem infoE : (Tryd.prog.info? 23).map (fun i => (i.zero, i.size, i.bytes)) = some (some (.agg #[.int .i64 0, .int .i64 0, .int .i64 0, .int .i64 0, .int .i64 0]), 5, 40) := by kernel_rfl
set_option maxHeartbeats 1000000 in
theorem CloneE_calls (w : World) (A : Option Addr) (n c B : Nat) (hB : B ≤ w.heap.size) (rows : List (List Value)) (h : Sl w B 5 A n rows) (h1 : ∀ r ∈ rows, ∀ u ∈ r, u.oneCell' = true) (hn : n * 40 ≤ 140737488355328) :
    Calls Tryd.prog 94 #[.slice A n c] w fun e w' => ∃ A' c', e = .returned (.slice A' n c') ∧ Own w' w.heap.size 23 5 (.slice A' n c') n rows ∧ Below w.heap.size w w' := by
  obtain ⟨i0, hi0, hz0, hz1, hz2⟩ := info_parts infoE
  have hnm : n ≤ maxLen := by unfold maxLen; omega
  cases A with
  | none =>
    have h0 : n = 0 := by
      rcases Nat.eq_zero_or_pos n with h0 | h0
      · exact h0
      · obtain ⟨b, off, e, _⟩ := h.2.2 h0
        cases e
    subst h0
    have hr : rows = [] := List.eq_nil_of_length_eq_zero h.1
    subst hr
    clear h h1 hi0 hz0 hz1 hz2 hnm hn
    have hs : ∀ w, (binOp .eql 40 (.slice none 0 c) (.slice none 0 0)).run Tryd.prog w = .ok (.bool true) w := fun w => by kernel_rfl
    go_enter Tryd.func94, Tryd.ntmps94
    go_wp2
    go_ret
    exact ⟨none, 0, rfl, Own.nil _ _ _ _, Below.refl _ _⟩
  | some a =>
    have hs : ∀ w, (binOp .eql 40 (.slice (some a) n c) (.slice none 0 0)).run Tryd.prog w = .ok (.bool false) w := fun w => by kernel_rfl
    have HN := Lib.hid hn; have HM := Lib.hid hnm; have H1 := Lib.hid h1; have H := Lib.hid h; clear hn hnm h1 h
    have HI := Lib.hid hi0; have HZ0 := Lib.hid hz0; have HZ1 := Lib.hid hz1; have HZ2 := Lib.hid hz2; clear hi0 hz0 hz1 hz2
    go_enter Tryd.func94, Tryd.ntmps94
    go_wp2_with (at_builtin; refine wpList_append_sl _ rfl _ _ 40 rfl w.heap.size 23 i0 _ 5 40 Tryd.underlying40 HI.out HZ0.out HZ1.out HZ2.out rfl (by decide) _ 0 [] rfl ?c1 B (some a) n c rows rfl ?c2 H1.out ?c3 ?c4 ?c5 ?_)
    case c1 => exact ⟨World.ownsRow_made _ _ _ (Nat.le_refl _) (by simp [maxLen]) (by simp), rfl, by simp⟩
    case c2 => exact H.out.keep fun p hp => World.cell?_alloc_lt w _ p (by omega)
    case c3 => rw [Nat.zero_add]; exact HM.out
    case c4 => rw [Nat.zero_add]; exact HN.out
    case c5 => simp
    intro v' w' hown hgrow hblk
    obtain ⟨A', c', rfl, _, _⟩ := hown.slice
    go_wp2
    go_ret
    refine ⟨A', c', rfl, hown, ?_⟩
    exact ((Below.refl _ _).alloc (Nat.le_refl _) _).grown hgrow (by simp) (by simp [Value.ownBlock])

end Go.Proofs.YtdcegdonppfbkaaDoor
