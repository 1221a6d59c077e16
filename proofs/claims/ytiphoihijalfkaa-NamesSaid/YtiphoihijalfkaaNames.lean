/- The law Names is proved: each constant has its value. No condition. -/
import Derived.Test.YtiphoihijalfkaaFrame
import Derived.Test.YtiphoihijalfkaaEq1
namespace Go.Proofs.Ytiphoihijalfkaa
open Go.ChangeShapes Go.WideShapes Go.ChangeAt Go.RowKit

/-- A literal row of numbers, as 'Sl'. -/
theorem Sl.lit {w : World} {b : Nat} {t : TypeId} {fr : Nat × Nat} {cs : Array Value} (l : List Int) (h : w.heap[b]? = some (.cells cs t fr)) (hl : cs.toList = l.map (.int .i64)) (hb : b < w.heap.size) :
    Sl w w.heap.size 1 (some ⟨b, 0, none⟩) l.length (l.map encI) := by
  refine ⟨by simp, by simp [encI], fun _ => ⟨b, 0, rfl, hb, fun i j r u hr hu => ?_⟩⟩
  have hi : i < l.length := by
    rcases Nat.lt_or_ge i l.length with h | h
    · exact h
    · rw [List.getElem?_eq_none (by simpa using h)] at hr; cases hr
  rw [List.getElem?_map, List.getElem?_eq_getElem hi] at hr
  simp [encI] at hr
  subst hr
  match j, hu with
  | 0, hu =>
    simp at hu
    subst hu
    unfold World.cell?
    rw [h]
    simp only [Option.isSome_none, Bool.false_eq_true, if_false]
    rw [← Array.getElem?_toList, hl]
    simp [hi]

set_option maxHeartbeats 1000000 in
theorem Names_walk (w : World) : Calls Try.prog 3 #[] w fun e w' => e = .returned (.bool true) ∧ Below w.heap.size w w' := by
  go_enter Try.func3, Try.ntmps3
  go_wp2
  go_loop [9] (fun i => ∃ k : Int, 0 ≤ k ∧ k ≤ 10 ∧ i = .int .i64 k) (fun i => 10 - (intOf i).toNat)
  case atStart => exact ⟨0, by omega, by omega, rfl⟩
  case round =>
    obtain ⟨k, hk0, hk, rfl⟩ := hrel
    have hk' : k = 10 ∨ k = 0 ∨ k = 1 ∨ k = 2 ∨ k = 3 ∨ k = 4 ∨ k = 5 ∨ k = 6 ∨ k = 7 ∨ k = 8 ∨ k = 9 := by omega
    rcases hk' with rfl | rfl | rfl | rfl | rfl | rfl | rfl | rfl | rfl | rfl | rfl
    · go_wp2_with fail
      refine Calls.mono (EqualI_calls _ _ 11 11 _ _ _ [6, 100, 100000, 60, 3, 3, 20, 160, 30000, 150, 60] [6, 100, 100000, 60, 3, 3, 20, 160, 30000, 150, 60] _ (Sl.lit _ (b := w.heap.size + 1) (by repeat (first | (refine hNew ?_; simp; done) | refine hOld ?_)) rfl (by simp)) (Sl.lit _ (b := w.heap.size + 3) (by repeat (first | (refine hNew ?_; simp; done) | refine hOld ?_)) rfl (by simp)) (by omega)) ?_
      rintro e w' ⟨rfl, q, rfl⟩
      go_wp2_with fail
      refine Calls.mono (EqualI_calls _ _ 25 25 _ _ _ [0, 1, 2, 3, 4, 1, 2, 0, 1, 2, 1, 2, 3, 4, 5, 6, 7, 8, 9, 10, 11, 12, 13, 14, 15] [0, 1, 2, 3, 4, 1, 2, 0, 1, 2, 1, 2, 3, 4, 5, 6, 7, 8, 9, 10, 11, 12, 13, 14, 15] _ (Sl.lit _ (b := w.heap.size + 2) (by repeat (first | (refine hNew ?_; simp; done) | refine hOld ?_)) rfl (by simp)) (Sl.lit _ (b := w.heap.size + 4) (by repeat (first | (refine hNew ?_; simp; done) | refine hOld ?_)) rfl (by simp)) (by omega)) ?_
      rintro e w' ⟨rfl, q, rfl⟩
      go_wp2_with fail
      go_ret
      exact ⟨by simp, by repeat (first | exact Below.refl _ _ | refine below_drewN ?_ _ | refine Below.alloc ?_ (by simp <;> omega) _)⟩
    all_goals
      go_wp2
      go_round
      case rel => exact ⟨_, by omega, by omega, rfl⟩
      case measure => simp [intOf]

set_option maxRecDepth 100000 in
theorem names_lifted (os : Os) (started : os.Started) (H : Type) (enc : TypeId × Value → H) :
    ReturnsInHanded {} Try.checked os 3 .any (Rows.namesSpec.pre6 enc Try.prog Try.f3 Rows.namesRow.domain false) (Rows.namesSpec.post enc Try.prog Try.f3 false true false false) := by
  refine returnsInHanded_of_change (C := Try.checked) own started (by kernel_rfl) Try.func3
    (ChangeSpec.witness6 (enc := enc) (C := Try.checked) false ⟨#[], #[], []⟩ 8 (by kernel_rfl) (by kernel_rfl) (by kernel_rfl) (by kernel_rfl)) ?_
  intro W base args ds gs before hval0 hW hcnd _
  have hval : ∀ (j : Nat) t v, Try.f3.params[j]? = some t → args[j]? = some v → Value.okWide Try.prog W .any base t v := hval0
  have hW' := hW
  obtain ⟨p, q, hA0, hV, rfl, hfz, hnd⟩ := hW
  have hA : DataW.TrodAll enc Try.prog W 0 (fun _ => true) true Try.f3.params.toList args.toList ds p := hA0
  rw [Try.params3] at hA hval
  obtain ⟨hargs, rfl, rfl⟩ := trodAll_nil hA
  obtain rfl : args = #[] := by cases args; simp_all
  obtain ⟨rfl, rfl⟩ := trodVars_none hV
  clear hA0 hval0
  refine (Names_walk W).mono fun e W' ⟨he, bel⟩ => ?_
  subst he
  exact ⟨_, rfl, _, _, _, [], _, [], hW', trodAll_mk1 (shut_bool Try.underlying4 _), trodAll_mk0, rfl, bel.frame _, fun h => by cases h⟩

theorem names_holds : Rows.NamesSaid :=
  OpenClaim.holds_of_wide 3 Try.f3 rfl rfl rfl rfl rfl rfl rfl ⟨rfl, rfl, rfl, rfl, rfl⟩ rfl rfl rfl rfl rfl (by kernel_rfl) Try.func3 (by kernel_rfl)
    (of_decide_eq_true (by kernel_rfl)) (by unfold Func.isWrapper; first | (rw [if_pos (by decide +kernel)]; kernel_rfl) | (rw [if_neg (by decide +kernel)]; exact ⟨rfl, rfl⟩))
    (fun os started H enc _ => names_lifted os started H enc)
end Go.Proofs.Ytiphoihijalfkaa
