/- Plain laws of lives. -/
import Derived.Test.YtiphoihijalfkaaOwnPut
namespace Go.Proofs.Ytiphoihijalfkaa
set_option linter.unusedSimpArgs false
set_option linter.unusedVariables false

theorem idxI_ge {α : Type} {p : α → Bool} {l : List α} (h : 0 ≤ idxI p l) : ∃ (i : Nat) (y : α), idxI p l = i ∧ l[i]? = some y ∧ p y = true := by
  unfold idxI at h ⊢
  cases hf : l.findIdx? p with
  | none => rw [hf] at h; simp at h
  | some i =>
    rw [List.findIdx?_eq_some_iff_getElem] at hf
    obtain ⟨hi, hp, _⟩ := hf
    exact ⟨i, l[i], rfl, List.getElem?_eq_getElem hi, hp⟩
/-- Bounds of lives: what the program reckons stays small. -/
structure BL (s : List Life × Int) : Prop where
  each : ∀ y ∈ s.1, 0 ≤ y.every ∧ y.every ≤ 100 ∧ 0 ≤ y.frm ∧ y.frm ≤ 100000 ∧ 0 ≤ y.rung ∧ y.rung ≤ s.2
  lo : 0 ≤ s.2
  hi : s.2 ≤ 60
theorem BL.nil : BL ([], 0) := ⟨by simp, by simp, by simp⟩
theorem stepL_put {s : List Life × Int} {x : Entry} (h1 : x.kind = 1) (h2 : idxI (openL x.job) s.1 < 0) : stepL s x = (s.1 ++ [⟨x.job, x.every, x.time, 0, false⟩], s.2) := by
  unfold stepL; rw [if_pos ⟨h1, h2⟩]
theorem stepL_none {s : List Life × Int} {x : Entry} (h1 : x.kind ≠ 1) (h2 : idxI (openL x.job) s.1 < 0) : stepL s x = s := by
  unfold stepL
  rw [if_neg (fun h => h1 h.1)]
  split
  · rw [if_neg (by omega)]
  · rfl
theorem stepL_drop {s : List Life × Int} {x : Entry} {i : Nat} {y : Life} (hi : idxI (openL x.job) s.1 = i) (hy : s.1[i]? = some y) (hk : x.kind = 2) : stepL s x = (s.1.set i ⟨y.job, y.every, y.frm, y.rung, true⟩, s.2) := by
  unfold stepL
  rw [if_neg (by omega)]
  simp only [hi, Int.toNat_natCast, hy]
  rw [if_pos (by omega), if_pos hk]
theorem stepL_ring {s : List Life × Int} {x : Entry} {i : Nat} {y : Life} (hi : idxI (openL x.job) s.1 = i) (hy : s.1[i]? = some y) (hk : x.kind = 3 ∧ x.time = y.frm + y.every * y.rung ∧ s.2 < 60) : stepL s x = (s.1.set i ⟨y.job, y.every, y.frm, y.rung + 1, y.over⟩, s.2 + 1) := by
  unfold stepL
  rw [if_neg (by omega)]
  simp only [hi, Int.toNat_natCast, hy]
  rw [if_pos (by omega), if_neg (by omega), if_pos hk]
theorem stepL_stay {s : List Life × Int} {x : Entry} {i : Nat} {y : Life} (hi : idxI (openL x.job) s.1 = i) (hy : s.1[i]? = some y) (h2 : x.kind ≠ 2) (h3 : ¬ (x.kind = 3 ∧ x.time = y.frm + y.every * y.rung ∧ s.2 < 60)) : stepL s x = s := by
  unfold stepL
  rw [if_neg (by omega)]
  simp only [hi, Int.toNat_natCast, hy]
  rw [if_pos (by omega), if_neg h2, if_neg h3]
theorem BL.step {s : List Life × Int} {x : Entry} (h : BL s) (hx : checkE x = 0) : BL (stepL s x) := by
  have h0 := h.lo; have h1 := h.hi
  by_cases hk : idxI (openL x.job) s.1 < 0
  · by_cases h2 : x.kind = 1
    · rw [stepL_put h2 hk]
      have hp := checkE_put hx h2
      refine ⟨fun y hy => ?_, h0, h1⟩
      rcases List.mem_append.1 hy with h3 | h3
      · exact h.each y h3
      · simp at h3; subst h3; dsimp only; omega
    · rw [stepL_none h2 hk]; exact h
  · obtain ⟨i, y, hi, hy, _⟩ := idxI_ge (p := openL x.job) (l := s.1) (by omega)
    have hye := h.each y (List.mem_of_getElem? hy)
    by_cases h2 : x.kind = 2
    · rw [stepL_drop hi hy h2]
      refine ⟨fun z hz => ?_, h0, h1⟩
      rcases List.mem_or_eq_of_mem_set hz with h3 | h3
      · exact h.each z h3
      · subst h3; exact hye
    · by_cases h3 : x.kind = 3 ∧ x.time = y.frm + y.every * y.rung ∧ s.2 < 60
      · rw [stepL_ring hi hy h3]
        refine ⟨fun z hz => ?_, by dsimp only; omega, by dsimp only; omega⟩
        rcases List.mem_or_eq_of_mem_set hz with h4 | h4
        · have := h.each z h4; dsimp only; omega
        · subst h4; dsimp only; omega
      · rw [stepL_stay hi hy h2 h3]; exact h
end Go.Proofs.Ytiphoihijalfkaa
