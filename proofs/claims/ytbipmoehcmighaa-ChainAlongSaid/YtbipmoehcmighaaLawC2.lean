/- Laws of chains: along the units. No program in sight. -/
import Derived.Test.YtbipmoehcmighaaLawC
namespace Go.Proofs.Ytbipmoehcmighaa
set_option linter.unusedSimpArgs false
set_option linter.unusedVariables false

/-- Where the writing along the units stands, ahead of unit i. -/
structure AS (l : List Uni) (i j : Nat) (x first : Entry) : Prop where
  good : GoodC l
  start : i = 0 → cellAt (uniAt l 0).cells j = first
  ent : 0 < i → checkE x = 0
  front : 0 < i → cellAt (uniAt l (i - 1)).cells j = x
  fst : 0 < i → first.kind = 4 ∨ x = first
theorem uni_in {l : List Uni} (h : GoodC l) {i : Nat} (hi : i < 3) : uniAt l i ∈ l ∧ l[i]? = some (uniAt l i) := by
  have hil : i < l.length := by rw [h.len]; exact hi
  have e : l[i]? = some l[i] := List.getElem?_eq_getElem hil
  rw [uniAt_eq e]
  exact ⟨List.getElem_mem hil, e⟩
theorem cell_ok {l : List Uni} (h : GoodC l) {i j : Nat} (hi : i < 3) (hj : j < 60) : okC (cellAt (uniAt l i).cells j) := by
  have hg := h.ok _ (uni_in h hi).1
  have hl := hg.len
  have e : (uniAt l i).cells[j]? = some (uniAt l i).cells[j] := List.getElem?_eq_getElem (by omega)
  rw [cellAt_eq e]
  exact hg.ok _ (List.getElem_mem _)
/-- What comes of writing at the next unit: an error only at the first one, and of no entry. -/
theorem link_along {l : List Uni} {i j : Nat} {x first : Entry} (h : AS l i j x first) (hi : i < 3) (hj : j < 60) :
    (i = 0 ∧ (linkC l i j x (uniAt l i).ep).2.2 ≠ 0) ∨
    (checkE x = 0 ∧ (linkC l i j x (uniAt l i).ep).2.2 = 0 ∧
      ((linkC l i j x (uniAt l i).ep = (zeroR, cellAt (uniAt l i).cells j, 0) ∧ AS l (i + 1) j (cellAt (uniAt l i).cells j) first) ∨
       (linkC l i j x (uniAt l i).ep = (⟨1, j, 0, x⟩, x, 0) ∧ nextU (uniAt l i) ⟨1, j, 0, x⟩ = (putU (uniAt l i) j x, 0) ∧ AS (l.set i (putU (uniAt l i) j x)) (i + 1) j x first))) := by
  have hg := h.good
  have hu := hg.ok _ (uni_in hg hi).1
  by_cases hx : checkE x = 0
  · right
    have hl : linkC l i j x (uniAt l i).ep = if (cellAt (uniAt l i).cells j).kind ≠ 4 then (zeroR, cellAt (uniAt l i).cells j, 0) else (⟨1, j, 0, x⟩, x, 0) := by
      unfold linkC
      rw [if_neg (by simp [checkC_iff.2 hg]), if_neg (by omega), if_neg (by simp [hx])]
      simp only [Int.toNat_natCast]
      rw [if_neg (by simp), if_neg (fun h' => h'.2 (h.front (by omega)))]
    by_cases h4 : (cellAt (uniAt l i).cells j).kind ≠ 4
    · rw [if_pos h4] at hl
      refine ⟨hx, by rw [hl], .inl ⟨hl, hg, fun h0 => by omega, fun _ => ?_, fun _ => ?_, fun _ => ?_⟩⟩
      · rcases cell_ok hg hi hj with e | e
        · rw [e] at h4; exact absurd rfl h4
        · exact e
      · rfl
      · rcases Nat.eq_zero_or_pos i with h0 | h0
        · subst h0; exact .inr (h.start rfl)
        · have hfit : fitC (uniAt l (i - 1)).cells (uniAt l i).cells := by
            have h1 := (uni_in hg (i := i - 1) (by omega)).2
            have h2 := (uni_in hg hi).2
            exact hg.fit (i - 1) _ _ h1 (by rw [show i - 1 + 1 = i by omega]; exact h2)
          rcases hfit j hj with e | e
          · exact absurd e h4
          · rw [h.front h0] at e
            rw [← e]
            exact h.fst h0
    · rw [if_neg h4] at hl
      have h4' : (cellAt (uniAt l i).cells j).kind = 4 := by omega
      have hil : i < l.length := by rw [hg.len]; exact hi
      refine ⟨hx, by rw [hl], .inr ⟨hl, next_put hu hj hx h4', set_good hg hi hj hx h4' h.front, fun h0 => by omega, fun _ => hx, fun _ => ?_, fun _ => ?_⟩⟩
      · rw [Nat.add_sub_cancel, uniAt_eq (List.getElem?_set_self hil)]
        show cellAt ((uniAt l i).cells.set j x) j = x
        rw [cellAt_set (by rw [hu.len]; exact hj), if_pos rfl]
      · rcases Nat.eq_zero_or_pos i with h0 | h0
        · subst h0; left; rw [← h.start rfl]; exact h4'
        · exact h.fst h0
  · left
    refine ⟨?_, ?_⟩
    · rcases Nat.eq_zero_or_pos i with h0 | h0
      · exact h0
      · exact absurd (h.ent h0) hx
    · unfold linkC
      rw [if_neg (by simp [checkC_iff.2 hg]), if_neg (by omega), if_pos hx]
      exact hx
/-- At the end it is read. -/
theorem along_end {l : List Uni} {j : Nat} {x first : Entry} (h : AS l 3 j x first) (hj : j < 60) : readC l j = (x, 0) ∧ (first.kind = 4 ∨ x = first) := by
  have hg := h.good
  refine ⟨?_, h.fst (by omega)⟩
  have h1 := h.front (by omega)
  have h2 : x.kind ≠ 4 := by have := checkE_kd (h.ent (by omega)); omega
  rw [readC_good hg hj]
  rw [show (3 - 1 : Nat) = 2 from rfl] at h1
  rw [h1, if_neg h2]
end Go.Proofs.Ytbipmoehcmighaa
