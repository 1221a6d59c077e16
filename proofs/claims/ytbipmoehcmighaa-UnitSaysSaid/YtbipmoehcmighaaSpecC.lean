/- What the functions of package chain come to, as plain functions. No program in sight. -/
import Derived.Test.YtbipmoehcmighaaSpecU
namespace Go.Proofs.Ytbipmoehcmighaa
set_option linter.unusedSimpArgs false
set_option linter.unusedVariables false

/-- What stands behind stands in front, too. -/
def fitC (p u : List Entry) : Prop := ∀ k, k < 60 → (cellAt u k).kind = 4 ∨ cellAt p k = cellAt u k
instance (p u : List Entry) : Decidable (fitC p u) := by unfold fitC; infer_instance
def chainL : Option Uni → List Uni → Int
  | _, [] => 0
  | o, u :: l => if checkU u.ep u.cells ≠ 0 then checkU u.ep u.cells else
    match o with
    | none => chainL (some u) l
    | some p => if fitC p.cells u.cells then chainL (some u) l else 4
/-- chain.Check. -/
def checkC (l : List Uni) : Int := if l.length ≠ 3 then 4 else chainL none l
def aheadU (l : List Uni) (k : Nat) : Option Uni := match k with | 0 => none | k + 1 => l[k]?
theorem chainL_at {o : Option Uni} {l : List Uni} {k : Nat} {u : Uni} (hx : l[k]? = some u) : chainL o (l.drop k) = if checkU u.ep u.cells ≠ 0 then checkU u.ep u.cells else
    match o with
    | none => chainL (some u) (l.drop (k + 1))
    | some p => if fitC p.cells u.cells then chainL (some u) (l.drop (k + 1)) else 4 := by
  obtain ⟨hk, rfl⟩ := List.getElem?_eq_some_iff.1 hx
  rw [List.drop_eq_getElem_cons hk]
  rfl
def zz : Rec × Entry × Int → Int → Rec × Entry × Int := fun _ e => (zeroR, zeroE, e)
def uniAt (l : List Uni) (k : Nat) : Uni := (l[k]?).getD ⟨0, []⟩
theorem uniAt_eq {l : List Uni} {k : Nat} {x : Uni} (h : l[k]? = some x) : uniAt l k = x := by unfold uniAt; rw [h]; rfl
/-- chain.Link. -/
def linkC (l : List Uni) (k at_ : Int) (x : Entry) (epoch : Int) : Rec × Entry × Int :=
  if checkC l ≠ 0 then (zeroR, zeroE, checkC l)
  else if k < 0 ∨ 3 ≤ k ∨ at_ < 0 ∨ 60 ≤ at_ then (zeroR, zeroE, 5)
  else if checkE x ≠ 0 then (zeroR, zeroE, checkE x)
  else if epoch ≠ (uniAt l k.toNat).ep then (zeroR, zeroE, 8)
  else if 0 < k ∧ cellAt (uniAt l (k.toNat - 1)).cells at_.toNat ≠ x then (zeroR, zeroE, 7)
  else if (cellAt (uniAt l k.toNat).cells at_.toNat).kind ≠ 4 then (zeroR, cellAt (uniAt l k.toNat).cells at_.toNat, 0)
  else (⟨1, at_, 0, x⟩, x, 0)
/-- chain.Read. -/
def readC (l : List Uni) (at_ : Int) : Entry × Int :=
  if checkC l ≠ 0 then (zeroE, checkC l)
  else if at_ < 0 ∨ 60 ≤ at_ then (zeroE, 5)
  else if (cellAt (uniAt l 2).cells at_.toNat).kind = 4 then (zeroE, 7)
  else (cellAt (uniAt l 2).cells at_.toNat, 0)
structure GoodC (l : List Uni) : Prop where
  len : l.length = 3
  ok : ∀ u ∈ l, GoodU u.ep u.cells
  fit : ∀ (k : Nat) u v, l[k]? = some u → l[k + 1]? = some v → fitC u.cells v.cells
theorem checkC_iff {l : List Uni} : checkC l = 0 ↔ GoodC l := by
  unfold checkC
  constructor
  · intro h
    split at h
    · cases h
    · rename_i hl
      match l, (by omega : l.length = 3) with
      | [a, b, c], _ =>
        simp only [chainL] at h
        by_cases ha : checkU a.ep a.cells = 0
        · rw [if_neg (by simp [ha])] at h
          by_cases hb : checkU b.ep b.cells = 0
          · rw [if_neg (by simp [hb])] at h
            by_cases hab : fitC a.cells b.cells
            · rw [if_pos hab] at h
              by_cases hc : checkU c.ep c.cells = 0
              · rw [if_neg (by simp [hc])] at h
                by_cases hbc : fitC b.cells c.cells
                · refine ⟨rfl, ?_, ?_⟩
                  · intro u hu
                    simp at hu
                    rcases hu with rfl | rfl | rfl
                    · exact checkU_iff.1 ha
                    · exact checkU_iff.1 hb
                    · exact checkU_iff.1 hc
                  · intro k u v hu hv
                    match k, hu, hv with
                    | 0, hu, hv => simp at hu hv; subst hu; subst hv; exact hab
                    | 1, hu, hv => simp at hu hv; subst hu; subst hv; exact hbc
                    | k + 2, hu, hv => simp at hv
                · rw [if_neg hbc] at h; cases h
              · rw [if_pos hc] at h; exact absurd h hc
            · rw [if_neg hab] at h; cases h
          · rw [if_pos hb] at h; exact absurd h hb
        · rw [if_pos ha] at h; exact absurd h ha
  · intro h
    have hl := h.len
    rw [if_neg (by omega)]
    match l, hl with
    | [a, b, c], _ =>
      have ha := checkU_iff.2 (h.ok a (by simp)); have hb := checkU_iff.2 (h.ok b (by simp)); have hc := checkU_iff.2 (h.ok c (by simp))
      have hab := h.fit 0 a b rfl rfl; have hbc := h.fit 1 b c rfl rfl
      simp [chainL, ha, hb, hc, hab, hbc]
end Go.Proofs.Ytbipmoehcmighaa
