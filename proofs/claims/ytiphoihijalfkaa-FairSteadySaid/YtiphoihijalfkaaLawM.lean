/- Plain laws: the table of the lives that are open, by job. -/
import Derived.Test.YtiphoihijalfkaaLawL
import Derived.Maps.Own
import Derived.Maps.OwnSet
namespace Go.Proofs.Ytiphoihijalfkaa
set_option linter.unusedSimpArgs false
set_option linter.unusedVariables false

theorem idxI_map {α : Type} {p : α → Bool} {l m : List α} (h : l.map p = m.map p) : idxI p l = idxI p m := by
  have e : ∀ l : List α, l.findIdx? p = (l.map p).findIdx? id := fun l => by rw [List.findIdx?_map]; rfl
  unfold idxI; rw [e l, e m, h]
theorem idxI_lt {α : Type} {p : α → Bool} {l : List α} : idxI p l < 0 ↔ ∀ y ∈ l, p y = false := by
  unfold idxI
  cases hf : l.findIdx? p with
  | none => simp only [List.findIdx?_eq_none_iff] at hf; exact ⟨fun _ => hf, fun _ => show (-1 : Int) < 0 by omega⟩
  | some i =>
    rw [List.findIdx?_eq_some_iff_getElem] at hf
    obtain ⟨hi, hp, _⟩ := hf
    refine ⟨fun h => by have h : (i : Int) < 0 := h; omega, fun h => ?_⟩
    have := h _ (List.getElem_mem hi)
    rw [hp] at this; cases this
theorem idxI_app {α : Type} {p : α → Bool} {l : List α} (z : α) : idxI p (l ++ [z]) = if idxI p l < 0 then (if p z then (l.length : Int) else idxI p l) else idxI p l := by
  unfold idxI
  rw [List.findIdx?_append]
  cases hf : l.findIdx? p with
  | none => cases hz : p z <;> simp [hz]
  | some i => simp; omega
theorem checkE_range {e : Entry} (h : checkE e = 0) : 0 ≤ e.job ∧ e.job < 6 ∧ 0 ≤ e.time ∧ e.time ≤ 100000 := by
  unfold checkE at h
  (repeat' split at h) <;> omega
def OneL (l : List Life) : Prop := ∀ (i k : Nat) (y z : Life), l[i]? = some y → l[k]? = some z → y.over = false → z.over = false → y.job = z.job → i = k
theorem openL_iff {j : Int} {y : Life} : openL j y = true ↔ y.job = j ∧ y.over = false := by simp [openL]
theorem OneL.at_ {l : List Life} (h : OneL l) {i : Nat} {y : Life} (hy : l[i]? = some y) (ho : y.over = false) : idxI (openL y.job) l = i := by
  have h0 : ¬ idxI (openL y.job) l < 0 := fun hn => by
    have := idxI_lt.1 hn y (List.mem_of_getElem? hy)
    rw [openL_iff.2 ⟨rfl, ho⟩] at this; cases this
  obtain ⟨k, z, hk, hz, hp⟩ := idxI_ge (p := openL y.job) (l := l) (by omega)
  rw [hk]
  rw [h k i z y hz hy (openL_iff.1 hp).2 ho (openL_iff.1 hp).1]
abbrev kI (j : Int) : Lit := .int .i64 j
theorem kI_ne {a b : Int} (h : a ≠ b) : kI a ≠ kI b := fun e => h (by injection e)
/-- The table tells where each open life stands. -/
structure MI (D : DataW Unit) (l : List Life) : Prop where
  one : OneL l
  map : Maps.IsMap D
  has_ : ∀ j : Int, Maps.has D (kI j) = decide (0 ≤ idxI (openL j) l)
  at_ : ∀ j : Int, 0 ≤ idxI (openL j) l → ∀ z, D.atKey (kI j) z = .lit (.int .i64 (idxI (openL j) l))
theorem MI.nil : MI (.map []) [] := by
  refine ⟨fun i k y z h => by simp at h, Maps.isMap_empty, fun j => by simp [Maps.has, idxI], fun j h => by simp [idxI] at h⟩
theorem map_set_same {α β : Type} {f : α → β} {l : List α} {i : Nat} {y z : α} (hy : l[i]? = some y) (h : f z = f y) : (l.set i z).map f = l.map f := by
  rw [List.map_set, h]
  refine List.ext_getElem? fun k => ?_
  rw [List.getElem?_set]
  split
  · next e => subst e; rw [List.getElem?_map, hy]; rw [List.length_map, if_pos (List.getElem?_eq_some_iff.1 hy).1]; rfl
  · rfl
theorem MI.put {D : DataW Unit} {l : List Life} (h : MI D l) {j : Int} (e t : Int) (hn : idxI (openL j) l < 0) : MI (D.put (kI j) (.lit (.int .i64 (l.length : Nat)))) (l ++ [⟨j, e, t, 0, false⟩]) := by
  have hz : openL j ⟨j, e, t, 0, false⟩ = true := openL_iff.2 ⟨rfl, rfl⟩
  have hj : idxI (openL j) (l ++ [⟨j, e, t, 0, false⟩]) = l.length := by rw [idxI_app, if_pos hn, if_pos hz]
  have ho : ∀ j', j' ≠ j → idxI (openL j') (l ++ [⟨j, e, t, 0, false⟩]) = idxI (openL j') l := fun j' hne => by
    have hz' : openL j' ⟨j, e, t, 0, false⟩ = false := by
      cases hq : openL j' ⟨j, e, t, 0, false⟩ with
      | false => rfl
      | true => exact absurd (openL_iff.1 hq).1.symm hne
    rw [idxI_app, hz']; simp
  refine ⟨?_, h.map.put _ _, fun j' => ?_, fun j' hj' z => ?_⟩
  · intro i k y z hy hz2 hoy hoz hjj
    have key : ∀ (i : Nat) (y : Life), (l ++ [⟨j, e, t, 0, false⟩])[i]? = some y → y.over = false → (l[i]? = some y ∧ y.job ≠ j) ∨ (i = l.length ∧ y.job = j) := by
      intro i y hy hoy
      rw [List.getElem?_append] at hy
      split at hy
      · refine .inl ⟨hy, fun hc => ?_⟩
        have := idxI_lt.1 hn y (List.mem_of_getElem? hy)
        rw [openL_iff.2 ⟨hc, hoy⟩] at this; cases this
      · next hlt =>
        have hlt2 := (List.getElem?_eq_some_iff.1 hy).1
        simp at hlt2
        have hi : i - l.length = 0 := by omega
        rw [hi] at hy
        simp at hy
        subst hy
        exact .inr ⟨by omega, rfl⟩
    rcases key i y hy hoy with ⟨a1, a2⟩ | ⟨a1, a2⟩ <;> rcases key k z hz2 hoz with ⟨b1, b2⟩ | ⟨b1, b2⟩
    · exact h.one i k y z a1 b1 hoy hoz hjj
    · exact absurd (hjj.trans b2) a2
    · exact absurd (hjj.symm.trans a2) b2
    · omega
  · by_cases hc : j' = j
    · subst hc; rw [Maps.has_put_same h.map (by trivial), hj]; simp
    · rw [Maps.has_put_other (kI_ne hc), h.has_, ho j' hc]
  · by_cases hc : j' = j
    · subst hc; rw [Maps.atKey_put_same h.map (by trivial), hj]
    · rw [ho j' hc] at hj' ⊢
      rw [Maps.atKey_put_other (kI_ne hc), h.at_ j' hj']
theorem MI.del {D : DataW Unit} {l : List Life} (h : MI D l) {j : Int} {i : Nat} {y : Life} (hi : idxI (openL j) l = i) (hy : l[i]? = some y) (hp : openL j y = true) : MI (D.del (kI j)) (l.set i ⟨y.job, y.every, y.frm, y.rung, true⟩) := by
  obtain ⟨hyj, hyo⟩ := openL_iff.1 hp
  have hnew : ∀ j', openL j' ⟨y.job, y.every, y.frm, y.rung, true⟩ = false := fun j' => by simp [openL]
  have key : ∀ (k : Nat) (z : Life), (l.set i ⟨y.job, y.every, y.frm, y.rung, true⟩)[k]? = some z → z.over = false → l[k]? = some z ∧ k ≠ i := by
    intro k z hz hoz
    rw [List.getElem?_set] at hz
    split at hz
    · split at hz
      · have := Option.some.inj hz; subst this; cases hoz
      · cases hz
    · next hne => exact ⟨hz, fun e => hne e.symm⟩
  have hj : idxI (openL j) (l.set i ⟨y.job, y.every, y.frm, y.rung, true⟩) < 0 := by
    rw [idxI_lt]
    intro z hz
    cases hq : openL j z with
    | false => rfl
    | true =>
      obtain ⟨hzj, hzo⟩ := openL_iff.1 hq
      obtain ⟨k, hk⟩ := List.mem_iff_getElem?.1 hz
      obtain ⟨h1, h2⟩ := key k z hk hzo
      exact absurd (h.one k i z y h1 hy hzo hyo (hzj.trans hyj.symm)) h2
  have ho : ∀ j', j' ≠ j → idxI (openL j') (l.set i ⟨y.job, y.every, y.frm, y.rung, true⟩) = idxI (openL j') l := fun j' hne => by
    refine idxI_map (map_set_same hy ?_)
    rw [hnew]
    cases hq : openL j' y with
    | false => rfl
    | true => exact absurd ((openL_iff.1 hq).1.symm.trans hyj) hne
  refine ⟨?_, h.map.del _, fun j' => ?_, fun j' hj' z => ?_⟩
  · intro a b u v hu hv huo hvo huv
    exact h.one a b u v (key a u hu huo).1 (key b v hv hvo).1 huo hvo huv
  · by_cases hc : j' = j
    · subst hc; rw [Maps.has_del_same]; symm; simp; omega
    · rw [Maps.has_del_other (kI_ne hc), h.has_, ho j' hc]
  · by_cases hc : j' = j
    · subst hc; omega
    · rw [ho j' hc] at hj' ⊢
      rw [Maps.atKey_del_other (kI_ne hc), h.at_ j' hj']
theorem MI.ring {D : DataW Unit} {l : List Life} (h : MI D l) {i : Nat} {y : Life} (r : Int) (hy : l[i]? = some y) : MI D (l.set i ⟨y.job, y.every, y.frm, r, y.over⟩) := by
  have ho : ∀ j', idxI (openL j') (l.set i ⟨y.job, y.every, y.frm, r, y.over⟩) = idxI (openL j') l := fun j' => idxI_map (map_set_same hy rfl)
  have key : ∀ (k : Nat) (z : Life), (l.set i ⟨y.job, y.every, y.frm, r, y.over⟩)[k]? = some z → ∃ z', l[k]? = some z' ∧ z'.job = z.job ∧ z'.over = z.over := by
    intro k z hz
    rw [List.getElem?_set] at hz
    split at hz
    · next e =>
      subst e
      split at hz
      · have := Option.some.inj hz; subst this; exact ⟨y, hy, rfl, rfl⟩
      · cases hz
    · exact ⟨z, hz, rfl, rfl⟩
  refine ⟨?_, h.map, fun j' => by rw [ho, h.has_], fun j' hj' z => by rw [ho] at hj' ⊢; exact h.at_ j' hj' z⟩
  intro a b u v hu hv huo hvo huv
  obtain ⟨u', h1, h2, h3⟩ := key a u hu
  obtain ⟨v', g1, g2, g3⟩ := key b v hv
  exact h.one a b u' v' h1 g1 (h3.trans huo) (g3.trans hvo) (h2.trans (huv.trans g2.symm))
end Go.Proofs.Ytiphoihijalfkaa
