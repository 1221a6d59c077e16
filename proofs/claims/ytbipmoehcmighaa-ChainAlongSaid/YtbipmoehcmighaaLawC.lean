/- Laws of chains. No program in sight. -/
import Derived.Test.YtbipmoehcmighaaSpecC
namespace Go.Proofs.Ytbipmoehcmighaa
set_option linter.unusedSimpArgs false
set_option linter.unusedVariables false

theorem link_ok {l : List Uni} {k a : Int} {x : Entry} {ep : Int} {r : Rec} {s : Entry} (h : linkC l k a x ep = (r, s, 0)) :
    GoodC l ∧ 0 ≤ k ∧ k < 3 ∧ 0 ≤ a ∧ a < 60 ∧ checkE x = 0 ∧ ep = (uniAt l k.toNat).ep ∧ (0 < k → cellAt (uniAt l (k.toNat - 1)).cells a.toNat = x) ∧
      ((r = zeroR ∧ s = cellAt (uniAt l k.toNat).cells a.toNat ∧ s.kind ≠ 4) ∨ (r = ⟨1, a, 0, x⟩ ∧ s = x ∧ (cellAt (uniAt l k.toNat).cells a.toNat).kind = 4)) := by
  unfold linkC at h
  by_cases h1 : checkC l ≠ 0
  · rw [if_pos h1] at h; injection h with _ h; injection h with _ h; exact absurd h h1
  · rw [if_neg h1] at h
    by_cases h2 : k < 0 ∨ 3 ≤ k ∨ a < 0 ∨ 60 ≤ a
    · rw [if_pos h2] at h; injection h with _ h; injection h with _ h; cases h
    · rw [if_neg h2] at h
      by_cases h3 : checkE x ≠ 0
      · rw [if_pos h3] at h; injection h with _ h; injection h with _ h; exact absurd h h3
      · rw [if_neg h3] at h
        by_cases h4 : ep ≠ (uniAt l k.toNat).ep
        · rw [if_pos h4] at h; injection h with _ h; injection h with _ h; cases h
        · rw [if_neg h4] at h
          by_cases h5 : 0 < k ∧ cellAt (uniAt l (k.toNat - 1)).cells a.toNat ≠ x
          · rw [if_pos h5] at h; injection h with _ h; injection h with _ h; cases h
          · rw [if_neg h5] at h
            refine ⟨checkC_iff.1 (Decidable.byContradiction h1), by omega, by omega, by omega, by omega, Decidable.byContradiction h3, by omega, fun hk => Decidable.byContradiction fun h => h5 ⟨hk, h⟩, ?_⟩
            by_cases h6 : (cellAt (uniAt l k.toNat).cells a.toNat).kind ≠ 4
            · rw [if_pos h6] at h
              injection h with e1 h; injection h with e2 _
              exact .inl ⟨e1.symm, e2.symm, e2 ▸ h6⟩
            · rw [if_neg h6] at h
              injection h with e1 h; injection h with e2 _
              exact .inr ⟨e1.symm, e2.symm, by omega⟩
theorem cellAt_set {cs : List Entry} {j k : Nat} {x : Entry} (hj : j < cs.length) : cellAt (cs.set j x) k = if k = j then x else cellAt cs k := by
  unfold cellAt
  rw [List.getElem?_set]
  by_cases h : k = j
  · subst h; simp [hj]
  · rw [if_neg (Ne.symm h), if_neg h]
def putU (u : Uni) (j : Nat) (x : Entry) : Uni := ⟨u.ep, u.cells.set j x⟩
theorem putU_good {u : Uni} {j : Nat} {x : Entry} (h : GoodU u.ep u.cells) (hx : checkE x = 0) : GoodU (putU u j x).ep (putU u j x).cells :=
  ⟨h.e1, h.e2, by simp [putU, h.len], fun c hc => by
    rcases List.mem_or_eq_of_mem_set hc with h5 | rfl
    · exact h.ok c h5
    · exact .inr hx⟩
theorem next_put {u : Uni} {j : Nat} {x : Entry} (h : GoodU u.ep u.cells) (hj : j < 60) (hx : checkE x = 0) (hb : (cellAt u.cells j).kind = 4) : nextU u ⟨1, j, 0, x⟩ = (putU u j x, 0) := by
  unfold nextU
  rw [if_neg (by simp [checkU_iff.2 h])]
  have hr : checkR ⟨1, j, 0, x⟩ = 0 := by
    unfold checkR
    dsimp only
    rw [if_pos rfl, if_neg (by omega), if_neg (by simp)]
    exact hx
  rw [if_neg (by simp [hr])]
  dsimp only
  rw [if_neg (by omega), Int.toNat_natCast, if_neg (by simp [hb])]
  rfl
/-- In front of what stands at a place the same stands. -/
theorem three {l : List Uni} (h : GoodC l) : ∃ a b c, l = [a, b, c] ∧ GoodU a.ep a.cells ∧ GoodU b.ep b.cells ∧ GoodU c.ep c.cells ∧ fitC a.cells b.cells ∧ fitC b.cells c.cells := by
  have hl := h.len
  match l, hl with
  | [a, b, c], _ => exact ⟨a, b, c, rfl, h.ok a (by simp), h.ok b (by simp), h.ok c (by simp), h.fit 0 a b rfl rfl, h.fit 1 b c rfl rfl⟩
theorem good3 {a b c : Uni} (ha : GoodU a.ep a.cells) (hb : GoodU b.ep b.cells) (hc : GoodU c.ep c.cells) (h1 : fitC a.cells b.cells) (h2 : fitC b.cells c.cells) : GoodC [a, b, c] :=
  ⟨rfl, fun u hu => by
    simp at hu
    rcases hu with rfl | rfl | rfl <;> assumption, fun k u v hu hv => by
    match k, hu, hv with
    | 0, hu, hv => simp at hu hv; subst hu; subst hv; exact h1
    | 1, hu, hv => simp at hu hv; subst hu; subst hv; exact h2
    | k + 2, hu, hv => simp at hv⟩
theorem set_good {l : List Uni} {i j : Nat} {x : Entry} (h : GoodC l) (hi : i < 3) (hj : j < 60) (hx : checkE x = 0) (hb : (cellAt (uniAt l i).cells j).kind = 4)
    (hf : 0 < i → cellAt (uniAt l (i - 1)).cells j = x) : GoodC (l.set i (putU (uniAt l i) j x)) := by
  obtain ⟨a, b, c, rfl, ha, hb', hc, h1, h2⟩ := three h
  match i, hi with
  | 0, _ =>
    refine good3 (putU_good ha hx) hb' hc (fun k hk => ?_) h2
    show _ ∨ cellAt (a.cells.set j x) k = _
    rw [cellAt_set (by rw [ha.len]; exact hj)]
    by_cases hkj : k = j
    · subst hkj
      rw [if_pos rfl]
      rcases h1 k hk with e | e
      · exact .inl e
      · exact .inl (e ▸ hb)
    · rw [if_neg hkj]; exact h1 k hk
  | 1, _ =>
    refine good3 ha (putU_good hb' hx) hc (fun k hk => ?_) (fun k hk => ?_)
    · show (cellAt (b.cells.set j x) k).kind = 4 ∨ _ = cellAt (b.cells.set j x) k
      rw [cellAt_set (by rw [hb'.len]; exact hj)]
      by_cases hkj : k = j
      · subst hkj
        rw [if_pos rfl]
        exact .inr (hf (by omega))
      · rw [if_neg hkj]; exact h1 k hk
    · show _ ∨ cellAt (b.cells.set j x) k = _
      rw [cellAt_set (by rw [hb'.len]; exact hj)]
      by_cases hkj : k = j
      · subst hkj
        rw [if_pos rfl]
        rcases h2 k hk with e | e
        · exact .inl e
        · exact .inl (e ▸ hb)
      · rw [if_neg hkj]; exact h2 k hk
  | 2, _ =>
    refine good3 ha hb' (putU_good hc hx) h1 (fun k hk => ?_)
    show (cellAt (c.cells.set j x) k).kind = 4 ∨ _ = cellAt (c.cells.set j x) k
    rw [cellAt_set (by rw [hc.len]; exact hj)]
    by_cases hkj : k = j
    · subst hkj
      rw [if_pos rfl]
      exact .inr (hf (by omega))
    · rw [if_neg hkj]; exact h2 k hk
theorem readC_good {l : List Uni} {p : Nat} (h : GoodC l) (hp : p < 60) : readC l p = if (cellAt (uniAt l 2).cells p).kind = 4 then (zeroE, 7) else (cellAt (uniAt l 2).cells p, 0) := by
  unfold readC
  rw [if_neg (by simp [checkC_iff.2 h]), if_neg (by omega), Int.toNat_natCast]
/-- What is read stands at all units. -/
theorem read_all {l : List Uni} {p : Nat} {a : Entry} (h : GoodC l) (hp : p < 60) (hr : readC l p = (a, 0)) : a.kind ≠ 4 ∧ ∀ i, i < 3 → cellAt (uniAt l i).cells p = a := by
  rw [readC_good h hp] at hr
  split at hr
  · injection hr with _ hr; cases hr
  · rename_i h4
    injection hr with hr _
    refine ⟨hr ▸ h4, ?_⟩
    obtain ⟨u, v, w, rfl, _, _, _, h1, h2⟩ := three h
    have e2 : cellAt w.cells p = a := hr
    have e1 : cellAt v.cells p = a := by
      rcases h2 p hp with e | e
      · exact absurd e h4
      · rw [e, e2]
    have e0 : cellAt u.cells p = a := by
      rcases h1 p hp with e | e
      · rw [e1] at e; exact absurd (by rw [← hr] at e; exact e) h4
      · rw [e, e1]
    intro i hi
    match i, hi with
    | 0, _ => exact e0
    | 1, _ => exact e1
    | 2, _ => exact e2
/-- What is written turns nothing that is read. -/
theorem set_read {l : List Uni} {i j p : Nat} {x a : Entry} (h : GoodC l) (hi : i < 3) (hj : j < 60) (hp : p < 60) (hx : checkE x = 0) (hb : (cellAt (uniAt l i).cells j).kind = 4)
    (hf : 0 < i → cellAt (uniAt l (i - 1)).cells j = x) (hr : readC l p = (a, 0)) : readC (l.set i (putU (uniAt l i) j x)) p = (a, 0) := by
  have hg := set_good h hi hj hx hb hf
  obtain ⟨ha4, hall⟩ := read_all h hp hr
  have hpj : p ≠ j ∨ i ≠ 2 := by
    rcases Nat.decEq p j with h1 | h1
    · exact .inl h1
    · subst h1
      have := hall i hi
      rw [this] at hb
      exact absurd hb ha4
  rw [readC_good hg hp]
  have : cellAt (uniAt (l.set i (putU (uniAt l i) j x)) 2).cells p = a := by
    obtain ⟨u, v, w, rfl, _, _, hc, _, _⟩ := three h
    match i, hi with
    | 0, _ => exact hall 2 (by omega)
    | 1, _ => exact hall 2 (by omega)
    | 2, _ =>
      show cellAt (w.cells.set j x) p = a
      rw [cellAt_set (by rw [hc.len]; exact hj), if_neg (by rcases hpj with h1 | h1 <;> omega)]
      exact hall 2 (by omega)
  rw [this, if_neg ha4]
end Go.Proofs.Ytbipmoehcmighaa
