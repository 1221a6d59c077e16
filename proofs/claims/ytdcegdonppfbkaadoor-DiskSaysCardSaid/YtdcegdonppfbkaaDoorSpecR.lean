/- What records make of a new unit, as a plain function; that a unit only fills. No program in sight. -/
import Derived.Test.YtdcegdonppfbkaaDoorSpecU
namespace Go.Proofs.YtdcegdonppfbkaaDoor
set_option linter.unusedSimpArgs false
set_option linter.unusedVariables false

/-- unit.Replay: from a unit on. -/
def unitGo (u : Uni) : List Rec → Uni × Int
  | [] => (u, 0)
  | r :: l => if (nextU u r).2 ≠ 0 then (⟨0, []⟩, (nextU u r).2) else unitGo (nextU u r).1 l
def unitL (l : List Rec) : Uni × Int := if 160 < l.length then (⟨0, []⟩, 2) else unitGo newU l
theorem unitGo_at {u : Uni} {l : List Rec} {k : Nat} {x : Rec} (hx : l[k]? = some x) : unitGo u (l.drop k) = if (nextU u x).2 ≠ 0 then (⟨0, []⟩, (nextU u x).2) else unitGo (nextU u x).1 (l.drop (k + 1)) := by
  obtain ⟨hk, rfl⟩ := List.getElem?_eq_some_iff.1 hx
  rw [List.drop_eq_getElem_cons hk]
  rfl
theorem unitGo_cons {u : Uni} {r : Rec} {l : List Rec} (h : (nextU u r).2 = 0) : unitGo u (r :: l) = unitGo (nextU u r).1 l := by
  rw [unitGo, if_neg (by simp [h])]
theorem unitGo_append : ∀ {l m : List Rec} {u v : Uni}, unitGo u l = (v, 0) → unitGo u (l ++ m) = unitGo v m
  | [], m, u, v, h => by simp only [unitGo, Prod.mk.injEq, and_true] at h; rw [h]; rfl
  | r :: l, m, u, v, h => by
    rw [unitGo] at h
    split at h
    · rename_i hb; simp only [Prod.mk.injEq] at h; exact absurd h.2 hb
    · rename_i hb
      rw [List.cons_append, unitGo_cons (Decidable.not_not.1 hb)]
      exact unitGo_append h
theorem unitGo_front : ∀ {l m : List Rec} {u v : Uni}, unitGo u (l ++ m) = (v, 0) → ∃ x, unitGo u l = (x, 0) ∧ unitGo x m = (v, 0)
  | [], m, u, v, h => ⟨u, rfl, h⟩
  | r :: l, m, u, v, h => by
    rw [List.cons_append, unitGo] at h
    split at h
    · rename_i hb; simp only [Prod.mk.injEq] at h; exact absurd h.2 hb
    · rename_i hb
      rw [unitGo_cons (Decidable.not_not.1 hb)]
      exact unitGo_front h
/-- What stands stands; the epoch doesn't fall. -/
structure Upon (u v : Uni) : Prop where
  ep : u.ep ≤ v.ep
  len : v.cells.length = u.cells.length
  cell : ∀ k, (cellAt u.cells k).kind ≠ 4 → cellAt v.cells k = cellAt u.cells k
theorem Upon.rfl' (u : Uni) : Upon u u := ⟨Int.le_refl _, rfl, fun _ _ => rfl⟩
theorem Upon.trans {u v x : Uni} (h : Upon u v) (h' : Upon v x) : Upon u x :=
  ⟨Int.le_trans h.ep h'.ep, h'.len.trans h.len, fun k hk => (h'.cell k (by rw [h.cell k hk]; exact hk)).trans (h.cell k hk)⟩
theorem cellAt_put {cs : List Entry} {a k : Nat} {x : Entry} : cellAt (cs.set a x) k = if a = k ∧ a < cs.length then x else cellAt cs k := by
  unfold cellAt
  rw [List.getElem?_set]
  by_cases h : a = k
  · subst h
    by_cases h2 : a < cs.length
    · simp [h2]
    · simp [h2]
  · simp [h]
theorem nextU_write {u : Uni} {r : Rec} (h : (nextU u r).2 = 0) (hk : r.kind ≠ 2) : nextU u r = (⟨u.ep, u.cells.set r.at_.toNat r.e⟩, 0) ∧ (cellAt u.cells r.at_.toNat).kind = 4 ∧ r.at_.toNat < 60 ∧ 0 ≤ r.at_ ∧ r.kind = 1 ∧ checkE r.e = 0 := by
  obtain ⟨hg, hr, _⟩ := nextU_good h
  have h1 := checkU_iff.2 hg
  obtain ⟨e1, e2, e3, _, e4⟩ := checkR_write hr hk
  unfold nextU at h ⊢
  rw [if_neg (by simp [h1]), if_neg (by simp [hr]), if_neg hk] at h ⊢
  split at h
  · cases h
  · rename_i hc
    rw [if_neg hc]
    exact ⟨rfl, Decidable.not_not.1 hc, by omega, e2, e1, e4⟩
theorem nextU_seal {u : Uni} {r : Rec} (h : (nextU u r).2 = 0) (hk : r.kind = 2) : nextU u r = (⟨r.epoch, u.cells⟩, 0) ∧ u.ep < r.epoch ∧ r.epoch ≤ 20 := by
  obtain ⟨hg, hr, _⟩ := nextU_good h
  have h1 := checkU_iff.2 hg
  obtain ⟨e1, e2, _, _⟩ := checkR_seal hr hk
  unfold nextU at h ⊢
  rw [if_neg (by simp [h1]), if_neg (by simp [hr]), if_pos hk] at h ⊢
  split at h
  · cases h
  · rename_i hc
    rw [if_neg hc]
    exact ⟨rfl, by omega, e2⟩
theorem nextU_upon {u : Uni} {r : Rec} (h : (nextU u r).2 = 0) : Upon u (nextU u r).1 := by
  by_cases hk : r.kind = 2
  · obtain ⟨e, h1, _⟩ := nextU_seal h hk
    rw [e]
    exact ⟨by dsimp only; omega, rfl, fun _ _ => rfl⟩
  · obtain ⟨e, h1, h2, h3, _⟩ := nextU_write h hk
    rw [e]
    refine ⟨Int.le_refl _, by simp, fun k hc => ?_⟩
    dsimp only
    rw [cellAt_put, if_neg]
    rintro ⟨rfl, _⟩
    exact hc h1
theorem unitGo_upon : ∀ {l : List Rec} {u v : Uni}, unitGo u l = (v, 0) → Upon u v
  | [], u, v, h => by simp only [unitGo, Prod.mk.injEq, and_true] at h; subst h; exact Upon.rfl' _
  | r :: l, u, v, h => by
    rw [unitGo] at h
    split at h
    · rename_i hb; simp only [Prod.mk.injEq] at h; exact absurd h.2 hb
    · rename_i hb
      exact (nextU_upon (Decidable.not_not.1 hb)).trans (unitGo_upon h)
theorem unitGo_good : ∀ {l : List Rec} {u v : Uni}, GoodU u.ep u.cells → unitGo u l = (v, 0) → GoodU v.ep v.cells
  | [], u, v, hu, h => by simp only [unitGo, Prod.mk.injEq, and_true] at h; subst h; exact hu
  | r :: l, u, v, hu, h => by
    rw [unitGo] at h
    split at h
    · rename_i hb; simp only [Prod.mk.injEq] at h; exact absurd h.2 hb
    · rename_i hb
      exact unitGo_good (nextU_good (Decidable.not_not.1 hb)).2.2 h
/-- How many blank places there are. -/
def blanks (cs : List Entry) : Nat := cs.countP (fun c => decide (c.kind = 4))
theorem countP_set {α : Type} {p : α → Bool} : ∀ {l : List α} {k : Nat} {x y : α}, l[k]? = some y → p y = true → p x = false → (l.set k x).countP p + 1 = l.countP p
  | [], k, x, y, h, _, _ => by simp at h
  | a :: l, 0, x, y, h, h1, h2 => by
    simp at h; subst h
    rw [List.set_cons_zero, List.countP_cons_of_neg (by simp [h2]), List.countP_cons_of_pos h1]
  | a :: l, k + 1, x, y, h, h1, h2 => by
    have ih := countP_set (l := l) (k := k) (x := x) (y := y) (by simpa using h) h1 h2
    rw [List.set_cons_succ]
    by_cases ha : p a = true
    · rw [List.countP_cons_of_pos ha, List.countP_cons_of_pos ha]; omega
    · rw [List.countP_cons_of_neg ha, List.countP_cons_of_neg ha]; omega
/-- Each record fills a place, or raises the epoch. -/
theorem unitGo_few : ∀ {l : List Rec} {u v : Uni}, unitGo u l = (v, 0) → (l.length : Int) + blanks v.cells + u.ep ≤ blanks u.cells + v.ep
  | [], u, v, h => by simp only [unitGo, Prod.mk.injEq, and_true] at h; subst h; simp
  | r :: l, u, v, h => by
    rw [unitGo] at h
    split at h
    · rename_i hb; simp only [Prod.mk.injEq] at h; exact absurd h.2 hb
    · rename_i hb
      have hb := Decidable.not_not.1 hb
      have ih := unitGo_few h
      rw [List.length_cons]
      by_cases hk : r.kind = 2
      · obtain ⟨e, h1, _⟩ := nextU_seal hb hk
        rw [e] at ih
        dsimp only at ih
        omega
      · obtain ⟨e, h1, h2, h3, _, h4⟩ := nextU_write hb hk
        have hl := (nextU_good hb).1.len
        rw [e] at ih
        dsimp only at ih
        have hx : u.cells[r.at_.toNat]? = some u.cells[r.at_.toNat] := List.getElem?_eq_getElem (by omega)
        have hc := cellAt_eq hx
        rw [hc] at h1
        have := checkE_kd h4
        have := countP_set (p := fun c => decide (c.kind = 4)) (x := r.e) hx (by simpa using h1) (by simp; omega)
        unfold blanks at ih ⊢
        omega
theorem unitL_go {l : List Rec} {v : Uni} (h : unitL l = (v, 0)) : unitGo newU l = (v, 0) := by
  unfold unitL at h
  split at h
  · simp at h
  · exact h
theorem unitGo_new_few {l : List Rec} {v : Uni} (h : unitGo newU l = (v, 0)) : l.length ≤ 79 := by
  have h1 := unitGo_few h
  have h2 := (unitGo_good GoodU.new h).e2
  have h3 : blanks newU.cells = 60 := by decide
  rw [h3] at h1
  simp only [newU] at h1
  omega
theorem unitL_of {l : List Rec} {v : Uni} (h : unitGo newU l = (v, 0)) : unitL l = (v, 0) := by
  have := unitGo_new_few h
  unfold unitL
  rw [if_neg (by omega), h]
theorem unitL_good {l : List Rec} {v : Uni} (h : unitL l = (v, 0)) : GoodU v.ep v.cells := unitGo_good GoodU.new (unitL_go h)
theorem unitL_few {l : List Rec} {v : Uni} (h : unitL l = (v, 0)) : l.length ≤ 79 := unitGo_new_few (unitL_go h)
theorem unitGo_recs : ∀ {l : List Rec} {u v : Uni}, unitGo u l = (v, 0) → ∀ r ∈ l, checkR r = 0
  | [], u, v, h, r, hr => by simp at hr
  | r :: l, u, v, h, x, hx => by
    rw [unitGo] at h
    split at h
    · rename_i hb; simp only [Prod.mk.injEq] at h; exact absurd h.2 hb
    · rename_i hb
      rcases List.mem_cons.1 hx with rfl | hx
      · exact (nextU_good (Decidable.not_not.1 hb)).2.1
      · exact unitGo_recs h x hx
theorem unitL_snoc {l : List Rec} {u : Uni} {r : Rec} (h : unitL l = (u, 0)) (hr : (nextU u r).2 = 0) : unitL (l ++ [r]) = ((nextU u r).1, 0) := by
  refine unitL_of ?_
  rw [unitGo_append (unitL_go h), unitGo_cons hr]
  rfl
end Go.Proofs.YtdcegdonppfbkaaDoor
