/- The plain laws of ringing what is due, one by one. No program in sight. -/
import Derived.Test.YtbipmoehcmighaaLawD
namespace Go.Proofs.Ytbipmoehcmighaa
set_option linter.unusedSimpArgs false
set_option linter.unusedVariables false

theorem whenL_mem : ∀ {l : List Job} {a : Int}, 0 ≤ a → (∀ x ∈ l, 0 ≤ x.next) → 0 ≤ whenL a l ∧ whenL a l ≤ a ∧ (∀ x ∈ l, whenL a l ≤ x.next) ∧ (whenL a l = a ∨ ∃ x ∈ l, whenL a l = x.next)
  | [], a, h, _ => ⟨h, Int.le_refl _, by simp, .inl rfl⟩
  | j :: l, a, h, hl => by
    have h0 := hl j (by simp)
    have hr : ∀ x ∈ l, 0 ≤ x.next := fun x hx => hl x (by simp [hx])
    simp only [whenL]
    split
    · rename_i hc
      obtain ⟨h1, h2, h3, h4⟩ := whenL_mem (l := l) h0 hr
      refine ⟨h1, by omega, fun x hx => ?_, ?_⟩
      · rcases List.mem_cons.1 hx with rfl | hx
        · exact h2
        · exact h3 x hx
      · rcases h4 with h4 | ⟨x, hx, h4⟩
        · exact .inr ⟨j, by simp, h4⟩
        · exact .inr ⟨x, by simp [hx], h4⟩
    · rename_i hc
      obtain ⟨h1, h2, h3, h4⟩ := whenL_mem (l := l) h hr
      refine ⟨h1, h2, fun x hx => ?_, ?_⟩
      · rcases List.mem_cons.1 hx with rfl | hx
        · omega
        · exact h3 x hx
      · rcases h4 with h4 | ⟨x, hx, h4⟩
        · exact .inl h4
        · exact .inr ⟨x, by simp [hx], h4⟩
/-- Of jobs, if there is one, the least of what they tell. -/
theorem whenL_min {l : List Job} (hne : l ≠ []) (hl : ∀ x ∈ l, 0 ≤ x.next) : 0 ≤ whenL (-1) l ∧ (∀ x ∈ l, whenL (-1) l ≤ x.next) ∧ ∃ x ∈ l, whenL (-1) l = x.next := by
  match l, hne with
  | j :: l, _ =>
    have h0 := hl j (by simp)
    have hr : ∀ x ∈ l, 0 ≤ x.next := fun x hx => hl x (by simp [hx])
    simp only [whenL]
    rw [if_pos (by omega)]
    obtain ⟨h1, h2, h3, h4⟩ := whenL_mem (l := l) h0 hr
    refine ⟨h1, fun x hx => ?_, ?_⟩
    · rcases List.mem_cons.1 hx with rfl | hx
      · exact h2
      · exact h3 x hx
    · rcases h4 with h4 | ⟨x, hx, h4⟩
      · exact ⟨j, by simp, h4⟩
      · exact ⟨x, by simp [hx], h4⟩
theorem dueL_mem {l : List Job} {t : Int} {x : Job} : x ∈ dueL l t ↔ x ∈ l ∧ x.next ≤ t := by
  rw [dueL_eq, List.mem_filter, (isort_perm ltN l).mem_iff]
  simp [upto]
theorem dueL_sorted (l : List Job) (t : Int) : SortedN (dueL l t) := by
  rw [dueL_eq]
  exact List.Pairwise.sublist List.filter_sublist (isort_sorted l)
/-- What stands in front is the eldest. -/
theorem dueL_head {l : List Job} {t : Int} {x : Job} {r : List Job} (hl : ∀ y ∈ l, 0 ≤ y.next) (h : dueL l t = x :: r) : x ∈ l ∧ x.next ≤ t ∧ x.next = whenL (-1) l := by
  have hx : x ∈ dueL l t := by rw [h]; simp
  obtain ⟨h1, h2⟩ := dueL_mem.1 hx
  have hs := dueL_sorted l t
  rw [h] at hs
  have hs' := (List.pairwise_cons.1 hs).1
  obtain ⟨h3, h4, y, hy, h5⟩ := whenL_min (l := l) (List.ne_nil_of_mem h1) hl
  refine ⟨h1, h2, ?_⟩
  have h6 := h4 x h1
  have h7 : x.next ≤ y.next := by
    by_cases hyt : y.next ≤ t
    · have hy' : y ∈ dueL l t := dueL_mem.2 ⟨hy, hyt⟩
      rw [h] at hy'
      rcases List.mem_cons.1 hy' with e | e
      · rw [e]; exact Int.le_refl _
      · exact hs' y e
    · omega
  omega
theorem due_none {l : List Job} {t : Int} (hj : ∀ x ∈ l, ¬ badJ x) (ht : t ≤ 100000) : dueL l t = [] ↔ countL l t = 0 := by
  constructor
  · intro h
    have h1 : ∀ x ∈ l, t < x.next := fun x hx => by
      rcases Int.lt_or_le t x.next with h2 | h2
      · exact h2
      · have : x ∈ dueL l t := dueL_mem.2 ⟨hx, h2⟩
        rw [h] at this
        cases this
    clear h hj
    induction l with
    | nil => rfl
    | cons j l ih =>
      have := h1 j (by simp)
      simp only [countL, cntJ]
      rw [if_neg (by omega), ih (fun x hx => h1 x (by simp [hx]))]
      rfl
  · intro h
    have := due_le_count hj (t := t)
    rw [h] at this
    exact List.length_eq_zero_iff.1 (by omega)
theorem countL_set {l : List Job} {i : Nat} {x y : Job} (hx : l[i]? = some x) (t : Int) : countL (l.set i y) t = countL l t - cntJ t x + cntJ t y := by
  induction l generalizing i with
  | nil => simp at hx
  | cons j l ih =>
    cases i with
    | zero => simp at hx; subst hx; simp only [List.set_cons_zero, countL]; omega
    | succ i => simp at hx; simp only [List.set_cons_succ, countL, ih hx]; omega
/-- A job that is rung has one time less to ring. -/
theorem cnt_rung {j : Job} {t : Int} (hj : ¬ badJ j) (ht : j.next ≤ t) : cntJ t ⟨j.id, j.every, j.next + j.every⟩ = cntJ t j - 1 := by
  unfold badJ at hj
  unfold cntJ
  dsimp only
  rw [if_pos ht]
  by_cases h : j.next + j.every ≤ t
  · rw [if_pos h]
    have e : t - j.next = (t - (j.next + j.every)) + j.every * 1 := by omega
    rw [e, Int.add_mul_ediv_left _ _ (by omega)]
    omega
  · rw [if_neg h, Int.ediv_eq_zero_of_lt (by omega) (by omega)]
    rfl
/-- Ringing what stands in front. -/
theorem ring_front {b : Book} {t : Int} {x : Job} {r : List Job} (hb : GoodB b) (ht0 : 0 ≤ t) (ht : t ≤ 100000) (h : dueL b.jobs t = x :: r) (hr : b.rung.length < 60) :
    x.next = whenL (-1) b.jobs ∧ x.next ≤ t ∧ 0 ≤ x.next ∧ checkE ⟨3, x.id, 0, x.next, 0⟩ = 0 ∧ (stepB b ⟨3, x.id, 0, x.next, 0⟩).rung.length = b.rung.length + 1 ∧ countL (stepB b ⟨3, x.id, 0, x.next, 0⟩).jobs t = countL b.jobs t - 1 ∧
      x.next ≤ whenL (-1) (stepB b ⟨3, x.id, 0, x.next, 0⟩).jobs := by
  have hn : ∀ y ∈ b.jobs, 0 ≤ y.next := fun y hy => by have := hb.ok y hy; unfold badJ at this; omega
  obtain ⟨hx, hxt, hxw⟩ := dueL_head hn h
  have hbx := hb.ok x hx
  obtain ⟨i, hi⟩ := List.mem_iff_getElem?.1 hx
  have hf := findB_at hb.ord hi
  have hst : stepB b ⟨3, x.id, 0, x.next, 0⟩ = ⟨b.jobs.set i ⟨x.id, x.every, x.next + x.every⟩, b.rung ++ [⟨x.id, x.next, 0⟩]⟩ := by
    unfold stepB
    dsimp only
    rw [if_neg (by omega), if_neg (by omega), if_pos rfl, hf]
    simp only [Int.toNat_natCast, hi]
    rw [if_pos ⟨by omega, trivial, hr⟩]
  have hbx' := hbx
  unfold badJ at hbx'
  refine ⟨hxw, hxt, by omega, ?_, by rw [hst]; simp, ?_, ?_⟩
  · unfold checkE
    dsimp only
    rw [if_neg (by omega), if_neg (by omega), if_neg (by omega)]
  · rw [hst]
    dsimp only
    rw [countL_set hi, cnt_rung hbx hxt]
    omega
  · have hg := stepB_good hb (e := ⟨3, x.id, 0, x.next, 0⟩) (by
      unfold checkE
      dsimp only
      rw [if_neg (by omega), if_neg (by omega), if_neg (by omega)])
    rw [hst] at hg ⊢
    dsimp only at hg ⊢
    have hil : i < b.jobs.length := (List.getElem?_eq_some_iff.1 hi).1
    obtain ⟨_, _, y, hy, hyw⟩ := whenL_min (l := b.jobs.set i ⟨x.id, x.every, x.next + x.every⟩) (List.ne_nil_of_length_pos (by simp; omega)) (fun y hy => by have := hg.ok y hy; unfold badJ at this; omega)
    rw [hyw]
    rcases List.mem_or_eq_of_mem_set hy with h1 | h1
    · obtain ⟨_, h2, _⟩ := whenL_min (l := b.jobs) (List.ne_nil_of_mem hx) hn
      rw [hxw]; exact h2 y h1
    · rw [h1]; dsimp only; omega
end Go.Proofs.Ytbipmoehcmighaa
