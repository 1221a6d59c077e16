/- Plain laws: the lives that are not over are the jobs of the book. -/
import Derived.Test.YtiphoihijalfkaaLawL
import Derived.Test.YtiphoihijalfkaaLawB
namespace Go.Proofs.Ytiphoihijalfkaa
set_option linter.unusedSimpArgs false
set_option linter.unusedVariables false

/-- What the book has of a life. -/
def rowL (y : Life) : Job := ⟨y.job, y.every, y.frm + y.every * y.rung⟩
def liveL : List Life → List Job
  | [] => []
  | y :: l => if y.over then liveL l else rowL y :: liveL l
def sumL : List Life → Int
  | [] => 0
  | y :: l => y.rung + sumL l
theorem liveL_append (l m : List Life) : liveL (l ++ m) = liveL l ++ liveL m := by
  induction l with
  | nil => rfl
  | cons y l ih => simp only [List.cons_append, liveL]; split <;> simp [ih]
theorem sumL_append (l m : List Life) : sumL (l ++ m) = sumL l + sumL m := by
  induction l with
  | nil => simp [sumL]
  | cons y l ih => simp only [List.cons_append, sumL, ih]; omega
theorem sumL_nonneg {l : List Life} (h : ∀ y ∈ l, 0 ≤ y.rung) : 0 ≤ sumL l := by
  induction l with
  | nil => simp [sumL]
  | cons y l ih =>
    have h1 := h y (by simp); have h2 := ih (fun z hz => h z (by simp [hz]))
    simp only [sumL]; omega
theorem liveL_len (l : List Life) : (liveL l).length ≤ l.length := by
  induction l with
  | nil => simp [liveL]
  | cons y l ih => simp only [liveL]; split <;> simp <;> omega
theorem mem_liveL {l : List Life} {j : Job} : j ∈ liveL l ↔ ∃ y ∈ l, y.over = false ∧ rowL y = j := by
  induction l with
  | nil => simp [liveL]
  | cons y l ih =>
    simp only [liveL]
    cases h : y.over with
    | true => simp [ih, h]
    | false =>
      simp only [Bool.false_eq_true, if_false, List.mem_cons, ih]
      constructor
      · rintro (h1 | ⟨z, h1, h2, h3⟩)
        · exact ⟨y, .inl rfl, h, h1.symm⟩
        · exact ⟨z, .inr h1, h2, h3⟩
      · rintro ⟨z, h1 | h1, h2, h3⟩
        · subst h1; exact .inl h3.symm
        · exact .inr ⟨z, h1, h2, h3⟩
theorem split_at {α : Type} {l : List α} {i : Nat} {y : α} (h : l[i]? = some y) : l = l.take i ++ y :: l.drop (i + 1) := by
  obtain ⟨hi, rfl⟩ := List.getElem?_eq_some_iff.1 h
  rw [← List.drop_eq_getElem_cons hi, List.take_append_drop]
theorem set_at {α : Type} {l : List α} {i : Nat} {y : α} (h : l[i]? = some y) (z : α) : l.set i z = l.take i ++ z :: l.drop (i + 1) := by
  obtain ⟨hi, rfl⟩ := List.getElem?_eq_some_iff.1 h
  rw [List.set_eq_take_append_cons_drop, if_pos hi]
theorem perm_at {α : Type} {l : List α} {i : Nat} {y : α} (h : l[i]? = some y) : l.Perm (y :: (l.take i ++ l.drop (i + 1))) := by
  conv => lhs; rw [split_at h]
  exact List.perm_middle
theorem live_at {l : List Life} {i : Nat} {y : Life} (h : l[i]? = some y) (ho : y.over = false) : (liveL l).Perm (rowL y :: (liveL (l.take i) ++ liveL (l.drop (i + 1)))) := by
  conv => lhs; rw [split_at h, liveL_append]
  simp only [liveL, ho]
  exact List.perm_middle
theorem live_set {l : List Life} {i : Nat} {y : Life} (h : l[i]? = some y) {z : Life} (ho : z.over = false) : (liveL (l.set i z)).Perm (rowL z :: (liveL (l.take i) ++ liveL (l.drop (i + 1)))) := by
  rw [set_at h, liveL_append]
  simp only [liveL, ho]
  exact List.perm_middle
theorem live_over {l : List Life} {i : Nat} {y : Life} (h : l[i]? = some y) {z : Life} (ho : z.over = true) : liveL (l.set i z) = liveL (l.take i) ++ liveL (l.drop (i + 1)) := by
  rw [set_at h, liveL_append]
  simp only [liveL, ho]
  rfl
theorem sum_set {l : List Life} {i : Nat} {y : Life} (h : l[i]? = some y) (z : Life) : sumL (l.set i z) = sumL l - y.rung + z.rung := by
  rw [set_at h]
  conv => rhs; rw [split_at h]
  simp only [sumL_append, sumL]
  omega

structure FB (s : List Life × Int) (b : Book) : Prop where
  bl : BL s
  good : GoodB b
  perm : b.jobs.Perm (liveL s.1)
  rung : s.2 = b.rung.length
  sum : sumL s.1 = s.2
theorem FB.nil : FB ([], 0) Book.none := ⟨BL.nil, checkB_iff.1 (by rfl), List.Perm.refl _, rfl, rfl⟩
theorem same_id {l : List Job} (hp : l.Pairwise (fun a c => a.id < c.id)) {x y : Job} (hx : x ∈ l) (hy : y ∈ l) (h : x.id = y.id) : x = y := by
  obtain ⟨i, hi, rfl⟩ := List.getElem_of_mem hx
  obtain ⟨j, hj, rfl⟩ := List.getElem_of_mem hy
  have h1 := List.pairwise_iff_getElem.1 hp
  rcases Nat.lt_trichotomy i j with h2 | h2 | h2
  · have := h1 i j hi hj h2; omega
  · subst h2; rfl
  · have := h1 j i hj hi h2; omega
theorem FB.neg {s : List Life × Int} {b : Book} (h : FB s b) {j : Int} : idxI (openL j) s.1 < 0 ↔ findB b j < 0 := by
  constructor
  · intro h1
    have h2 : findB b j = -1 := by
      apply findB_none
      intro x hx e
      obtain ⟨y, hy, ho, hr⟩ := mem_liveL.1 (h.perm.mem_iff.1 hx)
      obtain ⟨i, hi, rfl⟩ := List.getElem_of_mem hy
      have : idxI (openL j) s.1 = -1 → False := by
        intro h3
        unfold idxI at h3
        cases hf : s.1.findIdx? (openL j) with
        | none =>
          rw [List.findIdx?_eq_none_iff] at hf
          have h4 := hf _ hy
          subst hr
          have e' : s.1[i].job = j := e
          simp [openL, ho, e'] at h4
        | some k => rw [hf] at h3; simp at h3
      apply this
      unfold idxI at h1 ⊢
      cases hf : s.1.findIdx? (openL j) with
      | none => rfl
      | some k => rw [hf] at h1; simp at h1; omega
    omega
  · intro h1
    rcases Int.lt_or_le (idxI (openL j) s.1) 0 with h2 | h2
    · exact h2
    · obtain ⟨i, y, hi, hy, hp⟩ := idxI_ge h2
      simp [openL] at hp
      have h3 := h.perm.mem_iff.2 (mem_liveL.2 ⟨y, List.mem_of_getElem? hy, hp.2, rfl⟩)
      exact absurd hp.1 (findB_neg (by omega) _ h3)
theorem FB.pos {s : List Life × Int} {b : Book} (h : FB s b) {j : Int} {i : Nat} {y : Life} (hi : idxI (openL j) s.1 = i) (hy : s.1[i]? = some y) (ho : y.over = false) (hj : y.job = j) : ∃ k : Nat, findB b j = k ∧ b.jobs[k]? = some (rowL y) := by
  have h1 : 0 ≤ findB b j := by
    have := h.neg (j := j); omega
  obtain ⟨k, x, h2, h3, h4⟩ := findB_pos h1
  refine ⟨k, h2, ?_⟩
  have h5 := h.perm.mem_iff.2 (mem_liveL.2 ⟨y, List.mem_of_getElem? hy, ho, rfl⟩)
  rw [h3, same_id h.good.ord (List.mem_of_getElem? h3) h5 (by rw [h4]; exact hj.symm)]
theorem FB.step {s : List Life × Int} {b : Book} {x : Entry} (h : FB s b) (hx : checkE x = 0) : FB (stepL s x) (stepB b x) := by
  have hbl := h.bl.step hx
  have hg := stepB_good h.good hx
  by_cases hk : idxI (openL x.job) s.1 < 0
  · have hf := h.neg.1 hk
    by_cases h2 : x.kind = 1
    · have e1 := stepL_put h2 hk
      have e2 : stepB b x = ⟨b.jobs.take (posJ b.jobs x.job) ++ [⟨x.job, x.every, x.time⟩] ++ b.jobs.drop (posJ b.jobs x.job), b.rung⟩ := by
        unfold stepB; rw [if_pos h2, if_neg (by omega)]
      rw [e1] at hbl ⊢; rw [e2] at hg ⊢
      refine ⟨hbl, hg, ?_, h.rung, ?_⟩
      · rw [liveL_append]
        simp only [liveL]
        rw [List.append_assoc, List.singleton_append]
        refine List.perm_middle.trans ?_
        rw [List.take_append_drop]
        refine ((h.perm.cons _).trans ?_)
        have : rowL ⟨x.job, x.every, x.time, 0, false⟩ = ⟨x.job, x.every, x.time⟩ := by simp [rowL]
        rw [this]
        exact List.perm_append_comm (l₁ := [_])
      · rw [sumL_append, h.sum]; simp [sumL]
    · rw [stepL_none h2 hk] at hbl ⊢
      have e2 : stepB b x = b := by
        unfold stepB
        rw [if_neg h2, if_neg (show ¬ 0 ≤ findB b x.job by omega)]
        split
        · rfl
        · split
          · split
            · rw [if_neg (by omega)]
            · rfl
          · rfl
      rw [e2]; exact h
  · obtain ⟨i, y, hi, hy, hp⟩ := idxI_ge (p := openL x.job) (l := s.1) (by omega)
    simp [openL] at hp
    obtain ⟨k, hk1, hk2⟩ := h.pos hi hy hp.2 hp.1
    have hrow := live_at hy hp.2
    by_cases h2 : x.kind = 2
    · have e1 := stepL_drop hi hy h2
      have e2 : stepB b x = ⟨b.jobs.take k ++ b.jobs.drop (k + 1), b.rung⟩ := by
        unfold stepB; rw [if_neg (by omega), if_pos h2, if_pos (by omega), hk1]; rfl
      rw [e1] at hbl ⊢; rw [e2] at hg ⊢
      refine ⟨hbl, hg, ?_, h.rung, ?_⟩
      · rw [live_over hy rfl]
        exact ((perm_at hk2).symm.trans (h.perm.trans hrow)).cons_inv
      · rw [sum_set hy, h.sum]; simp
    · by_cases h3 : x.kind = 3 ∧ x.time = y.frm + y.every * y.rung ∧ s.2 < 60
      · have e1 := stepL_ring hi hy h3
        have e2 : stepB b x = ⟨b.jobs.set k ⟨y.job, y.every, y.frm + y.every * y.rung + y.every⟩, b.rung ++ [⟨x.job, x.time, x.client⟩]⟩ := by
          unfold stepB
          rw [if_neg (by omega), if_neg h2, if_pos h3.1, hk1]
          simp only [Int.toNat_natCast, hk2]
          rw [if_pos ⟨by omega, by simp [rowL, h3.2.1], by have := h.rung; omega⟩]
          rfl
        rw [e1] at hbl ⊢; rw [e2] at hg ⊢
        refine ⟨hbl, hg, ?_, by simp [h.rung], ?_⟩
        · have hpm : (b.jobs.take k ++ b.jobs.drop (k + 1)).Perm (liveL (s.1.take i) ++ liveL (s.1.drop (i + 1))) := ((perm_at hk2).symm.trans (h.perm.trans hrow)).cons_inv
          have hz := live_set hy (z := ⟨y.job, y.every, y.frm, y.rung + 1, y.over⟩) hp.2
          refine List.Perm.trans ?_ hz.symm
          have : rowL ⟨y.job, y.every, y.frm, y.rung + 1, y.over⟩ = ⟨y.job, y.every, y.frm + y.every * y.rung + y.every⟩ := by
            simp [rowL, Int.mul_add, Int.add_assoc]
          rw [this, set_at hk2]
          exact List.perm_middle.trans (hpm.cons _)
        · simp only; rw [sum_set hy, h.sum]; simp only; omega
      · rw [stepL_stay hi hy h2 h3] at hbl ⊢
        have e2 : stepB b x = b := by
          unfold stepB
          by_cases h1 : x.kind = 1
          · rw [if_pos h1, if_pos (by omega)]
          · rw [if_neg h1, if_neg h2]
            by_cases h4 : x.kind = 3
            · rw [if_pos h4, hk1]
              simp only [Int.toNat_natCast, hk2]
              rw [if_neg]
              rintro ⟨_, h5, h6⟩
              exact h3 ⟨h4, by simp only [rowL] at h5; omega, by have := h.rung; omega⟩
            · rw [if_neg h4]
        rw [e2]; exact h
theorem applyB_good {b : Book} {x : Entry} (hb : GoodB b) : applyB b x = if checkE x ≠ 0 then (Book.none, checkE x) else (stepB b x, 0) := by
  unfold applyB
  rw [if_neg (by simp [checkB_iff.2 hb])]
/-- The lives and the book of the same entries: the same error, and where there is none they agree. -/
theorem lives_book : ∀ {l : List Entry} {s : List Life × Int} {b : Book}, FB s b →
    (livesGo s l).2 = (replayB b l).2 ∧ ((livesGo s l).2 = 0 → ∃ n, FB ((livesGo s l).1, n) (replayB b l).1)
  | [], s, b, h => ⟨rfl, fun _ => ⟨s.2, h⟩⟩
  | x :: l, s, b, h => by
    unfold livesGo replayB
    rw [applyB_good h.good]
    by_cases hx : checkE x = 0
    · simp only [hx, ne_eq, not_true, if_false]
      exact lives_book (h.step hx)
    · rw [if_pos hx, if_pos hx, if_pos hx]
      exact ⟨rfl, fun h0 => absurd h0 hx⟩
theorem lives_replay (l : List Entry) : (livesL l).2 = (replay l).2 ∧ ((livesL l).2 = 0 → ∃ n, FB ((livesL l).1, n) (replay l).1) := by
  unfold livesL replay
  by_cases h : 60 < l.length
  · rw [if_pos h, if_pos h]; exact ⟨rfl, fun h => by cases h⟩
  · rw [if_neg h, if_neg h]; exact lives_book FB.nil
theorem take_at {α : Type} {l : List α} {k : Nat} {x : α} (hx : l[k]? = some x) : l.take (k + 1) = l.take k ++ [x] := by
  rw [List.take_add_one, hx]; rfl
theorem sum_take {l : List Life} {k : Nat} {x : Life} (hx : l[k]? = some x) : sumL (l.take (k + 1)) = sumL (l.take k) + x.rung := by
  rw [take_at hx, sumL_append]; simp [sumL]
theorem live_take {l : List Life} {k : Nat} {x : Life} (hx : l[k]? = some x) (ho : x.over = false) : (liveL (l.take (k + 1))).length = (liveL (l.take k)).length + 1 := by
  rw [take_at hx, liveL_append]; simp [liveL, ho]
theorem live_skip {l : List Life} {k : Nat} {x : Life} (hx : l[k]? = some x) (ho : x.over = true) : (liveL (l.take (k + 1))).length = (liveL (l.take k)).length := by
  rw [take_at hx, liveL_append]; simp [liveL, ho]
theorem FB.len {s : List Life × Int} {b : Book} (h : FB s b) : (liveL s.1).length = b.jobs.length := h.perm.length_eq.symm
theorem FB.row {s : List Life × Int} {b : Book} (h : FB s b) {k : Nat} {y : Life} (hy : s.1[k]? = some y) (ho : y.over = false) : ∃ i : Nat, findB b y.job = i ∧ b.jobs[i]? = some (rowL y) := by
  have h5 := h.perm.mem_iff.2 (mem_liveL.2 ⟨y, List.mem_of_getElem? hy, ho, rfl⟩)
  have h1 : 0 ≤ findB b y.job := by
    rcases Int.lt_or_le (findB b y.job) 0 with h2 | h2
    · exact absurd rfl (findB_neg (id := y.job) (by omega) _ h5)
    · exact h2
  obtain ⟨i, x, h2, h3, h4⟩ := findB_pos h1
  refine ⟨i, h2, ?_⟩
  rw [h3, same_id h.good.ord (List.mem_of_getElem? h3) h5 h4]
theorem FB.sums {s : List Life × Int} {b : Book} (h : FB s b) (k : Nat) : 0 ≤ sumL (s.1.take k) ∧ sumL (s.1.take k) ≤ 60 := by
  have h1 : 0 ≤ sumL (s.1.take k) := sumL_nonneg fun y hy => (h.bl.each y (List.mem_of_mem_take hy)).2.2.2.2.1
  have h2 : 0 ≤ sumL (s.1.drop k) := sumL_nonneg fun y hy => (h.bl.each y (List.mem_of_mem_drop hy)).2.2.2.2.1
  have h3 : sumL s.1 = sumL (s.1.take k) + sumL (s.1.drop k) := by rw [← sumL_append, List.take_append_drop]
  have := h.sum; have := h.bl.hi
  omega
theorem liveL_take_le (l : List Life) (k : Nat) : (liveL (l.take k)).length ≤ k := Nat.le_trans (liveL_len _) (by rw [List.length_take]; omega)
end Go.Proofs.Ytiphoihijalfkaa
