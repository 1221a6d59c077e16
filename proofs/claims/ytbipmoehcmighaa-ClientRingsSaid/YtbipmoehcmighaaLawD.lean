/- The plain laws of what is due. -/
import Derived.Test.YtbipmoehcmighaaSpecD
namespace Go.Proofs.Ytbipmoehcmighaa
set_option linter.unusedSimpArgs false
set_option linter.unusedVariables false

/-- by when they are due -/
abbrev ltN : Job → Job → Bool := fun x y => decide (x.next - y.next < 0)
def SortedN (S : List Job) : Prop := S.Pairwise fun a b => a.next ≤ b.next
theorem posR_congr {α : Type} {p q : α → Bool} {S : List α} (h : ∀ y ∈ S, p y = q y) : posR p S = posR q S := by
  unfold posR
  have : ∀ (l : List α), (∀ y ∈ l, p y = q y) → l.takeWhile p = l.takeWhile q := by
    intro l
    induction l with
    | nil => intro _; rfl
    | cons y l ih => intro h; rw [List.takeWhile_cons, List.takeWhile_cons, h y (by simp), ih (fun z hz => h z (by simp [hz]))]
  rw [this _ (fun y hy => h y (List.mem_reverse.1 hy))]
theorem insR_congr {α : Type} {lt lt' : α → α → Bool} {S : List α} {x : α} (h : ∀ y ∈ S, lt x y = lt' x y) : insR lt S x = insR lt' S x := by
  unfold insR
  rw [posR_congr h]
theorem foldl_insR_congr {α : Type} {lt lt' : α → α → Bool} : ∀ (l S : List α), l.Pairwise (fun y x => lt x y = lt' x y) → (∀ x ∈ l, ∀ y ∈ S, lt x y = lt' x y) → l.foldl (insR lt) S = l.foldl (insR lt') S
  | [], _, _, _ => rfl
  | x :: l, S, h1, h2 => by
    rw [List.foldl_cons, List.foldl_cons, insR_congr (h2 x (by simp))]
    obtain ⟨h3, h4⟩ := List.pairwise_cons.1 h1
    refine foldl_insR_congr l _ h4 (fun z hz y hy => ?_)
    rcases List.mem_cons.1 ((insR_perm lt' S x).mem_iff.1 hy) with rfl | hy
    · exact h3 z hz
    · exact h2 z (by simp [hz]) y hy
theorem isort_congr {α : Type} {lt lt' : α → α → Bool} {l : List α} (h : l.Pairwise (fun y x => lt x y = lt' x y)) : isort lt l = isort lt' l := foldl_insR_congr l [] h (by simp)

theorem posR_split {α : Type} {p : α → Bool} {P Q : List α} (hP : ∀ y ∈ P, p y = false) (hQ : ∀ y ∈ Q, p y = true) : posR p (P ++ Q) = P.length := by
  refine posR_eq (by simp) (fun y hy => hQ y (by simpa using hy)) (fun y h0 hy => ?_)
  rw [List.getElem?_append_left (by omega)] at hy
  exact hP y (List.mem_of_getElem? hy)
theorem sorted_split {T : List Job} (hT : SortedN T) (x : Job) : T.filter (fun y => !ltN x y) ++ T.filter (ltN x) = T := by
  induction T with
  | nil => rfl
  | cons t T ih =>
    obtain ⟨k1, k2⟩ := List.pairwise_cons.1 hT
    by_cases ht : ltN x t = true
    · have hall : ∀ z ∈ T, ltN x z = true := by
        intro z hz
        have := k1 z hz; simp [ltN] at ht ⊢; omega
      have e1 : T.filter (fun z => !ltN x z) = [] := List.filter_eq_nil_iff.2 (fun z hz => by simp [hall z hz])
      have e2 : T.filter (ltN x) = T := List.filter_eq_self.2 (fun z hz => hall z hz)
      rw [List.filter_cons, List.filter_cons, e1, e2]
      simp [ht]
    · rw [List.filter_cons, List.filter_cons]
      simp [ht]
      simpa using ih k2
/-- Where it is put into a sorted row. -/
theorem insR_sorted {S : List Job} (h : SortedN S) (x : Job) : insR ltN S x = S.filter (fun y => !ltN x y) ++ [x] ++ S.filter (ltN x) := by
  have hs := sorted_split h x
  have hp : posR (ltN x) S = (S.filter fun y => !ltN x y).length := by
    conv => lhs; rw [← hs]
    exact posR_split (fun y hy => by simpa using (List.mem_filter.1 hy).2) (fun y hy => (List.mem_filter.1 hy).2)
  unfold insR
  rw [hp]
  conv => lhs; rw [← hs]
  simp
theorem insR_keeps {S : List Job} (h : SortedN S) (x : Job) : SortedN (insR ltN S x) := by
  rw [insR_sorted h]
  unfold SortedN
  have hf : ∀ p : Job → Bool, SortedN (S.filter p) := fun p => List.Pairwise.sublist List.filter_sublist h
  refine List.pairwise_append.2 ⟨List.pairwise_append.2 ⟨hf _, by simp, fun a ha b hb => ?_⟩, hf _, fun a ha b hb => ?_⟩
  · have h1 := (List.mem_filter.1 ha).2
    simp at hb; subst hb
    simp [ltN] at h1; omega
  · have h2 := (List.mem_filter.1 hb).2
    rcases List.mem_append.1 ha with ha | ha
    · have h1 := (List.mem_filter.1 ha).2
      simp [ltN] at h1 h2; omega
    · simp at ha; subst ha
      simp [ltN] at h2; omega
theorem foldl_keeps : ∀ (l S : List Job), SortedN S → SortedN (l.foldl (insR ltN) S)
  | [], _, h => h
  | x :: l, S, h => foldl_keeps l _ (insR_keeps h x)
theorem isort_sorted (l : List Job) : SortedN (isort ltN l) := foldl_keeps l [] (by simp [SortedN])
/-- Those up to a time. -/
abbrev upto (t : Int) : Job → Bool := fun j => !decide (t < j.next)
theorem insR_filter {S : List Job} (h : SortedN S) (x : Job) (t : Int) : (insR ltN S x).filter (upto t) = if upto t x = true then insR ltN (S.filter (upto t)) x else S.filter (upto t) := by
  have hf : SortedN (S.filter (upto t)) := List.Pairwise.sublist List.filter_sublist h
  rw [insR_sorted h, List.filter_append, List.filter_append]
  split
  · rename_i hx
    rw [insR_sorted hf]
    simp only [List.filter_filter, List.filter_cons, hx, List.filter_nil, if_true]
    congr 1
    · congr 1
      exact List.filter_congr fun y _ => Bool.and_comm _ _
    · exact List.filter_congr fun y _ => Bool.and_comm _ _
  · rename_i hx
    simp only [List.filter_cons, hx, List.filter_nil, List.append_nil]
    simp only [Bool.false_eq_true, if_false, List.append_nil]
    rw [← List.filter_append, sorted_split h]
theorem foldl_filter (t : Int) : ∀ (l S : List Job), SortedN S → (l.foldl (insR ltN) S).filter (upto t) = (l.filter (upto t)).foldl (insR ltN) (S.filter (upto t))
  | [], _, _ => rfl
  | x :: l, S, h => by
    rw [List.foldl_cons, foldl_filter t l _ (insR_keeps h x), insR_filter h, List.filter_cons]
    split <;> rfl
theorem dueL_eq (l : List Job) (t : Int) : dueL l t = (isort ltN l).filter (upto t) := by
  unfold dueL isort
  rw [foldl_filter t l [] (by simp [SortedN])]
  rfl
/-- Of a sorted row those up to a time stand in front. -/
theorem sorted_front {S : List Job} (h : SortedN S) (t : Int) : S.filter (upto t) ++ S.filter (fun j => decide (t < j.next)) = S := by
  induction S with
  | nil => rfl
  | cons y S ih =>
    obtain ⟨h1, h2⟩ := List.pairwise_cons.1 h
    by_cases hy : t < y.next
    · have hall : ∀ z ∈ S, t < z.next := fun z hz => by have := h1 z hz; omega
      have e1 : S.filter (upto t) = [] := List.filter_eq_nil_iff.2 (fun z hz => by simp [upto, hall z hz])
      have e2 : S.filter (fun j => decide (t < j.next)) = S := List.filter_eq_self.2 (fun z hz => by simp [hall z hz])
      rw [List.filter_cons, List.filter_cons, e1, e2]
      simp [upto, hy]
    · rw [List.filter_cons, List.filter_cons]
      simp [upto, hy]
      simpa [upto] using ih h2
/-- At a later time no less is due. -/
theorem dueL_later (l : List Job) {s t : Int} (hst : s ≤ t) : ∃ m, dueL l t = dueL l s ++ m := by
  refine ⟨((isort ltN l).filter (upto t)).filter (fun j => decide (s < j.next)), ?_⟩
  rw [dueL_eq, dueL_eq]
  have hf : SortedN ((isort ltN l).filter (upto t)) := List.Pairwise.sublist List.filter_sublist (isort_sorted l)
  conv => lhs; rw [← sorted_front hf s]
  congr 1
  rw [List.filter_filter]
  refine List.filter_congr fun y _ => ?_
  simp [upto]
  omega
theorem cntJ_mono {j : Job} {s t : Int} (hj : ¬ badJ j) (hst : s ≤ t) : cntJ s j ≤ cntJ t j := by
  unfold badJ at hj
  unfold cntJ
  split
  · rw [if_pos (by omega)]
    have := Int.ediv_le_ediv (c := j.every) (a := s - j.next) (b := t - j.next) (by omega) (by omega)
    omega
  · split
    · have := Int.ediv_nonneg (a := t - j.next) (b := j.every) (by omega) (by omega)
      omega
    · omega
theorem countL_mono {l : List Job} {s t : Int} (hj : ∀ x ∈ l, ¬ badJ x) (hst : s ≤ t) : countL l s ≤ countL l t := by
  induction l with
  | nil => simp [countL]
  | cons j l ih =>
    have h1 := cntJ_mono (hj j (by simp)) hst
    have h2 := ih (fun x hx => hj x (by simp [hx]))
    simp only [countL]
    omega
theorem due_le_count {l : List Job} {t : Int} (hj : ∀ x ∈ l, ¬ badJ x) : ((dueL l t).length : Int) ≤ countL l t := by
  unfold dueL
  rw [isort_length]
  induction l with
  | nil => simp [countL]
  | cons j l ih =>
    have h2 := ih (fun x hx => hj x (by simp [hx]))
    have h3 := hj j (by simp)
    unfold badJ at h3
    rw [List.filter_cons]
    simp only [countL, cntJ]
    by_cases h : j.next ≤ t
    · have h4 := Int.ediv_nonneg (a := t - j.next) (b := j.every) (by omega) (by omega)
      rw [if_pos (by simp; omega), if_pos h]
      simp only [List.length_cons]
      omega
    · rw [if_neg (by simp; omega), if_neg h]
      omega
end Go.Proofs.Ytbipmoehcmighaa
