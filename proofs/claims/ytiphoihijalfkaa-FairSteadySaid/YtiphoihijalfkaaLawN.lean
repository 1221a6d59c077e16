/- Plain laws: what is rung of a life is rung in order. -/
import Derived.Test.YtiphoihijalfkaaLawF
import Derived.Test.YtiphoihijalfkaaLawM
namespace Go.Proofs.Ytiphoihijalfkaa
set_option linter.unusedSimpArgs false
set_option linter.unusedVariables false

/-- The table tells when each job of the book is due. -/
structure NI (D : DataW Unit) (b : Book) : Prop where
  map : Maps.IsMap D
  good : GoodB b
  at_ : ∀ j ∈ b.jobs, D.atKey (kI j.id) (.lit (.int .i64 0)) = .lit (.int .i64 j.next)
theorem NI.nil : NI (.map []) Book.none := ⟨Maps.isMap_empty, checkB_iff.1 (by rfl), by simp [Book.none]⟩
/-- What an entry does: it rings, or it puts, or there is no more of anything. -/
theorem step_ways {b : Book} {x : Entry} :
    (∃ (k : Nat) (j : Job), findB b x.job = k ∧ b.jobs[k]? = some j ∧ j.id = x.job ∧ j.next = x.time ∧ stepB b x = ⟨b.jobs.set k ⟨j.id, j.every, j.next + j.every⟩, b.rung ++ [⟨x.job, x.time, x.client⟩]⟩)
    ∨ (findB b x.job < 0 ∧ ∃ a, stepB b x = ⟨b.jobs.take a ++ [⟨x.job, x.every, x.time⟩] ++ b.jobs.drop a, b.rung⟩)
    ∨ ((stepB b x).rung = b.rung ∧ (stepB b x).jobs.length ≤ b.jobs.length ∧ ∀ j ∈ (stepB b x).jobs, j ∈ b.jobs) := by
  unfold stepB
  by_cases h1 : x.kind = 1
  · rw [if_pos h1]
    by_cases hf : 0 ≤ findB b x.job
    · rw [if_pos hf]; exact .inr (.inr ⟨rfl, Nat.le_refl _, fun _ h => h⟩)
    · rw [if_neg hf]; exact .inr (.inl ⟨by omega, _, rfl⟩)
  · rw [if_neg h1]
    by_cases h2 : x.kind = 2
    · rw [if_pos h2]
      by_cases hf : 0 ≤ findB b x.job
      · rw [if_pos hf]
        refine .inr (.inr ⟨rfl, ?_, fun j hj => ?_⟩)
        · simp; omega
        · simp at hj
          rcases hj with h | h
          · exact List.mem_of_mem_take h
          · exact List.mem_of_mem_drop h
      · rw [if_neg hf]; exact .inr (.inr ⟨rfl, Nat.le_refl _, fun _ h => h⟩)
    · rw [if_neg h2]
      by_cases h3 : x.kind = 3
      · rw [if_pos h3]
        split
        · next j hj =>
          split
          · next hc =>
            obtain ⟨k, y, e1, e2, e3⟩ := findB_pos hc.1
            rw [e1] at hj ⊢
            simp only [Int.toNat_natCast] at hj ⊢
            rw [e2] at hj
            have := Option.some.inj hj; subst this
            exact .inl ⟨k, y, rfl, e2, e3, hc.2.1, rfl⟩
          · exact .inr (.inr ⟨rfl, Nat.le_refl _, fun _ h => h⟩)
        · exact .inr (.inr ⟨rfl, Nat.le_refl _, fun _ h => h⟩)
      · rw [if_neg h3]; exact .inr (.inr ⟨rfl, Nat.le_refl _, fun _ h => h⟩)
theorem NI.ring {D : DataW Unit} {b : Book} {x : Entry} (h : NI D b) (hx : checkE x = 0) {k : Nat} {j : Job} (hj : b.jobs[k]? = some j) (hs : stepB b x = ⟨b.jobs.set k ⟨j.id, j.every, j.next + j.every⟩, b.rung ++ [⟨x.job, x.time, x.client⟩]⟩) :
    NI (D.put (kI j.id) (.lit (.int .i64 (j.next + j.every)))) (stepB b x) := by
  have hg := stepB_good h.good hx
  refine ⟨h.map.put _ _, hg, fun y hy => ?_⟩
  by_cases hc : y.id = j.id
  · have hm : (⟨j.id, j.every, j.next + j.every⟩ : Job) ∈ (stepB b x).jobs := by
      rw [hs]; exact List.mem_of_getElem? (i := k) (by rw [List.getElem?_set_self (List.getElem?_eq_some_iff.1 hj).1])
    have := same_id hg.ord hy hm hc
    subst this
    exact Maps.atKey_put_same h.map (by trivial) _ _
  · rw [Maps.atKey_put_other (kI_ne hc)]
    refine h.at_ y ?_
    rw [hs] at hy
    rcases List.mem_or_eq_of_mem_set hy with h1 | h1
    · exact h1
    · subst h1; exact absurd rfl hc
theorem NI.put {D : DataW Unit} {b : Book} {x : Entry} (h : NI D b) (hx : checkE x = 0) (hf : findB b x.job < 0) {a : Nat} (hs : stepB b x = ⟨b.jobs.take a ++ [⟨x.job, x.every, x.time⟩] ++ b.jobs.drop a, b.rung⟩) :
    NI (D.put (kI x.job) (.lit (.int .i64 x.time))) (stepB b x) := by
  have hg := stepB_good h.good hx
  have hno := findB_neg (b := b) (id := x.job) (by omega)
  refine ⟨h.map.put _ _, hg, fun y hy => ?_⟩
  rw [hs] at hy
  have hy' : y ∈ b.jobs ∨ y = ⟨x.job, x.every, x.time⟩ := by
    simp at hy
    rcases hy with h1 | h1 | h1
    · exact .inl (List.mem_of_mem_take h1)
    · exact .inr h1
    · exact .inl (List.mem_of_mem_drop h1)
  rcases hy' with h1 | h1
  · rw [Maps.atKey_put_other (kI_ne (hno y h1))]
    exact h.at_ y h1
  · subst h1
    exact Maps.atKey_put_same h.map (by trivial) _ _
theorem NI.less {D : DataW Unit} {b : Book} {x : Entry} (h : NI D b) (hx : checkE x = 0) (hs : ∀ j ∈ (stepB b x).jobs, j ∈ b.jobs) : NI D (stepB b x) :=
  ⟨h.map, stepB_good h.good hx, fun y hy => h.at_ y (hs y hy)⟩
end Go.Proofs.Ytiphoihijalfkaa
