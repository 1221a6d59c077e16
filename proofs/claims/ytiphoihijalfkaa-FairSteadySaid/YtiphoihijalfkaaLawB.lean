/- Plain laws of books. No program in sight. -/
import Derived.Test.YtiphoihijalfkaaApply
namespace Go.Proofs.Ytiphoihijalfkaa
set_option linter.unusedSimpArgs false
set_option linter.unusedVariables false

theorem checkJs_cons {x : Job} {l : List Job} {last : Int} : checkJs last (x :: l) = if badJ x then 3 else if x.id ≤ last then 6 else checkJs x.id l := checkJs_at (l := x :: l) (k := 0) rfl
theorem checkJs_iff {l : List Job} : ∀ {last : Int}, checkJs last l = 0 ↔ (∀ x ∈ l, ¬ badJ x) ∧ (∀ x ∈ l, last < x.id) ∧ l.Pairwise (fun a b => a.id < b.id) := by
  induction l with
  | nil => simp [checkJs]
  | cons y l ih =>
    intro last
    rw [checkJs_cons]
    by_cases hb : badJ y
    · rw [if_pos hb]
      simp [hb]
    · rw [if_neg hb]
      by_cases hl : y.id ≤ last
      · rw [if_pos hl]
        constructor
        · intro h; cases h
        · intro h
          have := h.2.1 y (by simp)
          omega
      · rw [if_neg hl, ih, List.pairwise_cons]
        constructor
        · rintro ⟨h1, h2, h3⟩
          exact ⟨by simpa [hb] using h1, by
            intro x hx
            rcases List.mem_cons.1 hx with rfl | hx
            · omega
            · have := h2 x hx; omega, h2, h3⟩
        · rintro ⟨h1, h2, h3, h4⟩
          exact ⟨fun x hx => h1 x (by simp [hx]), h3, h4⟩
theorem checkRs_iff {l : List Rung} : checkRs l = 0 ↔ ∀ x ∈ l, ¬ badR x := by
  induction l with
  | nil => simp [checkRs]
  | cons y l ih =>
    by_cases hb : badR y
    · rw [show checkRs (y :: l) = 3 from checkRs_bad (l := y :: l) (k := 0) rfl hb]; simp [hb]
    · rw [show checkRs (y :: l) = checkRs l from checkRs_good (l := y :: l) (k := 0) rfl hb, ih]; simp [hb]

structure GoodB (b : Book) : Prop where
  nj : b.jobs.length ≤ 6
  nr : b.rung.length ≤ 60
  ok : ∀ x ∈ b.jobs, ¬ badJ x
  ord : b.jobs.Pairwise (fun a c => a.id < c.id)
  rok : ∀ x ∈ b.rung, ¬ badR x
theorem checkB_iff {b : Book} : checkB b = 0 ↔ GoodB b := by
  constructor
  · intro h
    obtain ⟨h1, h2, h3, h4⟩ := checkB_parts h
    obtain ⟨h5, _, h7⟩ := checkJs_iff.1 h3
    exact ⟨h1, h2, h5, h7, checkRs_iff.1 h4⟩
  · rintro ⟨h1, h2, h3, h4, h5⟩
    have e : checkJs (-1) b.jobs = 0 := checkJs_iff.2 ⟨h3, fun x hx => by have := h3 x hx; unfold badJ at this; omega, h4⟩
    unfold checkB
    rw [if_neg (by omega), if_pos e]
    exact checkRs_iff.2 h5

/-- Rising numbers from lo on, below hi, are few. -/
theorem few {l : List Job} : ∀ {lo hi : Int}, lo ≤ hi → (∀ x ∈ l, lo ≤ x.id ∧ x.id < hi) → l.Pairwise (fun a c => a.id < c.id) → (l.length : Int) ≤ hi - lo := by
  induction l with
  | nil => intro lo hi h _ _; simp; omega
  | cons y l ih =>
    intro lo hi h hr hp
    obtain ⟨h1, h2⟩ := List.pairwise_cons.1 hp
    have hy := hr y (by simp)
    have := ih (lo := y.id + 1) (hi := hi) (by omega) (fun x hx => ⟨by have := h1 x hx; omega, (hr x (by simp [hx])).2⟩) h2
    simp only [List.length_cons]
    omega

theorem posJ_split (l : List Job) (id : Int) : l.take (posJ l id) = l.takeWhile (fun j => decide (j.id < id)) ∧ l.drop (posJ l id) = l.dropWhile (fun j => decide (j.id < id)) := by
  have h := List.takeWhile_append_dropWhile (p := fun j : Job => decide (j.id < id)) (l := l)
  unfold posJ
  constructor
  · conv => lhs; arg 2; rw [← h]
    rw [List.take_left]
  · conv => lhs; arg 2; rw [← h]
    rw [List.drop_left]
theorem mem_takeWhile_lt {l : List Job} {id : Int} : ∀ {x : Job}, x ∈ l.takeWhile (fun j => decide (j.id < id)) → x.id < id := by
  induction l with
  | nil => simp
  | cons y l ih =>
    intro x hx
    rw [List.takeWhile_cons] at hx
    split at hx
    · rename_i h
      rcases List.mem_cons.1 hx with rfl | hx
      · simpa using h
      · exact ih hx
    · simp at hx
theorem mem_dropWhile_ge {l : List Job} {id : Int} (hp : l.Pairwise (fun a c => a.id < c.id)) : ∀ {x : Job}, x ∈ l.dropWhile (fun j => decide (j.id < id)) → id ≤ x.id := by
  induction l with
  | nil => simp
  | cons y l ih =>
    intro x hx
    obtain ⟨h1, h2⟩ := List.pairwise_cons.1 hp
    rw [List.dropWhile_cons] at hx
    split at hx
    · exact ih h2 hx
    · rename_i h
      have hy : id ≤ y.id := by simpa using h
      rcases List.mem_cons.1 hx with rfl | hx
      · exact hy
      · have := h1 x hx; omega
theorem findB_neg {b : Book} {id : Int} (h : ¬ 0 ≤ findB b id) : ∀ x ∈ b.jobs, x.id ≠ id := by
  intro x hx e
  unfold findB idxI at h
  cases hf : b.jobs.findIdx? (fun j => decide (j.id = id)) with
  | none =>
    rw [List.findIdx?_eq_none_iff] at hf
    have := hf x hx
    simp [e] at this
  | some i => rw [hf] at h; simp at h
theorem findB_pos {b : Book} {id : Int} (h : 0 ≤ findB b id) : ∃ (i : Nat) (x : Job), findB b id = i ∧ b.jobs[i]? = some x ∧ x.id = id := by
  obtain ⟨i, x, h1, h2, h3⟩ := idxI_found (by rw [← findB_def]; exact h)
  exact ⟨i, x, h1, h2, by simpa using h3⟩
theorem findB_none {b : Book} {id : Int} (h : ∀ x ∈ b.jobs, x.id ≠ id) : findB b id = -1 := by
  rw [findB_def]
  exact idxI_none (fun j y hy => by have := h y (List.mem_of_getElem? hy); simpa using this)
theorem findB_at {b : Book} {i : Nat} {x : Job} (hp : b.jobs.Pairwise (fun a c => a.id < c.id)) (hx : b.jobs[i]? = some x) : findB b x.id = i := by
  rw [findB_def]
  refine idxI_at hx (by simp) (fun j y hj hy => ?_)
  obtain ⟨hi, rfl⟩ := List.getElem?_eq_some_iff.1 hx
  obtain ⟨hj', rfl⟩ := List.getElem?_eq_some_iff.1 hy
  have := List.pairwise_iff_getElem.1 hp j i hj' hi hj
  simp
  omega

theorem checkE_put {e : Entry} (h : checkE e = 0) (hk : e.kind = 1) : 0 ≤ e.job ∧ e.job < 6 ∧ 1 ≤ e.every ∧ e.every ≤ 100 ∧ 0 ≤ e.time ∧ e.time ≤ 100000 := by
  unfold checkE at h
  (repeat' split at h) <;> omega
theorem checkE_ring {e : Entry} (h : checkE e = 0) (hk : e.kind = 3) : 0 ≤ e.job ∧ e.job < 6 ∧ 0 ≤ e.time ∧ e.time ≤ 100000 ∧ 0 ≤ e.client ∧ e.client < 3 := by
  unfold checkE at h
  (repeat' split at h) <;> omega
theorem checkE_kind {e : Entry} (h : checkE e = 0) : e.kind = 0 ∨ e.kind = 1 ∨ e.kind = 2 ∨ e.kind = 3 := by
  unfold checkE at h
  (repeat' split at h) <;> omega

theorem six {l : List Job} (ok : ∀ x ∈ l, ¬ badJ x) (ord : l.Pairwise (fun a c => a.id < c.id)) : l.length ≤ 6 := by
  have := few (lo := 0) (hi := 6) (by omega) (fun x hx => by have := ok x hx; unfold badJ at this; omega) ord
  omega
theorem putJ_good {l : List Job} {e : Job} (ok : ∀ x ∈ l, ¬ badJ x) (ord : l.Pairwise (fun a c => a.id < c.id)) (he : ¬ badJ e) (hn : ∀ x ∈ l, x.id ≠ e.id) :
    (∀ x ∈ l.take (posJ l e.id) ++ [e] ++ l.drop (posJ l e.id), ¬ badJ x) ∧ (l.take (posJ l e.id) ++ [e] ++ l.drop (posJ l e.id)).Pairwise (fun a c => a.id < c.id) := by
  constructor
  · intro x hx
    simp only [List.mem_append, List.mem_singleton] at hx
    rcases hx with (hx | rfl) | hx
    · exact ok x (List.mem_of_mem_take hx)
    · exact he
    · exact ok x (List.mem_of_mem_drop hx)
  · have h1 : ∀ x ∈ l.take (posJ l e.id), x.id < e.id := fun x hx => by rw [(posJ_split l e.id).1] at hx; exact mem_takeWhile_lt hx
    have h2 : ∀ x ∈ l.drop (posJ l e.id), e.id < x.id := fun x hx => by
      have h3 := hn x (List.mem_of_mem_drop hx)
      rw [(posJ_split l e.id).2] at hx
      have := mem_dropWhile_ge ord hx
      omega
    rw [List.append_assoc, List.pairwise_append]
    refine ⟨ord.sublist (List.take_sublist _ _), ?_, ?_⟩
    · rw [List.singleton_append, List.pairwise_cons]
      exact ⟨h2, ord.sublist (List.drop_sublist _ _)⟩
    · intro x hx y hy
      have hx' := h1 x hx
      rcases List.mem_append.1 hy with hy | hy
      · simp at hy; subst hy; exact hx'
      · have := h2 y hy; omega
theorem stepB_good {b : Book} {e : Entry} (hb : GoodB b) (he : checkE e = 0) : GoodB (stepB b e) := by
  unfold stepB
  split
  · rename_i hk
    split
    · exact hb
    · rename_i hf
      have hp := checkE_put he hk
      obtain ⟨h1, h2⟩ := putJ_good (e := ⟨e.job, e.every, e.time⟩) hb.ok hb.ord (by unfold badJ; simp only; omega) (findB_neg hf)
      exact ⟨six h1 h2, hb.nr, h1, h2, hb.rok⟩
  · split
    · split
      · have h1 : ∀ x ∈ b.jobs.take (findB b e.job).toNat ++ b.jobs.drop ((findB b e.job).toNat + 1), ¬ badJ x := fun x hx => by
          rcases List.mem_append.1 hx with hx | hx
          · exact hb.ok x (List.mem_of_mem_take hx)
          · exact hb.ok x (List.mem_of_mem_drop hx)
        have h2 : (b.jobs.take (findB b e.job).toNat ++ b.jobs.drop ((findB b e.job).toNat + 1)).Pairwise (fun a c => a.id < c.id) := by
          rw [← List.eraseIdx_eq_take_drop_succ]
          exact hb.ord.sublist (List.eraseIdx_sublist _ _)
        exact ⟨six h1 h2, hb.nr, h1, h2, hb.rok⟩
      · exact hb
    · split
      · rename_i hk
        have hr := checkE_ring he hk
        split
        · rename_i j hj
          split
          · rename_i hc
            have hjb := hb.ok j (List.mem_of_getElem? hj)
            have h1 : ∀ x ∈ b.jobs.set (findB b e.job).toNat ⟨j.id, j.every, j.next + j.every⟩, ¬ badJ x := fun x hx => by
              rcases List.mem_or_eq_of_mem_set hx with hx | rfl
              · exact hb.ok x hx
              · unfold badJ at hjb ⊢; simp only; omega
            have h2 : (b.jobs.set (findB b e.job).toNat ⟨j.id, j.every, j.next + j.every⟩).Pairwise (fun a c => a.id < c.id) := by
              have hm : (b.jobs.set (findB b e.job).toNat ⟨j.id, j.every, j.next + j.every⟩).map (·.id) = b.jobs.map (·.id) := by
                rw [List.map_set]
                apply List.ext_getElem?
                intro i
                rw [List.getElem?_set]
                split
                · rename_i hi
                  subst hi
                  rw [List.getElem?_map, hj]
                  simp only [List.length_map, Option.map_some]
                  rw [if_pos (List.getElem?_eq_some_iff.1 hj).1]
                · rfl
              have := hb.ord
              rw [← List.pairwise_map (f := Job.id) (R := fun a c => a < c)] at this ⊢
              rw [hm]; exact this
            exact ⟨six h1 h2, by simp; omega, h1, h2, fun x hx => by
              rcases List.mem_append.1 hx with hx | hx
              · exact hb.rok x hx
              · simp at hx; subst hx; unfold badR; simp only; omega⟩
          · exact hb
        · exact hb
      · exact hb

theorem stepB_rung (b : Book) (e : Entry) : (stepB b e).rung = b.rung ∨ ∃ r, (stepB b e).rung = b.rung ++ [r] := by
  unfold stepB
  split
  · split <;> exact .inl rfl
  · split
    · split <;> exact .inl rfl
    · split
      · split
        · split
          · exact .inr ⟨_, rfl⟩
          · exact .inl rfl
        · exact .inl rfl
      · exact .inl rfl
theorem mem_put {l : List Job} {p : Nat} {e : Job} : e ∈ l.take p ++ [e] ++ l.drop p := by simp
theorem stepB_twice {b : Book} {e : Entry} (hb : GoodB b) (he : checkE e = 0) : stepB (stepB b e) e = stepB b e := by
  rcases checkE_kind he with hk | hk | hk | hk
  · simp [stepB, hk]
  · by_cases hf : 0 ≤ findB b e.job
    · have : stepB b e = b := by simp [stepB, hk, hf]
      rw [this, this]
    · have hp := checkE_put he hk
      obtain ⟨h1, h2⟩ := putJ_good (e := ⟨e.job, e.every, e.time⟩) hb.ok hb.ord (by unfold badJ; simp only; omega) (findB_neg hf)
      have e1 : stepB b e = ⟨b.jobs.take (posJ b.jobs e.job) ++ [⟨e.job, e.every, e.time⟩] ++ b.jobs.drop (posJ b.jobs e.job), b.rung⟩ := by simp [stepB, hk, hf]
      rw [e1]
      obtain ⟨i, hi⟩ := List.mem_iff_getElem?.1 (mem_put (l := b.jobs) (p := posJ b.jobs e.job) (e := ⟨e.job, e.every, e.time⟩))
      have hfi := findB_at (b := ⟨b.jobs.take (posJ b.jobs e.job) ++ [⟨e.job, e.every, e.time⟩] ++ b.jobs.drop (posJ b.jobs e.job), b.rung⟩) h2 hi
      simp only at hfi
      unfold stepB
      rw [if_pos hk, if_pos (by rw [hfi]; omega)]
  · by_cases hf : 0 ≤ findB b e.job
    · obtain ⟨i, x, h1, h2, h3⟩ := findB_pos hf
      have e1 : stepB b e = ⟨b.jobs.take i ++ b.jobs.drop (i + 1), b.rung⟩ := by simp [stepB, hk, h1]
      rw [e1]
      have hno : findB ⟨b.jobs.take i ++ b.jobs.drop (i + 1), b.rung⟩ e.job = -1 := by
        apply findB_none
        intro y hy
        obtain ⟨hil, rfl⟩ := List.getElem?_eq_some_iff.1 h2
        have hpw := List.pairwise_iff_getElem.1 hb.ord
        rcases List.mem_append.1 hy with hy | hy
        · obtain ⟨j, hj, rfl⟩ := List.getElem_of_mem hy
          rw [List.length_take] at hj
          rw [List.getElem_take]
          have := hpw j i (by omega) hil (by omega)
          omega
        · obtain ⟨j, hj, rfl⟩ := List.getElem_of_mem hy
          rw [List.length_drop] at hj
          rw [List.getElem_drop]
          have := hpw i (i + 1 + j) hil (by omega) (by omega)
          omega
      unfold stepB
      rw [if_neg (by omega), if_pos hk, if_neg (by rw [hno]; omega)]
    · have : stepB b e = b := by simp [stepB, hk, hf]
      rw [this, this]
  · by_cases hch : stepB b e = b
    · rw [hch, hch]
    · have hr := checkE_ring he hk
      have key : ∃ (i : Nat) (x : Job), findB b e.job = i ∧ b.jobs[i]? = some x ∧ x.id = e.job ∧ x.next = e.time ∧ stepB b e = ⟨b.jobs.set i ⟨x.id, x.every, x.next + x.every⟩, b.rung ++ [⟨e.job, e.time, e.client⟩]⟩ := by
        have h0 : stepB b e = (match b.jobs[(findB b e.job).toNat]? with
          | some j => if 0 ≤ findB b e.job ∧ j.next = e.time ∧ b.rung.length < 60 then ⟨b.jobs.set (findB b e.job).toNat ⟨j.id, j.every, j.next + j.every⟩, b.rung ++ [⟨e.job, e.time, e.client⟩]⟩ else b
          | none => b) := by
          unfold stepB
          rw [if_neg (by omega), if_neg (by omega), if_pos hk]
          cases b.jobs[(findB b e.job).toNat]? <;> rfl
        cases hj : b.jobs[(findB b e.job).toNat]? with
        | none => rw [hj] at h0; exact absurd h0 hch
        | some j =>
          rw [hj] at h0
          simp only at h0
          by_cases hc : 0 ≤ findB b e.job ∧ j.next = e.time ∧ b.rung.length < 60
          · rw [if_pos hc] at h0
            obtain ⟨i, x, h1, h2, h3⟩ := findB_pos hc.1
            rw [h1, Int.toNat_natCast] at hj h0
            rw [h2] at hj
            injection hj with hj
            subst hj
            exact ⟨i, x, h1, h2, h3, hc.2.1, h0⟩
          · rw [if_neg hc] at h0; exact absurd h0 hch
      obtain ⟨i, x, h1, h2, h3, h4, h5⟩ := key
      have hg := stepB_good hb he
      rw [h5] at hg ⊢
      obtain ⟨hil, hxe⟩ := List.getElem?_eq_some_iff.1 h2
      have hset : (b.jobs.set i ⟨x.id, x.every, x.next + x.every⟩)[i]? = some ⟨x.id, x.every, x.next + x.every⟩ := by
        rw [List.getElem?_set]; simp [hil]
      have hfi := findB_at (b := ⟨b.jobs.set i ⟨x.id, x.every, x.next + x.every⟩, b.rung ++ [⟨e.job, e.time, e.client⟩]⟩) hg.ord hset
      simp only [h3] at hfi
      have hxb := hb.ok x (List.mem_of_getElem? h2)
      unfold badJ at hxb
      rw [h3] at hset
      unfold stepB
      rw [if_neg (by omega), if_neg (by omega), if_pos hk]
      rw [h3]
      simp only [hfi, Int.toNat_natCast, hset]
      rw [if_neg (by omega)]

/-- Each job that stays is due as it was, or once more behind a ring. -/
theorem stepB_jobs {b : Book} {e : Entry} (hb : GoodB b) (he : checkE e = 0) {j : Job} (hj : j ∈ (stepB b e).jobs) {k : Nat} {x : Job} (hk : findB b j.id = k) (hx : b.jobs[k]? = some x) :
    j.every = x.every ∧ (j.next = x.next ∨ (j.next = x.next + x.every ∧ (stepB b e).rung.length = b.rung.length + 1)) := by
  have same : ∀ y ∈ b.jobs, y.id = j.id → y = x := by
    intro y hy e1
    obtain ⟨i, hi⟩ := List.mem_iff_getElem?.1 hy
    have := findB_at hb.ord hi
    rw [e1, hk] at this
    have e2 : k = i := by omega
    subst e2
    rw [hi] at hx
    injection hx
  have old : j ∈ b.jobs → j.every = x.every ∧ (j.next = x.next ∨ (j.next = x.next + x.every ∧ (stepB b e).rung.length = b.rung.length + 1)) := by
    intro h
    have := same j h rfl
    subst this
    exact ⟨rfl, .inl rfl⟩
  by_cases hch : stepB b e = b
  · rw [hch] at hj
    exact old hj
  rcases checkE_kind he with hkd | hkd | hkd | hkd
  · exact absurd (by simp [stepB, hkd]) hch
  · by_cases hf : 0 ≤ findB b e.job
    · exact absurd (by simp [stepB, hkd, hf]) hch
    · have e1 : stepB b e = ⟨b.jobs.take (posJ b.jobs e.job) ++ [⟨e.job, e.every, e.time⟩] ++ b.jobs.drop (posJ b.jobs e.job), b.rung⟩ := by simp [stepB, hkd, hf]
      rw [e1] at hj
      simp only [List.mem_append, List.mem_singleton] at hj
      rcases hj with (hj | rfl) | hj
      · exact old (List.mem_of_mem_take hj)
      · exact absurd (by simp only at hk; rw [hk]; omega) hf
      · exact old (List.mem_of_mem_drop hj)
  · by_cases hf : 0 ≤ findB b e.job
    · have e1 : stepB b e = ⟨b.jobs.take (findB b e.job).toNat ++ b.jobs.drop ((findB b e.job).toNat + 1), b.rung⟩ := by
        unfold stepB
        rw [if_neg (by omega), if_pos hkd, if_pos hf]
      rw [e1] at hj
      rcases List.mem_append.1 hj with hj | hj
      · exact old (List.mem_of_mem_take hj)
      · exact old (List.mem_of_mem_drop hj)
    · exact absurd (by simp [stepB, hkd, hf]) hch
  · have h0 : stepB b e = (match b.jobs[(findB b e.job).toNat]? with
      | some j => if 0 ≤ findB b e.job ∧ j.next = e.time ∧ b.rung.length < 60 then ⟨b.jobs.set (findB b e.job).toNat ⟨j.id, j.every, j.next + j.every⟩, b.rung ++ [⟨e.job, e.time, e.client⟩]⟩ else b
      | none => b) := by
      unfold stepB
      rw [if_neg (by omega), if_neg (by omega), if_pos hkd]
      cases b.jobs[(findB b e.job).toNat]? <;> rfl
    cases hjj : b.jobs[(findB b e.job).toNat]? with
    | none => rw [hjj] at h0; exact absurd h0 hch
    | some y =>
      rw [hjj] at h0
      simp only at h0
      by_cases hc : 0 ≤ findB b e.job ∧ y.next = e.time ∧ b.rung.length < 60
      · rw [if_pos hc] at h0
        rw [h0] at hj ⊢
        rcases List.mem_or_eq_of_mem_set hj with hj | rfl
        · obtain ⟨h1, h2⟩ := old hj
          exact ⟨h1, by
            rcases h2 with h2 | h2
            · exact .inl h2
            · exact .inr ⟨h2.1, by simp⟩⟩
        · have := same y (List.mem_of_getElem? hjj) rfl
          subst this
          exact ⟨rfl, .inr ⟨rfl, by simp⟩⟩
      · rw [if_neg hc] at h0; exact absurd h0 hch
end Go.Proofs.Ytiphoihijalfkaa
