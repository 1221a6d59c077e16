/- The walk of the law ClientRings. -/
import Derived.Test.YtbipmoehcmighaaRing1
import Derived.Test.YtbipmoehcmighaaHeard
import Derived.Test.YtbipmoehcmighaaCount
namespace Go.Proofs.Ytbipmoehcmighaa
set_option linter.unusedSimpArgs false
set_option linter.unusedVariables false
open Go.RowKit

theorem ring_any {b : Book} {t me : Int} {x : Job} (hb : GoodB b) (hx : x ∈ b.jobs) (hxt : x.next ≤ t) :
    (b.rung.length < 60 ∧ countL (stepB b ⟨3, x.id, 0, x.next, me⟩).jobs t = countL b.jobs t - 1) ∨ (b.rung.length = 60 ∧ stepB b ⟨3, x.id, 0, x.next, me⟩ = b) := by
  obtain ⟨i, hi⟩ := List.mem_iff_getElem?.1 hx
  have hf := findB_at hb.ord hi
  have hbx := hb.ok x hx
  by_cases hr : b.rung.length < 60
  · left
    have hst : stepB b ⟨3, x.id, 0, x.next, me⟩ = ⟨b.jobs.set i ⟨x.id, x.every, x.next + x.every⟩, b.rung ++ [⟨x.id, x.next, me⟩]⟩ := by
      unfold stepB
      dsimp only
      rw [if_neg (by omega), if_neg (by omega), if_pos rfl, hf]
      simp only [Int.toNat_natCast, hi]
      rw [if_pos ⟨by omega, trivial, hr⟩]
    refine ⟨hr, ?_⟩
    rw [hst]
    dsimp only
    rw [countL_set hi, cnt_rung hbx hxt]
    omega
  · right
    refine ⟨by have := hb.nr; omega, ?_⟩
    unfold stepB
    dsimp only
    rw [if_neg (by omega), if_neg (by omega), if_pos rfl, hf]
    simp only [Int.toNat_natCast, hi]
    rw [if_neg (fun h => hr h.2.2)]
theorem job_uniq {b : Book} (hb : GoodB b) {y z : Job} (hy : y ∈ b.jobs) (hz : z ∈ b.jobs) (e : y.id = z.id) : y = z := by
  have h1 := find_of hb.ord hy e
  have h2 := find_of hb.ord hz rfl
  rw [h1] at h2
  exact Option.some.inj h2
theorem due_at {b : Book} {t : Int} {x : Job} (hb : GoodB b) (hx : x ∈ b.jobs) (hxt : x.next ≤ t) : ∃ i : Nat, (dueL b.jobs t)[i]? = some x ∧ idxI (fun j => decide (j.id = x.id)) (dueL b.jobs t) = i := by
  have hm : x ∈ dueL b.jobs t := dueL_mem.2 ⟨hx, hxt⟩
  cases h : (dueL b.jobs t).findIdx? (fun j => decide (j.id = x.id)) with
  | none =>
    rw [List.findIdx?_eq_none_iff] at h
    have := h x hm
    simp at this
  | some i =>
    refine ⟨i, ?_, by unfold idxI; rw [h]⟩
    rw [List.findIdx?_eq_some_iff_getElem] at h
    obtain ⟨hi, hp, _⟩ := h
    rw [List.getElem?_eq_getElem hi]
    have h1 : (dueL b.jobs t)[i] ∈ b.jobs := (dueL_mem.1 (List.getElem_mem hi)).1
    rw [job_uniq hb h1 hx (by simpa using hp)]
theorem ringCl_ok {c : Cli} {me job t : Int} (h : (ringCl c me job t).2 = 0) : checkCl c = 0 ∧ c.doing = 0 ∧ 0 ≤ t ∧ t ≤ 100000 ∧ ∃ x, x ∈ c.b.jobs ∧ x.id = job ∧ x.next ≤ t ∧ checkE ⟨3, job, 0, x.next, me⟩ = 0 ∧
    ringCl c me job t = (⟨c.epoch, 1, ⟨3, job, 0, x.next, me⟩, c.at_, c.link, c.played, c.b⟩, 0) := by
  unfold ringCl at h ⊢
  by_cases h1 : checkCl c = 0
  · rw [if_neg (by simp [h1])] at h ⊢
    by_cases h2 : c.doing = 0
    · rw [if_neg (by simp [h2])] at h ⊢
      by_cases h3 : t < 0 ∨ 100000 < t
      · rw [if_pos h3] at h; cases h
      · rw [if_neg h3] at h ⊢
        refine ⟨h1, h2, by omega, by omega, ?_⟩
        unfold ringM at h ⊢
        cases hf : c.b.jobs.find? (fun j => decide (j.id = job)) with
        | none => rw [hf] at h; cases h
        | some x =>
          rw [hf] at h
          dsimp only at h ⊢
          by_cases h4 : x.next ≤ t
          · rw [if_pos h4] at h ⊢
            rw [wantCl_alt] at h ⊢
            rw [if_neg (by simp [h1]), if_neg (by simp [h2])] at h ⊢
            by_cases h5 : checkE ⟨3, job, 0, x.next, me⟩ = 0
            · rw [if_neg (by simp [h5]), if_neg (by simp)]
              exact ⟨x, List.mem_of_find?_eq_some hf, by simpa using List.find?_some hf, h4, h5, rfl⟩
            · rw [if_pos h5] at h; exact absurd h h5
          · rw [if_neg h4] at h; cases h
    · rw [if_pos h2] at h; cases h
  · rw [if_pos h1] at h; exact absurd h h1
theorem play_ring {ep pl : Int} {b : Book} {y : Entry} (h : checkCl ⟨ep, 0, ⟨0, 0, 0, 0, 0⟩, 0, 0, pl, b⟩ = 0) (hy : checkE y = 0) (hk : y.kind = 3) :
    playCl ⟨ep, 1, y, 0, 0, pl, b⟩ y = if pl = 60 then (zeroCl, 2) else (⟨ep, 1, y, 0, 0, pl + 1, stepB b y⟩, 0) := by
  have hc := checkCl_iff.1 h
  dsimp only at hc
  have hd : checkCl ⟨ep, 1, y, 0, 0, pl, b⟩ = 0 := checkCl_iff.2 ⟨by dsimp only; omega, hy, by simp, by simp, by simp; omega, hc.2.2.2.2.2⟩
  have ha : applyB b y = (stepB b y, 0) := by unfold applyB; rw [if_neg (by simp [checkB_iff.2 hc.2.2.2.2.2]), if_neg (by simp [hy])]
  unfold playCl
  rw [if_neg (by simp [hd])]
  dsimp only
  rw [ha]
  split
  · rfl
  · rw [if_neg (by simp)]
theorem RingsF_calls (x : Job) (job : Int) (B : Nat) (w : World) (h : w.cell? ⟨B, 0, none⟩ = some (.int .i64 job)) :
    Calls Try.prog 56 #[.agg #[.int .i64 x.id, .int .i64 x.every, .int .i64 x.next], .pointer (some ⟨B, 0, none⟩)] w fun e w' => e = .returned (.bool (decide (x.id = job))) ∧ Onto w w' := by
  have hz := World.block_lt_of_cell? _ _ h
  simp only at hz
  have hal : Onto w (w.alloc (Obj.cells #[.int .i64 x.id, .int .i64 x.every, .int .i64 x.next] 73)) := (Below.refl _ _).alloc (Nat.le_refl _) _
  go_enter Try.func56, Try.ntmps56
  go_wp2
  go_ret
  exact ⟨ret_bool (by by_cases e : x.id = job <;> simp [e]), hal⟩

set_option maxHeartbeats 8000000 in
set_option maxRecDepth 100000 in
theorem Rings_no (ep dg at_ ln pl : Int) (x : Entry) (A A' : Option Addr) (n c m d : Nat) (b : Book) (me job t : Int) (w : World) (sA : S w 3 A n (b.jobs.map encJ)) (sB : S w 3 A' m (b.rung.map encR)) (hbad : (ringCl ⟨ep, dg, x, at_, ln, pl, b⟩ me job t).2 ≠ 0) :
    Calls Try.prog 11 #[.agg #[.int .i64 ep, .int .i64 dg, .int .i64 x.kind, .int .i64 x.job, .int .i64 x.every, .int .i64 x.time, .int .i64 x.client, .int .i64 at_, .int .i64 ln, .int .i64 pl, .slice A n c, .slice A' m d], .int .i64 me, .int .i64 job, .int .i64 t] w fun e w' => e = .returned (.bool true) ∧ Onto w w' := by
  obtain ⟨r, hr⟩ : ∃ r, r = ringCl ⟨ep, dg, x, at_, ln, pl, b⟩ me job t := ⟨_, rfl⟩
  rw [← hr] at hbad
  have HR := Lib.hid hr
  have hd : (r.2 != 0) = true := by simpa using hbad
  clear hr hbad
  go_enter Try.func11, Try.ntmps11
  go_upto_region 1 with fail
  have hon : Onto w ((w.alloc (Obj.cells #[.int .i64 ep, .int .i64 dg, .int .i64 x.kind, .int .i64 x.job, .int .i64 x.every, .int .i64 x.time, .int .i64 x.client, .int .i64 at_, .int .i64 ln, .int .i64 pl, .slice A n c, .slice A' m d] 56)).alloc (Obj.cells #[.int .i64 job] 3)) := ((Onto.rfl' w).new _).new _
  replace sA := (sA.new (Obj.cells #[.int .i64 ep, .int .i64 dg, .int .i64 x.kind, .int .i64 x.job, .int .i64 x.every, .int .i64 x.time, .int .i64 x.client, .int .i64 at_, .int .i64 ln, .int .i64 pl, .slice A n c, .slice A' m d] 56)).new (Obj.cells #[.int .i64 job] 3)
  replace sB := (sB.new (Obj.cells #[.int .i64 ep, .int .i64 dg, .int .i64 x.kind, .int .i64 x.job, .int .i64 x.every, .int .i64 x.time, .int .i64 x.client, .int .i64 at_, .int .i64 ln, .int .i64 pl, .slice A n c, .slice A' m d] 56)).new (Obj.cells #[.int .i64 job] 3)
  have c0 : ((w.alloc (Obj.cells #[.int .i64 ep, .int .i64 dg, .int .i64 x.kind, .int .i64 x.job, .int .i64 x.every, .int .i64 x.time, .int .i64 x.client, .int .i64 at_, .int .i64 ln, .int .i64 pl, .slice A n c, .slice A' m d] 56)).alloc (Obj.cells #[.int .i64 job] 3)).cell? ⟨w.heap.size, 0, none⟩ = some (.int .i64 ep) := by simp [go_sem]
  have c1 : ((w.alloc (Obj.cells #[.int .i64 ep, .int .i64 dg, .int .i64 x.kind, .int .i64 x.job, .int .i64 x.every, .int .i64 x.time, .int .i64 x.client, .int .i64 at_, .int .i64 ln, .int .i64 pl, .slice A n c, .slice A' m d] 56)).alloc (Obj.cells #[.int .i64 job] 3)).cell? ⟨w.heap.size, 1, none⟩ = some (.int .i64 dg) := by simp [go_sem]
  have c2 : ((w.alloc (Obj.cells #[.int .i64 ep, .int .i64 dg, .int .i64 x.kind, .int .i64 x.job, .int .i64 x.every, .int .i64 x.time, .int .i64 x.client, .int .i64 at_, .int .i64 ln, .int .i64 pl, .slice A n c, .slice A' m d] 56)).alloc (Obj.cells #[.int .i64 job] 3)).cell? ⟨w.heap.size, 2, none⟩ = some (.int .i64 x.kind) := by simp [go_sem]
  have c3 : ((w.alloc (Obj.cells #[.int .i64 ep, .int .i64 dg, .int .i64 x.kind, .int .i64 x.job, .int .i64 x.every, .int .i64 x.time, .int .i64 x.client, .int .i64 at_, .int .i64 ln, .int .i64 pl, .slice A n c, .slice A' m d] 56)).alloc (Obj.cells #[.int .i64 job] 3)).cell? ⟨w.heap.size, 3, none⟩ = some (.int .i64 x.job) := by simp [go_sem]
  have c4 : ((w.alloc (Obj.cells #[.int .i64 ep, .int .i64 dg, .int .i64 x.kind, .int .i64 x.job, .int .i64 x.every, .int .i64 x.time, .int .i64 x.client, .int .i64 at_, .int .i64 ln, .int .i64 pl, .slice A n c, .slice A' m d] 56)).alloc (Obj.cells #[.int .i64 job] 3)).cell? ⟨w.heap.size, 4, none⟩ = some (.int .i64 x.every) := by simp [go_sem]
  have c5 : ((w.alloc (Obj.cells #[.int .i64 ep, .int .i64 dg, .int .i64 x.kind, .int .i64 x.job, .int .i64 x.every, .int .i64 x.time, .int .i64 x.client, .int .i64 at_, .int .i64 ln, .int .i64 pl, .slice A n c, .slice A' m d] 56)).alloc (Obj.cells #[.int .i64 job] 3)).cell? ⟨w.heap.size, 5, none⟩ = some (.int .i64 x.time) := by simp [go_sem]
  have c6 : ((w.alloc (Obj.cells #[.int .i64 ep, .int .i64 dg, .int .i64 x.kind, .int .i64 x.job, .int .i64 x.every, .int .i64 x.time, .int .i64 x.client, .int .i64 at_, .int .i64 ln, .int .i64 pl, .slice A n c, .slice A' m d] 56)).alloc (Obj.cells #[.int .i64 job] 3)).cell? ⟨w.heap.size, 6, none⟩ = some (.int .i64 x.client) := by simp [go_sem]
  have c7 : ((w.alloc (Obj.cells #[.int .i64 ep, .int .i64 dg, .int .i64 x.kind, .int .i64 x.job, .int .i64 x.every, .int .i64 x.time, .int .i64 x.client, .int .i64 at_, .int .i64 ln, .int .i64 pl, .slice A n c, .slice A' m d] 56)).alloc (Obj.cells #[.int .i64 job] 3)).cell? ⟨w.heap.size, 7, none⟩ = some (.int .i64 at_) := by simp [go_sem]
  have c8 : ((w.alloc (Obj.cells #[.int .i64 ep, .int .i64 dg, .int .i64 x.kind, .int .i64 x.job, .int .i64 x.every, .int .i64 x.time, .int .i64 x.client, .int .i64 at_, .int .i64 ln, .int .i64 pl, .slice A n c, .slice A' m d] 56)).alloc (Obj.cells #[.int .i64 job] 3)).cell? ⟨w.heap.size, 8, none⟩ = some (.int .i64 ln) := by simp [go_sem]
  have c9 : ((w.alloc (Obj.cells #[.int .i64 ep, .int .i64 dg, .int .i64 x.kind, .int .i64 x.job, .int .i64 x.every, .int .i64 x.time, .int .i64 x.client, .int .i64 at_, .int .i64 ln, .int .i64 pl, .slice A n c, .slice A' m d] 56)).alloc (Obj.cells #[.int .i64 job] 3)).cell? ⟨w.heap.size, 9, none⟩ = some (.int .i64 pl) := by simp [go_sem]
  have c10 : ((w.alloc (Obj.cells #[.int .i64 ep, .int .i64 dg, .int .i64 x.kind, .int .i64 x.job, .int .i64 x.every, .int .i64 x.time, .int .i64 x.client, .int .i64 at_, .int .i64 ln, .int .i64 pl, .slice A n c, .slice A' m d] 56)).alloc (Obj.cells #[.int .i64 job] 3)).cell? ⟨w.heap.size, 10, none⟩ = some (.slice A n c) := by simp [go_sem]
  have c11 : ((w.alloc (Obj.cells #[.int .i64 ep, .int .i64 dg, .int .i64 x.kind, .int .i64 x.job, .int .i64 x.every, .int .i64 x.time, .int .i64 x.client, .int .i64 at_, .int .i64 ln, .int .i64 pl, .slice A n c, .slice A' m d] 56)).alloc (Obj.cells #[.int .i64 job] 3)).cell? ⟨w.heap.size, 11, none⟩ = some (.slice A' m d) := by simp [go_sem]
  have j0 : ((w.alloc (Obj.cells #[.int .i64 ep, .int .i64 dg, .int .i64 x.kind, .int .i64 x.job, .int .i64 x.every, .int .i64 x.time, .int .i64 x.client, .int .i64 at_, .int .i64 ln, .int .i64 pl, .slice A n c, .slice A' m d] 56)).alloc (Obj.cells #[.int .i64 job] 3)).cell? ⟨w.heap.size + 1, 0, none⟩ = some (.int .i64 job) := by simp [go_sem]
  change Code.wp _ _ _ _ ((w.alloc (Obj.cells #[.int .i64 ep, .int .i64 dg, .int .i64 x.kind, .int .i64 x.job, .int .i64 x.every, .int .i64 x.time, .int .i64 x.client, .int .i64 at_, .int .i64 ln, .int .i64 pl, .slice A n c, .slice A' m d] 56)).alloc (Obj.cells #[.int .i64 job] 3))
  generalize ((w.alloc (Obj.cells #[.int .i64 ep, .int .i64 dg, .int .i64 x.kind, .int .i64 x.job, .int .i64 x.every, .int .i64 x.time, .int .i64 x.client, .int .i64 at_, .int .i64 ln, .int .i64 pl, .slice A n c, .slice A' m d] 56)).alloc (Obj.cells #[.int .i64 job] 3)) = w0 at *
  go_wp2_with fail
  refine Calls.mono (ClRing_calls ep dg at_ ln pl x A A' n c m d b me job t _ sA sB) ?_
  rw [← HR.out]
  rintro e v1 ⟨X1, n1, k1, Y1, m1, d1, rfl, s1, t1, hb⟩
  replace hon := Onto.to hon hb
  clear hb s1 t1 sA sB c0 c1 c2 c3 c4 c5 c6 c7 c8 c9 c10 c11 j0
  go_upto_region 2 with fail
  have hbx : Onto v1 (v1.alloc (Obj.cells #[.int .i64 r.1.epoch, .int .i64 r.1.doing, .int .i64 r.1.e.kind, .int .i64 r.1.e.job, .int .i64 r.1.e.every, .int .i64 r.1.e.time, .int .i64 r.1.e.client, .int .i64 r.1.at_, .int .i64 r.1.link, .int .i64 r.1.played, .slice X1 n1 k1, .slice Y1 m1 d1] 56)) := (Below.refl _ _).alloc (Nat.le_refl _) _
  replace hon := Onto.to hon hbx
  clear hbx
  change Code.wp _ _ _ _ (v1.alloc (Obj.cells #[.int .i64 r.1.epoch, .int .i64 r.1.doing, .int .i64 r.1.e.kind, .int .i64 r.1.e.job, .int .i64 r.1.e.every, .int .i64 r.1.e.time, .int .i64 r.1.e.client, .int .i64 r.1.at_, .int .i64 r.1.link, .int .i64 r.1.played, .slice X1 n1 k1, .slice Y1 m1 d1] 56))
  generalize v1.alloc (Obj.cells #[.int .i64 r.1.epoch, .int .i64 r.1.doing, .int .i64 r.1.e.kind, .int .i64 r.1.e.job, .int .i64 r.1.e.every, .int .i64 r.1.e.time, .int .i64 r.1.e.client, .int .i64 r.1.at_, .int .i64 r.1.link, .int .i64 r.1.played, .slice X1 n1 k1, .slice Y1 m1 d1] 56) = w1 at *
  go_wp2_with fail
  refine Calls.mono (heard_calls _) ?_
  rintro e w2 ⟨rfl, hb⟩
  replace hon := Onto.to hon hb
  clear hb
  go_wp2_with fail
  refine Calls.mono (heard_calls _) ?_
  rintro e w3 ⟨rfl, hb⟩
  replace hon := Onto.to hon hb
  clear hb
  go_wp2_with fail
  go_ret
  exact ⟨rfl, hon⟩

set_option maxHeartbeats 8000000 in
set_option maxRecDepth 100000 in
theorem Rings_yes (ep pl : Int) (x : Job) (A A' : Option Addr) (n c m d : Nat) (b : Book) (me job t : Int) (w : World) (sA : S w 3 A n (b.jobs.map encJ)) (sB : S w 3 A' m (b.rung.map encR)) (hck : checkCl ⟨ep, 0, ⟨0, 0, 0, 0, 0⟩, 0, 0, pl, b⟩ = 0) (ht0 : 0 ≤ t) (ht1 : t ≤ 100000) (hxm : x ∈ b.jobs) (hid : x.id = job) (hxt : x.next ≤ t) (hce : checkE ⟨3, job, 0, x.next, me⟩ = 0) (hrr : ringCl ⟨ep, 0, ⟨0, 0, 0, 0, 0⟩, 0, 0, pl, b⟩ me job t = (⟨ep, 1, ⟨3, job, 0, x.next, me⟩, 0, 0, pl, b⟩, 0)) :
    Calls Try.prog 11 #[.agg #[.int .i64 ep, .int .i64 0, .int .i64 0, .int .i64 0, .int .i64 0, .int .i64 0, .int .i64 0, .int .i64 0, .int .i64 0, .int .i64 pl, .slice A n c, .slice A' m d], .int .i64 me, .int .i64 job, .int .i64 t] w fun e w' => e = .returned (.bool true) ∧ Onto w w' := by
  have hg : GoodB b := checkCl_book hck
  have hpl := checkCl_played hck
  dsimp only at hpl
  obtain ⟨hp0, hp1⟩ := hpl
  have hpr := play_ring hck hce rfl
  have hgs : GoodB (stepB b ⟨3, job, 0, x.next, me⟩) := stepB_good hg hce
  have hckd : checkD b t = 0 := by unfold checkD; rw [if_neg (by simp [checkB_iff.2 hg]), if_neg (by omega)]
  have hcks : checkD (stepB b ⟨3, job, 0, x.next, me⟩) t = 0 := by unfold checkD; rw [if_neg (by simp [checkB_iff.2 hgs]), if_neg (by omega)]
  have hany := ring_any (me := me) hg hxm hxt
  rw [hid] at hany
  obtain ⟨i, hdi, hix⟩ := due_at hg hxm hxt
  rw [hid] at hix
  obtain ⟨hc0, hc1⟩ := countL_bd hg.ok ht1
  obtain ⟨cn, hcn⟩ : ∃ cn, cn = countL b.jobs t := ⟨_, rfl⟩
  obtain ⟨cm, hcmm⟩ : ∃ cm, cm = countL (stepB b ⟨3, job, 0, x.next, me⟩).jobs t := ⟨_, rfl⟩
  obtain ⟨sb, hsb⟩ : ∃ sb, sb = stepB b ⟨3, job, 0, x.next, me⟩ := ⟨_, rfl⟩
  rw [← hcn] at hc0 hc1
  have hnl : b.jobs.length = n := by have := sA.len; simpa using this
  have hml : b.rung.length = m := by have := sB.len; simpa using this
  have hn9 : n ≤ 9223372036854775807 := by have := hg.nj; omega
  have hm9 : m ≤ 9223372036854775807 := by have := hg.nr; omega
  have hdl6 : (dueL b.jobs t).length ≤ 6 := by have h1 := dueL_len b.jobs t; have h2 := hg.nj; omega
  obtain ⟨dl, hdl⟩ : ∃ dl, dl = dueL b.jobs t := ⟨_, rfl⟩
  rw [← hdl] at hdi hix hdl6
  have hcase : (cm = cn - 1) ∨ (m = 60 ∧ cm = cn) := by
    rcases hany with ⟨_, h⟩ | ⟨h1, h2⟩
    · left; rw [hcmm, hcn, ← h]
    · right; rw [hcmm, hcn, h2]; exact ⟨by omega, rfl⟩
  have hnj := hg.nj
  have hcw : IntKind.i64.wrap (cn - 1) = cn - 1 := by rw [IntKind.wrap_i64]; omega
  have HRR := Lib.hid hrr; have HPR := Lib.hid hpr; have HCK := Lib.hid hckd; have HCS := Lib.hid hcks; have HDI := Lib.hid hdi; have HIX := Lib.hid hix; have HCN := Lib.hid hcn; have HCM := Lib.hid hcmm; have HSB := Lib.hid hsb; have HN := Lib.hid hn9; have HM := Lib.hid hm9; have HDL := Lib.hid hdl; have HD6 := Lib.hid hdl6; have HCASE := Lib.hid hcase
  clear hrr hpr hckd hcks hdi hix hcn hcmm hsb hn9 hm9 hdl hdl6 hcase hany hgs hce hg hck hnl hml hid hnj
  go_enter Try.func11, Try.ntmps11
  go_upto_region 1 with fail
  have hon : Onto w ((w.alloc (Obj.cells #[.int .i64 ep, .int .i64 0, .int .i64 0, .int .i64 0, .int .i64 0, .int .i64 0, .int .i64 0, .int .i64 0, .int .i64 0, .int .i64 pl, .slice A n c, .slice A' m d] 56)).alloc (Obj.cells #[.int .i64 job] 3)) := ((Onto.rfl' w).new _).new _
  replace sA := (sA.new (Obj.cells #[.int .i64 ep, .int .i64 0, .int .i64 0, .int .i64 0, .int .i64 0, .int .i64 0, .int .i64 0, .int .i64 0, .int .i64 0, .int .i64 pl, .slice A n c, .slice A' m d] 56)).new (Obj.cells #[.int .i64 job] 3)
  replace sB := (sB.new (Obj.cells #[.int .i64 ep, .int .i64 0, .int .i64 0, .int .i64 0, .int .i64 0, .int .i64 0, .int .i64 0, .int .i64 0, .int .i64 0, .int .i64 pl, .slice A n c, .slice A' m d] 56)).new (Obj.cells #[.int .i64 job] 3)
  have c0 : ((w.alloc (Obj.cells #[.int .i64 ep, .int .i64 0, .int .i64 0, .int .i64 0, .int .i64 0, .int .i64 0, .int .i64 0, .int .i64 0, .int .i64 0, .int .i64 pl, .slice A n c, .slice A' m d] 56)).alloc (Obj.cells #[.int .i64 job] 3)).cell? ⟨w.heap.size, 0, none⟩ = some (.int .i64 ep) := by simp [go_sem]
  have c1 : ((w.alloc (Obj.cells #[.int .i64 ep, .int .i64 0, .int .i64 0, .int .i64 0, .int .i64 0, .int .i64 0, .int .i64 0, .int .i64 0, .int .i64 0, .int .i64 pl, .slice A n c, .slice A' m d] 56)).alloc (Obj.cells #[.int .i64 job] 3)).cell? ⟨w.heap.size, 1, none⟩ = some (.int .i64 0) := by simp [go_sem]
  have c2 : ((w.alloc (Obj.cells #[.int .i64 ep, .int .i64 0, .int .i64 0, .int .i64 0, .int .i64 0, .int .i64 0, .int .i64 0, .int .i64 0, .int .i64 0, .int .i64 pl, .slice A n c, .slice A' m d] 56)).alloc (Obj.cells #[.int .i64 job] 3)).cell? ⟨w.heap.size, 2, none⟩ = some (.int .i64 0) := by simp [go_sem]
  have c3 : ((w.alloc (Obj.cells #[.int .i64 ep, .int .i64 0, .int .i64 0, .int .i64 0, .int .i64 0, .int .i64 0, .int .i64 0, .int .i64 0, .int .i64 0, .int .i64 pl, .slice A n c, .slice A' m d] 56)).alloc (Obj.cells #[.int .i64 job] 3)).cell? ⟨w.heap.size, 3, none⟩ = some (.int .i64 0) := by simp [go_sem]
  have c4 : ((w.alloc (Obj.cells #[.int .i64 ep, .int .i64 0, .int .i64 0, .int .i64 0, .int .i64 0, .int .i64 0, .int .i64 0, .int .i64 0, .int .i64 0, .int .i64 pl, .slice A n c, .slice A' m d] 56)).alloc (Obj.cells #[.int .i64 job] 3)).cell? ⟨w.heap.size, 4, none⟩ = some (.int .i64 0) := by simp [go_sem]
  have c5 : ((w.alloc (Obj.cells #[.int .i64 ep, .int .i64 0, .int .i64 0, .int .i64 0, .int .i64 0, .int .i64 0, .int .i64 0, .int .i64 0, .int .i64 0, .int .i64 pl, .slice A n c, .slice A' m d] 56)).alloc (Obj.cells #[.int .i64 job] 3)).cell? ⟨w.heap.size, 5, none⟩ = some (.int .i64 0) := by simp [go_sem]
  have c6 : ((w.alloc (Obj.cells #[.int .i64 ep, .int .i64 0, .int .i64 0, .int .i64 0, .int .i64 0, .int .i64 0, .int .i64 0, .int .i64 0, .int .i64 0, .int .i64 pl, .slice A n c, .slice A' m d] 56)).alloc (Obj.cells #[.int .i64 job] 3)).cell? ⟨w.heap.size, 6, none⟩ = some (.int .i64 0) := by simp [go_sem]
  have c7 : ((w.alloc (Obj.cells #[.int .i64 ep, .int .i64 0, .int .i64 0, .int .i64 0, .int .i64 0, .int .i64 0, .int .i64 0, .int .i64 0, .int .i64 0, .int .i64 pl, .slice A n c, .slice A' m d] 56)).alloc (Obj.cells #[.int .i64 job] 3)).cell? ⟨w.heap.size, 7, none⟩ = some (.int .i64 0) := by simp [go_sem]
  have c8 : ((w.alloc (Obj.cells #[.int .i64 ep, .int .i64 0, .int .i64 0, .int .i64 0, .int .i64 0, .int .i64 0, .int .i64 0, .int .i64 0, .int .i64 0, .int .i64 pl, .slice A n c, .slice A' m d] 56)).alloc (Obj.cells #[.int .i64 job] 3)).cell? ⟨w.heap.size, 8, none⟩ = some (.int .i64 0) := by simp [go_sem]
  have c9 : ((w.alloc (Obj.cells #[.int .i64 ep, .int .i64 0, .int .i64 0, .int .i64 0, .int .i64 0, .int .i64 0, .int .i64 0, .int .i64 0, .int .i64 0, .int .i64 pl, .slice A n c, .slice A' m d] 56)).alloc (Obj.cells #[.int .i64 job] 3)).cell? ⟨w.heap.size, 9, none⟩ = some (.int .i64 pl) := by simp [go_sem]
  have c10 : ((w.alloc (Obj.cells #[.int .i64 ep, .int .i64 0, .int .i64 0, .int .i64 0, .int .i64 0, .int .i64 0, .int .i64 0, .int .i64 0, .int .i64 0, .int .i64 pl, .slice A n c, .slice A' m d] 56)).alloc (Obj.cells #[.int .i64 job] 3)).cell? ⟨w.heap.size, 10, none⟩ = some (.slice A n c) := by simp [go_sem]
  have c11 : ((w.alloc (Obj.cells #[.int .i64 ep, .int .i64 0, .int .i64 0, .int .i64 0, .int .i64 0, .int .i64 0, .int .i64 0, .int .i64 0, .int .i64 0, .int .i64 pl, .slice A n c, .slice A' m d] 56)).alloc (Obj.cells #[.int .i64 job] 3)).cell? ⟨w.heap.size, 11, none⟩ = some (.slice A' m d) := by simp [go_sem]
  have j0 : ((w.alloc (Obj.cells #[.int .i64 ep, .int .i64 0, .int .i64 0, .int .i64 0, .int .i64 0, .int .i64 0, .int .i64 0, .int .i64 0, .int .i64 0, .int .i64 pl, .slice A n c, .slice A' m d] 56)).alloc (Obj.cells #[.int .i64 job] 3)).cell? ⟨w.heap.size + 1, 0, none⟩ = some (.int .i64 job) := by simp [go_sem]
  change Code.wp _ _ _ _ ((w.alloc (Obj.cells #[.int .i64 ep, .int .i64 0, .int .i64 0, .int .i64 0, .int .i64 0, .int .i64 0, .int .i64 0, .int .i64 0, .int .i64 0, .int .i64 pl, .slice A n c, .slice A' m d] 56)).alloc (Obj.cells #[.int .i64 job] 3))
  generalize ((w.alloc (Obj.cells #[.int .i64 ep, .int .i64 0, .int .i64 0, .int .i64 0, .int .i64 0, .int .i64 0, .int .i64 0, .int .i64 0, .int .i64 0, .int .i64 pl, .slice A n c, .slice A' m d] 56)).alloc (Obj.cells #[.int .i64 job] 3)) = w0 at *
  go_wp2_with fail
  refine Calls.mono (ClRing_calls ep 0 0 0 pl ⟨0, 0, 0, 0, 0⟩ A A' n c m d b me job t _ sA sB) ?_
  rw [HRR.out]
  rintro e v1 ⟨X1, n1, k1, Y1, m1, d1, rfl, s1, t1, hb⟩
  replace c0 := cellB hb c0
  replace c1 := cellB hb c1
  replace c2 := cellB hb c2
  replace c3 := cellB hb c3
  replace c4 := cellB hb c4
  replace c5 := cellB hb c5
  replace c6 := cellB hb c6
  replace c7 := cellB hb c7
  replace c8 := cellB hb c8
  replace c9 := cellB hb c9
  replace c10 := cellB hb c10
  replace c11 := cellB hb c11
  replace j0 := cellB hb j0
  replace sA := S.onto sA hb
  replace sB := S.onto sB hb
  replace hon := Onto.to hon hb
  clear hb
  go_upto_region 2 with fail
  have hgw : w.heap.size ≤ v1.heap.size := hon.size
  have hcg : w.heap.size < v1.heap.size := World.block_lt_of_cell? _ _ c0
  have hjg : w.heap.size + 1 < v1.heap.size := World.block_lt_of_cell? _ _ j0
  have hbx : Onto v1 (v1.alloc (Obj.cells #[.int .i64 ep, .int .i64 1, .int .i64 3, .int .i64 job, .int .i64 0, .int .i64 x.next, .int .i64 me, .int .i64 0, .int .i64 0, .int .i64 pl, .slice X1 n1 k1, .slice Y1 m1 d1] 56)) := (Below.refl _ _).alloc (Nat.le_refl _) _
  replace c0 := cellB hbx c0
  replace c1 := cellB hbx c1
  replace c2 := cellB hbx c2
  replace c3 := cellB hbx c3
  replace c4 := cellB hbx c4
  replace c5 := cellB hbx c5
  replace c6 := cellB hbx c6
  replace c7 := cellB hbx c7
  replace c8 := cellB hbx c8
  replace c9 := cellB hbx c9
  replace c10 := cellB hbx c10
  replace c11 := cellB hbx c11
  replace j0 := cellB hbx j0
  replace sA := S.onto sA hbx
  replace sB := S.onto sB hbx
  replace s1 := S.onto s1 hbx
  replace t1 := S.onto t1 hbx
  replace hon := Onto.to hon hbx
  have g0 : (v1.alloc (Obj.cells #[.int .i64 ep, .int .i64 1, .int .i64 3, .int .i64 job, .int .i64 0, .int .i64 x.next, .int .i64 me, .int .i64 0, .int .i64 0, .int .i64 pl, .slice X1 n1 k1, .slice Y1 m1 d1] 56)).cell? ⟨v1.heap.size, 0, none⟩ = some (.int .i64 ep) := by simp [go_sem]
  have g1 : (v1.alloc (Obj.cells #[.int .i64 ep, .int .i64 1, .int .i64 3, .int .i64 job, .int .i64 0, .int .i64 x.next, .int .i64 me, .int .i64 0, .int .i64 0, .int .i64 pl, .slice X1 n1 k1, .slice Y1 m1 d1] 56)).cell? ⟨v1.heap.size, 1, none⟩ = some (.int .i64 1) := by simp [go_sem]
  have g2 : (v1.alloc (Obj.cells #[.int .i64 ep, .int .i64 1, .int .i64 3, .int .i64 job, .int .i64 0, .int .i64 x.next, .int .i64 me, .int .i64 0, .int .i64 0, .int .i64 pl, .slice X1 n1 k1, .slice Y1 m1 d1] 56)).cell? ⟨v1.heap.size, 2, none⟩ = some (.int .i64 3) := by simp [go_sem]
  have g3 : (v1.alloc (Obj.cells #[.int .i64 ep, .int .i64 1, .int .i64 3, .int .i64 job, .int .i64 0, .int .i64 x.next, .int .i64 me, .int .i64 0, .int .i64 0, .int .i64 pl, .slice X1 n1 k1, .slice Y1 m1 d1] 56)).cell? ⟨v1.heap.size, 3, none⟩ = some (.int .i64 job) := by simp [go_sem]
  have g4 : (v1.alloc (Obj.cells #[.int .i64 ep, .int .i64 1, .int .i64 3, .int .i64 job, .int .i64 0, .int .i64 x.next, .int .i64 me, .int .i64 0, .int .i64 0, .int .i64 pl, .slice X1 n1 k1, .slice Y1 m1 d1] 56)).cell? ⟨v1.heap.size, 4, none⟩ = some (.int .i64 0) := by simp [go_sem]
  have g5 : (v1.alloc (Obj.cells #[.int .i64 ep, .int .i64 1, .int .i64 3, .int .i64 job, .int .i64 0, .int .i64 x.next, .int .i64 me, .int .i64 0, .int .i64 0, .int .i64 pl, .slice X1 n1 k1, .slice Y1 m1 d1] 56)).cell? ⟨v1.heap.size, 5, none⟩ = some (.int .i64 x.next) := by simp [go_sem]
  have g6 : (v1.alloc (Obj.cells #[.int .i64 ep, .int .i64 1, .int .i64 3, .int .i64 job, .int .i64 0, .int .i64 x.next, .int .i64 me, .int .i64 0, .int .i64 0, .int .i64 pl, .slice X1 n1 k1, .slice Y1 m1 d1] 56)).cell? ⟨v1.heap.size, 6, none⟩ = some (.int .i64 me) := by simp [go_sem]
  have g7 : (v1.alloc (Obj.cells #[.int .i64 ep, .int .i64 1, .int .i64 3, .int .i64 job, .int .i64 0, .int .i64 x.next, .int .i64 me, .int .i64 0, .int .i64 0, .int .i64 pl, .slice X1 n1 k1, .slice Y1 m1 d1] 56)).cell? ⟨v1.heap.size, 7, none⟩ = some (.int .i64 0) := by simp [go_sem]
  have g8 : (v1.alloc (Obj.cells #[.int .i64 ep, .int .i64 1, .int .i64 3, .int .i64 job, .int .i64 0, .int .i64 x.next, .int .i64 me, .int .i64 0, .int .i64 0, .int .i64 pl, .slice X1 n1 k1, .slice Y1 m1 d1] 56)).cell? ⟨v1.heap.size, 8, none⟩ = some (.int .i64 0) := by simp [go_sem]
  have g9 : (v1.alloc (Obj.cells #[.int .i64 ep, .int .i64 1, .int .i64 3, .int .i64 job, .int .i64 0, .int .i64 x.next, .int .i64 me, .int .i64 0, .int .i64 0, .int .i64 pl, .slice X1 n1 k1, .slice Y1 m1 d1] 56)).cell? ⟨v1.heap.size, 9, none⟩ = some (.int .i64 pl) := by simp [go_sem]
  have g10 : (v1.alloc (Obj.cells #[.int .i64 ep, .int .i64 1, .int .i64 3, .int .i64 job, .int .i64 0, .int .i64 x.next, .int .i64 me, .int .i64 0, .int .i64 0, .int .i64 pl, .slice X1 n1 k1, .slice Y1 m1 d1] 56)).cell? ⟨v1.heap.size, 10, none⟩ = some (.slice X1 n1 k1) := by simp [go_sem]
  have g11 : (v1.alloc (Obj.cells #[.int .i64 ep, .int .i64 1, .int .i64 3, .int .i64 job, .int .i64 0, .int .i64 x.next, .int .i64 me, .int .i64 0, .int .i64 0, .int .i64 pl, .slice X1 n1 k1, .slice Y1 m1 d1] 56)).cell? ⟨v1.heap.size, 11, none⟩ = some (.slice Y1 m1 d1) := by simp [go_sem]
  change Code.wp _ _ _ _ (v1.alloc (Obj.cells #[.int .i64 ep, .int .i64 1, .int .i64 3, .int .i64 job, .int .i64 0, .int .i64 x.next, .int .i64 me, .int .i64 0, .int .i64 0, .int .i64 pl, .slice X1 n1 k1, .slice Y1 m1 d1] 56))
  clear hbx
  generalize (v1.alloc (Obj.cells #[.int .i64 ep, .int .i64 1, .int .i64 3, .int .i64 job, .int .i64 0, .int .i64 x.next, .int .i64 me, .int .i64 0, .int .i64 0, .int .i64 pl, .slice X1 n1 k1, .slice Y1 m1 d1] 56)) = w1 at *
  generalize v1.heap.size = Bg at *
  go_wp2_with fail
  refine Calls.mono (heard_calls _) ?_
  rintro e w2 ⟨rfl, hb⟩
  replace c0 := cellB hb c0
  replace c1 := cellB hb c1
  replace c2 := cellB hb c2
  replace c3 := cellB hb c3
  replace c4 := cellB hb c4
  replace c5 := cellB hb c5
  replace c6 := cellB hb c6
  replace c7 := cellB hb c7
  replace c8 := cellB hb c8
  replace c9 := cellB hb c9
  replace c10 := cellB hb c10
  replace c11 := cellB hb c11
  replace j0 := cellB hb j0
  replace g0 := cellB hb g0
  replace g1 := cellB hb g1
  replace g2 := cellB hb g2
  replace g3 := cellB hb g3
  replace g4 := cellB hb g4
  replace g5 := cellB hb g5
  replace g6 := cellB hb g6
  replace g7 := cellB hb g7
  replace g8 := cellB hb g8
  replace g9 := cellB hb g9
  replace g10 := cellB hb g10
  replace g11 := cellB hb g11
  replace sA := S.onto sA hb
  replace sB := S.onto sB hb
  replace s1 := S.onto s1 hb
  replace t1 := S.onto t1 hb
  replace hon := Onto.to hon hb
  clear hb
  go_wp2_with fail
  refine Calls.mono (Due_calls A A' n c m d b t _ sA sB) ?_
  rw [HCK.out, if_pos rfl, ← HDL.out]
  rintro e w3 ⟨D, nd, kd, rfl, sD, hb, _, _, _⟩
  replace c0 := cellB hb c0
  replace c1 := cellB hb c1
  replace c2 := cellB hb c2
  replace c3 := cellB hb c3
  replace c4 := cellB hb c4
  replace c5 := cellB hb c5
  replace c6 := cellB hb c6
  replace c7 := cellB hb c7
  replace c8 := cellB hb c8
  replace c9 := cellB hb c9
  replace c10 := cellB hb c10
  replace c11 := cellB hb c11
  replace j0 := cellB hb j0
  replace g0 := cellB hb g0
  replace g1 := cellB hb g1
  replace g2 := cellB hb g2
  replace g3 := cellB hb g3
  replace g4 := cellB hb g4
  replace g5 := cellB hb g5
  replace g6 := cellB hb g6
  replace g7 := cellB hb g7
  replace g8 := cellB hb g8
  replace g9 := cellB hb g9
  replace g10 := cellB hb g10
  replace g11 := cellB hb g11
  replace sA := S.onto sA hb
  replace sB := S.onto sB hb
  replace s1 := S.onto s1 hb
  replace t1 := S.onto t1 hb
  replace hon := Onto.to hon hb
  clear hb
  have hnd : nd ≤ 9223372036854775807 := by have h1 := sD.len; have h2 := HD6.out; simp at h1; omega
  go_wp2_with fail
  refine Calls.mono (IndexFuncJ_calls D nd kd _ dl 56 #[.pointer (some ⟨w.heap.size + 1, 0, none⟩)] (fun y => decide (y.id = job)) _ sD (Nat.le_refl _) hnd (fun _ _ => by kernel_rfl) (fun y w' hw' => RingsF_calls y job (w.heap.size + 1) w' (cellB hw' j0))) ?_
  rw [HIX.out]
  rintro e w4 ⟨rfl, hb⟩
  replace c0 := cellB hb c0
  replace c1 := cellB hb c1
  replace c2 := cellB hb c2
  replace c3 := cellB hb c3
  replace c4 := cellB hb c4
  replace c5 := cellB hb c5
  replace c6 := cellB hb c6
  replace c7 := cellB hb c7
  replace c8 := cellB hb c8
  replace c9 := cellB hb c9
  replace c10 := cellB hb c10
  replace c11 := cellB hb c11
  replace j0 := cellB hb j0
  replace g0 := cellB hb g0
  replace g1 := cellB hb g1
  replace g2 := cellB hb g2
  replace g3 := cellB hb g3
  replace g4 := cellB hb g4
  replace g5 := cellB hb g5
  replace g6 := cellB hb g6
  replace g7 := cellB hb g7
  replace g8 := cellB hb g8
  replace g9 := cellB hb g9
  replace g10 := cellB hb g10
  replace g11 := cellB hb g11
  replace sA := S.onto sA hb
  replace sB := S.onto sB hb
  replace s1 := S.onto s1 hb
  replace t1 := S.onto t1 hb
  replace sD := S.onto sD hb
  replace hon := Onto.to hon hb
  clear hb hnd
  have hil : i < nd := by have h1 := sD.len; have h2 := (List.getElem?_eq_some_iff.1 HDI.out).1; simp at h1; omega
  obtain ⟨bb, off, x', hDD, hbb, hx', d0', d1', d2⟩ := sD.atJ hil
  obtain rfl : x' = x := by have h1 := HDI.out; rw [h1] at hx'; exact (Option.some.inj hx').symm
  subst hDD
  have hi0 : ¬ (i : Int) < 0 := by omega
  have hi1 : (i : Int) < (nd : Int) := by omega
  have hi2 : decide ((i : Int) < 0) = false := by simp
  have hx9 : decide (t < x'.next) = false := by simp; omega
  have hx8 : ¬ t < x'.next := by omega
  have hne := neqE
  clear hx' hbb d0' d1'
  go_upto_region 6 with fail
  have oc0 := onto_cell c0; have oc1 := onto_cell c1; have oc2 := onto_cell c2; have oc3 := onto_cell c3; have oc4 := onto_cell c4; have oc5 := onto_cell c5; have oc6 := onto_cell c6; have oc7 := onto_cell c7; have oc8 := onto_cell c8; have oc9 := onto_cell c9; have oc10 := onto_cell c10; have oc11 := onto_cell c11; have og0 := onto_cell g0; have og1 := onto_cell g1; have og2 := onto_cell g2; have og3 := onto_cell g3; have og4 := onto_cell g4; have og5 := onto_cell g5; have og6 := onto_cell g6; have og7 := onto_cell g7; have og8 := onto_cell g8; have og9 := onto_cell g9; have og10 := onto_cell g10; have og11 := onto_cell g11; have oj0 := onto_cell j0; have od2 := onto_cell d2
  refine wp_region_onto (by kernel_rfl) (by kernel_rfl) ?_
  repeat (go_big_quiet_step ((first
    | (go_at_call 39; exact calls_onto' (u := .bool true) (BSame_calls A A' X1 Y1 n c m d n1 k1 m1 d1 _ b.jobs b.jobs b.rung b.rung _ (S.onto sA (onto_on _ _)) (S.onto sB (onto_on _ _)) (S.onto s1 (onto_on _ _)) (S.onto t1 (onto_on _ _)) (Nat.le_refl _) HN.out HM.out) (by simp)))))
  refine wpQuiet_nil ?_
  intro w5 hb
  clear oc0 oc1 oc2 oc3 oc4 oc5 oc6 oc7 oc8 oc9 oc10 oc11 og0 og1 og2 og3 og4 og5 og6 og7 og8 og9 og10 og11 oj0 od2 d2 sD
  replace c0 := cellB hb c0
  replace c1 := cellB hb c1
  replace c2 := cellB hb c2
  replace c3 := cellB hb c3
  replace c4 := cellB hb c4
  replace c5 := cellB hb c5
  replace c6 := cellB hb c6
  replace c7 := cellB hb c7
  replace c8 := cellB hb c8
  replace c9 := cellB hb c9
  replace c10 := cellB hb c10
  replace c11 := cellB hb c11
  replace j0 := cellB hb j0
  replace g0 := cellB hb g0
  replace g1 := cellB hb g1
  replace g2 := cellB hb g2
  replace g3 := cellB hb g3
  replace g4 := cellB hb g4
  replace g5 := cellB hb g5
  replace g6 := cellB hb g6
  replace g7 := cellB hb g7
  replace g8 := cellB hb g8
  replace g9 := cellB hb g9
  replace g10 := cellB hb g10
  replace g11 := cellB hb g11
  replace sA := S.onto sA hb
  replace sB := S.onto sB hb
  replace s1 := S.onto s1 hb
  replace t1 := S.onto t1 hb
  replace hon := Onto.to hon hb
  clear hb
  go_wp2_with fail
  refine Calls.mono (Count_calls A A' n c m d b t _ sA sB) ?_
  rw [HCK.out, if_pos rfl, ← HCN.out]
  rintro e w6 ⟨rfl, hb⟩
  replace c0 := cellB hb c0
  replace c1 := cellB hb c1
  replace c2 := cellB hb c2
  replace c3 := cellB hb c3
  replace c4 := cellB hb c4
  replace c5 := cellB hb c5
  replace c6 := cellB hb c6
  replace c7 := cellB hb c7
  replace c8 := cellB hb c8
  replace c9 := cellB hb c9
  replace c10 := cellB hb c10
  replace c11 := cellB hb c11
  replace j0 := cellB hb j0
  replace g0 := cellB hb g0
  replace g1 := cellB hb g1
  replace g2 := cellB hb g2
  replace g3 := cellB hb g3
  replace g4 := cellB hb g4
  replace g5 := cellB hb g5
  replace g6 := cellB hb g6
  replace g7 := cellB hb g7
  replace g8 := cellB hb g8
  replace g9 := cellB hb g9
  replace g10 := cellB hb g10
  replace g11 := cellB hb g11
  replace sA := S.onto sA hb
  replace sB := S.onto sB hb
  replace s1 := S.onto s1 hb
  replace t1 := S.onto t1 hb
  replace hon := Onto.to hon hb
  clear hb
  go_wp2_with fail
  refine Calls.mono (ClPlay_calls ep 1 0 0 pl ⟨3, job, 0, x'.next, me⟩ ⟨3, job, 0, x'.next, me⟩ X1 Y1 n1 k1 m1 d1 b _ s1 t1) ?_
  rw [HPR.out, ← HSB.out]
  rintro e w7 ⟨Z1, n2, k2, Z2, m2, d2, rfl, s2, t2, hb, _, _, _, _⟩
  replace c0 := cellB hb c0
  replace c1 := cellB hb c1
  replace c2 := cellB hb c2
  replace c3 := cellB hb c3
  replace c4 := cellB hb c4
  replace c5 := cellB hb c5
  replace c6 := cellB hb c6
  replace c7 := cellB hb c7
  replace c8 := cellB hb c8
  replace c9 := cellB hb c9
  replace c10 := cellB hb c10
  replace c11 := cellB hb c11
  replace j0 := cellB hb j0
  replace g0 := cellB hb g0
  replace g1 := cellB hb g1
  replace g2 := cellB hb g2
  replace g3 := cellB hb g3
  replace g4 := cellB hb g4
  replace g5 := cellB hb g5
  replace g6 := cellB hb g6
  replace g7 := cellB hb g7
  replace g8 := cellB hb g8
  replace g9 := cellB hb g9
  replace g10 := cellB hb g10
  replace g11 := cellB hb g11
  replace sA := S.onto sA hb
  replace sB := S.onto sB hb
  replace s1 := S.onto s1 hb
  replace t1 := S.onto t1 hb
  replace hon := Onto.to hon hb
  clear hb s1 t1
  clear g0 g1 g2 g3 g4 g5 g6 g7 g8 g9 g10 g11
  by_cases h60 : pl = 60
  · rw [if_pos h60]
    clear h60 s2 t2
    go_upto_region 10 with fail
    have hpw : w.heap.size ≤ w7.heap.size := hon.size
    have hcp : w.heap.size < w7.heap.size := World.block_lt_of_cell? _ _ c0
    have hjp : w.heap.size + 1 < w7.heap.size := World.block_lt_of_cell? _ _ j0
    have hbx : Onto w7 (w7.alloc (Obj.cells #[.int .i64 zeroCl.epoch, .int .i64 zeroCl.doing, .int .i64 zeroCl.e.kind, .int .i64 zeroCl.e.job, .int .i64 zeroCl.e.every, .int .i64 zeroCl.e.time, .int .i64 zeroCl.e.client, .int .i64 zeroCl.at_, .int .i64 zeroCl.link, .int .i64 zeroCl.played, .slice Z1 n2 k2, .slice Z2 m2 d2] 56)) := (Below.refl _ _).alloc (Nat.le_refl _) _
    replace c0 := cellB hbx c0
    replace c1 := cellB hbx c1
    replace c2 := cellB hbx c2
    replace c3 := cellB hbx c3
    replace c4 := cellB hbx c4
    replace c5 := cellB hbx c5
    replace c6 := cellB hbx c6
    replace c7 := cellB hbx c7
    replace c8 := cellB hbx c8
    replace c9 := cellB hbx c9
    replace c10 := cellB hbx c10
    replace c11 := cellB hbx c11
    replace j0 := cellB hbx j0
    replace sA := S.onto sA hbx
    replace sB := S.onto sB hbx
    replace hon := Onto.to hon hbx
    have p0 : (w7.alloc (Obj.cells #[.int .i64 zeroCl.epoch, .int .i64 zeroCl.doing, .int .i64 zeroCl.e.kind, .int .i64 zeroCl.e.job, .int .i64 zeroCl.e.every, .int .i64 zeroCl.e.time, .int .i64 zeroCl.e.client, .int .i64 zeroCl.at_, .int .i64 zeroCl.link, .int .i64 zeroCl.played, .slice Z1 n2 k2, .slice Z2 m2 d2] 56)).cell? ⟨w7.heap.size, 0, none⟩ = some (.int .i64 zeroCl.epoch) := by simp [go_sem]
    have p1 : (w7.alloc (Obj.cells #[.int .i64 zeroCl.epoch, .int .i64 zeroCl.doing, .int .i64 zeroCl.e.kind, .int .i64 zeroCl.e.job, .int .i64 zeroCl.e.every, .int .i64 zeroCl.e.time, .int .i64 zeroCl.e.client, .int .i64 zeroCl.at_, .int .i64 zeroCl.link, .int .i64 zeroCl.played, .slice Z1 n2 k2, .slice Z2 m2 d2] 56)).cell? ⟨w7.heap.size, 1, none⟩ = some (.int .i64 zeroCl.doing) := by simp [go_sem]
    have p2 : (w7.alloc (Obj.cells #[.int .i64 zeroCl.epoch, .int .i64 zeroCl.doing, .int .i64 zeroCl.e.kind, .int .i64 zeroCl.e.job, .int .i64 zeroCl.e.every, .int .i64 zeroCl.e.time, .int .i64 zeroCl.e.client, .int .i64 zeroCl.at_, .int .i64 zeroCl.link, .int .i64 zeroCl.played, .slice Z1 n2 k2, .slice Z2 m2 d2] 56)).cell? ⟨w7.heap.size, 2, none⟩ = some (.int .i64 zeroCl.e.kind) := by simp [go_sem]
    have p3 : (w7.alloc (Obj.cells #[.int .i64 zeroCl.epoch, .int .i64 zeroCl.doing, .int .i64 zeroCl.e.kind, .int .i64 zeroCl.e.job, .int .i64 zeroCl.e.every, .int .i64 zeroCl.e.time, .int .i64 zeroCl.e.client, .int .i64 zeroCl.at_, .int .i64 zeroCl.link, .int .i64 zeroCl.played, .slice Z1 n2 k2, .slice Z2 m2 d2] 56)).cell? ⟨w7.heap.size, 3, none⟩ = some (.int .i64 zeroCl.e.job) := by simp [go_sem]
    have p4 : (w7.alloc (Obj.cells #[.int .i64 zeroCl.epoch, .int .i64 zeroCl.doing, .int .i64 zeroCl.e.kind, .int .i64 zeroCl.e.job, .int .i64 zeroCl.e.every, .int .i64 zeroCl.e.time, .int .i64 zeroCl.e.client, .int .i64 zeroCl.at_, .int .i64 zeroCl.link, .int .i64 zeroCl.played, .slice Z1 n2 k2, .slice Z2 m2 d2] 56)).cell? ⟨w7.heap.size, 4, none⟩ = some (.int .i64 zeroCl.e.every) := by simp [go_sem]
    have p5 : (w7.alloc (Obj.cells #[.int .i64 zeroCl.epoch, .int .i64 zeroCl.doing, .int .i64 zeroCl.e.kind, .int .i64 zeroCl.e.job, .int .i64 zeroCl.e.every, .int .i64 zeroCl.e.time, .int .i64 zeroCl.e.client, .int .i64 zeroCl.at_, .int .i64 zeroCl.link, .int .i64 zeroCl.played, .slice Z1 n2 k2, .slice Z2 m2 d2] 56)).cell? ⟨w7.heap.size, 5, none⟩ = some (.int .i64 zeroCl.e.time) := by simp [go_sem]
    have p6 : (w7.alloc (Obj.cells #[.int .i64 zeroCl.epoch, .int .i64 zeroCl.doing, .int .i64 zeroCl.e.kind, .int .i64 zeroCl.e.job, .int .i64 zeroCl.e.every, .int .i64 zeroCl.e.time, .int .i64 zeroCl.e.client, .int .i64 zeroCl.at_, .int .i64 zeroCl.link, .int .i64 zeroCl.played, .slice Z1 n2 k2, .slice Z2 m2 d2] 56)).cell? ⟨w7.heap.size, 6, none⟩ = some (.int .i64 zeroCl.e.client) := by simp [go_sem]
    have p7 : (w7.alloc (Obj.cells #[.int .i64 zeroCl.epoch, .int .i64 zeroCl.doing, .int .i64 zeroCl.e.kind, .int .i64 zeroCl.e.job, .int .i64 zeroCl.e.every, .int .i64 zeroCl.e.time, .int .i64 zeroCl.e.client, .int .i64 zeroCl.at_, .int .i64 zeroCl.link, .int .i64 zeroCl.played, .slice Z1 n2 k2, .slice Z2 m2 d2] 56)).cell? ⟨w7.heap.size, 7, none⟩ = some (.int .i64 zeroCl.at_) := by simp [go_sem]
    have p8 : (w7.alloc (Obj.cells #[.int .i64 zeroCl.epoch, .int .i64 zeroCl.doing, .int .i64 zeroCl.e.kind, .int .i64 zeroCl.e.job, .int .i64 zeroCl.e.every, .int .i64 zeroCl.e.time, .int .i64 zeroCl.e.client, .int .i64 zeroCl.at_, .int .i64 zeroCl.link, .int .i64 zeroCl.played, .slice Z1 n2 k2, .slice Z2 m2 d2] 56)).cell? ⟨w7.heap.size, 8, none⟩ = some (.int .i64 zeroCl.link) := by simp [go_sem]
    have p9 : (w7.alloc (Obj.cells #[.int .i64 zeroCl.epoch, .int .i64 zeroCl.doing, .int .i64 zeroCl.e.kind, .int .i64 zeroCl.e.job, .int .i64 zeroCl.e.every, .int .i64 zeroCl.e.time, .int .i64 zeroCl.e.client, .int .i64 zeroCl.at_, .int .i64 zeroCl.link, .int .i64 zeroCl.played, .slice Z1 n2 k2, .slice Z2 m2 d2] 56)).cell? ⟨w7.heap.size, 9, none⟩ = some (.int .i64 zeroCl.played) := by simp [go_sem]
    have p10 : (w7.alloc (Obj.cells #[.int .i64 zeroCl.epoch, .int .i64 zeroCl.doing, .int .i64 zeroCl.e.kind, .int .i64 zeroCl.e.job, .int .i64 zeroCl.e.every, .int .i64 zeroCl.e.time, .int .i64 zeroCl.e.client, .int .i64 zeroCl.at_, .int .i64 zeroCl.link, .int .i64 zeroCl.played, .slice Z1 n2 k2, .slice Z2 m2 d2] 56)).cell? ⟨w7.heap.size, 10, none⟩ = some (.slice Z1 n2 k2) := by simp [go_sem]
    have p11 : (w7.alloc (Obj.cells #[.int .i64 zeroCl.epoch, .int .i64 zeroCl.doing, .int .i64 zeroCl.e.kind, .int .i64 zeroCl.e.job, .int .i64 zeroCl.e.every, .int .i64 zeroCl.e.time, .int .i64 zeroCl.e.client, .int .i64 zeroCl.at_, .int .i64 zeroCl.link, .int .i64 zeroCl.played, .slice Z1 n2 k2, .slice Z2 m2 d2] 56)).cell? ⟨w7.heap.size, 11, none⟩ = some (.slice Z2 m2 d2) := by simp [go_sem]
    change Code.wp _ _ _ _ (w7.alloc (Obj.cells #[.int .i64 zeroCl.epoch, .int .i64 zeroCl.doing, .int .i64 zeroCl.e.kind, .int .i64 zeroCl.e.job, .int .i64 zeroCl.e.every, .int .i64 zeroCl.e.time, .int .i64 zeroCl.e.client, .int .i64 zeroCl.at_, .int .i64 zeroCl.link, .int .i64 zeroCl.played, .slice Z1 n2 k2, .slice Z2 m2 d2] 56))
    clear hbx
    generalize (w7.alloc (Obj.cells #[.int .i64 zeroCl.epoch, .int .i64 zeroCl.doing, .int .i64 zeroCl.e.kind, .int .i64 zeroCl.e.job, .int .i64 zeroCl.e.every, .int .i64 zeroCl.e.time, .int .i64 zeroCl.e.client, .int .i64 zeroCl.at_, .int .i64 zeroCl.link, .int .i64 zeroCl.played, .slice Z1 n2 k2, .slice Z2 m2 d2] 56)) = w8 at *
    generalize w7.heap.size = Bp at *
    go_wp2_with fail
    go_ret
    exact ⟨rfl, hon⟩
  · rw [if_neg h60] at s2 t2 ⊢
    clear h60
    dsimp only at s2 t2
    go_upto_region 10 with fail
    have hpw : w.heap.size ≤ w7.heap.size := hon.size
    have hcp : w.heap.size < w7.heap.size := World.block_lt_of_cell? _ _ c0
    have hjp : w.heap.size + 1 < w7.heap.size := World.block_lt_of_cell? _ _ j0
    have hbx : Onto w7 (w7.alloc (Obj.cells #[.int .i64 ep, .int .i64 1, .int .i64 3, .int .i64 job, .int .i64 0, .int .i64 x'.next, .int .i64 me, .int .i64 0, .int .i64 0, .int .i64 (pl + 1), .slice Z1 n2 k2, .slice Z2 m2 d2] 56)) := (Below.refl _ _).alloc (Nat.le_refl _) _
    replace c0 := cellB hbx c0
    replace c1 := cellB hbx c1
    replace c2 := cellB hbx c2
    replace c3 := cellB hbx c3
    replace c4 := cellB hbx c4
    replace c5 := cellB hbx c5
    replace c6 := cellB hbx c6
    replace c7 := cellB hbx c7
    replace c8 := cellB hbx c8
    replace c9 := cellB hbx c9
    replace c10 := cellB hbx c10
    replace c11 := cellB hbx c11
    replace j0 := cellB hbx j0
    replace sA := S.onto sA hbx
    replace sB := S.onto sB hbx
    replace s2 := S.onto s2 hbx
    replace t2 := S.onto t2 hbx
    replace hon := Onto.to hon hbx
    have p0 : (w7.alloc (Obj.cells #[.int .i64 ep, .int .i64 1, .int .i64 3, .int .i64 job, .int .i64 0, .int .i64 x'.next, .int .i64 me, .int .i64 0, .int .i64 0, .int .i64 (pl + 1), .slice Z1 n2 k2, .slice Z2 m2 d2] 56)).cell? ⟨w7.heap.size, 0, none⟩ = some (.int .i64 ep) := by simp [go_sem]
    have p1 : (w7.alloc (Obj.cells #[.int .i64 ep, .int .i64 1, .int .i64 3, .int .i64 job, .int .i64 0, .int .i64 x'.next, .int .i64 me, .int .i64 0, .int .i64 0, .int .i64 (pl + 1), .slice Z1 n2 k2, .slice Z2 m2 d2] 56)).cell? ⟨w7.heap.size, 1, none⟩ = some (.int .i64 1) := by simp [go_sem]
    have p2 : (w7.alloc (Obj.cells #[.int .i64 ep, .int .i64 1, .int .i64 3, .int .i64 job, .int .i64 0, .int .i64 x'.next, .int .i64 me, .int .i64 0, .int .i64 0, .int .i64 (pl + 1), .slice Z1 n2 k2, .slice Z2 m2 d2] 56)).cell? ⟨w7.heap.size, 2, none⟩ = some (.int .i64 3) := by simp [go_sem]
    have p3 : (w7.alloc (Obj.cells #[.int .i64 ep, .int .i64 1, .int .i64 3, .int .i64 job, .int .i64 0, .int .i64 x'.next, .int .i64 me, .int .i64 0, .int .i64 0, .int .i64 (pl + 1), .slice Z1 n2 k2, .slice Z2 m2 d2] 56)).cell? ⟨w7.heap.size, 3, none⟩ = some (.int .i64 job) := by simp [go_sem]
    have p4 : (w7.alloc (Obj.cells #[.int .i64 ep, .int .i64 1, .int .i64 3, .int .i64 job, .int .i64 0, .int .i64 x'.next, .int .i64 me, .int .i64 0, .int .i64 0, .int .i64 (pl + 1), .slice Z1 n2 k2, .slice Z2 m2 d2] 56)).cell? ⟨w7.heap.size, 4, none⟩ = some (.int .i64 0) := by simp [go_sem]
    have p5 : (w7.alloc (Obj.cells #[.int .i64 ep, .int .i64 1, .int .i64 3, .int .i64 job, .int .i64 0, .int .i64 x'.next, .int .i64 me, .int .i64 0, .int .i64 0, .int .i64 (pl + 1), .slice Z1 n2 k2, .slice Z2 m2 d2] 56)).cell? ⟨w7.heap.size, 5, none⟩ = some (.int .i64 x'.next) := by simp [go_sem]
    have p6 : (w7.alloc (Obj.cells #[.int .i64 ep, .int .i64 1, .int .i64 3, .int .i64 job, .int .i64 0, .int .i64 x'.next, .int .i64 me, .int .i64 0, .int .i64 0, .int .i64 (pl + 1), .slice Z1 n2 k2, .slice Z2 m2 d2] 56)).cell? ⟨w7.heap.size, 6, none⟩ = some (.int .i64 me) := by simp [go_sem]
    have p7 : (w7.alloc (Obj.cells #[.int .i64 ep, .int .i64 1, .int .i64 3, .int .i64 job, .int .i64 0, .int .i64 x'.next, .int .i64 me, .int .i64 0, .int .i64 0, .int .i64 (pl + 1), .slice Z1 n2 k2, .slice Z2 m2 d2] 56)).cell? ⟨w7.heap.size, 7, none⟩ = some (.int .i64 0) := by simp [go_sem]
    have p8 : (w7.alloc (Obj.cells #[.int .i64 ep, .int .i64 1, .int .i64 3, .int .i64 job, .int .i64 0, .int .i64 x'.next, .int .i64 me, .int .i64 0, .int .i64 0, .int .i64 (pl + 1), .slice Z1 n2 k2, .slice Z2 m2 d2] 56)).cell? ⟨w7.heap.size, 8, none⟩ = some (.int .i64 0) := by simp [go_sem]
    have p9 : (w7.alloc (Obj.cells #[.int .i64 ep, .int .i64 1, .int .i64 3, .int .i64 job, .int .i64 0, .int .i64 x'.next, .int .i64 me, .int .i64 0, .int .i64 0, .int .i64 (pl + 1), .slice Z1 n2 k2, .slice Z2 m2 d2] 56)).cell? ⟨w7.heap.size, 9, none⟩ = some (.int .i64 (pl + 1)) := by simp [go_sem]
    have p10 : (w7.alloc (Obj.cells #[.int .i64 ep, .int .i64 1, .int .i64 3, .int .i64 job, .int .i64 0, .int .i64 x'.next, .int .i64 me, .int .i64 0, .int .i64 0, .int .i64 (pl + 1), .slice Z1 n2 k2, .slice Z2 m2 d2] 56)).cell? ⟨w7.heap.size, 10, none⟩ = some (.slice Z1 n2 k2) := by simp [go_sem]
    have p11 : (w7.alloc (Obj.cells #[.int .i64 ep, .int .i64 1, .int .i64 3, .int .i64 job, .int .i64 0, .int .i64 x'.next, .int .i64 me, .int .i64 0, .int .i64 0, .int .i64 (pl + 1), .slice Z1 n2 k2, .slice Z2 m2 d2] 56)).cell? ⟨w7.heap.size, 11, none⟩ = some (.slice Z2 m2 d2) := by simp [go_sem]
    change Code.wp _ _ _ _ (w7.alloc (Obj.cells #[.int .i64 ep, .int .i64 1, .int .i64 3, .int .i64 job, .int .i64 0, .int .i64 x'.next, .int .i64 me, .int .i64 0, .int .i64 0, .int .i64 (pl + 1), .slice Z1 n2 k2, .slice Z2 m2 d2] 56))
    clear hbx
    generalize (w7.alloc (Obj.cells #[.int .i64 ep, .int .i64 1, .int .i64 3, .int .i64 job, .int .i64 0, .int .i64 x'.next, .int .i64 me, .int .i64 0, .int .i64 0, .int .i64 (pl + 1), .slice Z1 n2 k2, .slice Z2 m2 d2] 56)) = w8 at *
    generalize w7.heap.size = Bp at *
    go_wp2_with fail
    refine Calls.mono (Count_calls Z1 Z2 n2 k2 m2 d2 sb t _ s2 t2) ?_
    rw [show checkD sb t = 0 from by rw [HSB.out]; exact HCS.out, if_pos rfl, show countL sb.jobs t = cm from by rw [HSB.out, HCM.out]]
    rintro e w9 ⟨rfl, hb⟩
    replace c0 := cellB hb c0
    replace c1 := cellB hb c1
    replace c2 := cellB hb c2
    replace c3 := cellB hb c3
    replace c4 := cellB hb c4
    replace c5 := cellB hb c5
    replace c6 := cellB hb c6
    replace c7 := cellB hb c7
    replace c8 := cellB hb c8
    replace c9 := cellB hb c9
    replace c10 := cellB hb c10
    replace c11 := cellB hb c11
    replace j0 := cellB hb j0
    replace p0 := cellB hb p0
    replace p1 := cellB hb p1
    replace p2 := cellB hb p2
    replace p3 := cellB hb p3
    replace p4 := cellB hb p4
    replace p5 := cellB hb p5
    replace p6 := cellB hb p6
    replace p7 := cellB hb p7
    replace p8 := cellB hb p8
    replace p9 := cellB hb p9
    replace p10 := cellB hb p10
    replace p11 := cellB hb p11
    replace sA := S.onto sA hb
    replace sB := S.onto sB hb
    replace s2 := S.onto s2 hb
    replace t2 := S.onto t2 hb
    replace hon := Onto.to hon hb
    clear hb sA sB s2 t2
    have hcase := HCASE.out
    rcases hcase with hcs | ⟨hm60, hcs⟩
    · have hq1 : (cm == cn - 1) = true := by simpa using hcs
      clear hcs
      go_wp2_with fail
      go_ret
      exact ⟨rfl, hon⟩
    · have hq1 : (cm == cn - 1) = false := by simp; omega
      have hq2 : (cm == cn) = true := by simpa using hcs
      have hq3 : ((m : Int) == 60) = true := by simp; omega
      clear hcs
      go_wp2_with fail
      go_ret
      exact ⟨ret_bool (by simp), hon⟩

theorem ClientRings_walk (c : Cli) (A B : Option Addr) (n k m d : Nat) (me job t : Int) (w : World) (h : S w 3 A n (c.b.jobs.map encJ)) (h' : S w 3 B m (c.b.rung.map encR)) (_ : n ≤ k) (_ : k ≤ maxLen) (_ : m ≤ d) (_ : d ≤ maxLen) :
    Calls Try.prog 11 #[.agg #[.int .i64 c.epoch, .int .i64 c.doing, .int .i64 c.e.kind, .int .i64 c.e.job, .int .i64 c.e.every, .int .i64 c.e.time, .int .i64 c.e.client, .int .i64 c.at_, .int .i64 c.link, .int .i64 c.played, .slice A n k, .slice B m d], .int .i64 me, .int .i64 job, .int .i64 t] w fun e w' => e = .returned (.bool true) ∧ Below w.heap.size w w' := by
  obtain ⟨ep, dg, y, at_, ln, pl, b⟩ := c
  by_cases hr : (ringCl ⟨ep, dg, y, at_, ln, pl, b⟩ me job t).2 = 0
  · obtain ⟨hck, hdg, ht0, ht1, x, hxm, hid, hxt, hce, hrr⟩ := ringCl_ok hr
    have hc := checkCl_iff.1 hck
    have h3 := hc.2.2.1; have h4 := hc.2.2.2.1
    dsimp only at h3 h4 hdg
    obtain ⟨ha, hl⟩ := h3 (by omega)
    have hy := h4 hdg
    subst hdg; subst ha; subst hl; subst hy
    exact Rings_yes ep pl x A B n k m d b me job t w h h' hck ht0 ht1 hxm hid hxt hce hrr
  · exact Rings_no ep dg at_ ln pl y A B n k m d b me job t w h h' hr
end Go.Proofs.Ytbipmoehcmighaa
