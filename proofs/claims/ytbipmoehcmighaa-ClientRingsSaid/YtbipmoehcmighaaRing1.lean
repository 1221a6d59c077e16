/- client.Ring, the document's Ringing. -/
import Derived.Test.YtbipmoehcmighaaRWant
import Derived.Test.YtbipmoehcmighaaDue
import Derived.Test.YtbipmoehcmighaaLawR
import Derived.Test.YtbipmoehcmighaaLawCl
namespace Go.Proofs.Ytbipmoehcmighaa
set_option linter.unusedSimpArgs false
set_option linter.unusedVariables false
open Go.RowKit

theorem lt_cell' {w : World} {b o : Nat} {v : Value} (h : w.cell? ⟨b, o, none⟩ = some v) : b < w.heap.size := World.block_lt_of_cell? w _ h
def ringM (c : Cli) (me job t : Int) : Cli × Int :=
  match c.b.jobs.find? (fun j => decide (j.id = job)) with
  | some j => if j.next ≤ t then wantCl c ⟨3, job, 0, j.next, me⟩ else (zeroCl, 5)
  | none => (zeroCl, 5)
/-- client.Ring. -/
def ringCl (c : Cli) (me job t : Int) : Cli × Int :=
  if checkCl c ≠ 0 then (zeroCl, checkCl c) else if c.doing ≠ 0 then (zeroCl, 7) else if t < 0 ∨ 100000 < t then (zeroCl, 3) else ringM c me job t
theorem ringCl_alt (c : Cli) (me job t : Int) : ringCl c me job t = if restsCl c ≠ 0 then (zeroCl, restsCl c) else if t < 0 ∨ 100000 < t then (zeroCl, 3) else ringM c me job t := by
  unfold ringCl restsCl
  by_cases h : checkCl c = 0
  · by_cases hd : c.doing = 0
    · simp [h, hd]
    · simp [h, hd]
  · simp [h]
theorem find_of {l : List Job} {x : Job} {job : Int} (hp : l.Pairwise (fun a c => a.id < c.id)) (hx : x ∈ l) (he : x.id = job) : l.find? (fun j => decide (j.id = job)) = some x := by
  induction l with
  | nil => cases hx
  | cons y l ih =>
    obtain ⟨h1, h2⟩ := List.pairwise_cons.1 hp
    rcases List.mem_cons.1 hx with rfl | hx
    · simp [he]
    · have := h1 x hx
      rw [List.find?_cons_of_neg (by simp; omega)]
      exact ih h2 hx
theorem ring_hit {c : Cli} {me job t : Int} {x : Job} (hg : GoodB c.b) (hx : x ∈ c.b.jobs) (ht : x.next ≤ t) (he : x.id = job) : ringM c me job t = wantCl c ⟨3, job, 0, x.next, me⟩ := by
  unfold ringM
  rw [find_of hg.ord hx he]
  dsimp only
  rw [if_pos ht]
theorem ring_late {c : Cli} {me job t : Int} {x : Job} (hg : GoodB c.b) (hx : x ∈ c.b.jobs) (ht : ¬ x.next ≤ t) (he : x.id = job) : ringM c me job t = (zeroCl, 5) := by
  unfold ringM
  rw [find_of hg.ord hx he]
  dsimp only
  rw [if_neg ht]
theorem ring_miss {c : Cli} {me job t : Int} (h : ∀ y ∈ c.b.jobs, y.next ≤ t → y.id ≠ job) : ringM c me job t = (zeroCl, 5) := by
  unfold ringM
  split
  · rename_i j hj
    have h1 := List.mem_of_find?_eq_some hj
    have h2 := List.find?_some hj
    rw [if_neg]
    intro h3
    exact h j h1 h3 (by simpa using h2)
  · rfl

set_option maxHeartbeats 8000000 in
set_option maxRecDepth 100000 in
theorem ClRing_calls (ep dg at_ ln pl : Int) (x : Entry) (A A' : Option Addr) (n c m d : Nat) (b : Book) (me job t : Int) (w : World) (sA : S w 3 A n (b.jobs.map encJ)) (sB : S w 3 A' m (b.rung.map encR)) :
    Calls Try.prog 47 #[.agg #[.int .i64 ep, .int .i64 dg, .int .i64 x.kind, .int .i64 x.job, .int .i64 x.every, .int .i64 x.time, .int .i64 x.client, .int .i64 at_, .int .i64 ln, .int .i64 pl, .slice A n c, .slice A' m d], .int .i64 me, .int .i64 job, .int .i64 t] w (RClPost w (ringCl ⟨ep, dg, x, at_, ln, pl, b⟩ me job t).1 (ringCl ⟨ep, dg, x, at_, ln, pl, b⟩ me job t).2) := by
  obtain ⟨q, hq⟩ : ∃ q, q = restsCl ⟨ep, dg, x, at_, ln, pl, b⟩ := ⟨_, rfl⟩
  obtain ⟨r, hr⟩ : ∃ r, r = ringCl ⟨ep, dg, x, at_, ln, pl, b⟩ me job t := ⟨_, rfl⟩
  rw [← hr]
  rw [ringCl_alt] at hr
  rw [← hq] at hr
  try dsimp only at hr
  have HQ := Lib.hid hq; have HR0 := Lib.hid hr
  clear hq hr
  have oA : ∀ z, w.heap.size ≤ z → OffN n z A := fun z hz => sA.offN hz
  have oB : ∀ z, w.heap.size ≤ z → OffN m z A' := fun z hz => sB.offN hz
  have OA := Lib.hid oA; have OB := Lib.hid oB
  clear oA oB
  go_enter Try.func47, Try.ntmps47
  go_upto_region 1 with fail
  have hon : Onto w ((w.alloc (Obj.cells #[.int .i64 ep, .int .i64 dg, .int .i64 x.kind, .int .i64 x.job, .int .i64 x.every, .int .i64 x.time, .int .i64 x.client, .int .i64 at_, .int .i64 ln, .int .i64 pl, .slice A n c, .slice A' m d] 56)).alloc (Obj.cells #[.int .i64 0, .int .i64 0, .int .i64 0, .int .i64 0, .int .i64 0, .int .i64 0, .int .i64 0, .int .i64 0, .int .i64 0, .int .i64 0, .slice none 0 0, .slice none 0 0] 56)) := (((Onto.rfl' w).new _).new _)
  replace sA := (sA.new (Obj.cells #[.int .i64 ep, .int .i64 dg, .int .i64 x.kind, .int .i64 x.job, .int .i64 x.every, .int .i64 x.time, .int .i64 x.client, .int .i64 at_, .int .i64 ln, .int .i64 pl, .slice A n c, .slice A' m d] 56)).new (Obj.cells #[.int .i64 0, .int .i64 0, .int .i64 0, .int .i64 0, .int .i64 0, .int .i64 0, .int .i64 0, .int .i64 0, .int .i64 0, .int .i64 0, .slice none 0 0, .slice none 0 0] 56)
  replace sB := (sB.new (Obj.cells #[.int .i64 ep, .int .i64 dg, .int .i64 x.kind, .int .i64 x.job, .int .i64 x.every, .int .i64 x.time, .int .i64 x.client, .int .i64 at_, .int .i64 ln, .int .i64 pl, .slice A n c, .slice A' m d] 56)).new (Obj.cells #[.int .i64 0, .int .i64 0, .int .i64 0, .int .i64 0, .int .i64 0, .int .i64 0, .int .i64 0, .int .i64 0, .int .i64 0, .int .i64 0, .slice none 0 0, .slice none 0 0] 56)
  have c0 : ((w.alloc (Obj.cells #[.int .i64 ep, .int .i64 dg, .int .i64 x.kind, .int .i64 x.job, .int .i64 x.every, .int .i64 x.time, .int .i64 x.client, .int .i64 at_, .int .i64 ln, .int .i64 pl, .slice A n c, .slice A' m d] 56)).alloc (Obj.cells #[.int .i64 0, .int .i64 0, .int .i64 0, .int .i64 0, .int .i64 0, .int .i64 0, .int .i64 0, .int .i64 0, .int .i64 0, .int .i64 0, .slice none 0 0, .slice none 0 0] 56)).cell? ⟨w.heap.size, 0, none⟩ = some (.int .i64 ep) := by simp [go_sem]
  have fc0 : ((w.alloc (Obj.cells #[.int .i64 ep, .int .i64 dg, .int .i64 x.kind, .int .i64 x.job, .int .i64 x.every, .int .i64 x.time, .int .i64 x.client, .int .i64 at_, .int .i64 ln, .int .i64 pl, .slice A n c, .slice A' m d] 56)).alloc (Obj.cells #[.int .i64 0, .int .i64 0, .int .i64 0, .int .i64 0, .int .i64 0, .int .i64 0, .int .i64 0, .int .i64 0, .int .i64 0, .int .i64 0, .slice none 0 0, .slice none 0 0] 56)).frozen? ⟨w.heap.size, 0, none⟩ = false := by simp [go_sem]
  have c1 : ((w.alloc (Obj.cells #[.int .i64 ep, .int .i64 dg, .int .i64 x.kind, .int .i64 x.job, .int .i64 x.every, .int .i64 x.time, .int .i64 x.client, .int .i64 at_, .int .i64 ln, .int .i64 pl, .slice A n c, .slice A' m d] 56)).alloc (Obj.cells #[.int .i64 0, .int .i64 0, .int .i64 0, .int .i64 0, .int .i64 0, .int .i64 0, .int .i64 0, .int .i64 0, .int .i64 0, .int .i64 0, .slice none 0 0, .slice none 0 0] 56)).cell? ⟨w.heap.size, 1, none⟩ = some (.int .i64 dg) := by simp [go_sem]
  have fc1 : ((w.alloc (Obj.cells #[.int .i64 ep, .int .i64 dg, .int .i64 x.kind, .int .i64 x.job, .int .i64 x.every, .int .i64 x.time, .int .i64 x.client, .int .i64 at_, .int .i64 ln, .int .i64 pl, .slice A n c, .slice A' m d] 56)).alloc (Obj.cells #[.int .i64 0, .int .i64 0, .int .i64 0, .int .i64 0, .int .i64 0, .int .i64 0, .int .i64 0, .int .i64 0, .int .i64 0, .int .i64 0, .slice none 0 0, .slice none 0 0] 56)).frozen? ⟨w.heap.size, 1, none⟩ = false := by simp [go_sem]
  have c2 : ((w.alloc (Obj.cells #[.int .i64 ep, .int .i64 dg, .int .i64 x.kind, .int .i64 x.job, .int .i64 x.every, .int .i64 x.time, .int .i64 x.client, .int .i64 at_, .int .i64 ln, .int .i64 pl, .slice A n c, .slice A' m d] 56)).alloc (Obj.cells #[.int .i64 0, .int .i64 0, .int .i64 0, .int .i64 0, .int .i64 0, .int .i64 0, .int .i64 0, .int .i64 0, .int .i64 0, .int .i64 0, .slice none 0 0, .slice none 0 0] 56)).cell? ⟨w.heap.size, 2, none⟩ = some (.int .i64 x.kind) := by simp [go_sem]
  have fc2 : ((w.alloc (Obj.cells #[.int .i64 ep, .int .i64 dg, .int .i64 x.kind, .int .i64 x.job, .int .i64 x.every, .int .i64 x.time, .int .i64 x.client, .int .i64 at_, .int .i64 ln, .int .i64 pl, .slice A n c, .slice A' m d] 56)).alloc (Obj.cells #[.int .i64 0, .int .i64 0, .int .i64 0, .int .i64 0, .int .i64 0, .int .i64 0, .int .i64 0, .int .i64 0, .int .i64 0, .int .i64 0, .slice none 0 0, .slice none 0 0] 56)).frozen? ⟨w.heap.size, 2, none⟩ = false := by simp [go_sem]
  have c3 : ((w.alloc (Obj.cells #[.int .i64 ep, .int .i64 dg, .int .i64 x.kind, .int .i64 x.job, .int .i64 x.every, .int .i64 x.time, .int .i64 x.client, .int .i64 at_, .int .i64 ln, .int .i64 pl, .slice A n c, .slice A' m d] 56)).alloc (Obj.cells #[.int .i64 0, .int .i64 0, .int .i64 0, .int .i64 0, .int .i64 0, .int .i64 0, .int .i64 0, .int .i64 0, .int .i64 0, .int .i64 0, .slice none 0 0, .slice none 0 0] 56)).cell? ⟨w.heap.size, 3, none⟩ = some (.int .i64 x.job) := by simp [go_sem]
  have fc3 : ((w.alloc (Obj.cells #[.int .i64 ep, .int .i64 dg, .int .i64 x.kind, .int .i64 x.job, .int .i64 x.every, .int .i64 x.time, .int .i64 x.client, .int .i64 at_, .int .i64 ln, .int .i64 pl, .slice A n c, .slice A' m d] 56)).alloc (Obj.cells #[.int .i64 0, .int .i64 0, .int .i64 0, .int .i64 0, .int .i64 0, .int .i64 0, .int .i64 0, .int .i64 0, .int .i64 0, .int .i64 0, .slice none 0 0, .slice none 0 0] 56)).frozen? ⟨w.heap.size, 3, none⟩ = false := by simp [go_sem]
  have c4 : ((w.alloc (Obj.cells #[.int .i64 ep, .int .i64 dg, .int .i64 x.kind, .int .i64 x.job, .int .i64 x.every, .int .i64 x.time, .int .i64 x.client, .int .i64 at_, .int .i64 ln, .int .i64 pl, .slice A n c, .slice A' m d] 56)).alloc (Obj.cells #[.int .i64 0, .int .i64 0, .int .i64 0, .int .i64 0, .int .i64 0, .int .i64 0, .int .i64 0, .int .i64 0, .int .i64 0, .int .i64 0, .slice none 0 0, .slice none 0 0] 56)).cell? ⟨w.heap.size, 4, none⟩ = some (.int .i64 x.every) := by simp [go_sem]
  have fc4 : ((w.alloc (Obj.cells #[.int .i64 ep, .int .i64 dg, .int .i64 x.kind, .int .i64 x.job, .int .i64 x.every, .int .i64 x.time, .int .i64 x.client, .int .i64 at_, .int .i64 ln, .int .i64 pl, .slice A n c, .slice A' m d] 56)).alloc (Obj.cells #[.int .i64 0, .int .i64 0, .int .i64 0, .int .i64 0, .int .i64 0, .int .i64 0, .int .i64 0, .int .i64 0, .int .i64 0, .int .i64 0, .slice none 0 0, .slice none 0 0] 56)).frozen? ⟨w.heap.size, 4, none⟩ = false := by simp [go_sem]
  have c5 : ((w.alloc (Obj.cells #[.int .i64 ep, .int .i64 dg, .int .i64 x.kind, .int .i64 x.job, .int .i64 x.every, .int .i64 x.time, .int .i64 x.client, .int .i64 at_, .int .i64 ln, .int .i64 pl, .slice A n c, .slice A' m d] 56)).alloc (Obj.cells #[.int .i64 0, .int .i64 0, .int .i64 0, .int .i64 0, .int .i64 0, .int .i64 0, .int .i64 0, .int .i64 0, .int .i64 0, .int .i64 0, .slice none 0 0, .slice none 0 0] 56)).cell? ⟨w.heap.size, 5, none⟩ = some (.int .i64 x.time) := by simp [go_sem]
  have fc5 : ((w.alloc (Obj.cells #[.int .i64 ep, .int .i64 dg, .int .i64 x.kind, .int .i64 x.job, .int .i64 x.every, .int .i64 x.time, .int .i64 x.client, .int .i64 at_, .int .i64 ln, .int .i64 pl, .slice A n c, .slice A' m d] 56)).alloc (Obj.cells #[.int .i64 0, .int .i64 0, .int .i64 0, .int .i64 0, .int .i64 0, .int .i64 0, .int .i64 0, .int .i64 0, .int .i64 0, .int .i64 0, .slice none 0 0, .slice none 0 0] 56)).frozen? ⟨w.heap.size, 5, none⟩ = false := by simp [go_sem]
  have c6 : ((w.alloc (Obj.cells #[.int .i64 ep, .int .i64 dg, .int .i64 x.kind, .int .i64 x.job, .int .i64 x.every, .int .i64 x.time, .int .i64 x.client, .int .i64 at_, .int .i64 ln, .int .i64 pl, .slice A n c, .slice A' m d] 56)).alloc (Obj.cells #[.int .i64 0, .int .i64 0, .int .i64 0, .int .i64 0, .int .i64 0, .int .i64 0, .int .i64 0, .int .i64 0, .int .i64 0, .int .i64 0, .slice none 0 0, .slice none 0 0] 56)).cell? ⟨w.heap.size, 6, none⟩ = some (.int .i64 x.client) := by simp [go_sem]
  have fc6 : ((w.alloc (Obj.cells #[.int .i64 ep, .int .i64 dg, .int .i64 x.kind, .int .i64 x.job, .int .i64 x.every, .int .i64 x.time, .int .i64 x.client, .int .i64 at_, .int .i64 ln, .int .i64 pl, .slice A n c, .slice A' m d] 56)).alloc (Obj.cells #[.int .i64 0, .int .i64 0, .int .i64 0, .int .i64 0, .int .i64 0, .int .i64 0, .int .i64 0, .int .i64 0, .int .i64 0, .int .i64 0, .slice none 0 0, .slice none 0 0] 56)).frozen? ⟨w.heap.size, 6, none⟩ = false := by simp [go_sem]
  have c7 : ((w.alloc (Obj.cells #[.int .i64 ep, .int .i64 dg, .int .i64 x.kind, .int .i64 x.job, .int .i64 x.every, .int .i64 x.time, .int .i64 x.client, .int .i64 at_, .int .i64 ln, .int .i64 pl, .slice A n c, .slice A' m d] 56)).alloc (Obj.cells #[.int .i64 0, .int .i64 0, .int .i64 0, .int .i64 0, .int .i64 0, .int .i64 0, .int .i64 0, .int .i64 0, .int .i64 0, .int .i64 0, .slice none 0 0, .slice none 0 0] 56)).cell? ⟨w.heap.size, 7, none⟩ = some (.int .i64 at_) := by simp [go_sem]
  have fc7 : ((w.alloc (Obj.cells #[.int .i64 ep, .int .i64 dg, .int .i64 x.kind, .int .i64 x.job, .int .i64 x.every, .int .i64 x.time, .int .i64 x.client, .int .i64 at_, .int .i64 ln, .int .i64 pl, .slice A n c, .slice A' m d] 56)).alloc (Obj.cells #[.int .i64 0, .int .i64 0, .int .i64 0, .int .i64 0, .int .i64 0, .int .i64 0, .int .i64 0, .int .i64 0, .int .i64 0, .int .i64 0, .slice none 0 0, .slice none 0 0] 56)).frozen? ⟨w.heap.size, 7, none⟩ = false := by simp [go_sem]
  have c8 : ((w.alloc (Obj.cells #[.int .i64 ep, .int .i64 dg, .int .i64 x.kind, .int .i64 x.job, .int .i64 x.every, .int .i64 x.time, .int .i64 x.client, .int .i64 at_, .int .i64 ln, .int .i64 pl, .slice A n c, .slice A' m d] 56)).alloc (Obj.cells #[.int .i64 0, .int .i64 0, .int .i64 0, .int .i64 0, .int .i64 0, .int .i64 0, .int .i64 0, .int .i64 0, .int .i64 0, .int .i64 0, .slice none 0 0, .slice none 0 0] 56)).cell? ⟨w.heap.size, 8, none⟩ = some (.int .i64 ln) := by simp [go_sem]
  have fc8 : ((w.alloc (Obj.cells #[.int .i64 ep, .int .i64 dg, .int .i64 x.kind, .int .i64 x.job, .int .i64 x.every, .int .i64 x.time, .int .i64 x.client, .int .i64 at_, .int .i64 ln, .int .i64 pl, .slice A n c, .slice A' m d] 56)).alloc (Obj.cells #[.int .i64 0, .int .i64 0, .int .i64 0, .int .i64 0, .int .i64 0, .int .i64 0, .int .i64 0, .int .i64 0, .int .i64 0, .int .i64 0, .slice none 0 0, .slice none 0 0] 56)).frozen? ⟨w.heap.size, 8, none⟩ = false := by simp [go_sem]
  have c9 : ((w.alloc (Obj.cells #[.int .i64 ep, .int .i64 dg, .int .i64 x.kind, .int .i64 x.job, .int .i64 x.every, .int .i64 x.time, .int .i64 x.client, .int .i64 at_, .int .i64 ln, .int .i64 pl, .slice A n c, .slice A' m d] 56)).alloc (Obj.cells #[.int .i64 0, .int .i64 0, .int .i64 0, .int .i64 0, .int .i64 0, .int .i64 0, .int .i64 0, .int .i64 0, .int .i64 0, .int .i64 0, .slice none 0 0, .slice none 0 0] 56)).cell? ⟨w.heap.size, 9, none⟩ = some (.int .i64 pl) := by simp [go_sem]
  have fc9 : ((w.alloc (Obj.cells #[.int .i64 ep, .int .i64 dg, .int .i64 x.kind, .int .i64 x.job, .int .i64 x.every, .int .i64 x.time, .int .i64 x.client, .int .i64 at_, .int .i64 ln, .int .i64 pl, .slice A n c, .slice A' m d] 56)).alloc (Obj.cells #[.int .i64 0, .int .i64 0, .int .i64 0, .int .i64 0, .int .i64 0, .int .i64 0, .int .i64 0, .int .i64 0, .int .i64 0, .int .i64 0, .slice none 0 0, .slice none 0 0] 56)).frozen? ⟨w.heap.size, 9, none⟩ = false := by simp [go_sem]
  have c10 : ((w.alloc (Obj.cells #[.int .i64 ep, .int .i64 dg, .int .i64 x.kind, .int .i64 x.job, .int .i64 x.every, .int .i64 x.time, .int .i64 x.client, .int .i64 at_, .int .i64 ln, .int .i64 pl, .slice A n c, .slice A' m d] 56)).alloc (Obj.cells #[.int .i64 0, .int .i64 0, .int .i64 0, .int .i64 0, .int .i64 0, .int .i64 0, .int .i64 0, .int .i64 0, .int .i64 0, .int .i64 0, .slice none 0 0, .slice none 0 0] 56)).cell? ⟨w.heap.size, 10, none⟩ = some (.slice A n c) := by simp [go_sem]
  have fc10 : ((w.alloc (Obj.cells #[.int .i64 ep, .int .i64 dg, .int .i64 x.kind, .int .i64 x.job, .int .i64 x.every, .int .i64 x.time, .int .i64 x.client, .int .i64 at_, .int .i64 ln, .int .i64 pl, .slice A n c, .slice A' m d] 56)).alloc (Obj.cells #[.int .i64 0, .int .i64 0, .int .i64 0, .int .i64 0, .int .i64 0, .int .i64 0, .int .i64 0, .int .i64 0, .int .i64 0, .int .i64 0, .slice none 0 0, .slice none 0 0] 56)).frozen? ⟨w.heap.size, 10, none⟩ = false := by simp [go_sem]
  have c11 : ((w.alloc (Obj.cells #[.int .i64 ep, .int .i64 dg, .int .i64 x.kind, .int .i64 x.job, .int .i64 x.every, .int .i64 x.time, .int .i64 x.client, .int .i64 at_, .int .i64 ln, .int .i64 pl, .slice A n c, .slice A' m d] 56)).alloc (Obj.cells #[.int .i64 0, .int .i64 0, .int .i64 0, .int .i64 0, .int .i64 0, .int .i64 0, .int .i64 0, .int .i64 0, .int .i64 0, .int .i64 0, .slice none 0 0, .slice none 0 0] 56)).cell? ⟨w.heap.size, 11, none⟩ = some (.slice A' m d) := by simp [go_sem]
  have fc11 : ((w.alloc (Obj.cells #[.int .i64 ep, .int .i64 dg, .int .i64 x.kind, .int .i64 x.job, .int .i64 x.every, .int .i64 x.time, .int .i64 x.client, .int .i64 at_, .int .i64 ln, .int .i64 pl, .slice A n c, .slice A' m d] 56)).alloc (Obj.cells #[.int .i64 0, .int .i64 0, .int .i64 0, .int .i64 0, .int .i64 0, .int .i64 0, .int .i64 0, .int .i64 0, .int .i64 0, .int .i64 0, .slice none 0 0, .slice none 0 0] 56)).frozen? ⟨w.heap.size, 11, none⟩ = false := by simp [go_sem]
  have p0 : ((w.alloc (Obj.cells #[.int .i64 ep, .int .i64 dg, .int .i64 x.kind, .int .i64 x.job, .int .i64 x.every, .int .i64 x.time, .int .i64 x.client, .int .i64 at_, .int .i64 ln, .int .i64 pl, .slice A n c, .slice A' m d] 56)).alloc (Obj.cells #[.int .i64 0, .int .i64 0, .int .i64 0, .int .i64 0, .int .i64 0, .int .i64 0, .int .i64 0, .int .i64 0, .int .i64 0, .int .i64 0, .slice none 0 0, .slice none 0 0] 56)).cell? ⟨w.heap.size + 1, 0, none⟩ = some (.int .i64 0) := by simp [go_sem]
  have fp0 : ((w.alloc (Obj.cells #[.int .i64 ep, .int .i64 dg, .int .i64 x.kind, .int .i64 x.job, .int .i64 x.every, .int .i64 x.time, .int .i64 x.client, .int .i64 at_, .int .i64 ln, .int .i64 pl, .slice A n c, .slice A' m d] 56)).alloc (Obj.cells #[.int .i64 0, .int .i64 0, .int .i64 0, .int .i64 0, .int .i64 0, .int .i64 0, .int .i64 0, .int .i64 0, .int .i64 0, .int .i64 0, .slice none 0 0, .slice none 0 0] 56)).frozen? ⟨w.heap.size + 1, 0, none⟩ = false := by simp [go_sem]
  have p1 : ((w.alloc (Obj.cells #[.int .i64 ep, .int .i64 dg, .int .i64 x.kind, .int .i64 x.job, .int .i64 x.every, .int .i64 x.time, .int .i64 x.client, .int .i64 at_, .int .i64 ln, .int .i64 pl, .slice A n c, .slice A' m d] 56)).alloc (Obj.cells #[.int .i64 0, .int .i64 0, .int .i64 0, .int .i64 0, .int .i64 0, .int .i64 0, .int .i64 0, .int .i64 0, .int .i64 0, .int .i64 0, .slice none 0 0, .slice none 0 0] 56)).cell? ⟨w.heap.size + 1, 1, none⟩ = some (.int .i64 0) := by simp [go_sem]
  have fp1 : ((w.alloc (Obj.cells #[.int .i64 ep, .int .i64 dg, .int .i64 x.kind, .int .i64 x.job, .int .i64 x.every, .int .i64 x.time, .int .i64 x.client, .int .i64 at_, .int .i64 ln, .int .i64 pl, .slice A n c, .slice A' m d] 56)).alloc (Obj.cells #[.int .i64 0, .int .i64 0, .int .i64 0, .int .i64 0, .int .i64 0, .int .i64 0, .int .i64 0, .int .i64 0, .int .i64 0, .int .i64 0, .slice none 0 0, .slice none 0 0] 56)).frozen? ⟨w.heap.size + 1, 1, none⟩ = false := by simp [go_sem]
  have p2 : ((w.alloc (Obj.cells #[.int .i64 ep, .int .i64 dg, .int .i64 x.kind, .int .i64 x.job, .int .i64 x.every, .int .i64 x.time, .int .i64 x.client, .int .i64 at_, .int .i64 ln, .int .i64 pl, .slice A n c, .slice A' m d] 56)).alloc (Obj.cells #[.int .i64 0, .int .i64 0, .int .i64 0, .int .i64 0, .int .i64 0, .int .i64 0, .int .i64 0, .int .i64 0, .int .i64 0, .int .i64 0, .slice none 0 0, .slice none 0 0] 56)).cell? ⟨w.heap.size + 1, 2, none⟩ = some (.int .i64 0) := by simp [go_sem]
  have fp2 : ((w.alloc (Obj.cells #[.int .i64 ep, .int .i64 dg, .int .i64 x.kind, .int .i64 x.job, .int .i64 x.every, .int .i64 x.time, .int .i64 x.client, .int .i64 at_, .int .i64 ln, .int .i64 pl, .slice A n c, .slice A' m d] 56)).alloc (Obj.cells #[.int .i64 0, .int .i64 0, .int .i64 0, .int .i64 0, .int .i64 0, .int .i64 0, .int .i64 0, .int .i64 0, .int .i64 0, .int .i64 0, .slice none 0 0, .slice none 0 0] 56)).frozen? ⟨w.heap.size + 1, 2, none⟩ = false := by simp [go_sem]
  have p3 : ((w.alloc (Obj.cells #[.int .i64 ep, .int .i64 dg, .int .i64 x.kind, .int .i64 x.job, .int .i64 x.every, .int .i64 x.time, .int .i64 x.client, .int .i64 at_, .int .i64 ln, .int .i64 pl, .slice A n c, .slice A' m d] 56)).alloc (Obj.cells #[.int .i64 0, .int .i64 0, .int .i64 0, .int .i64 0, .int .i64 0, .int .i64 0, .int .i64 0, .int .i64 0, .int .i64 0, .int .i64 0, .slice none 0 0, .slice none 0 0] 56)).cell? ⟨w.heap.size + 1, 3, none⟩ = some (.int .i64 0) := by simp [go_sem]
  have fp3 : ((w.alloc (Obj.cells #[.int .i64 ep, .int .i64 dg, .int .i64 x.kind, .int .i64 x.job, .int .i64 x.every, .int .i64 x.time, .int .i64 x.client, .int .i64 at_, .int .i64 ln, .int .i64 pl, .slice A n c, .slice A' m d] 56)).alloc (Obj.cells #[.int .i64 0, .int .i64 0, .int .i64 0, .int .i64 0, .int .i64 0, .int .i64 0, .int .i64 0, .int .i64 0, .int .i64 0, .int .i64 0, .slice none 0 0, .slice none 0 0] 56)).frozen? ⟨w.heap.size + 1, 3, none⟩ = false := by simp [go_sem]
  have p4 : ((w.alloc (Obj.cells #[.int .i64 ep, .int .i64 dg, .int .i64 x.kind, .int .i64 x.job, .int .i64 x.every, .int .i64 x.time, .int .i64 x.client, .int .i64 at_, .int .i64 ln, .int .i64 pl, .slice A n c, .slice A' m d] 56)).alloc (Obj.cells #[.int .i64 0, .int .i64 0, .int .i64 0, .int .i64 0, .int .i64 0, .int .i64 0, .int .i64 0, .int .i64 0, .int .i64 0, .int .i64 0, .slice none 0 0, .slice none 0 0] 56)).cell? ⟨w.heap.size + 1, 4, none⟩ = some (.int .i64 0) := by simp [go_sem]
  have fp4 : ((w.alloc (Obj.cells #[.int .i64 ep, .int .i64 dg, .int .i64 x.kind, .int .i64 x.job, .int .i64 x.every, .int .i64 x.time, .int .i64 x.client, .int .i64 at_, .int .i64 ln, .int .i64 pl, .slice A n c, .slice A' m d] 56)).alloc (Obj.cells #[.int .i64 0, .int .i64 0, .int .i64 0, .int .i64 0, .int .i64 0, .int .i64 0, .int .i64 0, .int .i64 0, .int .i64 0, .int .i64 0, .slice none 0 0, .slice none 0 0] 56)).frozen? ⟨w.heap.size + 1, 4, none⟩ = false := by simp [go_sem]
  have p5 : ((w.alloc (Obj.cells #[.int .i64 ep, .int .i64 dg, .int .i64 x.kind, .int .i64 x.job, .int .i64 x.every, .int .i64 x.time, .int .i64 x.client, .int .i64 at_, .int .i64 ln, .int .i64 pl, .slice A n c, .slice A' m d] 56)).alloc (Obj.cells #[.int .i64 0, .int .i64 0, .int .i64 0, .int .i64 0, .int .i64 0, .int .i64 0, .int .i64 0, .int .i64 0, .int .i64 0, .int .i64 0, .slice none 0 0, .slice none 0 0] 56)).cell? ⟨w.heap.size + 1, 5, none⟩ = some (.int .i64 0) := by simp [go_sem]
  have fp5 : ((w.alloc (Obj.cells #[.int .i64 ep, .int .i64 dg, .int .i64 x.kind, .int .i64 x.job, .int .i64 x.every, .int .i64 x.time, .int .i64 x.client, .int .i64 at_, .int .i64 ln, .int .i64 pl, .slice A n c, .slice A' m d] 56)).alloc (Obj.cells #[.int .i64 0, .int .i64 0, .int .i64 0, .int .i64 0, .int .i64 0, .int .i64 0, .int .i64 0, .int .i64 0, .int .i64 0, .int .i64 0, .slice none 0 0, .slice none 0 0] 56)).frozen? ⟨w.heap.size + 1, 5, none⟩ = false := by simp [go_sem]
  have p6 : ((w.alloc (Obj.cells #[.int .i64 ep, .int .i64 dg, .int .i64 x.kind, .int .i64 x.job, .int .i64 x.every, .int .i64 x.time, .int .i64 x.client, .int .i64 at_, .int .i64 ln, .int .i64 pl, .slice A n c, .slice A' m d] 56)).alloc (Obj.cells #[.int .i64 0, .int .i64 0, .int .i64 0, .int .i64 0, .int .i64 0, .int .i64 0, .int .i64 0, .int .i64 0, .int .i64 0, .int .i64 0, .slice none 0 0, .slice none 0 0] 56)).cell? ⟨w.heap.size + 1, 6, none⟩ = some (.int .i64 0) := by simp [go_sem]
  have fp6 : ((w.alloc (Obj.cells #[.int .i64 ep, .int .i64 dg, .int .i64 x.kind, .int .i64 x.job, .int .i64 x.every, .int .i64 x.time, .int .i64 x.client, .int .i64 at_, .int .i64 ln, .int .i64 pl, .slice A n c, .slice A' m d] 56)).alloc (Obj.cells #[.int .i64 0, .int .i64 0, .int .i64 0, .int .i64 0, .int .i64 0, .int .i64 0, .int .i64 0, .int .i64 0, .int .i64 0, .int .i64 0, .slice none 0 0, .slice none 0 0] 56)).frozen? ⟨w.heap.size + 1, 6, none⟩ = false := by simp [go_sem]
  have p7 : ((w.alloc (Obj.cells #[.int .i64 ep, .int .i64 dg, .int .i64 x.kind, .int .i64 x.job, .int .i64 x.every, .int .i64 x.time, .int .i64 x.client, .int .i64 at_, .int .i64 ln, .int .i64 pl, .slice A n c, .slice A' m d] 56)).alloc (Obj.cells #[.int .i64 0, .int .i64 0, .int .i64 0, .int .i64 0, .int .i64 0, .int .i64 0, .int .i64 0, .int .i64 0, .int .i64 0, .int .i64 0, .slice none 0 0, .slice none 0 0] 56)).cell? ⟨w.heap.size + 1, 7, none⟩ = some (.int .i64 0) := by simp [go_sem]
  have fp7 : ((w.alloc (Obj.cells #[.int .i64 ep, .int .i64 dg, .int .i64 x.kind, .int .i64 x.job, .int .i64 x.every, .int .i64 x.time, .int .i64 x.client, .int .i64 at_, .int .i64 ln, .int .i64 pl, .slice A n c, .slice A' m d] 56)).alloc (Obj.cells #[.int .i64 0, .int .i64 0, .int .i64 0, .int .i64 0, .int .i64 0, .int .i64 0, .int .i64 0, .int .i64 0, .int .i64 0, .int .i64 0, .slice none 0 0, .slice none 0 0] 56)).frozen? ⟨w.heap.size + 1, 7, none⟩ = false := by simp [go_sem]
  have p8 : ((w.alloc (Obj.cells #[.int .i64 ep, .int .i64 dg, .int .i64 x.kind, .int .i64 x.job, .int .i64 x.every, .int .i64 x.time, .int .i64 x.client, .int .i64 at_, .int .i64 ln, .int .i64 pl, .slice A n c, .slice A' m d] 56)).alloc (Obj.cells #[.int .i64 0, .int .i64 0, .int .i64 0, .int .i64 0, .int .i64 0, .int .i64 0, .int .i64 0, .int .i64 0, .int .i64 0, .int .i64 0, .slice none 0 0, .slice none 0 0] 56)).cell? ⟨w.heap.size + 1, 8, none⟩ = some (.int .i64 0) := by simp [go_sem]
  have fp8 : ((w.alloc (Obj.cells #[.int .i64 ep, .int .i64 dg, .int .i64 x.kind, .int .i64 x.job, .int .i64 x.every, .int .i64 x.time, .int .i64 x.client, .int .i64 at_, .int .i64 ln, .int .i64 pl, .slice A n c, .slice A' m d] 56)).alloc (Obj.cells #[.int .i64 0, .int .i64 0, .int .i64 0, .int .i64 0, .int .i64 0, .int .i64 0, .int .i64 0, .int .i64 0, .int .i64 0, .int .i64 0, .slice none 0 0, .slice none 0 0] 56)).frozen? ⟨w.heap.size + 1, 8, none⟩ = false := by simp [go_sem]
  have p9 : ((w.alloc (Obj.cells #[.int .i64 ep, .int .i64 dg, .int .i64 x.kind, .int .i64 x.job, .int .i64 x.every, .int .i64 x.time, .int .i64 x.client, .int .i64 at_, .int .i64 ln, .int .i64 pl, .slice A n c, .slice A' m d] 56)).alloc (Obj.cells #[.int .i64 0, .int .i64 0, .int .i64 0, .int .i64 0, .int .i64 0, .int .i64 0, .int .i64 0, .int .i64 0, .int .i64 0, .int .i64 0, .slice none 0 0, .slice none 0 0] 56)).cell? ⟨w.heap.size + 1, 9, none⟩ = some (.int .i64 0) := by simp [go_sem]
  have fp9 : ((w.alloc (Obj.cells #[.int .i64 ep, .int .i64 dg, .int .i64 x.kind, .int .i64 x.job, .int .i64 x.every, .int .i64 x.time, .int .i64 x.client, .int .i64 at_, .int .i64 ln, .int .i64 pl, .slice A n c, .slice A' m d] 56)).alloc (Obj.cells #[.int .i64 0, .int .i64 0, .int .i64 0, .int .i64 0, .int .i64 0, .int .i64 0, .int .i64 0, .int .i64 0, .int .i64 0, .int .i64 0, .slice none 0 0, .slice none 0 0] 56)).frozen? ⟨w.heap.size + 1, 9, none⟩ = false := by simp [go_sem]
  have p10 : ((w.alloc (Obj.cells #[.int .i64 ep, .int .i64 dg, .int .i64 x.kind, .int .i64 x.job, .int .i64 x.every, .int .i64 x.time, .int .i64 x.client, .int .i64 at_, .int .i64 ln, .int .i64 pl, .slice A n c, .slice A' m d] 56)).alloc (Obj.cells #[.int .i64 0, .int .i64 0, .int .i64 0, .int .i64 0, .int .i64 0, .int .i64 0, .int .i64 0, .int .i64 0, .int .i64 0, .int .i64 0, .slice none 0 0, .slice none 0 0] 56)).cell? ⟨w.heap.size + 1, 10, none⟩ = some (.slice none 0 0) := by simp [go_sem]
  have fp10 : ((w.alloc (Obj.cells #[.int .i64 ep, .int .i64 dg, .int .i64 x.kind, .int .i64 x.job, .int .i64 x.every, .int .i64 x.time, .int .i64 x.client, .int .i64 at_, .int .i64 ln, .int .i64 pl, .slice A n c, .slice A' m d] 56)).alloc (Obj.cells #[.int .i64 0, .int .i64 0, .int .i64 0, .int .i64 0, .int .i64 0, .int .i64 0, .int .i64 0, .int .i64 0, .int .i64 0, .int .i64 0, .slice none 0 0, .slice none 0 0] 56)).frozen? ⟨w.heap.size + 1, 10, none⟩ = false := by simp [go_sem]
  have p11 : ((w.alloc (Obj.cells #[.int .i64 ep, .int .i64 dg, .int .i64 x.kind, .int .i64 x.job, .int .i64 x.every, .int .i64 x.time, .int .i64 x.client, .int .i64 at_, .int .i64 ln, .int .i64 pl, .slice A n c, .slice A' m d] 56)).alloc (Obj.cells #[.int .i64 0, .int .i64 0, .int .i64 0, .int .i64 0, .int .i64 0, .int .i64 0, .int .i64 0, .int .i64 0, .int .i64 0, .int .i64 0, .slice none 0 0, .slice none 0 0] 56)).cell? ⟨w.heap.size + 1, 11, none⟩ = some (.slice none 0 0) := by simp [go_sem]
  have fp11 : ((w.alloc (Obj.cells #[.int .i64 ep, .int .i64 dg, .int .i64 x.kind, .int .i64 x.job, .int .i64 x.every, .int .i64 x.time, .int .i64 x.client, .int .i64 at_, .int .i64 ln, .int .i64 pl, .slice A n c, .slice A' m d] 56)).alloc (Obj.cells #[.int .i64 0, .int .i64 0, .int .i64 0, .int .i64 0, .int .i64 0, .int .i64 0, .int .i64 0, .int .i64 0, .int .i64 0, .int .i64 0, .slice none 0 0, .slice none 0 0] 56)).frozen? ⟨w.heap.size + 1, 11, none⟩ = false := by simp [go_sem]
  change Code.wp _ _ _ _ ((w.alloc (Obj.cells #[.int .i64 ep, .int .i64 dg, .int .i64 x.kind, .int .i64 x.job, .int .i64 x.every, .int .i64 x.time, .int .i64 x.client, .int .i64 at_, .int .i64 ln, .int .i64 pl, .slice A n c, .slice A' m d] 56)).alloc (Obj.cells #[.int .i64 0, .int .i64 0, .int .i64 0, .int .i64 0, .int .i64 0, .int .i64 0, .int .i64 0, .int .i64 0, .int .i64 0, .int .i64 0, .slice none 0 0, .slice none 0 0] 56))
  generalize ((w.alloc (Obj.cells #[.int .i64 ep, .int .i64 dg, .int .i64 x.kind, .int .i64 x.job, .int .i64 x.every, .int .i64 x.time, .int .i64 x.client, .int .i64 at_, .int .i64 ln, .int .i64 pl, .slice A n c, .slice A' m d] 56)).alloc (Obj.cells #[.int .i64 0, .int .i64 0, .int .i64 0, .int .i64 0, .int .i64 0, .int .i64 0, .int .i64 0, .int .i64 0, .int .i64 0, .int .i64 0, .slice none 0 0, .slice none 0 0] 56)) = w0 at *
  have hz0 : w.heap.size + 1 < w0.heap.size := World.block_lt_of_cell? _ _ p0
  go_wp2_with fail
  refine Calls.mono (ClRests_calls ep dg at_ ln pl x A A' n c m d b _ sA sB) ?_
  rw [← HQ.out]
  rintro e w1 ⟨rfl, hb⟩
  replace fc0 := frozB hb c0 fc0; replace c0 := cellB hb c0
  replace fc1 := frozB hb c1 fc1; replace c1 := cellB hb c1
  replace fc2 := frozB hb c2 fc2; replace c2 := cellB hb c2
  replace fc3 := frozB hb c3 fc3; replace c3 := cellB hb c3
  replace fc4 := frozB hb c4 fc4; replace c4 := cellB hb c4
  replace fc5 := frozB hb c5 fc5; replace c5 := cellB hb c5
  replace fc6 := frozB hb c6 fc6; replace c6 := cellB hb c6
  replace fc7 := frozB hb c7 fc7; replace c7 := cellB hb c7
  replace fc8 := frozB hb c8 fc8; replace c8 := cellB hb c8
  replace fc9 := frozB hb c9 fc9; replace c9 := cellB hb c9
  replace fc10 := frozB hb c10 fc10; replace c10 := cellB hb c10
  replace fc11 := frozB hb c11 fc11; replace c11 := cellB hb c11
  replace fp0 := frozB hb p0 fp0; replace p0 := cellB hb p0
  replace fp1 := frozB hb p1 fp1; replace p1 := cellB hb p1
  replace fp2 := frozB hb p2 fp2; replace p2 := cellB hb p2
  replace fp3 := frozB hb p3 fp3; replace p3 := cellB hb p3
  replace fp4 := frozB hb p4 fp4; replace p4 := cellB hb p4
  replace fp5 := frozB hb p5 fp5; replace p5 := cellB hb p5
  replace fp6 := frozB hb p6 fp6; replace p6 := cellB hb p6
  replace fp7 := frozB hb p7 fp7; replace p7 := cellB hb p7
  replace fp8 := frozB hb p8 fp8; replace p8 := cellB hb p8
  replace fp9 := frozB hb p9 fp9; replace p9 := cellB hb p9
  replace fp10 := frozB hb p10 fp10; replace p10 := cellB hb p10
  replace fp11 := frozB hb p11 fp11; replace p11 := cellB hb p11
  replace sA := S.onto sA hb
  replace sB := S.onto sB hb
  replace hon := Onto.to hon hb
  have hz1 := sizeB hb hz0
  clear hb hz0
  have hr := HR0.out
  clear HR0
  by_cases h0 : q = 0
  · rw [if_neg (by simp [h0])] at hr
    have hgb := restsCl_book (HQ.out.symm.trans h0)
    dsimp only at hgb
    subst h0
    have HG := Lib.hid hgb; have HR1 := Lib.hid hr
    clear hgb hr
    go_wp2_with fail
    refine Calls.mono (Due_calls A A' n c m d b t _ sA sB) ?_
    rintro e w2 ⟨A1, n1, k1, rfl, s1, hb, fA1, _, _⟩
    have hr := HR1.out
    clear HR1
    replace fc0 := frozB hb c0 fc0; replace c0 := cellB hb c0
    replace fc1 := frozB hb c1 fc1; replace c1 := cellB hb c1
    replace fc2 := frozB hb c2 fc2; replace c2 := cellB hb c2
    replace fc3 := frozB hb c3 fc3; replace c3 := cellB hb c3
    replace fc4 := frozB hb c4 fc4; replace c4 := cellB hb c4
    replace fc5 := frozB hb c5 fc5; replace c5 := cellB hb c5
    replace fc6 := frozB hb c6 fc6; replace c6 := cellB hb c6
    replace fc7 := frozB hb c7 fc7; replace c7 := cellB hb c7
    replace fc8 := frozB hb c8 fc8; replace c8 := cellB hb c8
    replace fc9 := frozB hb c9 fc9; replace c9 := cellB hb c9
    replace fc10 := frozB hb c10 fc10; replace c10 := cellB hb c10
    replace fc11 := frozB hb c11 fc11; replace c11 := cellB hb c11
    replace fp0 := frozB hb p0 fp0; replace p0 := cellB hb p0
    replace fp1 := frozB hb p1 fp1; replace p1 := cellB hb p1
    replace fp2 := frozB hb p2 fp2; replace p2 := cellB hb p2
    replace fp3 := frozB hb p3 fp3; replace p3 := cellB hb p3
    replace fp4 := frozB hb p4 fp4; replace p4 := cellB hb p4
    replace fp5 := frozB hb p5 fp5; replace p5 := cellB hb p5
    replace fp6 := frozB hb p6 fp6; replace p6 := cellB hb p6
    replace fp7 := frozB hb p7 fp7; replace p7 := cellB hb p7
    replace fp8 := frozB hb p8 fp8; replace p8 := cellB hb p8
    replace fp9 := frozB hb p9 fp9; replace p9 := cellB hb p9
    replace fp10 := frozB hb p10 fp10; replace p10 := cellB hb p10
    replace fp11 := frozB hb p11 fp11; replace p11 := cellB hb p11
    replace sA := S.onto sA hb
    replace sB := S.onto sB hb
    replace hon := Onto.to hon hb
    replace hz1 := sizeB hb hz1
    clear hb
    by_cases hc : t < 0 ∨ 100000 < t
    · rw [if_pos hc] at hr
      have hck : checkD b t = 3 := by unfold checkD; rw [if_neg (by simp [checkB_iff.2 HG.out]), if_pos hc]
      rw [hck]
      have HR := Lib.hid hr
      clear hr hc s1 fA1 hck
      go_wp2_with fail
      clear c0 fc0 c1 fc1 c2 fc2 c3 fc3 c4 fc4 c5 fc5 c6 fc6 c7 fc7 c8 fc8 c9 fc9 c10 fc10 c11 fc11
      clear fp0 fp1 fp2 fp3 fp4 fp5 fp6 fp7 fp8 fp9 fp10 fp11
      clear sA sB
      rw [show ((((((((((((w2.setCell ⟨w.heap.size + 1, 0, none⟩ (.int .i64 0)).setCell ⟨w.heap.size + 1, 1, none⟩ (.int .i64 0)).setCell ⟨w.heap.size + 1, 2, none⟩ (.int .i64 0)).setCell ⟨w.heap.size + 1, 3, none⟩ (.int .i64 0)).setCell ⟨w.heap.size + 1, 4, none⟩ (.int .i64 0)).setCell ⟨w.heap.size + 1, 5, none⟩ (.int .i64 0)).setCell ⟨w.heap.size + 1, 6, none⟩ (.int .i64 0)).setCell ⟨w.heap.size + 1, 7, none⟩ (.int .i64 0)).setCell ⟨w.heap.size + 1, 8, none⟩ (.int .i64 0)).setCell ⟨w.heap.size + 1, 9, none⟩ (.int .i64 0)).setCell ⟨w.heap.size + 1, 10, none⟩ (.slice none 0 0)).setCell ⟨w.heap.size + 1, 11, none⟩ (.slice none 0 0)) = (w2.setCells (w.heap.size + 1) 0 [.int .i64 0, .int .i64 0, .int .i64 0, .int .i64 0, .int .i64 0, .int .i64 0, .int .i64 0, .int .i64 0, .int .i64 0, .int .i64 0, .slice none 0 0, .slice none 0 0]) from rfl]
      have F0 : ∀ (j : Nat) vv, ([.int .i64 0, .int .i64 0, .int .i64 0, .int .i64 0, .int .i64 0, .int .i64 0, .int .i64 0, .int .i64 0, .int .i64 0, .int .i64 0, .slice none 0 0, .slice none 0 0] : List Value)[j]? = some vv → (w2.setCells (w.heap.size + 1) 0 [.int .i64 0, .int .i64 0, .int .i64 0, .int .i64 0, .int .i64 0, .int .i64 0, .int .i64 0, .int .i64 0, .int .i64 0, .int .i64 0, .slice none 0 0, .slice none 0 0]).cell? ⟨w.heap.size + 1, j, none⟩ = some vv := fun j vv hv => put_in (w := w2) (b := w.heap.size + 1) (vs := [.int .i64 0, .int .i64 0, .int .i64 0, .int .i64 0, .int .i64 0, .int .i64 0, .int .i64 0, .int .i64 0, .int .i64 0, .int .i64 0, .slice none 0 0, .slice none 0 0]) (there12 p0 p1 p2 p3 p4 p5 p6 p7 p8 p9 p10 p11) hv
      replace hon : Onto w (w2.setCells (w.heap.size + 1) 0 [.int .i64 0, .int .i64 0, .int .i64 0, .int .i64 0, .int .i64 0, .int .i64 0, .int .i64 0, .int .i64 0, .int .i64 0, .int .i64 0, .slice none 0 0, .slice none 0 0]) := put_onto (by omega) hon
      clear p0 p1 p2 p3 p4 p5 p6 p7 p8 p9 p10 p11
      generalize (w2.setCells (w.heap.size + 1) 0 [.int .i64 0, .int .i64 0, .int .i64 0, .int .i64 0, .int .i64 0, .int .i64 0, .int .i64 0, .int .i64 0, .int .i64 0, .int .i64 0, .slice none 0 0, .slice none 0 0]) = wf at *
      have p0 := F0 0 _ rfl
      have p1 := F0 1 _ rfl
      have p2 := F0 2 _ rfl
      have p3 := F0 3 _ rfl
      have p4 := F0 4 _ rfl
      have p5 := F0 5 _ rfl
      have p6 := F0 6 _ rfl
      have p7 := F0 7 _ rfl
      have p8 := F0 8 _ rfl
      have p9 := F0 9 _ rfl
      have p10 := F0 10 _ rfl
      have p11 := F0 11 _ rfl
      clear F0
      refine bodyPost_ret (v := .tuple #[.agg #[.int .i64 0, .int .i64 0, .int .i64 0, .int .i64 0, .int .i64 0, .int .i64 0, .int .i64 0, .int .i64 0, .int .i64 0, .int .i64 0, .slice none 0 0, .slice none 0 0], .int .i64 3]) (by simp [results, Try.results47, go_sem, p0, p1, p2, p3, p4, p5, p6, p7, p8, p9, p10, p11]) rfl ?_
      rw [HR.out]
      exact ⟨none, 0, 0, none, 0, 0, rfl, Sl.nil, Sl.nil, hon⟩
    · rw [if_neg hc] at hr
      have hck : checkD b t = 0 := by unfold checkD; rw [if_neg (by simp [checkB_iff.2 HG.out]), if_neg hc]
      rw [hck, if_pos rfl] at s1
      rw [hck]
      obtain ⟨dl, hdl⟩ : ∃ dl, dl = dueL b.jobs t := ⟨_, rfl⟩
      rw [← hdl] at s1
      have hlen : dl.length = n1 := by have := s1.len; simpa using this
      have hn6 : n1 ≤ 6 := by have h1 := dueL_len b.jobs t; have h2 := HG.out.nj; rw [← hdl] at h1; omega
      have HDL := Lib.hid hdl; have HRM := Lib.hid hr; have HLN := Lib.hid hlen
      clear hdl hr hc hck hlen fA1
      go_wp2_with fail
      clear fc0 fc1 fc2 fc3 fc4 fc5 fc6 fc7 fc8 fc9 fc10 fc11
      go_loopw [34] (fun s wr => ∃ k : Nat, k ≤ n1 ∧ s = .int .i64 k ∧ Hid (∀ (j : Nat) (y : Job), j < k → dl[j]? = some y → y.id ≠ job) ∧ wr.cell? ⟨w.heap.size, 0, none⟩ = some (.int .i64 ep) ∧ wr.cell? ⟨w.heap.size, 1, none⟩ = some (.int .i64 dg) ∧ wr.cell? ⟨w.heap.size, 2, none⟩ = some (.int .i64 x.kind) ∧ wr.cell? ⟨w.heap.size, 3, none⟩ = some (.int .i64 x.job) ∧ wr.cell? ⟨w.heap.size, 4, none⟩ = some (.int .i64 x.every) ∧ wr.cell? ⟨w.heap.size, 5, none⟩ = some (.int .i64 x.time) ∧ wr.cell? ⟨w.heap.size, 6, none⟩ = some (.int .i64 x.client) ∧ wr.cell? ⟨w.heap.size, 7, none⟩ = some (.int .i64 at_) ∧ wr.cell? ⟨w.heap.size, 8, none⟩ = some (.int .i64 ln) ∧ wr.cell? ⟨w.heap.size, 9, none⟩ = some (.int .i64 pl) ∧ wr.cell? ⟨w.heap.size, 10, none⟩ = some (.slice A n c) ∧ wr.cell? ⟨w.heap.size, 11, none⟩ = some (.slice A' m d) ∧ wr.cell? ⟨w.heap.size + 1, 0, none⟩ = some (.int .i64 0) ∧ wr.frozen? ⟨w.heap.size + 1, 0, none⟩ = false ∧ wr.cell? ⟨w.heap.size + 1, 1, none⟩ = some (.int .i64 0) ∧ wr.frozen? ⟨w.heap.size + 1, 1, none⟩ = false ∧ wr.cell? ⟨w.heap.size + 1, 2, none⟩ = some (.int .i64 0) ∧ wr.frozen? ⟨w.heap.size + 1, 2, none⟩ = false ∧ wr.cell? ⟨w.heap.size + 1, 3, none⟩ = some (.int .i64 0) ∧ wr.frozen? ⟨w.heap.size + 1, 3, none⟩ = false ∧ wr.cell? ⟨w.heap.size + 1, 4, none⟩ = some (.int .i64 0) ∧ wr.frozen? ⟨w.heap.size + 1, 4, none⟩ = false ∧ wr.cell? ⟨w.heap.size + 1, 5, none⟩ = some (.int .i64 0) ∧ wr.frozen? ⟨w.heap.size + 1, 5, none⟩ = false ∧ wr.cell? ⟨w.heap.size + 1, 6, none⟩ = some (.int .i64 0) ∧ wr.frozen? ⟨w.heap.size + 1, 6, none⟩ = false ∧ wr.cell? ⟨w.heap.size + 1, 7, none⟩ = some (.int .i64 0) ∧ wr.frozen? ⟨w.heap.size + 1, 7, none⟩ = false ∧ wr.cell? ⟨w.heap.size + 1, 8, none⟩ = some (.int .i64 0) ∧ wr.frozen? ⟨w.heap.size + 1, 8, none⟩ = false ∧ wr.cell? ⟨w.heap.size + 1, 9, none⟩ = some (.int .i64 0) ∧ wr.frozen? ⟨w.heap.size + 1, 9, none⟩ = false ∧ wr.cell? ⟨w.heap.size + 1, 10, none⟩ = some (.slice none 0 0) ∧ wr.frozen? ⟨w.heap.size + 1, 10, none⟩ = false ∧ wr.cell? ⟨w.heap.size + 1, 11, none⟩ = some (.slice none 0 0) ∧ wr.frozen? ⟨w.heap.size + 1, 11, none⟩ = false ∧ S wr 3 A n (b.jobs.map encJ) ∧ S wr 3 A' m (b.rung.map encR) ∧ S wr 3 A1 n1 (dl.map encJ) ∧ Onto w wr) (fun s _ => n1 - (intOf s).toNat)
      case atStart =>
        exact ⟨0, Nat.zero_le _, rfl, (fun j y hj => by omega : ∀ (j : Nat) (y : Job), j < 0 → dl[j]? = some y → y.id ≠ job), c0, c1, c2, c3, c4, c5, c6, c7, c8, c9, c10, c11, p0, fp0, p1, fp1, p2, fp2, p3, fp3, p4, fp4, p5, fp5, p6, fp6, p7, fp7, p8, fp8, p9, fp9, p10, fp10, p11, fp11, sA, sB, s1, hon⟩
      case round =>
      clear c0 c1 c2 c3 c4 c5 c6 c7 c8 c9 c10 c11 p0 fp0 p1 fp1 p2 fp2 p3 fp3 p4 fp4 p5 fp5 p6 fp6 p7 fp7 p8 fp8 p9 fp9 p10 fp10 p11 fp11 sA sB s1 hon hz1
      obtain ⟨k, hk, rfl, HN, c0, c1, c2, c3, c4, c5, c6, c7, c8, c9, c10, c11, p0, fp0, p1, fp1, p2, fp2, p3, fp3, p4, fp4, p5, fp5, p6, fp6, p7, fp7, p8, fp8, p9, fp9, p10, fp10, p11, fp11, sA, sB, s1, hon⟩ := hrel
      have hz1 := lt_cell' p0
      by_cases hlt : k < n1
      · obtain ⟨bb, off, j, rfl, hbb, hj, d0, d1, d2⟩ := s1.atJ hlt
        have HJ := Lib.hid hj
        clear hj hbb
        go_upto_region 10 with fail
        have htw : w.heap.size ≤ wr.heap.size := hon.size
        have hct : w.heap.size < wr.heap.size := World.block_lt_of_cell? _ _ c0
        have hpt : w.heap.size + 1 < wr.heap.size := World.block_lt_of_cell? _ _ p0
        have hbx : Onto wr (wr.alloc (Obj.cells #[.int .i64 j.id, .int .i64 j.every, .int .i64 j.next] 73)) := (Below.refl _ _).alloc (Nat.le_refl _) _
        replace c0 := cellB hbx c0
        replace c1 := cellB hbx c1
        replace c2 := cellB hbx c2
        replace c3 := cellB hbx c3
        replace c4 := cellB hbx c4
        replace c5 := cellB hbx c5
        replace c6 := cellB hbx c6
        replace c7 := cellB hbx c7
        replace c8 := cellB hbx c8
        replace c9 := cellB hbx c9
        replace c10 := cellB hbx c10
        replace c11 := cellB hbx c11
        replace fp0 := frozB hbx p0 fp0; replace p0 := cellB hbx p0
        replace fp1 := frozB hbx p1 fp1; replace p1 := cellB hbx p1
        replace fp2 := frozB hbx p2 fp2; replace p2 := cellB hbx p2
        replace fp3 := frozB hbx p3 fp3; replace p3 := cellB hbx p3
        replace fp4 := frozB hbx p4 fp4; replace p4 := cellB hbx p4
        replace fp5 := frozB hbx p5 fp5; replace p5 := cellB hbx p5
        replace fp6 := frozB hbx p6 fp6; replace p6 := cellB hbx p6
        replace fp7 := frozB hbx p7 fp7; replace p7 := cellB hbx p7
        replace fp8 := frozB hbx p8 fp8; replace p8 := cellB hbx p8
        replace fp9 := frozB hbx p9 fp9; replace p9 := cellB hbx p9
        replace fp10 := frozB hbx p10 fp10; replace p10 := cellB hbx p10
        replace fp11 := frozB hbx p11 fp11; replace p11 := cellB hbx p11
        replace sA := S.onto sA hbx
        replace sB := S.onto sB hbx
        replace s1 := S.onto s1 hbx
        replace hon := Onto.to hon hbx
        have t0 : (wr.alloc (Obj.cells #[.int .i64 j.id, .int .i64 j.every, .int .i64 j.next] 73)).cell? ⟨wr.heap.size, 0, none⟩ = some (.int .i64 j.id) := by simp [go_sem]
        have ft0 : (wr.alloc (Obj.cells #[.int .i64 j.id, .int .i64 j.every, .int .i64 j.next] 73)).frozen? ⟨wr.heap.size, 0, none⟩ = false := by simp [go_sem]
        have t1 : (wr.alloc (Obj.cells #[.int .i64 j.id, .int .i64 j.every, .int .i64 j.next] 73)).cell? ⟨wr.heap.size, 1, none⟩ = some (.int .i64 j.every) := by simp [go_sem]
        have ft1 : (wr.alloc (Obj.cells #[.int .i64 j.id, .int .i64 j.every, .int .i64 j.next] 73)).frozen? ⟨wr.heap.size, 1, none⟩ = false := by simp [go_sem]
        have t2 : (wr.alloc (Obj.cells #[.int .i64 j.id, .int .i64 j.every, .int .i64 j.next] 73)).cell? ⟨wr.heap.size, 2, none⟩ = some (.int .i64 j.next) := by simp [go_sem]
        have ft2 : (wr.alloc (Obj.cells #[.int .i64 j.id, .int .i64 j.every, .int .i64 j.next] 73)).frozen? ⟨wr.heap.size, 2, none⟩ = false := by simp [go_sem]
        change Code.wp _ _ _ _ (wr.alloc (Obj.cells #[.int .i64 j.id, .int .i64 j.every, .int .i64 j.next] 73))
        clear hbx
        generalize (wr.alloc (Obj.cells #[.int .i64 j.id, .int .i64 j.every, .int .i64 j.next] 73)) = w3 at *
        generalize wr.heap.size = Bt at *
        clear d0 d1 d2 hz1
        have hz1 := lt_cell' p0
        by_cases he : j.id = job
        · have hd : (j.id == job) = true := by simpa using he
          have hjm : j ∈ b.jobs ∧ j.next ≤ t := dueL_mem.1 (by rw [← HDL.out]; exact List.mem_of_getElem? HJ.out)
          have hr := HRM.out
          rw [ring_hit (c := ⟨ep, dg, x, at_, ln, pl, b⟩) HG.out hjm.1 hjm.2 he] at hr
          have HR := Lib.hid hr
          clear hr he hjm HRM
          go_wp2_with fail
          refine Calls.mono (ClWant_calls ep dg at_ ln pl x ⟨3, job, 0, j.next, me⟩ A A' n c m d b _ sA sB) ?_
          rw [← HR.out]
          rintro e w5 ⟨A7, n7, k7, A8, n8, k8, rfl, s7, s8, hb, _, _, f7, f8⟩
          have o7 : OffN n7 (w.heap.size + 1) A7 := f7.offN hz1
          have o8 : OffN n8 (w.heap.size + 1) A8 := f8.offN hz1
          clear sA sB s1 f7 f8
          replace c0 := cellB hb c0
          replace c1 := cellB hb c1
          replace c2 := cellB hb c2
          replace c3 := cellB hb c3
          replace c4 := cellB hb c4
          replace c5 := cellB hb c5
          replace c6 := cellB hb c6
          replace c7 := cellB hb c7
          replace c8 := cellB hb c8
          replace c9 := cellB hb c9
          replace c10 := cellB hb c10
          replace c11 := cellB hb c11
          replace fp0 := frozB hb p0 fp0; replace p0 := cellB hb p0
          replace fp1 := frozB hb p1 fp1; replace p1 := cellB hb p1
          replace fp2 := frozB hb p2 fp2; replace p2 := cellB hb p2
          replace fp3 := frozB hb p3 fp3; replace p3 := cellB hb p3
          replace fp4 := frozB hb p4 fp4; replace p4 := cellB hb p4
          replace fp5 := frozB hb p5 fp5; replace p5 := cellB hb p5
          replace fp6 := frozB hb p6 fp6; replace p6 := cellB hb p6
          replace fp7 := frozB hb p7 fp7; replace p7 := cellB hb p7
          replace fp8 := frozB hb p8 fp8; replace p8 := cellB hb p8
          replace fp9 := frozB hb p9 fp9; replace p9 := cellB hb p9
          replace fp10 := frozB hb p10 fp10; replace p10 := cellB hb p10
          replace fp11 := frozB hb p11 fp11; replace p11 := cellB hb p11
          replace ft0 := frozB hb t0 ft0; replace t0 := cellB hb t0
          replace ft1 := frozB hb t1 ft1; replace t1 := cellB hb t1
          replace ft2 := frozB hb t2 ft2; replace t2 := cellB hb t2
          replace hon := Onto.to hon hb
          clear hb
          go_wp2_with fail
          clear c0 c1 c2 c3 c4 c5 c6 c7 c8 c9 c10 c11
          clear t0 ft0 t1 ft1 t2 ft2
          clear fp0 fp1 fp2 fp3 fp4 fp5 fp6 fp7 fp8 fp9 fp10 fp11
          rw [show ((((((((((((w5.setCell ⟨w.heap.size + 1, 0, none⟩ (.int .i64 r.1.epoch)).setCell ⟨w.heap.size + 1, 1, none⟩ (.int .i64 r.1.doing)).setCell ⟨w.heap.size + 1, 2, none⟩ (.int .i64 r.1.e.kind)).setCell ⟨w.heap.size + 1, 3, none⟩ (.int .i64 r.1.e.job)).setCell ⟨w.heap.size + 1, 4, none⟩ (.int .i64 r.1.e.every)).setCell ⟨w.heap.size + 1, 5, none⟩ (.int .i64 r.1.e.time)).setCell ⟨w.heap.size + 1, 6, none⟩ (.int .i64 r.1.e.client)).setCell ⟨w.heap.size + 1, 7, none⟩ (.int .i64 r.1.at_)).setCell ⟨w.heap.size + 1, 8, none⟩ (.int .i64 r.1.link)).setCell ⟨w.heap.size + 1, 9, none⟩ (.int .i64 r.1.played)).setCell ⟨w.heap.size + 1, 10, none⟩ (.slice A7 n7 k7)).setCell ⟨w.heap.size + 1, 11, none⟩ (.slice A8 n8 k8)) = (w5.setCells (w.heap.size + 1) 0 [.int .i64 r.1.epoch, .int .i64 r.1.doing, .int .i64 r.1.e.kind, .int .i64 r.1.e.job, .int .i64 r.1.e.every, .int .i64 r.1.e.time, .int .i64 r.1.e.client, .int .i64 r.1.at_, .int .i64 r.1.link, .int .i64 r.1.played, .slice A7 n7 k7, .slice A8 n8 k8]) from rfl]
          have F0 : ∀ (j : Nat) vv, ([.int .i64 r.1.epoch, .int .i64 r.1.doing, .int .i64 r.1.e.kind, .int .i64 r.1.e.job, .int .i64 r.1.e.every, .int .i64 r.1.e.time, .int .i64 r.1.e.client, .int .i64 r.1.at_, .int .i64 r.1.link, .int .i64 r.1.played, .slice A7 n7 k7, .slice A8 n8 k8] : List Value)[j]? = some vv → (w5.setCells (w.heap.size + 1) 0 [.int .i64 r.1.epoch, .int .i64 r.1.doing, .int .i64 r.1.e.kind, .int .i64 r.1.e.job, .int .i64 r.1.e.every, .int .i64 r.1.e.time, .int .i64 r.1.e.client, .int .i64 r.1.at_, .int .i64 r.1.link, .int .i64 r.1.played, .slice A7 n7 k7, .slice A8 n8 k8]).cell? ⟨w.heap.size + 1, j, none⟩ = some vv := fun j vv hv => put_in (w := w5) (b := w.heap.size + 1) (vs := [.int .i64 r.1.epoch, .int .i64 r.1.doing, .int .i64 r.1.e.kind, .int .i64 r.1.e.job, .int .i64 r.1.e.every, .int .i64 r.1.e.time, .int .i64 r.1.e.client, .int .i64 r.1.at_, .int .i64 r.1.link, .int .i64 r.1.played, .slice A7 n7 k7, .slice A8 n8 k8]) (there12 p0 p1 p2 p3 p4 p5 p6 p7 p8 p9 p10 p11) hv
          replace hon : Onto w (w5.setCells (w.heap.size + 1) 0 [.int .i64 r.1.epoch, .int .i64 r.1.doing, .int .i64 r.1.e.kind, .int .i64 r.1.e.job, .int .i64 r.1.e.every, .int .i64 r.1.e.time, .int .i64 r.1.e.client, .int .i64 r.1.at_, .int .i64 r.1.link, .int .i64 r.1.played, .slice A7 n7 k7, .slice A8 n8 k8]) := put_onto (by omega) hon
          replace s7 := put_S (vs := [.int .i64 r.1.epoch, .int .i64 r.1.doing, .int .i64 r.1.e.kind, .int .i64 r.1.e.job, .int .i64 r.1.e.every, .int .i64 r.1.e.time, .int .i64 r.1.e.client, .int .i64 r.1.at_, .int .i64 r.1.link, .int .i64 r.1.played, .slice A7 n7 k7, .slice A8 n8 k8]) (b := w.heap.size + 1) (o := 0) (w := w5) o7 s7
          replace s8 := put_S (vs := [.int .i64 r.1.epoch, .int .i64 r.1.doing, .int .i64 r.1.e.kind, .int .i64 r.1.e.job, .int .i64 r.1.e.every, .int .i64 r.1.e.time, .int .i64 r.1.e.client, .int .i64 r.1.at_, .int .i64 r.1.link, .int .i64 r.1.played, .slice A7 n7 k7, .slice A8 n8 k8]) (b := w.heap.size + 1) (o := 0) (w := w5) o8 s8
          clear p0 p1 p2 p3 p4 p5 p6 p7 p8 p9 p10 p11
          generalize (w5.setCells (w.heap.size + 1) 0 [.int .i64 r.1.epoch, .int .i64 r.1.doing, .int .i64 r.1.e.kind, .int .i64 r.1.e.job, .int .i64 r.1.e.every, .int .i64 r.1.e.time, .int .i64 r.1.e.client, .int .i64 r.1.at_, .int .i64 r.1.link, .int .i64 r.1.played, .slice A7 n7 k7, .slice A8 n8 k8]) = wf at *
          have p0 := F0 0 _ rfl
          have p1 := F0 1 _ rfl
          have p2 := F0 2 _ rfl
          have p3 := F0 3 _ rfl
          have p4 := F0 4 _ rfl
          have p5 := F0 5 _ rfl
          have p6 := F0 6 _ rfl
          have p7 := F0 7 _ rfl
          have p8 := F0 8 _ rfl
          have p9 := F0 9 _ rfl
          have p10 := F0 10 _ rfl
          have p11 := F0 11 _ rfl
          clear F0
          refine bodyPost_ret (v := .tuple #[.agg #[.int .i64 r.1.epoch, .int .i64 r.1.doing, .int .i64 r.1.e.kind, .int .i64 r.1.e.job, .int .i64 r.1.e.every, .int .i64 r.1.e.time, .int .i64 r.1.e.client, .int .i64 r.1.at_, .int .i64 r.1.link, .int .i64 r.1.played, .slice A7 n7 k7, .slice A8 n8 k8], .int .i64 r.2]) (by simp [results, Try.results47, go_sem, p0, p1, p2, p3, p4, p5, p6, p7, p8, p9, p10, p11]) rfl ?_
          exact ⟨A7, n7, k7, A8, n8, k8, rfl, s7, s8, hon⟩
        · have hd : (j.id == job) = false := by simpa using he
          have HE := Lib.hid he
          clear he
          go_wp2_with fail
          go_roundw
          case measure => simp [intOf] <;> omega
          case rel =>
            refine ⟨k + 1, by omega, by go_num, Lib.hid fun i y hi hy => ?_, c0, c1, c2, c3, c4, c5, c6, c7, c8, c9, c10, c11, p0, fp0, p1, fp1, p2, fp2, p3, fp3, p4, fp4, p5, fp5, p6, fp6, p7, fp7, p8, fp8, p9, fp9, p10, fp10, p11, fp11, sA, sB, s1, hon⟩
            by_cases hik : i = k
            · subst hik; rw [HJ.out] at hy; cases hy; exact HE.out
            · exact HN.out i y (by omega) hy
      · have hr := HRM.out
        rw [ring_miss (c := ⟨ep, dg, x, at_, ln, pl, b⟩) (fun y hy hyt he => by
          have hm : y ∈ dl := by rw [HDL.out]; exact dueL_mem.2 ⟨hy, hyt⟩
          obtain ⟨i, hi, rfl⟩ := List.getElem_of_mem hm
          exact HN.out i _ (by have := HLN.out; omega) (List.getElem?_eq_getElem hi) he)] at hr
        have HR := Lib.hid hr
        have hkn : k = n1 := by omega
        subst hkn
        clear hr HRM HN
        clear s1
        go_wp2_with fail
        clear c0 c1 c2 c3 c4 c5 c6 c7 c8 c9 c10 c11
        clear fp0 fp1 fp2 fp3 fp4 fp5 fp6 fp7 fp8 fp9 fp10 fp11
        clear sA sB
        rw [show ((((((((((((wr.setCell ⟨w.heap.size + 1, 0, none⟩ (.int .i64 0)).setCell ⟨w.heap.size + 1, 1, none⟩ (.int .i64 0)).setCell ⟨w.heap.size + 1, 2, none⟩ (.int .i64 0)).setCell ⟨w.heap.size + 1, 3, none⟩ (.int .i64 0)).setCell ⟨w.heap.size + 1, 4, none⟩ (.int .i64 0)).setCell ⟨w.heap.size + 1, 5, none⟩ (.int .i64 0)).setCell ⟨w.heap.size + 1, 6, none⟩ (.int .i64 0)).setCell ⟨w.heap.size + 1, 7, none⟩ (.int .i64 0)).setCell ⟨w.heap.size + 1, 8, none⟩ (.int .i64 0)).setCell ⟨w.heap.size + 1, 9, none⟩ (.int .i64 0)).setCell ⟨w.heap.size + 1, 10, none⟩ (.slice none 0 0)).setCell ⟨w.heap.size + 1, 11, none⟩ (.slice none 0 0)) = (wr.setCells (w.heap.size + 1) 0 [.int .i64 0, .int .i64 0, .int .i64 0, .int .i64 0, .int .i64 0, .int .i64 0, .int .i64 0, .int .i64 0, .int .i64 0, .int .i64 0, .slice none 0 0, .slice none 0 0]) from rfl]
        have F0 : ∀ (j : Nat) vv, ([.int .i64 0, .int .i64 0, .int .i64 0, .int .i64 0, .int .i64 0, .int .i64 0, .int .i64 0, .int .i64 0, .int .i64 0, .int .i64 0, .slice none 0 0, .slice none 0 0] : List Value)[j]? = some vv → (wr.setCells (w.heap.size + 1) 0 [.int .i64 0, .int .i64 0, .int .i64 0, .int .i64 0, .int .i64 0, .int .i64 0, .int .i64 0, .int .i64 0, .int .i64 0, .int .i64 0, .slice none 0 0, .slice none 0 0]).cell? ⟨w.heap.size + 1, j, none⟩ = some vv := fun j vv hv => put_in (w := wr) (b := w.heap.size + 1) (vs := [.int .i64 0, .int .i64 0, .int .i64 0, .int .i64 0, .int .i64 0, .int .i64 0, .int .i64 0, .int .i64 0, .int .i64 0, .int .i64 0, .slice none 0 0, .slice none 0 0]) (there12 p0 p1 p2 p3 p4 p5 p6 p7 p8 p9 p10 p11) hv
        replace hon : Onto w (wr.setCells (w.heap.size + 1) 0 [.int .i64 0, .int .i64 0, .int .i64 0, .int .i64 0, .int .i64 0, .int .i64 0, .int .i64 0, .int .i64 0, .int .i64 0, .int .i64 0, .slice none 0 0, .slice none 0 0]) := put_onto (by omega) hon
        clear p0 p1 p2 p3 p4 p5 p6 p7 p8 p9 p10 p11
        generalize (wr.setCells (w.heap.size + 1) 0 [.int .i64 0, .int .i64 0, .int .i64 0, .int .i64 0, .int .i64 0, .int .i64 0, .int .i64 0, .int .i64 0, .int .i64 0, .int .i64 0, .slice none 0 0, .slice none 0 0]) = wf at *
        have p0 := F0 0 _ rfl
        have p1 := F0 1 _ rfl
        have p2 := F0 2 _ rfl
        have p3 := F0 3 _ rfl
        have p4 := F0 4 _ rfl
        have p5 := F0 5 _ rfl
        have p6 := F0 6 _ rfl
        have p7 := F0 7 _ rfl
        have p8 := F0 8 _ rfl
        have p9 := F0 9 _ rfl
        have p10 := F0 10 _ rfl
        have p11 := F0 11 _ rfl
        clear F0
        refine bodyPost_ret (v := .tuple #[.agg #[.int .i64 0, .int .i64 0, .int .i64 0, .int .i64 0, .int .i64 0, .int .i64 0, .int .i64 0, .int .i64 0, .int .i64 0, .int .i64 0, .slice none 0 0, .slice none 0 0], .int .i64 5]) (by simp [results, Try.results47, go_sem, p0, p1, p2, p3, p4, p5, p6, p7, p8, p9, p10, p11]) rfl ?_
        rw [HR.out]
        exact ⟨none, 0, 0, none, 0, 0, rfl, Sl.nil, Sl.nil, hon⟩
  · rw [if_pos h0] at hr
    have HR := Lib.hid hr
    have hd : (q != 0) = true := by simpa using h0
    clear hr h0
    go_wp2_with fail
    clear c0 fc0 c1 fc1 c2 fc2 c3 fc3 c4 fc4 c5 fc5 c6 fc6 c7 fc7 c8 fc8 c9 fc9 c10 fc10 c11 fc11
    clear fp0 fp1 fp2 fp3 fp4 fp5 fp6 fp7 fp8 fp9 fp10 fp11
    clear sA sB
    rw [show ((((((((((((w1.setCell ⟨w.heap.size + 1, 0, none⟩ (.int .i64 0)).setCell ⟨w.heap.size + 1, 1, none⟩ (.int .i64 0)).setCell ⟨w.heap.size + 1, 2, none⟩ (.int .i64 0)).setCell ⟨w.heap.size + 1, 3, none⟩ (.int .i64 0)).setCell ⟨w.heap.size + 1, 4, none⟩ (.int .i64 0)).setCell ⟨w.heap.size + 1, 5, none⟩ (.int .i64 0)).setCell ⟨w.heap.size + 1, 6, none⟩ (.int .i64 0)).setCell ⟨w.heap.size + 1, 7, none⟩ (.int .i64 0)).setCell ⟨w.heap.size + 1, 8, none⟩ (.int .i64 0)).setCell ⟨w.heap.size + 1, 9, none⟩ (.int .i64 0)).setCell ⟨w.heap.size + 1, 10, none⟩ (.slice none 0 0)).setCell ⟨w.heap.size + 1, 11, none⟩ (.slice none 0 0)) = (w1.setCells (w.heap.size + 1) 0 [.int .i64 0, .int .i64 0, .int .i64 0, .int .i64 0, .int .i64 0, .int .i64 0, .int .i64 0, .int .i64 0, .int .i64 0, .int .i64 0, .slice none 0 0, .slice none 0 0]) from rfl]
    have F0 : ∀ (j : Nat) vv, ([.int .i64 0, .int .i64 0, .int .i64 0, .int .i64 0, .int .i64 0, .int .i64 0, .int .i64 0, .int .i64 0, .int .i64 0, .int .i64 0, .slice none 0 0, .slice none 0 0] : List Value)[j]? = some vv → (w1.setCells (w.heap.size + 1) 0 [.int .i64 0, .int .i64 0, .int .i64 0, .int .i64 0, .int .i64 0, .int .i64 0, .int .i64 0, .int .i64 0, .int .i64 0, .int .i64 0, .slice none 0 0, .slice none 0 0]).cell? ⟨w.heap.size + 1, j, none⟩ = some vv := fun j vv hv => put_in (w := w1) (b := w.heap.size + 1) (vs := [.int .i64 0, .int .i64 0, .int .i64 0, .int .i64 0, .int .i64 0, .int .i64 0, .int .i64 0, .int .i64 0, .int .i64 0, .int .i64 0, .slice none 0 0, .slice none 0 0]) (there12 p0 p1 p2 p3 p4 p5 p6 p7 p8 p9 p10 p11) hv
    replace hon : Onto w (w1.setCells (w.heap.size + 1) 0 [.int .i64 0, .int .i64 0, .int .i64 0, .int .i64 0, .int .i64 0, .int .i64 0, .int .i64 0, .int .i64 0, .int .i64 0, .int .i64 0, .slice none 0 0, .slice none 0 0]) := put_onto (by omega) hon
    clear p0 p1 p2 p3 p4 p5 p6 p7 p8 p9 p10 p11
    generalize (w1.setCells (w.heap.size + 1) 0 [.int .i64 0, .int .i64 0, .int .i64 0, .int .i64 0, .int .i64 0, .int .i64 0, .int .i64 0, .int .i64 0, .int .i64 0, .int .i64 0, .slice none 0 0, .slice none 0 0]) = wf at *
    have p0 := F0 0 _ rfl
    have p1 := F0 1 _ rfl
    have p2 := F0 2 _ rfl
    have p3 := F0 3 _ rfl
    have p4 := F0 4 _ rfl
    have p5 := F0 5 _ rfl
    have p6 := F0 6 _ rfl
    have p7 := F0 7 _ rfl
    have p8 := F0 8 _ rfl
    have p9 := F0 9 _ rfl
    have p10 := F0 10 _ rfl
    have p11 := F0 11 _ rfl
    clear F0
    refine bodyPost_ret (v := .tuple #[.agg #[.int .i64 0, .int .i64 0, .int .i64 0, .int .i64 0, .int .i64 0, .int .i64 0, .int .i64 0, .int .i64 0, .int .i64 0, .int .i64 0, .slice none 0 0, .slice none 0 0], .int .i64 q]) (by simp [results, Try.results47, go_sem, p0, p1, p2, p3, p4, p5, p6, p7, p8, p9, p10, p11]) rfl ?_
    rw [HR.out]
    exact ⟨none, 0, 0, none, 0, 0, rfl, Sl.nil, Sl.nil, hon⟩
end Go.Proofs.Ytbipmoehcmighaa
