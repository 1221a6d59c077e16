/- The document's Ringing. -/
import Derived.Test.YtbipmoehcmighaaRing1
namespace Go.Proofs.Ytbipmoehcmighaa
set_option linter.unusedSimpArgs false
set_option linter.unusedVariables false
open Go.RowKit

theorem findB_neg' {b : Book} {job : Int} (h : ¬ 0 ≤ findB b job) : ∀ x ∈ b.jobs, x.id ≠ job := findB_neg h

set_option maxHeartbeats 8000000 in
set_option maxRecDepth 100000 in
theorem RRinging_calls (ep dg at_ ln pl : Int) (x : Entry) (A A' : Option Addr) (n c m d : Nat) (b : Book) (me job t : Int) (w : World) (sA : S w 3 A n (b.jobs.map encJ)) (sB : S w 3 A' m (b.rung.map encR)) :
    Calls Try.prog 50 #[.agg #[.int .i64 ep, .int .i64 dg, .int .i64 x.kind, .int .i64 x.job, .int .i64 x.every, .int .i64 x.time, .int .i64 x.client, .int .i64 at_, .int .i64 ln, .int .i64 pl, .slice A n c, .slice A' m d], .int .i64 me, .int .i64 job, .int .i64 t] w (RClPost w (ringCl ⟨ep, dg, x, at_, ln, pl, b⟩ me job t).1 (ringCl ⟨ep, dg, x, at_, ln, pl, b⟩ me job t).2) := by
  obtain ⟨q, hq⟩ : ∃ q, q = checkCl ⟨ep, dg, x, at_, ln, pl, b⟩ := ⟨_, rfl⟩
  obtain ⟨r, hr⟩ : ∃ r, r = ringCl ⟨ep, dg, x, at_, ln, pl, b⟩ me job t := ⟨_, rfl⟩
  rw [← hr]
  unfold ringCl at hr
  rw [← hq] at hr
  try dsimp only at hr
  have HQ := Lib.hid hq; have HR0 := Lib.hid hr
  clear hq hr
  have oA : ∀ z, w.heap.size ≤ z → OffN n z A := fun z hz => sA.offN hz
  have oB : ∀ z, w.heap.size ≤ z → OffN m z A' := fun z hz => sB.offN hz
  have OA := Lib.hid oA; have OB := Lib.hid oB
  clear oA oB
  go_enter Try.func50, Try.ntmps50
  go_upto_region 1 with fail
  have hon : Onto w ((w.alloc (Obj.cells #[.int .i64 ep, .int .i64 dg, .int .i64 x.kind, .int .i64 x.job, .int .i64 x.every, .int .i64 x.time, .int .i64 x.client, .int .i64 at_, .int .i64 ln, .int .i64 pl, .slice A n c, .slice A' m d] 56)).alloc (Obj.cells #[.int .i64 0, .int .i64 0, .int .i64 0, .int .i64 0, .int .i64 0, .int .i64 0, .int .i64 0, .int .i64 0, .int .i64 0, .int .i64 0, .slice none 0 0, .slice none 0 0] 56)) := (((Onto.rfl' w).new _).new _)
  replace sA := (sA.new (Obj.cells #[.int .i64 ep, .int .i64 dg, .int .i64 x.kind, .int .i64 x.job, .int .i64 x.every, .int .i64 x.time, .int .i64 x.client, .int .i64 at_, .int .i64 ln, .int .i64 pl, .slice A n c, .slice A' m d] 56)).new (Obj.cells #[.int .i64 0, .int .i64 0, .int .i64 0, .int .i64 0, .int .i64 0, .int .i64 0, .int .i64 0, .int .i64 0, .int .i64 0, .int .i64 0, .slice none 0 0, .slice none 0 0] 56)
  replace sB := (sB.new (Obj.cells #[.int .i64 ep, .int .i64 dg, .int .i64 x.kind, .int .i64 x.job, .int .i64 x.every, .int .i64 x.time, .int .i64 x.client, .int .i64 at_, .int .i64 ln, .int .i64 pl, .slice A n c, .slice A' m d] 56)).new (Obj.cells #[.int .i64 0, .int .i64 0, .int .i64 0, .int .i64 0, .int .i64 0, .int .i64 0, .int .i64 0, .int .i64 0, .int .i64 0, .int .i64 0, .slice none 0 0, .slice none 0 0] 56)
  have c0 : ((w.alloc (Obj.cells #[.int .i64 ep, .int .i64 dg, .int .i64 x.kind, .int .i64 x.job, .int .i64 x.every, .int .i64 x.time, .int .i64 x.client, .int .i64 at_, .int .i64 ln, .int .i64 pl, .slice A n c, .slice A' m d] 56)).alloc (Obj.cells #[.int .i64 0, .int .i64 0, .int .i64 0, .int .i64 0, .int .i64 0, .int .i64 0, .int .i64 0, .int .i64 0, .int .i64 0, .int .i64 0, .slice none 0 0, .slice none 0 0] 56)).cell? ⟨w.heap.size, 0, none⟩ = some (.int .i64 ep) := by simp [go_sem]
  have fc0 : ((w.alloc (Obj.cells #[.int .i64 ep, .int .i64 dg, .int .i64 x.kind, .int .i64 x.job, .int .i64 x.every, .int .i64 x.time, .int .i64 x.client, .int .i64 at_, .int .i64 ln, .int .i64 pl, .slice A n c, .slice A' m d] 56)).alloc (Obj.cells #[.int .i64 0, .int .i64 0, .int .i64 0, .int .i64 0, .int .i64 0, .int .i64 0, .int .i64 0, .int .i64 0, .int .i64 0, .int .i64 0, .slice none 0 0, .slice none 0 0] 56)).frozen? ⟨w.heap.size, 0, none⟩ = false := by simp [go_sem]
  have c1 : ((w.alloc (Obj.cells #[.int .i64 ep, .int .i64 dg, .int .i64 x.kind, .int .i64 x.job, .int .i64 x.every, .int .i64 x.time, .int .i64 x.client, .int .i64 at_, .int .i64 ln, .int .i64 pl, .slice A n c, .slice A' m d] 56)).alloc (Obj.cells #[.int .i64 0, .int .i64 0, .int .i64 0, .int .i64 0, .int .i64 0, .int .i64 0, .int .i64 0, .int .i64 0, .int .i64 0, .int .i64 0, .slice none 0 0, .slice none 0 0] 56)).cell? ⟨w.heap.size, 1, none⟩ = some (.int .i64 dg) := by simp [go_sem]
  have fc1 : ((w.alloc (Obj.cells #[.int .i64 ep, .int .i64 dg, .int .i64 x.kind, .int .i64 x.job, .int .i64 x.every, .int .i64 x.time, .int .i64 x.client, .int .i64 at_, .int .i64 ln, .int .i64 pl, .slice A n c, .slice A' m d] 56)).alloc (Obj.cells #[.int .i64 0, .int .i64 0, .int .i64 0, .int .i64 0, .int .i64 0, .int .i64 0, .int .i64 0, .int .i64 0, .int .i64 0, .int .i64 0, .slice none 0 0, .slice none 0 0] 56)).frozen? ⟨w.heap.size, 1, none⟩ = false := by simp [go_sem]
  have c2 : ((w.alloc (Obj.cells #[.int .i64 ep, .int .i64 dg, .int .i64 x.kind, .int .i64 x.job, .int .i64 x.every, .int .i64 x.time, .int .i64 x.client, .int .i64 at_, .int .i64 ln, .int .i64 pl, .slice A n c, .slice A' m d] 56)).alloc (Obj.cells #[.int .i64 0, .int .i64 0, .int .i64 0, .int .i64 0, .int .i64 0, .int .i64 0, .int .i64 0, .int .i64 0, .int .i64 0, .int .i64 0, .slice none 0 0, .slice none 0 0] 56)).cell? ⟨w.heap.size, 2, none⟩ = some (.int .i64 x.kind) := by simp [go_sem]
  have fc2 : ((w.alloc (Obj.cells #[.int .i64 ep, .int .i64 dg, .int .i64 x.kind, .int .i64 x.job, .int .i64 x.every, .int .i64 x.time, .int .i64 x.client, .int .i64 at_, .int .i64 ln, .int .i64 pl, .slice A n c, .slice A' m d] 56)).alloc (Obj.cells #[.int .i64 0, .int .i64 0, .int .i64 0, .int .i64 0, .int .i64 0, .int .i64 0, .int .i64 0, .int .i64 0, .int .i64 0, .int .i64 0, .slice none 0 0, .slice none 0 0] 56)).frozen? ⟨w.heap.size, 2, none⟩ = false := by simp [go_sem]
  have c3 : ((w.alloc (Obj.cells #[.int .i64 ep, .int .i64 dg, .int .i64 x.kind, .int .i64 x.job, .int .i64 x.every, .int .i64 x.time, .int .i64 x.client, .int .i64 at_, .int .i64 ln, .int .i64 pl, .slice A n c, .slice A' m d] 56)).alloc (Obj.cells #[.int .i64 0, .int .i64 0, .int .i64 0, .int .i64 0, .int .i64 0, .int .i64 0, .int .i64 0, .int .i64 0, .int .i64 0, .int .i64 0, .slice none 0 0, .slice none 0 0] 56)).cell? ⟨w.heap.size, 3, none⟩ = some (.int .i64 x.job) := by simp [go_sem]
  have fc3 : ((w.alloc (Obj.cells #[.int .i64 ep, .int .i64 dg, .int .i64 x.kind, .int .i64 x.job, .int .i64 x.every, .int .i64 x.time, .int .i64 x.client, .int .i64 at_, .int .i64 ln, .int .i64 pl, .slice A n c, .slice A' m d] 56)).alloc (Obj.cells #[.int .i64 0, .int .i64 0, .int .i64 0, .int .i64 0, .int .i64 0, .int .i64 0, .int .i64 0, .int .i64 0, .int .i64 0, .int .i64 0, .slice none 0 0, .slice none 0 0] 56)).frozen? ⟨w.heap.size, 3, none⟩ = false := by simp [go_sem]
  have c4 : ((w.alloc (Obj.cells #[.int .i64 ep, .int .i64 dg, .int .i64 x.kind, .int .i64 x.job, .int .i64 x.every, .int .i64 x.time, .int .i64 x.client, .int .i64 at_, .int .i64 ln, .int .i64 pl, .slice A n c, .slice A' m d] 56)).alloc (Obj.cells #[.int .i64 0, .int .i64 0, .int .i64 0, .int .i64 0, .int .i64 0, .int .i64 0, .int .i64 0, .int .i64 0, .int .i64 0, .int .i64 0, .slice none 0 0, .slice none 0 0] 56)).cell? ⟨w.heap.size, 4, none⟩ = some (.int .i64 x.every) := by simp [go_sem]
  have fc4 : ((w.alloc (Obj.cells #[.int .i64 ep, .int .i64 dg, .int .i64 x.kind, .int .i64 x.job, .int .i64 x.every, .int .i64 x.time, .int .i64 x.client, .int .i64 at_, .int .i64 ln, .int .i64 pl, .slice A n c, .slice A' m d] 56)).alloc (Obj.cells #[.int .i64 0, .int .i64 0, .int .i64 0, .int .i64 0, .int .i64 0, .int .i64 0, .int .i64 0, .int .i64 0, .int .i64 0, .int .i64 0, .slice none 0 0, .slice none 0 0] 56)).frozen? ⟨w.heap.size, 4, none⟩ = false := by simp [go_sem]
  have c5 : ((w.alloc (Obj.cells #[.int .i64 ep, .int .i64 dg, .int .i64 x.kind, .int .i64 x.job, .int .i64 x.every, .int .i64 x.time, .int .i64 x.client, .int .i64 at_, .int .i64 ln, .int .i64 pl, .slice A n c, .slice A' m d] 56)).alloc (Obj.cells #[.int .i64 0, .int .i64 0, .int .i64 0, .int .i64 0, .int .i64 0, .int .i64 0, .int .i64 0, .int .i64 0, .int .i64 0, .int .i64 0, .slice none 0 0, .slice none 0 0] 56)).cell? ⟨w.heap.size, 5, none⟩ = some (.int .i64 x.time) := by simp [go_sem]
  have fc5 : ((w.alloc (Obj.cells #[.int .i64 ep, .int .i64 dg, .int .i64 x.kind, .int .i64 x.job, .int .i64 x.every, .int .i64 x.time, .int .i64 x.client, .int .i64 at_, .int .i64 ln, .int .i64 pl, .slice A n c, .slice A' m d] 56)).alloc (Obj.cells #[.int .i64 0, .int .i64 0, .int .i64 0, .int .i64 0, .int .i64 0, .int .i64 0, .int .i64 0, .int .i64 0, .int .i64 0, .int .i64 0, .slice none 0 0, .slice none 0 0] 56)).frozen? ⟨w.heap.size, 5, none⟩ = false := by simp [go_sem]
  have c6 : ((w.alloc (Obj.cells #[.int .i64 ep, .int .i64 dg, .int .i64 x.kind, .int .i64 x.job, .int .i64 x.every, .int .i64 x.time, .int .i64 x.client, .int .i64 at_, .int .i64 ln, .int .i64 pl, .slice A n c, .slice A' m d] 56)).alloc (Obj.cells #[.int .i64 0, .int .i64 0, .int .i64 0, .int .i64 0, .int .i64 0, .int .i64 0, .int .i64 0, .int .i64 0, .int .i64 0, .int .i64 0, .slice none 0 0, .slice none 0 0] 56)).cell? ⟨w.heap.size, 6, none⟩ = some (.int .i64 x.client) := by simp [go_sem]
  have fc6 : ((w.alloc (Obj.cells #[.int .i64 ep, .int .i64 dg, .int .i64 x.kind, .int .i64 x.job, .int .i64 x.every, .int .i64 x.time, .int .i64 x.client, .int .i64 at_, .int .i64 ln, .int .i64 pl, .slice A n c, .slice A' m d] 56)).alloc (Obj.cells #[.int .i64 0, .int .i64 0, .int .i64 0, .int .i64 0, .int .i64 0, .int .i64 0, .int .i64 0, .int .i64 0, .int .i64 0, .int .i64 0, .slice none 0 0, .slice none 0 0] 56)).frozen? ⟨w.heap.size, 6, none⟩ = false := by simp [go_sem]
  have c7 : ((w.alloc (Obj.cells #[.int .i64 ep, .int .i64 dg, .int .i64 x.kind, .int .i64 x.job, .int .i64 x.every, .int .i64 x.time, .int .i64 x.client, .int .i64 at_, .int .i64 ln, .int .i64 pl, .slice A n c, .slice A' m d] 56)).alloc (Obj.cells #[.int .i64 0, .int .i64 0, .int .i64 0, .int .i64 0, .int .i64 0, .int .i64 0, .int .i64 0, .int .i64 0, .int .i64 0, .int .i64 0, .slice none 0 0, .slice none 0 0] 56)).cell? ⟨w.heap.size, 7, none⟩ = some (.int .i64 at_) := by simp [go_sem]
  have fc7 : ((w.alloc (Obj.cells #[.int .i64 ep, .int .i64 dg, .int .i64 x.kind, .int .i64 x.job, .int .i64 x.every, .int .i64 x.time, .int .i64 x.client, .int .i64 at_, .int .i64 ln, .int .i64 pl, .slice A n c, .slice A' m d] 56)).alloc (Obj.cells #[.int .i64 0, .int .i64 0, .int .i64 0, .int .i64 0, .int .i64 0, .int .i64 0, .int .i64 0, .int .i64 0, .int .i64 0, .int .i64 0, .slice none 0 0, .slice none 0 0] 56)).frozen? ⟨w.heap.size, 7, none⟩ = false := by simp [go_sem]
  have c8 : ((w.alloc (Obj.cells #[.int .i64 ep, .int .i64 dg, .int .i64 x.kind, .int .i64 x.job, .int .i64 x.every, .int .i64 x.time, .int .i64 x.client, .int .i64 at_, .int .i64 ln, .int .i64 pl, .slice A n c, .slice A' m d] 56)).alloc (Obj.cells #[.int .i64 0, .int .i64 0, .int .i64 0, .int .i64 0, .int .i64 0, .int .i64 0, .int .i64 0, .int .i64 0, .int .i64 0, .int .i64 0, .slice none 0 0, .slice none 0 0] 56)).cell? ⟨w.heap.size, 8, none⟩ = some (.int .i64 ln) := by simp [go_sem]
  have fc8 : ((w.alloc (Obj.cells #[.int .i64 ep, .int .i64 dg, .int .i64 x.kind, .int .i64 x.job, .int .i64 x.every, .int .i64 x.time, .int .i64 x.client, .int .i64 at_, .int .i64 ln, .int .i64 pl, .slice A n c, .slice A' m d] 56)).alloc (Obj.cells #[.int .i64 0, .int .i64 0, .int .i64 0, .int .i64 0, .int .i64 0, .int .i64 0, .int .i64 0, .int .i64 0, .int .i64 0, .int .i64 0, .slice none 0 0, .slice none 0 0] 56)).frozen? ⟨w.heap.size, 8, none⟩ = false := by simp [go_sem]
  have c9 : ((w.alloc (Obj.cells #[.int .i64 ep, .int .i64 dg, .int .i64 x.kind, .int .i64 x.job, .int .i64 x.every, .int .i64 x.time, .int .i64 x.client, .int .i64 at_, .int .i64 ln, .int .i64 pl, .slice A n c, .slice A' m d] 56)).alloc (Obj.cells #[.int .i64 0, .int .i64 0, .int .i64 0, .int .i64 0, .int .i64 0, .int .i64 0, .int .i64 0, .int .i64 0, .int .i64 0, .int .i64 0, .slice none 0 0, .slice none 0 0] 56)).cell? ⟨w.heap.size, 9, none⟩ = some (.int .i64 pl) := by simp [go_sem]
  have fc9 : ((w.alloc (Obj.cells #[.int .i64 ep, .int .i64 dg, .int .i64 x.kind, .int .i64 x.job, .int .i64 x.every, .int .i64 x.time, .int .i64 x.client, .int .i64 at_, .int .i64 ln, .int .i64 pl, .slice A n c, .slice A' m d] 56)).alloc (Obj.cells #[.int .i64 0, .int .i64 0, .int .i64 0, .int .i64 0, .int .i64 0, .int .i64 0, .int .i64 0, .int .i64 0, .int .i64 0, .int .i64 0, .slice none 0 0, .slice none 0 0] 56)).frozen? ⟨w.heap.size, 9, none⟩ = false := by simp [go_sem]
  have c10 : ((w.alloc (Obj.cells #[.int .i64 ep, .int .i64 dg, .int .i64 x.kind, .int .i64 x.job, .int .i64 x.every, .int .i64 x.time, .int .i64 x.client, .int .i64 at_, .int .i64 ln, .int .i64 pl, .slice A n c, .slice A' m d] 56)).alloc (Obj.cells #[.int .i64 0, .int .i64 0, .int .i64 0, .int .i64 0, .int .i64 0, .int .i64 0, .int .i64 0, .int .i64 0, .int .i64 0, .int .i64 0, .slice none 0 0, .slice none 0 0] 56)).cell? ⟨w.heap.size, 10, none⟩ = some (.slice A n c) := by simp [go_sem]
  have fc10 : ((w.alloc (Obj.cells #[.int .i64 ep, .int .i64 dg, .int .i64 x.kind, .int .i64 x.job, .int .i64 x.every, .int .i64 x.time, .int .i64 x.client, .int .i64 at_, .int .i64 ln, .int .i64 pl, .slice A n c, .slice A' m d] 56)).alloc (Obj.cells #[.int .i64 0, .int .i64 0, .int .i64 0, .int .i64 0, .int .i64 0, .int .i64 0, .int .i64 0, .int .i64 0, .int .i64 0, .int .i64 0, .slice none 0 0, .slice none 0 0] 56)).frozen? ⟨w.heap.size, 10, none⟩ = false := by simp [go_sem]
  have c11 : ((w.alloc (Obj.cells #[.int .i64 ep, .int .i64 dg, .int .i64 x.kind, .int .i64 x.job, .int .i64 x.every, .int .i64 x.time, .int .i64 x.client, .int .i64 at_, .int .i64 ln, .int .i64 pl, .slice A n c, .slice A' m d] 56)).alloc (Obj.cells #[.int .i64 0, .int .i64 0, .int .i64 0, .int .i64 0, .int .i64 0, .int .i64 0, .int .i64 0, .int .i64 0, .int .i64 0, .int .i64 0, .slice none 0 0, .slice none 0 0] 56)).cell? ⟨w.heap.size, 11, none⟩ = some (.slice A' m d) := by simp [go_sem]
  have fc11 : ((w.alloc (Obj.cells #[.int .i64 ep, .int .i64 dg, .int .i64 x.kind, .int .i64 x.job, .int .i64 x.every, .int .i64 x.time, .int .i64 x.client, .int .i64 at_, .int .i64 ln, .int .i64 pl, .slice A n c, .slice A' m d] 56)).alloc (Obj.cells #[.int .i64 0, .int .i64 0, .int .i64 0, .int .i64 0, .int .i64 0, .int .i64 0, .int .i64 0, .int .i64 0, .int .i64 0, .int .i64 0, .slice none 0 0, .slice none 0 0] 56)).frozen? ⟨w.heap.size, 11, none⟩ = false := by simp [go_sem]
  have p0 : ((w.alloc (Obj.cells #[.int .i64 ep, .int .i64 dg, .int .i64 x.kind, .int .i64 x.job, .int .i64 x.every, .int .i64 x.time, .int .i64 x.client, .int .i64 at_, .int .i64 ln, .int .i64 pl, .slice A n c, .slice A' m d] 56)).alloc (Obj.cells #[.int .i64 0, .int .i64 0, .int .i64 0, .int .i64 0, .int .i64 0, .int .i64 0, .int .i64 0, .int .i64 0, .int .i64 0, .int .i64 0, .slice none 0 0, .slice none 0 0] 56)).cell? ⟨w.heap.size + 1, 0, none⟩ = some (.int .i64 0) := by simp [go_sem]
  have fp0 : ((w.alloc (Obj.cells #[.int .i64 ep, .int .i64 dg, .int .i64 x.kind, .int .i64 x.job, .int .i64 x.every, .int .i64 x.time, .int .i64 x.client, .int .i64 at_, .int .i64 ln, .int .i64 pl, .slice A n c, .slice A' m d] 56)).alloc (Obj.cells #[.int .i64 0, .int .i64 0, .int .i64 0, .int .i64 0, .int .i64 0, .int .i64 0, .int .i64 0, .int .i64 0, .int .i64 0, .int .i64 0, .slice none 0 0, .slice none 0 0] 56)).frozen? ⟨w.heap.size + 1, 0, none⟩ = false := by simp [go_sem]
  have p1 : ((w.alloc (Obj.cells #[.int .i64 ep, .int .i64 dg, .int .i64 x.kind, .int .i64 x.job, .int .i64 x.every, .int .i64 x.time, .int .i64 x.client, .int .i64 at_, .int .i64 ln, .int .i64 pl, .slice A n c, .slice A' m d] 56)).alloc (Obj.cells #[.int .i64 0, .int .i64 0, .int .i64 0, .int .i64 0, .int .i64 0, .int .i64 0, .int .i64 0, .int .i64 0, .int .i64 0, .int .i64 0, .slice none 0 0, .slice none 0 0] 56)).cell? ⟨w.heap.size + 1, 1, none⟩ = some (.int .i64 0) := by simp [go_sem]
  have fp1 : ((w.alloc (Obj.cells #[.int .i64 ep, .int .i64 dg, .int .i64 x.kind, .int .i64 x.job, .int .i64 x.every, .int .i64 x.time, .int .i64 x.client, .int .i64 at_, .int .i64 ln, .int .i64 pl, .slice A n c, .slice A' m d] 56)).alloc (Obj.cells #[.int .i64 0, .int .i64 0, .int .i64 0, .int .i64 0, .int .i64 0, .int .i64 0, .int .i64 0, .int .i64 0, .int .i64 0, .int .i64 0, .slice none 0 0, .slice none 0 0] 56)).frozen? ⟨w.heap.size + 1, 1, none⟩ = false := by simp [go_sem]
  have p2 : ((w.alloc (Obj.cells #[.int .i64 ep, .int .i64 dg, .int .i64 x.kind, .int .i64 x.job, .int .i64 x.every, .int .i64 x.time, .int .i64 x.client, .int .i64 at_, .int .i64 ln, .int .i64 pl, .slice A n c, .slice A' m d] 56)).alloc (Obj.cells #[.int .i64 0, .int .i64 0, .int .i64 0, .int .i64 0, .int .i64 0, .int .i64 0, .int .i64 0, .int .i64 0, .int .i64 0, .int .i64 0, .slice none 0 0, .slice none 0 0] 56)).cell? ⟨w.heap.size + 1, 2, none⟩ = some (.int .i64 0) := by simp [go_sem]
  have fp2 : ((w.alloc (Obj.cells #[.int .i64 ep, .int .i64 dg, .int .i64 x.kind, .int .i64 x.job, .int .i64 x.every, .int .i64 x.time, .int .i64 x.client, .int .i64 at_, .int .i64 ln, .int .i64 pl, .slice A n c, .slice A' m d] 56)).alloc (Obj.cells #[.int .i64 0, .int .i64 0, .int .i64 0, .int .i64 0, .int .i64 0, .int .i64 0, .int .i64 0, .int .i64 0, .int .i64 0, .int .i64 0, .slice none 0 0, .slice none 0 0] 56)).frozen? ⟨w.heap.size + 1, 2, none⟩ = false := by simp [go_sem]
  have p3 : ((w.alloc (Obj.cells #[.int .i64 ep, .int .i64 dg, .int .i64 x.kind, .int .i64 x.job, .int .i64 x.every, .int .i64 x.time, .int .i64 x.client, .int .i64 at_, .int .i64 ln, .int .i64 pl, .slice A n c, .slice A' m d] 56)).alloc (Obj.cells #[.int .i64 0, .int .i64 0, .int .i64 0, .int .i64 0, .int .i64 0, .int .i64 0, .int .i64 0, .int .i64 0, .int .i64 0, .int .i64 0, .slice none 0 0, .slice none 0 0] 56)).cell? ⟨w.heap.size + 1, 3, none⟩ = some (.int .i64 0) := by simp [go_sem]
  have fp3 : ((w.alloc (Obj.cells #[.int .i64 ep, .int .i64 dg, .int .i64 x.kind, .int .i64 x.job, .int .i64 x.every, .int .i64 x.time, .int .i64 x.client, .int .i64 at_, .int .i64 ln, .int .i64 pl, .slice A n c, .slice A' m d] 56)).alloc (Obj.cells #[.int .i64 0, .int .i64 0, .int .i64 0, .int .i64 0, .int .i64 0, .int .i64 0, .int .i64 0, .int .i64 0, .int .i64 0, .int .i64 0, .slice none 0 0, .slice none 0 0] 56)).frozen? ⟨w.heap.size + 1, 3, none⟩ = false := by simp [go_sem]
  have p4 : ((w.alloc (Obj.cells #[.int .i64 ep, .int .i64 dg, .int .i64 x.kind, .int .i64 x.job, .int .i64 x.every, .int .i64 x.time, .int .i64 x.client, .int .i64 at_, .int .i64 ln, .int .i64 pl, .slice A n c, .slice A' m d] 56)).alloc (Obj.cells #[.int .i64 0, .int .i64 0, .int .i64 0, .int .i64 0, .int .i64 0, .int .i64 0, .int .i64 0, .int .i64 0, .int .i64 0, .int .i64 0, .slice none 0 0, .slice none 0 0] 56)).cell? ⟨w.heap.size + 1, 4, none⟩ = some (.int .i64 0) := by simp [go_sem]
  have fp4 : ((w.alloc (Obj.cells #[.int .i64 ep, .int .i64 dg, .int .i64 x.kind, .int .i64 x.job, .int .i64 x.every, .int .i64 x.time, .int .i64 x.client, .int .i64 at_, .int .i64 ln, .int .i64 pl, .slice A n c, .slice A' m d] 56)).alloc (Obj.cells #[.int .i64 0, .int .i64 0, .int .i64 0, .int .i64 0, .int .i64 0, .int .i64 0, .int .i64 0, .int .i64 0, .int .i64 0, .int .i64 0, .slice none 0 0, .slice none 0 0] 56)).frozen? ⟨w.heap.size + 1, 4, none⟩ = false := by simp [go_sem]
  have p5 : ((w.alloc (Obj.cells #[.int .i64 ep, .int .i64 dg, .int .i64 x.kind, .int .i64 x.job, .int .i64 x.every, .int .i64 x.time, .int .i64 x.client, .int .i64 at_, .int .i64 ln, .int .i64 pl, .slice A n c, .slice A' m d] 56)).alloc (Obj.cells #[.int .i64 0, .int .i64 0, .int .i64 0, .int .i64 0, .int .i64 0, .int .i64 0, .int .i64 0, .int .i64 0, .int .i64 0, .int .i64 0, .slice none 0 0, .slice none 0 0] 56)).cell? ⟨w.heap.size + 1, 5, none⟩ = some (.int .i64 0) := by simp [go_sem]
  have fp5 : ((w.alloc (Obj.cells #[.int .i64 ep, .int .i64 dg, .int .i64 x.kind, .int .i64 x.job, .int .i64 x.every, .int .i64 x.time, .int .i64 x.client, .int .i64 at_, .int .i64 ln, .int .i64 pl, .slice A n c, .slice A' m d] 56)).alloc (Obj.cells #[.int .i64 0, .int .i64 0, .int .i64 0, .int .i64 0, .int .i64 0, .int .i64 0, .int .i64 0, .int .i64 0, .int .i64 0, .int .i64 0, .slice none 0 0, .slice none 0 0] 56)).frozen? ⟨w.heap.size + 1, 5, none⟩ = false := by simp [go_sem]
  have p6 : ((w.alloc (Obj.cells #[.int .i64 ep, .int .i64 dg, .int .i64 x.kind, .int .i64 x.job, .int .i64 x.every, .int .i64 x.time, .int .i64 x.client, .int .i64 at_, .int .i64 ln, .int .i64 pl, .slice A n c, .slice A' m d] 56)).alloc (Obj.cells #[.int .i64 0, .int .i64 0, .int .i64 0, .int .i64 0, .int .i64 0, .int .i64 0, .int .i64 0, .int .i64 0, .int .i64 0, .int .i64 0, .slice none 0 0, .slice none 0 0] 56)).cell? ⟨w.heap.size + 1, 6, none⟩ = some (.int .i64 0) := by simp [go_sem]
  have fp6 : ((w.alloc (Obj.cells #[.int .i64 ep, .int .i64 dg, .int .i64 x.kind, .int .i64 x.job, .int .i64 x.every, .int .i64 x.time, .int .i64 x.client, .int .i64 at_, .int .i64 ln, .int .i64 pl, .slice A n c, .slice A' m d] 56)).alloc (Obj.cells #[.int .i64 0, .int .i64 0, .int .i64 0, .int .i64 0, .int .i64 0, .int .i64 0, .int .i64 0, .int .i64 0, .int .i64 0, .int .i64 0, .slice none 0 0, .slice none 0 0] 56)).frozen? ⟨w.heap.size + 1, 6, none⟩ = false := by simp [go_sem]
  have p7 : ((w.alloc (Obj.cells #[.int .i64 ep, .int .i64 dg, .int .i64 x.kind, .int .i64 x.job, .int .i64 x.every, .int .i64 x.time, .int .i64 x.client, .int .i64 at_, .int .i64 ln, .int .i64 pl, .slice A n c, .slice A' m d] 56)).alloc (Obj.cells #[.int .i64 0, .int .i64 0, .int .i64 0, .int .i64 0, .int .i64 0, .int .i64 0, .int .i64 0, .int .i64 0, .int .i64 0, .int .i64 0, .slice none 0 0, .slice none 0 0] 56)).cell? ⟨w.heap.size + 1, 7, none⟩ = some (.int .i64 0) := by simp [go_sem]
  have fp7 : ((w.alloc (Obj.cells #[.int .i64 ep, .int .i64 dg, .int .i64 x.kind, .int .i64 x.job, .int .i64 x.every, .int .i64 x.time, .int .i64 x.client, .int .i64 at_, .int .i64 ln, .int .i64 pl, .slice A n c, .slice A' m d] 56)).alloc (Obj.cells #[.int .i64 0, .int .i64 0, .int .i64 0, .int .i64 0, .int .i64 0, .int .i64 0, .int .i64 0, .int .i64 0, .int .i64 0, .int .i64 0, .slice none 0 0, .slice none 0 0] 56)).frozen? ⟨w.heap.size + 1, 7, none⟩ = false := by simp [go_sem]
  have p8 : ((w.alloc (Obj.cells #[.int .i64 ep, .int .i64 dg, .int .i64 x.kind, .int .i64 x.job, .int .i64 x.every, .int .i64 x.time, .int .i64 x.client, .int .i64 at_, .int .i64 ln, .int .i64 pl, .slice A n c, .slice A' m d] 56)).alloc (Obj.cells #[.int .i64 0, .int .i64 0, .int .i64 0, .int .i64 0, .int .i64 0, .int .i64 0, .int .i64 0, .int .i64 0, .int .i64 0, .int .i64 0, .slice none 0 0, .slice none 0 0] 56)).cell? ⟨w.heap.size + 1, 8, none⟩ = some (.int .i64 0) := by simp [go_sem]
  have fp8 : ((w.alloc (Obj.cells #[.int .i64 ep, .int .i64 dg, .int .i64 x.kind, .int .i64 x.job, .int .i64 x.every, .int .i64 x.time, .int .i64 x.client, .int .i64 at_, .int .i64 ln, .int .i64 pl, .slice A n c, .slice A' m d] 56)).alloc (Obj.cells #[.int .i64 0, .int .i64 0, .int .i64 0, .int .i64 0, .int .i64 0, .int .i64 0, .int .i64 0, .int .i64 0, .int .i64 0, .int .i64 0, .slice none 0 0, .slice none 0 0] 56)).frozen? ⟨w.heap.size + 1, 8, none⟩ = false := by simp [go_sem]
  have p9 : ((w.alloc (Obj.cells #[.int .i64 ep, .int .i64 dg, .int .i64 x.kind, .int .i64 x.job, .int .i64 x.every, .int .i64 x.time, .int .i64 x.client, .int .i64 at_, .int .i64 ln, .int .i64 pl, .slice A n c, .slice A' m d] 56)).alloc (Obj.cells #[.int .i64 0, .int .i64 0, .int .i64 0, .int .i64 0, .int .i64 0, .int .i64 0, .int .i64 0, .int .i64 0, .int .i64 0, .int .i64 0, .slice none 0 0, .slice none 0 0] 56)).cell? ⟨w.heap.size + 1, 9, none⟩ = some (.int .i64 0) := by simp [go_sem]
  have fp9 : ((w.alloc (Obj.cells #[.int .i64 ep, .int .i64 dg, .int .i64 x.kind, .int .i64 x.job, .int .i64 x.every, .int .i64 x.time, .int .i64 x.client, .int .i64 at_, .int .i64 ln, .int .i64 pl, .slice A n c, .slice A' m d] 56)).alloc (Obj.cells #[.int .i64 0, .int .i64 0, .int .i64 0, .int .i64 0, .int .i64 0, .int .i64 0, .int .i64 0, .int .i64 0, .int .i64 0, .int .i64 0, .slice none 0 0, .slice none 0 0] 56)).frozen? ⟨w.heap.size + 1, 9, none⟩ = false := by simp [go_sem]
  have p10 : ((w.alloc (Obj.cells #[.int .i64 ep, .int .i64 dg, .int .i64 x.kind, .int .i64 x.job, .int .i64 x.every, .int .i64 x.time, .int .i64 x.client, .int .i64 at_, .int .i64 ln, .int .i64 pl, .slice A n c, .slice A' m d] 56)).alloc (Obj.cells #[.int .i64 0, .int .i64 0, .int .i64 0, .int .i64 0, .int .i64 0, .int .i64 0, .int .i64 0, .int .i64 0, .int .i64 0, .int .i64 0, .slice none 0 0, .slice none 0 0] 56)).cell? ⟨w.heap.size + 1, 10, none⟩ = some (.slice none 0 0) := by simp [go_sem]
  have fp10 : ((w.alloc (Obj.cells #[.int .i64 ep, .int .i64 dg, .int .i64 x.kind, .int .i64 x.job, .int .i64 x.every, .int .i64 x.time, .int .i64 x.client, .int .i64 at_, .int .i64 ln, .int .i64 pl, .slice A n c, .slice A' m d] 56)).alloc (Obj.cells #[.int .i64 0, .int .i64 0, .int .i64 0, .int .i64 0, .int .i64 0, .int .i64 0, .int .i64 0, .int .i64 0, .int .i64 0, .int .i64 0, .slice none 0 0, .slice none 0 0] 56)).frozen? ⟨w.heap.size + 1, 10, none⟩ = false := by simp [go_sem]
  have p11 : ((w.alloc (Obj.cells #[.int .i64 ep, .int .i64 dg, .int .i64 x.kind, .int .i64 x.job, .int .i64 x.every, .int .i64 x.time, .int .i64 x.client, .int .i64 at_, .int .i64 ln, .int .i64 pl, .slice A n c, .slice A' m d] 56)).alloc (Obj.cells #[.int .i64 0, .int .i64 0, .int .i64 0, .int .i64 0, .int .i64 0, .int .i64 0, .int .i64 0, .int .i64 0, .int .i64 0, .int .i64 0, .slice none 0 0, .slice none 0 0] 56)).cell? ⟨w.heap.size + 1, 11, none⟩ = some (.slice none 0 0) := by simp [go_sem]
  have fp11 : ((w.alloc (Obj.cells #[.int .i64 ep, .int .i64 dg, .int .i64 x.kind, .int .i64 x.job, .int .i64 x.every, .int .i64 x.time, .int .i64 x.client, .int .i64 at_, .int .i64 ln, .int .i64 pl, .slice A n c, .slice A' m d] 56)).alloc (Obj.cells #[.int .i64 0, .int .i64 0, .int .i64 0, .int .i64 0, .int .i64 0, .int .i64 0, .int .i64 0, .int .i64 0, .int .i64 0, .int .i64 0, .slice none 0 0, .slice none 0 0] 56)).frozen? ⟨w.heap.size + 1, 11, none⟩ = false := by simp [go_sem]
  change Code.wp _ _ _ _ ((w.alloc (Obj.cells #[.int .i64 ep, .int .i64 dg, .int .i64 x.kind, .int .i64 x.job, .int .i64 x.every, .int .i64 x.time, .int .i64 x.client, .int .i64 at_, .int .i64 ln, .int .i64 pl, .slice A n c, .slice A' m d] 56)).alloc (Obj.cells #[.int .i64 0, .int .i64 0, .int .i64 0, .int .i64 0, .int .i64 0, .int .i64 0, .int .i64 0, .int .i64 0, .int .i64 0, .int .i64 0, .slice none 0 0, .slice none 0 0] 56))
  generalize ((w.alloc (Obj.cells #[.int .i64 ep, .int .i64 dg, .int .i64 x.kind, .int .i64 x.job, .int .i64 x.every, .int .i64 x.time, .int .i64 x.client, .int .i64 at_, .int .i64 ln, .int .i64 pl, .slice A n c, .slice A' m d] 56)).alloc (Obj.cells #[.int .i64 0, .int .i64 0, .int .i64 0, .int .i64 0, .int .i64 0, .int .i64 0, .int .i64 0, .int .i64 0, .int .i64 0, .int .i64 0, .slice none 0 0, .slice none 0 0] 56)) = w0 at *
  have hz0 : w.heap.size + 1 < w0.heap.size := World.block_lt_of_cell? _ _ p0
  go_wp2_with fail
  refine Calls.mono (RClCheck_calls ep dg at_ ln pl x A A' n c m d b _ sA sB) ?_
  rw [← HQ.out]
  rintro e w1 ⟨rfl, hb⟩
  replace fc0 := frozB hb c0 fc0; replace c0 := cellB hb c0
  replace fc1 := frozB hb c1 fc1; replace c1 := cellB hb c1
  replace fc2 := frozB hb c2 fc2; replace c2 := cellB hb c2
  replace fc3 := frozB hb c3 fc3; replace c3 := cellB hb c3
  replace fc4 := frozB hb c4 fc4; replace c4 := cellB hb c4
  replace fc5 := frozB hb c5 fc5; replace c5 := cellB hb c5
  replace fc6 := frozB hb c6 fc6; replace c6 := cellB hb c6
  replace fc7 := frozB hb c7 fc7; replace c7 := cellB hb c7
  replace fc8 := frozB hb c8 fc8; replace c8 := cellB hb c8
  replace fc9 := frozB hb c9 fc9; replace c9 := cellB hb c9
  replace fc10 := frozB hb c10 fc10; replace c10 := cellB hb c10
  replace fc11 := frozB hb c11 fc11; replace c11 := cellB hb c11
  replace fp0 := frozB hb p0 fp0; replace p0 := cellB hb p0
  replace fp1 := frozB hb p1 fp1; replace p1 := cellB hb p1
  replace fp2 := frozB hb p2 fp2; replace p2 := cellB hb p2
  replace fp3 := frozB hb p3 fp3; replace p3 := cellB hb p3
  replace fp4 := frozB hb p4 fp4; replace p4 := cellB hb p4
  replace fp5 := frozB hb p5 fp5; replace p5 := cellB hb p5
  replace fp6 := frozB hb p6 fp6; replace p6 := cellB hb p6
  replace fp7 := frozB hb p7 fp7; replace p7 := cellB hb p7
  replace fp8 := frozB hb p8 fp8; replace p8 := cellB hb p8
  replace fp9 := frozB hb p9 fp9; replace p9 := cellB hb p9
  replace fp10 := frozB hb p10 fp10; replace p10 := cellB hb p10
  replace fp11 := frozB hb p11 fp11; replace p11 := cellB hb p11
  replace sA := S.onto sA hb
  replace sB := S.onto sB hb
  replace hon := Onto.to hon hb
  have hz1 := sizeB hb hz0
  clear hb hz0
  have hr := HR0.out
  clear HR0
  by_cases h0 : q = 0
  · rw [if_neg (by simp [h0])] at hr
    have hgb := checkCl_book (HQ.out.symm.trans h0)
    dsimp only at hgb
    subst h0
    have HG := Lib.hid hgb
    clear hgb
    by_cases hk : dg ≠ 0
    · rw [if_pos hk] at hr
      have HR := Lib.hid hr
      have hd2 : (dg != 0) = true := by simpa using hk
      clear hr hk
      go_wp2_with fail
      clear c0 fc0 c1 fc1 c2 fc2 c3 fc3 c4 fc4 c5 fc5 c6 fc6 c7 fc7 c8 fc8 c9 fc9 c10 fc10 c11 fc11
      clear fp0 fp1 fp2 fp3 fp4 fp5 fp6 fp7 fp8 fp9 fp10 fp11
      clear sA sB
      rw [show ((((((((((((w1.setCell ⟨w.heap.size + 1, 0, none⟩ (.int .i64 0)).setCell ⟨w.heap.size + 1, 1, none⟩ (.int .i64 0)).setCell ⟨w.heap.size + 1, 2, none⟩ (.int .i64 0)).setCell ⟨w.heap.size + 1, 3, none⟩ (.int .i64 0)).setCell ⟨w.heap.size + 1, 4, none⟩ (.int .i64 0)).setCell ⟨w.heap.size + 1, 5, none⟩ (.int .i64 0)).setCell ⟨w.heap.size + 1, 6, none⟩ (.int .i64 0)).setCell ⟨w.heap.size + 1, 7, none⟩ (.int .i64 0)).setCell ⟨w.heap.size + 1, 8, none⟩ (.int .i64 0)).setCell ⟨w.heap.size + 1, 9, none⟩ (.int .i64 0)).setCell ⟨w.heap.size + 1, 10, none⟩ (.slice none 0 0)).setCell ⟨w.heap.size + 1, 11, none⟩ (.slice none 0 0)) = (w1.setCells (w.heap.size + 1) 0 [.int .i64 0, .int .i64 0, .int .i64 0, .int .i64 0, .int .i64 0, .int .i64 0, .int .i64 0, .int .i64 0, .int .i64 0, .int .i64 0, .slice none 0 0, .slice none 0 0]) from rfl]
      have F0 : ∀ (j : Nat) vv, ([.int .i64 0, .int .i64 0, .int .i64 0, .int .i64 0, .int .i64 0, .int .i64 0, .int .i64 0, .int .i64 0, .int .i64 0, .int .i64 0, .slice none 0 0, .slice none 0 0] : List Value)[j]? = some vv → (w1.setCells (w.heap.size + 1) 0 [.int .i64 0, .int .i64 0, .int .i64 0, .int .i64 0, .int .i64 0, .int .i64 0, .int .i64 0, .int .i64 0, .int .i64 0, .int .i64 0, .slice none 0 0, .slice none 0 0]).cell? ⟨w.heap.size + 1, j, none⟩ = some vv := fun j vv hv => put_in (w := w1) (b := w.heap.size + 1) (vs := [.int .i64 0, .int .i64 0, .int .i64 0, .int .i64 0, .int .i64 0, .int .i64 0, .int .i64 0, .int .i64 0, .int .i64 0, .int .i64 0, .slice none 0 0, .slice none 0 0]) (there12 p0 p1 p2 p3 p4 p5 p6 p7 p8 p9 p10 p11) hv
      replace hon : Onto w (w1.setCells (w.heap.size + 1) 0 [.int .i64 0, .int .i64 0, .int .i64 0, .int .i64 0, .int .i64 0, .int .i64 0, .int .i64 0, .int .i64 0, .int .i64 0, .int .i64 0, .slice none 0 0, .slice none 0 0]) := put_onto (by omega) hon
      clear p0 p1 p2 p3 p4 p5 p6 p7 p8 p9 p10 p11
      generalize (w1.setCells (w.heap.size + 1) 0 [.int .i64 0, .int .i64 0, .int .i64 0, .int .i64 0, .int .i64 0, .int .i64 0, .int .i64 0, .int .i64 0, .int .i64 0, .int .i64 0, .slice none 0 0, .slice none 0 0]) = wf at *
      have p0 := F0 0 _ rfl
      have p1 := F0 1 _ rfl
      have p2 := F0 2 _ rfl
      have p3 := F0 3 _ rfl
      have p4 := F0 4 _ rfl
      have p5 := F0 5 _ rfl
      have p6 := F0 6 _ rfl
      have p7 := F0 7 _ rfl
      have p8 := F0 8 _ rfl
      have p9 := F0 9 _ rfl
      have p10 := F0 10 _ rfl
      have p11 := F0 11 _ rfl
      clear F0
      refine bodyPost_ret (v := .tuple #[.agg #[.int .i64 0, .int .i64 0, .int .i64 0, .int .i64 0, .int .i64 0, .int .i64 0, .int .i64 0, .int .i64 0, .int .i64 0, .int .i64 0, .slice none 0 0, .slice none 0 0], .int .i64 7]) (by simp [results, Try.results50, go_sem, p0, p1, p2, p3, p4, p5, p6, p7, p8, p9, p10, p11]) rfl ?_
      rw [HR.out]
      exact ⟨none, 0, 0, none, 0, 0, rfl, Sl.nil, Sl.nil, hon⟩
    · rw [if_neg hk] at hr
      have hd2 : (dg != 0) = false := by simpa using hk
      clear hk
      by_cases hc : t < 0 ∨ 100000 < t
      · rw [if_pos hc] at hr
        have HR := Lib.hid hr
        have hd : (decide (0 ≤ t) && decide (t ≤ 100000)) = false := by simp; omega
        clear hr hc
        go_wp2_with fail
        refine Calls.mono (in_calls _ _ _ _) ?_
        rintro e w' ⟨rfl, rfl⟩
        rw [hd]
        go_wp2_with fail
        clear c0 fc0 c1 fc1 c2 fc2 c3 fc3 c4 fc4 c5 fc5 c6 fc6 c7 fc7 c8 fc8 c9 fc9 c10 fc10 c11 fc11
        clear fp0 fp1 fp2 fp3 fp4 fp5 fp6 fp7 fp8 fp9 fp10 fp11
        clear sA sB
        rw [show ((((((((((((w1.setCell ⟨w.heap.size + 1, 0, none⟩ (.int .i64 0)).setCell ⟨w.heap.size + 1, 1, none⟩ (.int .i64 0)).setCell ⟨w.heap.size + 1, 2, none⟩ (.int .i64 0)).setCell ⟨w.heap.size + 1, 3, none⟩ (.int .i64 0)).setCell ⟨w.heap.size + 1, 4, none⟩ (.int .i64 0)).setCell ⟨w.heap.size + 1, 5, none⟩ (.int .i64 0)).setCell ⟨w.heap.size + 1, 6, none⟩ (.int .i64 0)).setCell ⟨w.heap.size + 1, 7, none⟩ (.int .i64 0)).setCell ⟨w.heap.size + 1, 8, none⟩ (.int .i64 0)).setCell ⟨w.heap.size + 1, 9, none⟩ (.int .i64 0)).setCell ⟨w.heap.size + 1, 10, none⟩ (.slice none 0 0)).setCell ⟨w.heap.size + 1, 11, none⟩ (.slice none 0 0)) = (w1.setCells (w.heap.size + 1) 0 [.int .i64 0, .int .i64 0, .int .i64 0, .int .i64 0, .int .i64 0, .int .i64 0, .int .i64 0, .int .i64 0, .int .i64 0, .int .i64 0, .slice none 0 0, .slice none 0 0]) from rfl]
        have F0 : ∀ (j : Nat) vv, ([.int .i64 0, .int .i64 0, .int .i64 0, .int .i64 0, .int .i64 0, .int .i64 0, .int .i64 0, .int .i64 0, .int .i64 0, .int .i64 0, .slice none 0 0, .slice none 0 0] : List Value)[j]? = some vv → (w1.setCells (w.heap.size + 1) 0 [.int .i64 0, .int .i64 0, .int .i64 0, .int .i64 0, .int .i64 0, .int .i64 0, .int .i64 0, .int .i64 0, .int .i64 0, .int .i64 0, .slice none 0 0, .slice none 0 0]).cell? ⟨w.heap.size + 1, j, none⟩ = some vv := fun j vv hv => put_in (w := w1) (b := w.heap.size + 1) (vs := [.int .i64 0, .int .i64 0, .int .i64 0, .int .i64 0, .int .i64 0, .int .i64 0, .int .i64 0, .int .i64 0, .int .i64 0, .int .i64 0, .slice none 0 0, .slice none 0 0]) (there12 p0 p1 p2 p3 p4 p5 p6 p7 p8 p9 p10 p11) hv
        replace hon : Onto w (w1.setCells (w.heap.size + 1) 0 [.int .i64 0, .int .i64 0, .int .i64 0, .int .i64 0, .int .i64 0, .int .i64 0, .int .i64 0, .int .i64 0, .int .i64 0, .int .i64 0, .slice none 0 0, .slice none 0 0]) := put_onto (by omega) hon
        clear p0 p1 p2 p3 p4 p5 p6 p7 p8 p9 p10 p11
        generalize (w1.setCells (w.heap.size + 1) 0 [.int .i64 0, .int .i64 0, .int .i64 0, .int .i64 0, .int .i64 0, .int .i64 0, .int .i64 0, .int .i64 0, .int .i64 0, .int .i64 0, .slice none 0 0, .slice none 0 0]) = wf at *
        have p0 := F0 0 _ rfl
        have p1 := F0 1 _ rfl
        have p2 := F0 2 _ rfl
        have p3 := F0 3 _ rfl
        have p4 := F0 4 _ rfl
        have p5 := F0 5 _ rfl
        have p6 := F0 6 _ rfl
        have p7 := F0 7 _ rfl
        have p8 := F0 8 _ rfl
        have p9 := F0 9 _ rfl
        have p10 := F0 10 _ rfl
        have p11 := F0 11 _ rfl
        clear F0
        refine bodyPost_ret (v := .tuple #[.agg #[.int .i64 0, .int .i64 0, .int .i64 0, .int .i64 0, .int .i64 0, .int .i64 0, .int .i64 0, .int .i64 0, .int .i64 0, .int .i64 0, .slice none 0 0, .slice none 0 0], .int .i64 3]) (by simp [results, Try.results50, go_sem, p0, p1, p2, p3, p4, p5, p6, p7, p8, p9, p10, p11]) rfl ?_
        rw [HR.out]
        exact ⟨none, 0, 0, none, 0, 0, rfl, Sl.nil, Sl.nil, hon⟩
      · rw [if_neg hc] at hr
        have hd : (decide (0 ≤ t) && decide (t ≤ 100000)) = true := by simp; omega
        have HRM := Lib.hid hr
        have hn9 : n ≤ 9223372036854775807 := by have h1 := sA.len; have h2 := HG.out.nj; simp at h1; omega
        clear hc hr
        go_wp2_with fail
        refine Calls.mono (in_calls _ _ _ _) ?_
        rintro e w' ⟨rfl, rfl⟩
        rw [hd]
        go_wp2_with fail
        refine Calls.mono (RJobAt_calls A A' n c m d b job _ sA hn9) ?_
        rintro e w2 ⟨rfl, hb⟩
        replace fc0 := frozB hb c0 fc0; replace c0 := cellB hb c0
        replace fc1 := frozB hb c1 fc1; replace c1 := cellB hb c1
        replace fc2 := frozB hb c2 fc2; replace c2 := cellB hb c2
        replace fc3 := frozB hb c3 fc3; replace c3 := cellB hb c3
        replace fc4 := frozB hb c4 fc4; replace c4 := cellB hb c4
        replace fc5 := frozB hb c5 fc5; replace c5 := cellB hb c5
        replace fc6 := frozB hb c6 fc6; replace c6 := cellB hb c6
        replace fc7 := frozB hb c7 fc7; replace c7 := cellB hb c7
        replace fc8 := frozB hb c8 fc8; replace c8 := cellB hb c8
        replace fc9 := frozB hb c9 fc9; replace c9 := cellB hb c9
        replace fc10 := frozB hb c10 fc10; replace c10 := cellB hb c10
        replace fc11 := frozB hb c11 fc11; replace c11 := cellB hb c11
        replace fp0 := frozB hb p0 fp0; replace p0 := cellB hb p0
        replace fp1 := frozB hb p1 fp1; replace p1 := cellB hb p1
        replace fp2 := frozB hb p2 fp2; replace p2 := cellB hb p2
        replace fp3 := frozB hb p3 fp3; replace p3 := cellB hb p3
        replace fp4 := frozB hb p4 fp4; replace p4 := cellB hb p4
        replace fp5 := frozB hb p5 fp5; replace p5 := cellB hb p5
        replace fp6 := frozB hb p6 fp6; replace p6 := cellB hb p6
        replace fp7 := frozB hb p7 fp7; replace p7 := cellB hb p7
        replace fp8 := frozB hb p8 fp8; replace p8 := cellB hb p8
        replace fp9 := frozB hb p9 fp9; replace p9 := cellB hb p9
        replace fp10 := frozB hb p10 fp10; replace p10 := cellB hb p10
        replace fp11 := frozB hb p11 fp11; replace p11 := cellB hb p11
        replace sA := S.onto sA hb
        replace sB := S.onto sB hb
        replace hon := Onto.to hon hb
        replace hz1 := sizeB hb hz1
        clear hb hd
        by_cases hf : 0 ≤ findB b job
        · obtain ⟨i, j, hi, hj, hid⟩ := findB_pos hf
          rw [hi]
          have hjm := List.mem_of_getElem? hj
          have hin : i < n := by
            have h1 := sA.len
            have h2 := (List.getElem?_eq_some_iff.1 hj).1
            simp at h1
            omega
          obtain ⟨bb, off, j', rfl, hbb, hj', d0, d1, d2⟩ := sA.atJ hin
          obtain rfl : j' = j := by rw [hj] at hj'; cases hj'; rfl
          have hi0 : ¬ (i : Int) < 0 := by omega
          have hiz : decide ((i : Int) < 0) = false := by simp
          have hbj := HG.out.ok _ hjm
          clear hf hi hj hj' hbb hn9
          by_cases hle : j'.next ≤ t
          · have hd3 : decide (t < j'.next) = false := by simp; omega
            have hd4 : ¬ t < j'.next := by omega
            have hr := HRM.out
            rw [ring_hit (c := ⟨ep, dg, x, at_, ln, pl, b⟩) HG.out hjm hle hid] at hr
            have HR := Lib.hid hr
            have hcI : (i : Int) < (n : Int) := by omega
            clear hr hle hjm hid HRM hbj
            go_upto_region 12 with fail
            have o9 := OA.out (w.heap.size + 1) (by omega)
            have o9' := OB.out (w.heap.size + 1) (by omega)
            go_region_law (first
              | (go_simp; go_at_call 49; refine Calls.mono (RWanted_calls ep dg at_ ln pl x ⟨3, job, 0, j'.next, me⟩ (some ⟨bb, off, none⟩) A' n c m d b _ sA.draw sB.draw) ?_; rw [← HR.out]; rintro e w5 ⟨A7, n7, k7, A8, n8, k8, rfl, s7, s8, hb, hor⟩; have p0q := cellB hb p0; have fp0q := frozB hb p0 fp0; have p1q := cellB hb p1; have fp1q := frozB hb p1 fp1; have p2q := cellB hb p2; have fp2q := frozB hb p2 fp2; have p3q := cellB hb p3; have fp3q := frozB hb p3 fp3; have p4q := cellB hb p4; have fp4q := frozB hb p4 fp4; have p5q := cellB hb p5; have fp5q := frozB hb p5 fp5; have p6q := cellB hb p6; have fp6q := frozB hb p6 fp6; have p7q := cellB hb p7; have fp7q := frozB hb p7 fp7; have p8q := cellB hb p8; have fp8q := frozB hb p8 fp8; have p9q := cellB hb p9; have fp9q := frozB hb p9 fp9; have p10q := cellB hb p10; have fp10q := frozB hb p10 fp10; have p11q := cellB hb p11; have fp11q := frozB hb p11 fp11; have honq := Onto.to hon.draw hb))
            all_goals
              clear hb p0 fp0 p1 fp1 p2 fp2 p3 fp3 p4 fp4 p5 fp5 p6 fp6 p7 fp7 p8 fp8 p9 fp9 p10 fp10 p11 fp11 hon sA sB d0 d1 d2 c0 fc0 c1 fc1 c2 fc2 c3 fc3 c4 fc4 c5 fc5 c6 fc6 c7 fc7 c8 fc8 c9 fc9 c10 fc10 c11 fc11
              have p0 := p0q; clear p0q
              have fp0 := fp0q; clear fp0q
              have p1 := p1q; clear p1q
              have fp1 := fp1q; clear fp1q
              have p2 := p2q; clear p2q
              have fp2 := fp2q; clear fp2q
              have p3 := p3q; clear p3q
              have fp3 := fp3q; clear fp3q
              have p4 := p4q; clear p4q
              have fp4 := fp4q; clear fp4q
              have p5 := p5q; clear p5q
              have fp5 := fp5q; clear fp5q
              have p6 := p6q; clear p6q
              have fp6 := fp6q; clear fp6q
              have p7 := p7q; clear p7q
              have fp7 := fp7q; clear fp7q
              have p8 := p8q; clear p8q
              have fp8 := fp8q; clear fp8q
              have p9 := p9q; clear p9q
              have fp9 := fp9q; clear fp9q
              have p10 := p10q; clear p10q
              have fp10 := fp10q; clear fp10q
              have p11 := p11q; clear p11q
              have fp11 := fp11q; clear fp11q
              have hon := honq; clear honq
              have o7 : OffN n7 (w.heap.size + 1) A7 := by
                rcases hor with ⟨rfl, rfl, _, _⟩ | ⟨rfl, _⟩
                · exact o9
                · intro h9; omega
              have o8 : OffN n8 (w.heap.size + 1) A8 := by
                rcases hor with ⟨_, _, rfl, rfl⟩ | ⟨_, rfl⟩
                · exact o9'
                · intro h9; omega
              clear o9 o9' hor
              go_wp2_with fail
              clear fp0 fp1 fp2 fp3 fp4 fp5 fp6 fp7 fp8 fp9 fp10 fp11
              rw [show ((((((((((((w5.setCell ⟨w.heap.size + 1, 0, none⟩ (.int .i64 r.1.epoch)).setCell ⟨w.heap.size + 1, 1, none⟩ (.int .i64 r.1.doing)).setCell ⟨w.heap.size + 1, 2, none⟩ (.int .i64 r.1.e.kind)).setCell ⟨w.heap.size + 1, 3, none⟩ (.int .i64 r.1.e.job)).setCell ⟨w.heap.size + 1, 4, none⟩ (.int .i64 r.1.e.every)).setCell ⟨w.heap.size + 1, 5, none⟩ (.int .i64 r.1.e.time)).setCell ⟨w.heap.size + 1, 6, none⟩ (.int .i64 r.1.e.client)).setCell ⟨w.heap.size + 1, 7, none⟩ (.int .i64 r.1.at_)).setCell ⟨w.heap.size + 1, 8, none⟩ (.int .i64 r.1.link)).setCell ⟨w.heap.size + 1, 9, none⟩ (.int .i64 r.1.played)).setCell ⟨w.heap.size + 1, 10, none⟩ (.slice A7 n7 k7)).setCell ⟨w.heap.size + 1, 11, none⟩ (.slice A8 n8 k8)) = (w5.setCells (w.heap.size + 1) 0 [.int .i64 r.1.epoch, .int .i64 r.1.doing, .int .i64 r.1.e.kind, .int .i64 r.1.e.job, .int .i64 r.1.e.every, .int .i64 r.1.e.time, .int .i64 r.1.e.client, .int .i64 r.1.at_, .int .i64 r.1.link, .int .i64 r.1.played, .slice A7 n7 k7, .slice A8 n8 k8]) from rfl]
              have F0 : ∀ (j : Nat) vv, ([.int .i64 r.1.epoch, .int .i64 r.1.doing, .int .i64 r.1.e.kind, .int .i64 r.1.e.job, .int .i64 r.1.e.every, .int .i64 r.1.e.time, .int .i64 r.1.e.client, .int .i64 r.1.at_, .int .i64 r.1.link, .int .i64 r.1.played, .slice A7 n7 k7, .slice A8 n8 k8] : List Value)[j]? = some vv → (w5.setCells (w.heap.size + 1) 0 [.int .i64 r.1.epoch, .int .i64 r.1.doing, .int .i64 r.1.e.kind, .int .i64 r.1.e.job, .int .i64 r.1.e.every, .int .i64 r.1.e.time, .int .i64 r.1.e.client, .int .i64 r.1.at_, .int .i64 r.1.link, .int .i64 r.1.played, .slice A7 n7 k7, .slice A8 n8 k8]).cell? ⟨w.heap.size + 1, j, none⟩ = some vv := fun j vv hv => put_in (w := w5) (b := w.heap.size + 1) (vs := [.int .i64 r.1.epoch, .int .i64 r.1.doing, .int .i64 r.1.e.kind, .int .i64 r.1.e.job, .int .i64 r.1.e.every, .int .i64 r.1.e.time, .int .i64 r.1.e.client, .int .i64 r.1.at_, .int .i64 r.1.link, .int .i64 r.1.played, .slice A7 n7 k7, .slice A8 n8 k8]) (there12 p0 p1 p2 p3 p4 p5 p6 p7 p8 p9 p10 p11) hv
              replace hon : Onto w (w5.setCells (w.heap.size + 1) 0 [.int .i64 r.1.epoch, .int .i64 r.1.doing, .int .i64 r.1.e.kind, .int .i64 r.1.e.job, .int .i64 r.1.e.every, .int .i64 r.1.e.time, .int .i64 r.1.e.client, .int .i64 r.1.at_, .int .i64 r.1.link, .int .i64 r.1.played, .slice A7 n7 k7, .slice A8 n8 k8]) := put_onto (by omega) hon
              replace s7 := put_S (vs := [.int .i64 r.1.epoch, .int .i64 r.1.doing, .int .i64 r.1.e.kind, .int .i64 r.1.e.job, .int .i64 r.1.e.every, .int .i64 r.1.e.time, .int .i64 r.1.e.client, .int .i64 r.1.at_, .int .i64 r.1.link, .int .i64 r.1.played, .slice A7 n7 k7, .slice A8 n8 k8]) (b := w.heap.size + 1) (o := 0) (w := w5) o7 s7
              replace s8 := put_S (vs := [.int .i64 r.1.epoch, .int .i64 r.1.doing, .int .i64 r.1.e.kind, .int .i64 r.1.e.job, .int .i64 r.1.e.every, .int .i64 r.1.e.time, .int .i64 r.1.e.client, .int .i64 r.1.at_, .int .i64 r.1.link, .int .i64 r.1.played, .slice A7 n7 k7, .slice A8 n8 k8]) (b := w.heap.size + 1) (o := 0) (w := w5) o8 s8
              clear p0 p1 p2 p3 p4 p5 p6 p7 p8 p9 p10 p11
              generalize (w5.setCells (w.heap.size + 1) 0 [.int .i64 r.1.epoch, .int .i64 r.1.doing, .int .i64 r.1.e.kind, .int .i64 r.1.e.job, .int .i64 r.1.e.every, .int .i64 r.1.e.time, .int .i64 r.1.e.client, .int .i64 r.1.at_, .int .i64 r.1.link, .int .i64 r.1.played, .slice A7 n7 k7, .slice A8 n8 k8]) = wf at *
              have p0 := F0 0 _ rfl
              have p1 := F0 1 _ rfl
              have p2 := F0 2 _ rfl
              have p3 := F0 3 _ rfl
              have p4 := F0 4 _ rfl
              have p5 := F0 5 _ rfl
              have p6 := F0 6 _ rfl
              have p7 := F0 7 _ rfl
              have p8 := F0 8 _ rfl
              have p9 := F0 9 _ rfl
              have p10 := F0 10 _ rfl
              have p11 := F0 11 _ rfl
              clear F0
              refine bodyPost_ret (v := .tuple #[.agg #[.int .i64 r.1.epoch, .int .i64 r.1.doing, .int .i64 r.1.e.kind, .int .i64 r.1.e.job, .int .i64 r.1.e.every, .int .i64 r.1.e.time, .int .i64 r.1.e.client, .int .i64 r.1.at_, .int .i64 r.1.link, .int .i64 r.1.played, .slice A7 n7 k7, .slice A8 n8 k8], .int .i64 r.2]) (by simp [results, Try.results50, go_sem, p0, p1, p2, p3, p4, p5, p6, p7, p8, p9, p10, p11]) rfl ?_
              exact ⟨A7, n7, k7, A8, n8, k8, rfl, s7, s8, hon⟩
          · have hd3 : decide (t < j'.next) = true := by simp; omega
            have hd4 : t < j'.next := by omega
            have hr := HRM.out
            rw [ring_late (c := ⟨ep, dg, x, at_, ln, pl, b⟩) HG.out hjm hle hid] at hr
            have HR := Lib.hid hr
            have hcI : (i : Int) < (n : Int) := by omega
            clear hr hle hjm hid HRM hbj
            go_wp2_with fail
            clear c0 fc0 c1 fc1 c2 fc2 c3 fc3 c4 fc4 c5 fc5 c6 fc6 c7 fc7 c8 fc8 c9 fc9 c10 fc10 c11 fc11
            clear fp0 fp1 fp2 fp3 fp4 fp5 fp6 fp7 fp8 fp9 fp10 fp11
            clear sA sB
            rw [show ((((((((((((w2.setCell ⟨w.heap.size + 1, 0, none⟩ (.int .i64 0)).setCell ⟨w.heap.size + 1, 1, none⟩ (.int .i64 0)).setCell ⟨w.heap.size + 1, 2, none⟩ (.int .i64 0)).setCell ⟨w.heap.size + 1, 3, none⟩ (.int .i64 0)).setCell ⟨w.heap.size + 1, 4, none⟩ (.int .i64 0)).setCell ⟨w.heap.size + 1, 5, none⟩ (.int .i64 0)).setCell ⟨w.heap.size + 1, 6, none⟩ (.int .i64 0)).setCell ⟨w.heap.size + 1, 7, none⟩ (.int .i64 0)).setCell ⟨w.heap.size + 1, 8, none⟩ (.int .i64 0)).setCell ⟨w.heap.size + 1, 9, none⟩ (.int .i64 0)).setCell ⟨w.heap.size + 1, 10, none⟩ (.slice none 0 0)).setCell ⟨w.heap.size + 1, 11, none⟩ (.slice none 0 0)) = (w2.setCells (w.heap.size + 1) 0 [.int .i64 0, .int .i64 0, .int .i64 0, .int .i64 0, .int .i64 0, .int .i64 0, .int .i64 0, .int .i64 0, .int .i64 0, .int .i64 0, .slice none 0 0, .slice none 0 0]) from rfl]
            have F0 : ∀ (j : Nat) vv, ([.int .i64 0, .int .i64 0, .int .i64 0, .int .i64 0, .int .i64 0, .int .i64 0, .int .i64 0, .int .i64 0, .int .i64 0, .int .i64 0, .slice none 0 0, .slice none 0 0] : List Value)[j]? = some vv → (w2.setCells (w.heap.size + 1) 0 [.int .i64 0, .int .i64 0, .int .i64 0, .int .i64 0, .int .i64 0, .int .i64 0, .int .i64 0, .int .i64 0, .int .i64 0, .int .i64 0, .slice none 0 0, .slice none 0 0]).cell? ⟨w.heap.size + 1, j, none⟩ = some vv := fun j vv hv => put_in (w := w2) (b := w.heap.size + 1) (vs := [.int .i64 0, .int .i64 0, .int .i64 0, .int .i64 0, .int .i64 0, .int .i64 0, .int .i64 0, .int .i64 0, .int .i64 0, .int .i64 0, .slice none 0 0, .slice none 0 0]) (there12 p0 p1 p2 p3 p4 p5 p6 p7 p8 p9 p10 p11) hv
            replace hon : Onto w (w2.setCells (w.heap.size + 1) 0 [.int .i64 0, .int .i64 0, .int .i64 0, .int .i64 0, .int .i64 0, .int .i64 0, .int .i64 0, .int .i64 0, .int .i64 0, .int .i64 0, .slice none 0 0, .slice none 0 0]) := put_onto (by omega) hon
            clear p0 p1 p2 p3 p4 p5 p6 p7 p8 p9 p10 p11
            generalize (w2.setCells (w.heap.size + 1) 0 [.int .i64 0, .int .i64 0, .int .i64 0, .int .i64 0, .int .i64 0, .int .i64 0, .int .i64 0, .int .i64 0, .int .i64 0, .int .i64 0, .slice none 0 0, .slice none 0 0]) = wf at *
            have p0 := F0 0 _ rfl
            have p1 := F0 1 _ rfl
            have p2 := F0 2 _ rfl
            have p3 := F0 3 _ rfl
            have p4 := F0 4 _ rfl
            have p5 := F0 5 _ rfl
            have p6 := F0 6 _ rfl
            have p7 := F0 7 _ rfl
            have p8 := F0 8 _ rfl
            have p9 := F0 9 _ rfl
            have p10 := F0 10 _ rfl
            have p11 := F0 11 _ rfl
            clear F0
            refine bodyPost_ret (v := .tuple #[.agg #[.int .i64 0, .int .i64 0, .int .i64 0, .int .i64 0, .int .i64 0, .int .i64 0, .int .i64 0, .int .i64 0, .int .i64 0, .int .i64 0, .slice none 0 0, .slice none 0 0], .int .i64 5]) (by simp [results, Try.results50, go_sem, p0, p1, p2, p3, p4, p5, p6, p7, p8, p9, p10, p11]) rfl ?_
            rw [HR.out]
            exact ⟨none, 0, 0, none, 0, 0, rfl, Sl.nil, Sl.nil, hon⟩
        · have hr := HRM.out
          rw [ring_miss (c := ⟨ep, dg, x, at_, ln, pl, b⟩) (fun y hy _ => findB_neg hf y hy)] at hr
          have HR := Lib.hid hr
          have hfi : findB b job = -1 := findB_none (findB_neg hf)
          rw [hfi]
          clear hr HRM hf hfi hn9
          go_wp2_with fail
          clear c0 fc0 c1 fc1 c2 fc2 c3 fc3 c4 fc4 c5 fc5 c6 fc6 c7 fc7 c8 fc8 c9 fc9 c10 fc10 c11 fc11
          clear fp0 fp1 fp2 fp3 fp4 fp5 fp6 fp7 fp8 fp9 fp10 fp11
          clear sA sB
          rw [show ((((((((((((w2.setCell ⟨w.heap.size + 1, 0, none⟩ (.int .i64 0)).setCell ⟨w.heap.size + 1, 1, none⟩ (.int .i64 0)).setCell ⟨w.heap.size + 1, 2, none⟩ (.int .i64 0)).setCell ⟨w.heap.size + 1, 3, none⟩ (.int .i64 0)).setCell ⟨w.heap.size + 1, 4, none⟩ (.int .i64 0)).setCell ⟨w.heap.size + 1, 5, none⟩ (.int .i64 0)).setCell ⟨w.heap.size + 1, 6, none⟩ (.int .i64 0)).setCell ⟨w.heap.size + 1, 7, none⟩ (.int .i64 0)).setCell ⟨w.heap.size + 1, 8, none⟩ (.int .i64 0)).setCell ⟨w.heap.size + 1, 9, none⟩ (.int .i64 0)).setCell ⟨w.heap.size + 1, 10, none⟩ (.slice none 0 0)).setCell ⟨w.heap.size + 1, 11, none⟩ (.slice none 0 0)) = (w2.setCells (w.heap.size + 1) 0 [.int .i64 0, .int .i64 0, .int .i64 0, .int .i64 0, .int .i64 0, .int .i64 0, .int .i64 0, .int .i64 0, .int .i64 0, .int .i64 0, .slice none 0 0, .slice none 0 0]) from rfl]
          have F0 : ∀ (j : Nat) vv, ([.int .i64 0, .int .i64 0, .int .i64 0, .int .i64 0, .int .i64 0, .int .i64 0, .int .i64 0, .int .i64 0, .int .i64 0, .int .i64 0, .slice none 0 0, .slice none 0 0] : List Value)[j]? = some vv → (w2.setCells (w.heap.size + 1) 0 [.int .i64 0, .int .i64 0, .int .i64 0, .int .i64 0, .int .i64 0, .int .i64 0, .int .i64 0, .int .i64 0, .int .i64 0, .int .i64 0, .slice none 0 0, .slice none 0 0]).cell? ⟨w.heap.size + 1, j, none⟩ = some vv := fun j vv hv => put_in (w := w2) (b := w.heap.size + 1) (vs := [.int .i64 0, .int .i64 0, .int .i64 0, .int .i64 0, .int .i64 0, .int .i64 0, .int .i64 0, .int .i64 0, .int .i64 0, .int .i64 0, .slice none 0 0, .slice none 0 0]) (there12 p0 p1 p2 p3 p4 p5 p6 p7 p8 p9 p10 p11) hv
          replace hon : Onto w (w2.setCells (w.heap.size + 1) 0 [.int .i64 0, .int .i64 0, .int .i64 0, .int .i64 0, .int .i64 0, .int .i64 0, .int .i64 0, .int .i64 0, .int .i64 0, .int .i64 0, .slice none 0 0, .slice none 0 0]) := put_onto (by omega) hon
          clear p0 p1 p2 p3 p4 p5 p6 p7 p8 p9 p10 p11
          generalize (w2.setCells (w.heap.size + 1) 0 [.int .i64 0, .int .i64 0, .int .i64 0, .int .i64 0, .int .i64 0, .int .i64 0, .int .i64 0, .int .i64 0, .int .i64 0, .int .i64 0, .slice none 0 0, .slice none 0 0]) = wf at *
          have p0 := F0 0 _ rfl
          have p1 := F0 1 _ rfl
          have p2 := F0 2 _ rfl
          have p3 := F0 3 _ rfl
          have p4 := F0 4 _ rfl
          have p5 := F0 5 _ rfl
          have p6 := F0 6 _ rfl
          have p7 := F0 7 _ rfl
          have p8 := F0 8 _ rfl
          have p9 := F0 9 _ rfl
          have p10 := F0 10 _ rfl
          have p11 := F0 11 _ rfl
          clear F0
          refine bodyPost_ret (v := .tuple #[.agg #[.int .i64 0, .int .i64 0, .int .i64 0, .int .i64 0, .int .i64 0, .int .i64 0, .int .i64 0, .int .i64 0, .int .i64 0, .int .i64 0, .slice none 0 0, .slice none 0 0], .int .i64 5]) (by simp [results, Try.results50, go_sem, p0, p1, p2, p3, p4, p5, p6, p7, p8, p9, p10, p11]) rfl ?_
          rw [HR.out]
          exact ⟨none, 0, 0, none, 0, 0, rfl, Sl.nil, Sl.nil, hon⟩
  · rw [if_pos h0] at hr
    have HR := Lib.hid hr
    have hd : (q != 0) = true := by simpa using h0
    clear hr h0
    go_wp2_with fail
    clear c0 fc0 c1 fc1 c2 fc2 c3 fc3 c4 fc4 c5 fc5 c6 fc6 c7 fc7 c8 fc8 c9 fc9 c10 fc10 c11 fc11
    clear fp0 fp1 fp2 fp3 fp4 fp5 fp6 fp7 fp8 fp9 fp10 fp11
    clear sA sB
    rw [show ((((((((((((w1.setCell ⟨w.heap.size + 1, 0, none⟩ (.int .i64 0)).setCell ⟨w.heap.size + 1, 1, none⟩ (.int .i64 0)).setCell ⟨w.heap.size + 1, 2, none⟩ (.int .i64 0)).setCell ⟨w.heap.size + 1, 3, none⟩ (.int .i64 0)).setCell ⟨w.heap.size + 1, 4, none⟩ (.int .i64 0)).setCell ⟨w.heap.size + 1, 5, none⟩ (.int .i64 0)).setCell ⟨w.heap.size + 1, 6, none⟩ (.int .i64 0)).setCell ⟨w.heap.size + 1, 7, none⟩ (.int .i64 0)).setCell ⟨w.heap.size + 1, 8, none⟩ (.int .i64 0)).setCell ⟨w.heap.size + 1, 9, none⟩ (.int .i64 0)).setCell ⟨w.heap.size + 1, 10, none⟩ (.slice none 0 0)).setCell ⟨w.heap.size + 1, 11, none⟩ (.slice none 0 0)) = (w1.setCells (w.heap.size + 1) 0 [.int .i64 0, .int .i64 0, .int .i64 0, .int .i64 0, .int .i64 0, .int .i64 0, .int .i64 0, .int .i64 0, .int .i64 0, .int .i64 0, .slice none 0 0, .slice none 0 0]) from rfl]
    have F0 : ∀ (j : Nat) vv, ([.int .i64 0, .int .i64 0, .int .i64 0, .int .i64 0, .int .i64 0, .int .i64 0, .int .i64 0, .int .i64 0, .int .i64 0, .int .i64 0, .slice none 0 0, .slice none 0 0] : List Value)[j]? = some vv → (w1.setCells (w.heap.size + 1) 0 [.int .i64 0, .int .i64 0, .int .i64 0, .int .i64 0, .int .i64 0, .int .i64 0, .int .i64 0, .int .i64 0, .int .i64 0, .int .i64 0, .slice none 0 0, .slice none 0 0]).cell? ⟨w.heap.size + 1, j, none⟩ = some vv := fun j vv hv => put_in (w := w1) (b := w.heap.size + 1) (vs := [.int .i64 0, .int .i64 0, .int .i64 0, .int .i64 0, .int .i64 0, .int .i64 0, .int .i64 0, .int .i64 0, .int .i64 0, .int .i64 0, .slice none 0 0, .slice none 0 0]) (there12 p0 p1 p2 p3 p4 p5 p6 p7 p8 p9 p10 p11) hv
    replace hon : Onto w (w1.setCells (w.heap.size + 1) 0 [.int .i64 0, .int .i64 0, .int .i64 0, .int .i64 0, .int .i64 0, .int .i64 0, .int .i64 0, .int .i64 0, .int .i64 0, .int .i64 0, .slice none 0 0, .slice none 0 0]) := put_onto (by omega) hon
    clear p0 p1 p2 p3 p4 p5 p6 p7 p8 p9 p10 p11
    generalize (w1.setCells (w.heap.size + 1) 0 [.int .i64 0, .int .i64 0, .int .i64 0, .int .i64 0, .int .i64 0, .int .i64 0, .int .i64 0, .int .i64 0, .int .i64 0, .int .i64 0, .slice none 0 0, .slice none 0 0]) = wf at *
    have p0 := F0 0 _ rfl
    have p1 := F0 1 _ rfl
    have p2 := F0 2 _ rfl
    have p3 := F0 3 _ rfl
    have p4 := F0 4 _ rfl
    have p5 := F0 5 _ rfl
    have p6 := F0 6 _ rfl
    have p7 := F0 7 _ rfl
    have p8 := F0 8 _ rfl
    have p9 := F0 9 _ rfl
    have p10 := F0 10 _ rfl
    have p11 := F0 11 _ rfl
    clear F0
    refine bodyPost_ret (v := .tuple #[.agg #[.int .i64 0, .int .i64 0, .int .i64 0, .int .i64 0, .int .i64 0, .int .i64 0, .int .i64 0, .int .i64 0, .int .i64 0, .int .i64 0, .slice none 0 0, .slice none 0 0], .int .i64 q]) (by simp [results, Try.results50, go_sem, p0, p1, p2, p3, p4, p5, p6, p7, p8, p9, p10, p11]) rfl ?_
    rw [HR.out]
    exact ⟨none, 0, 0, none, 0, 0, rfl, Sl.nil, Sl.nil, hon⟩
end Go.Proofs.Ytbipmoehcmighaa
