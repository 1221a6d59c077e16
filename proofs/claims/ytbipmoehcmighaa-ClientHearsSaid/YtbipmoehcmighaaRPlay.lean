/- The document's PlayedOn. -/
import Derived.Test.YtbipmoehcmighaaRHeard
import Derived.Test.YtbipmoehcmighaaRApply
import Derived.Test.YtbipmoehcmighaaClient6
namespace Go.Proofs.Ytbipmoehcmighaa
set_option linter.unusedSimpArgs false
set_option linter.unusedVariables false
open Go.RowKit


set_option maxHeartbeats 8000000 in
set_option maxRecDepth 100000 in
theorem RPlayedOn_calls (ep dg at_ ln pl : Int) (x y : Entry) (A A' : Option Addr) (n c m d : Nat) (b : Book) (w : World) (sA : S w 3 A n (b.jobs.map encJ)) (sB : S w 3 A' m (b.rung.map encR)) :
    Calls Try.prog 43 #[.agg #[.int .i64 ep, .int .i64 dg, .int .i64 x.kind, .int .i64 x.job, .int .i64 x.every, .int .i64 x.time, .int .i64 x.client, .int .i64 at_, .int .i64 ln, .int .i64 pl, .slice A n c, .slice A' m d], .agg #[.int .i64 y.kind, .int .i64 y.job, .int .i64 y.every, .int .i64 y.time, .int .i64 y.client]] w (RClPost w (playCl ⟨ep, dg, x, at_, ln, pl, b⟩ y).1 (playCl ⟨ep, dg, x, at_, ln, pl, b⟩ y).2) := by
  obtain ⟨q, hq⟩ : ∃ q, q = checkCl ⟨ep, dg, x, at_, ln, pl, b⟩ := ⟨_, rfl⟩
  obtain ⟨r, hr⟩ : ∃ r, r = playCl ⟨ep, dg, x, at_, ln, pl, b⟩ y := ⟨_, rfl⟩
  rw [← hr]
  unfold playCl at hr
  rw [← hq] at hr
  dsimp only at hr
  have HQ := Lib.hid hq; have HR0 := Lib.hid hr
  clear hq hr
  have oA : ∀ z, w.heap.size ≤ z → OffN n z A := fun z hz => sA.offN hz
  have oB : ∀ z, w.heap.size ≤ z → OffN m z A' := fun z hz => sB.offN hz
  have OA := Lib.hid oA; have OB := Lib.hid oB
  clear oA oB
  go_enter Try.func43, Try.ntmps43
  go_upto_region 1 with fail
  have hon : Onto w (((w.alloc (Obj.cells #[.int .i64 ep, .int .i64 dg, .int .i64 x.kind, .int .i64 x.job, .int .i64 x.every, .int .i64 x.time, .int .i64 x.client, .int .i64 at_, .int .i64 ln, .int .i64 pl, .slice A n c, .slice A' m d] 56)).alloc (Obj.cells #[.int .i64 y.kind, .int .i64 y.job, .int .i64 y.every, .int .i64 y.time, .int .i64 y.client] 24)).alloc (Obj.cells #[.int .i64 0, .int .i64 0, .int .i64 0, .int .i64 0, .int .i64 0, .int .i64 0, .int .i64 0, .int .i64 0, .int .i64 0, .int .i64 0, .slice none 0 0, .slice none 0 0] 56)) := ((((Onto.rfl' w).new _).new _).new _)
  replace sA := ((sA.new (Obj.cells #[.int .i64 ep, .int .i64 dg, .int .i64 x.kind, .int .i64 x.job, .int .i64 x.every, .int .i64 x.time, .int .i64 x.client, .int .i64 at_, .int .i64 ln, .int .i64 pl, .slice A n c, .slice A' m d] 56)).new (Obj.cells #[.int .i64 y.kind, .int .i64 y.job, .int .i64 y.every, .int .i64 y.time, .int .i64 y.client] 24)).new (Obj.cells #[.int .i64 0, .int .i64 0, .int .i64 0, .int .i64 0, .int .i64 0, .int .i64 0, .int .i64 0, .int .i64 0, .int .i64 0, .int .i64 0, .slice none 0 0, .slice none 0 0] 56)
  replace sB := ((sB.new (Obj.cells #[.int .i64 ep, .int .i64 dg, .int .i64 x.kind, .int .i64 x.job, .int .i64 x.every, .int .i64 x.time, .int .i64 x.client, .int .i64 at_, .int .i64 ln, .int .i64 pl, .slice A n c, .slice A' m d] 56)).new (Obj.cells #[.int .i64 y.kind, .int .i64 y.job, .int .i64 y.every, .int .i64 y.time, .int .i64 y.client] 24)).new (Obj.cells #[.int .i64 0, .int .i64 0, .int .i64 0, .int .i64 0, .int .i64 0, .int .i64 0, .int .i64 0, .int .i64 0, .int .i64 0, .int .i64 0, .slice none 0 0, .slice none 0 0] 56)
  have c0 : (((w.alloc (Obj.cells #[.int .i64 ep, .int .i64 dg, .int .i64 x.kind, .int .i64 x.job, .int .i64 x.every, .int .i64 x.time, .int .i64 x.client, .int .i64 at_, .int .i64 ln, .int .i64 pl, .slice A n c, .slice A' m d] 56)).alloc (Obj.cells #[.int .i64 y.kind, .int .i64 y.job, .int .i64 y.every, .int .i64 y.time, .int .i64 y.client] 24)).alloc (Obj.cells #[.int .i64 0, .int .i64 0, .int .i64 0, .int .i64 0, .int .i64 0, .int .i64 0, .int .i64 0, .int .i64 0, .int .i64 0, .int .i64 0, .slice none 0 0, .slice none 0 0] 56)).cell? ⟨w.heap.size, 0, none⟩ = some (.int .i64 ep) := by simp [go_sem]
  have fc0 : (((w.alloc (Obj.cells #[.int .i64 ep, .int .i64 dg, .int .i64 x.kind, .int .i64 x.job, .int .i64 x.every, .int .i64 x.time, .int .i64 x.client, .int .i64 at_, .int .i64 ln, .int .i64 pl, .slice A n c, .slice A' m d] 56)).alloc (Obj.cells #[.int .i64 y.kind, .int .i64 y.job, .int .i64 y.every, .int .i64 y.time, .int .i64 y.client] 24)).alloc (Obj.cells #[.int .i64 0, .int .i64 0, .int .i64 0, .int .i64 0, .int .i64 0, .int .i64 0, .int .i64 0, .int .i64 0, .int .i64 0, .int .i64 0, .slice none 0 0, .slice none 0 0] 56)).frozen? ⟨w.heap.size, 0, none⟩ = false := by simp [go_sem]
  have c1 : (((w.alloc (Obj.cells #[.int .i64 ep, .int .i64 dg, .int .i64 x.kind, .int .i64 x.job, .int .i64 x.every, .int .i64 x.time, .int .i64 x.client, .int .i64 at_, .int .i64 ln, .int .i64 pl, .slice A n c, .slice A' m d] 56)).alloc (Obj.cells #[.int .i64 y.kind, .int .i64 y.job, .int .i64 y.every, .int .i64 y.time, .int .i64 y.client] 24)).alloc (Obj.cells #[.int .i64 0, .int .i64 0, .int .i64 0, .int .i64 0, .int .i64 0, .int .i64 0, .int .i64 0, .int .i64 0, .int .i64 0, .int .i64 0, .slice none 0 0, .slice none 0 0] 56)).cell? ⟨w.heap.size, 1, none⟩ = some (.int .i64 dg) := by simp [go_sem]
  have fc1 : (((w.alloc (Obj.cells #[.int .i64 ep, .int .i64 dg, .int .i64 x.kind, .int .i64 x.job, .int .i64 x.every, .int .i64 x.time, .int .i64 x.client, .int .i64 at_, .int .i64 ln, .int .i64 pl, .slice A n c, .slice A' m d] 56)).alloc (Obj.cells #[.int .i64 y.kind, .int .i64 y.job, .int .i64 y.every, .int .i64 y.time, .int .i64 y.client] 24)).alloc (Obj.cells #[.int .i64 0, .int .i64 0, .int .i64 0, .int .i64 0, .int .i64 0, .int .i64 0, .int .i64 0, .int .i64 0, .int .i64 0, .int .i64 0, .slice none 0 0, .slice none 0 0] 56)).frozen? ⟨w.heap.size, 1, none⟩ = false := by simp [go_sem]
  have c2 : (((w.alloc (Obj.cells #[.int .i64 ep, .int .i64 dg, .int .i64 x.kind, .int .i64 x.job, .int .i64 x.every, .int .i64 x.time, .int .i64 x.client, .int .i64 at_, .int .i64 ln, .int .i64 pl, .slice A n c, .slice A' m d] 56)).alloc (Obj.cells #[.int .i64 y.kind, .int .i64 y.job, .int .i64 y.every, .int .i64 y.time, .int .i64 y.client] 24)).alloc (Obj.cells #[.int .i64 0, .int .i64 0, .int .i64 0, .int .i64 0, .int .i64 0, .int .i64 0, .int .i64 0, .int .i64 0, .int .i64 0, .int .i64 0, .slice none 0 0, .slice none 0 0] 56)).cell? ⟨w.heap.size, 2, none⟩ = some (.int .i64 x.kind) := by simp [go_sem]
  have fc2 : (((w.alloc (Obj.cells #[.int .i64 ep, .int .i64 dg, .int .i64 x.kind, .int .i64 x.job, .int .i64 x.every, .int .i64 x.time, .int .i64 x.client, .int .i64 at_, .int .i64 ln, .int .i64 pl, .slice A n c, .slice A' m d] 56)).alloc (Obj.cells #[.int .i64 y.kind, .int .i64 y.job, .int .i64 y.every, .int .i64 y.time, .int .i64 y.client] 24)).alloc (Obj.cells #[.int .i64 0, .int .i64 0, .int .i64 0, .int .i64 0, .int .i64 0, .int .i64 0, .int .i64 0, .int .i64 0, .int .i64 0, .int .i64 0, .slice none 0 0, .slice none 0 0] 56)).frozen? ⟨w.heap.size, 2, none⟩ = false := by simp [go_sem]
  have c3 : (((w.alloc (Obj.cells #[.int .i64 ep, .int .i64 dg, .int .i64 x.kind, .int .i64 x.job, .int .i64 x.every, .int .i64 x.time, .int .i64 x.client, .int .i64 at_, .int .i64 ln, .int .i64 pl, .slice A n c, .slice A' m d] 56)).alloc (Obj.cells #[.int .i64 y.kind, .int .i64 y.job, .int .i64 y.every, .int .i64 y.time, .int .i64 y.client] 24)).alloc (Obj.cells #[.int .i64 0, .int .i64 0, .int .i64 0, .int .i64 0, .int .i64 0, .int .i64 0, .int .i64 0, .int .i64 0, .int .i64 0, .int .i64 0, .slice none 0 0, .slice none 0 0] 56)).cell? ⟨w.heap.size, 3, none⟩ = some (.int .i64 x.job) := by simp [go_sem]
  have fc3 : (((w.alloc (Obj.cells #[.int .i64 ep, .int .i64 dg, .int .i64 x.kind, .int .i64 x.job, .int .i64 x.every, .int .i64 x.time, .int .i64 x.client, .int .i64 at_, .int .i64 ln, .int .i64 pl, .slice A n c, .slice A' m d] 56)).alloc (Obj.cells #[.int .i64 y.kind, .int .i64 y.job, .int .i64 y.every, .int .i64 y.time, .int .i64 y.client] 24)).alloc (Obj.cells #[.int .i64 0, .int .i64 0, .int .i64 0, .int .i64 0, .int .i64 0, .int .i64 0, .int .i64 0, .int .i64 0, .int .i64 0, .int .i64 0, .slice none 0 0, .slice none 0 0] 56)).frozen? ⟨w.heap.size, 3, none⟩ = false := by simp [go_sem]
  have c4 : (((w.alloc (Obj.cells #[.int .i64 ep, .int .i64 dg, .int .i64 x.kind, .int .i64 x.job, .int .i64 x.every, .int .i64 x.time, .int .i64 x.client, .int .i64 at_, .int .i64 ln, .int .i64 pl, .slice A n c, .slice A' m d] 56)).alloc (Obj.cells #[.int .i64 y.kind, .int .i64 y.job, .int .i64 y.every, .int .i64 y.time, .int .i64 y.client] 24)).alloc (Obj.cells #[.int .i64 0, .int .i64 0, .int .i64 0, .int .i64 0, .int .i64 0, .int .i64 0, .int .i64 0, .int .i64 0, .int .i64 0, .int .i64 0, .slice none 0 0, .slice none 0 0] 56)).cell? ⟨w.heap.size, 4, none⟩ = some (.int .i64 x.every) := by simp [go_sem]
  have fc4 : (((w.alloc (Obj.cells #[.int .i64 ep, .int .i64 dg, .int .i64 x.kind, .int .i64 x.job, .int .i64 x.every, .int .i64 x.time, .int .i64 x.client, .int .i64 at_, .int .i64 ln, .int .i64 pl, .slice A n c, .slice A' m d] 56)).alloc (Obj.cells #[.int .i64 y.kind, .int .i64 y.job, .int .i64 y.every, .int .i64 y.time, .int .i64 y.client] 24)).alloc (Obj.cells #[.int .i64 0, .int .i64 0, .int .i64 0, .int .i64 0, .int .i64 0, .int .i64 0, .int .i64 0, .int .i64 0, .int .i64 0, .int .i64 0, .slice none 0 0, .slice none 0 0] 56)).frozen? ⟨w.heap.size, 4, none⟩ = false := by simp [go_sem]
  have c5 : (((w.alloc (Obj.cells #[.int .i64 ep, .int .i64 dg, .int .i64 x.kind, .int .i64 x.job, .int .i64 x.every, .int .i64 x.time, .int .i64 x.client, .int .i64 at_, .int .i64 ln, .int .i64 pl, .slice A n c, .slice A' m d] 56)).alloc (Obj.cells #[.int .i64 y.kind, .int .i64 y.job, .int .i64 y.every, .int .i64 y.time, .int .i64 y.client] 24)).alloc (Obj.cells #[.int .i64 0, .int .i64 0, .int .i64 0, .int .i64 0, .int .i64 0, .int .i64 0, .int .i64 0, .int .i64 0, .int .i64 0, .int .i64 0, .slice none 0 0, .slice none 0 0] 56)).cell? ⟨w.heap.size, 5, none⟩ = some (.int .i64 x.time) := by simp [go_sem]
  have fc5 : (((w.alloc (Obj.cells #[.int .i64 ep, .int .i64 dg, .int .i64 x.kind, .int .i64 x.job, .int .i64 x.every, .int .i64 x.time, .int .i64 x.client, .int .i64 at_, .int .i64 ln, .int .i64 pl, .slice A n c, .slice A' m d] 56)).alloc (Obj.cells #[.int .i64 y.kind, .int .i64 y.job, .int .i64 y.every, .int .i64 y.time, .int .i64 y.client] 24)).alloc (Obj.cells #[.int .i64 0, .int .i64 0, .int .i64 0, .int .i64 0, .int .i64 0, .int .i64 0, .int .i64 0, .int .i64 0, .int .i64 0, .int .i64 0, .slice none 0 0, .slice none 0 0] 56)).frozen? ⟨w.heap.size, 5, none⟩ = false := by simp [go_sem]
  have c6 : (((w.alloc (Obj.cells #[.int .i64 ep, .int .i64 dg, .int .i64 x.kind, .int .i64 x.job, .int .i64 x.every, .int .i64 x.time, .int .i64 x.client, .int .i64 at_, .int .i64 ln, .int .i64 pl, .slice A n c, .slice A' m d] 56)).alloc (Obj.cells #[.int .i64 y.kind, .int .i64 y.job, .int .i64 y.every, .int .i64 y.time, .int .i64 y.client] 24)).alloc (Obj.cells #[.int .i64 0, .int .i64 0, .int .i64 0, .int .i64 0, .int .i64 0, .int .i64 0, .int .i64 0, .int .i64 0, .int .i64 0, .int .i64 0, .slice none 0 0, .slice none 0 0] 56)).cell? ⟨w.heap.size, 6, none⟩ = some (.int .i64 x.client) := by simp [go_sem]
  have fc6 : (((w.alloc (Obj.cells #[.int .i64 ep, .int .i64 dg, .int .i64 x.kind, .int .i64 x.job, .int .i64 x.every, .int .i64 x.time, .int .i64 x.client, .int .i64 at_, .int .i64 ln, .int .i64 pl, .slice A n c, .slice A' m d] 56)).alloc (Obj.cells #[.int .i64 y.kind, .int .i64 y.job, .int .i64 y.every, .int .i64 y.time, .int .i64 y.client] 24)).alloc (Obj.cells #[.int .i64 0, .int .i64 0, .int .i64 0, .int .i64 0, .int .i64 0, .int .i64 0, .int .i64 0, .int .i64 0, .int .i64 0, .int .i64 0, .slice none 0 0, .slice none 0 0] 56)).frozen? ⟨w.heap.size, 6, none⟩ = false := by simp [go_sem]
  have c7 : (((w.alloc (Obj.cells #[.int .i64 ep, .int .i64 dg, .int .i64 x.kind, .int .i64 x.job, .int .i64 x.every, .int .i64 x.time, .int .i64 x.client, .int .i64 at_, .int .i64 ln, .int .i64 pl, .slice A n c, .slice A' m d] 56)).alloc (Obj.cells #[.int .i64 y.kind, .int .i64 y.job, .int .i64 y.every, .int .i64 y.time, .int .i64 y.client] 24)).alloc (Obj.cells #[.int .i64 0, .int .i64 0, .int .i64 0, .int .i64 0, .int .i64 0, .int .i64 0, .int .i64 0, .int .i64 0, .int .i64 0, .int .i64 0, .slice none 0 0, .slice none 0 0] 56)).cell? ⟨w.heap.size, 7, none⟩ = some (.int .i64 at_) := by simp [go_sem]
  have fc7 : (((w.alloc (Obj.cells #[.int .i64 ep, .int .i64 dg, .int .i64 x.kind, .int .i64 x.job, .int .i64 x.every, .int .i64 x.time, .int .i64 x.client, .int .i64 at_, .int .i64 ln, .int .i64 pl, .slice A n c, .slice A' m d] 56)).alloc (Obj.cells #[.int .i64 y.kind, .int .i64 y.job, .int .i64 y.every, .int .i64 y.time, .int .i64 y.client] 24)).alloc (Obj.cells #[.int .i64 0, .int .i64 0, .int .i64 0, .int .i64 0, .int .i64 0, .int .i64 0, .int .i64 0, .int .i64 0, .int .i64 0, .int .i64 0, .slice none 0 0, .slice none 0 0] 56)).frozen? ⟨w.heap.size, 7, none⟩ = false := by simp [go_sem]
  have c8 : (((w.alloc (Obj.cells #[.int .i64 ep, .int .i64 dg, .int .i64 x.kind, .int .i64 x.job, .int .i64 x.every, .int .i64 x.time, .int .i64 x.client, .int .i64 at_, .int .i64 ln, .int .i64 pl, .slice A n c, .slice A' m d] 56)).alloc (Obj.cells #[.int .i64 y.kind, .int .i64 y.job, .int .i64 y.every, .int .i64 y.time, .int .i64 y.client] 24)).alloc (Obj.cells #[.int .i64 0, .int .i64 0, .int .i64 0, .int .i64 0, .int .i64 0, .int .i64 0, .int .i64 0, .int .i64 0, .int .i64 0, .int .i64 0, .slice none 0 0, .slice none 0 0] 56)).cell? ⟨w.heap.size, 8, none⟩ = some (.int .i64 ln) := by simp [go_sem]
  have fc8 : (((w.alloc (Obj.cells #[.int .i64 ep, .int .i64 dg, .int .i64 x.kind, .int .i64 x.job, .int .i64 x.every, .int .i64 x.time, .int .i64 x.client, .int .i64 at_, .int .i64 ln, .int .i64 pl, .slice A n c, .slice A' m d] 56)).alloc (Obj.cells #[.int .i64 y.kind, .int .i64 y.job, .int .i64 y.every, .int .i64 y.time, .int .i64 y.client] 24)).alloc (Obj.cells #[.int .i64 0, .int .i64 0, .int .i64 0, .int .i64 0, .int .i64 0, .int .i64 0, .int .i64 0, .int .i64 0, .int .i64 0, .int .i64 0, .slice none 0 0, .slice none 0 0] 56)).frozen? ⟨w.heap.size, 8, none⟩ = false := by simp [go_sem]
  have c9 : (((w.alloc (Obj.cells #[.int .i64 ep, .int .i64 dg, .int .i64 x.kind, .int .i64 x.job, .int .i64 x.every, .int .i64 x.time, .int .i64 x.client, .int .i64 at_, .int .i64 ln, .int .i64 pl, .slice A n c, .slice A' m d] 56)).alloc (Obj.cells #[.int .i64 y.kind, .int .i64 y.job, .int .i64 y.every, .int .i64 y.time, .int .i64 y.client] 24)).alloc (Obj.cells #[.int .i64 0, .int .i64 0, .int .i64 0, .int .i64 0, .int .i64 0, .int .i64 0, .int .i64 0, .int .i64 0, .int .i64 0, .int .i64 0, .slice none 0 0, .slice none 0 0] 56)).cell? ⟨w.heap.size, 9, none⟩ = some (.int .i64 pl) := by simp [go_sem]
  have fc9 : (((w.alloc (Obj.cells #[.int .i64 ep, .int .i64 dg, .int .i64 x.kind, .int .i64 x.job, .int .i64 x.every, .int .i64 x.time, .int .i64 x.client, .int .i64 at_, .int .i64 ln, .int .i64 pl, .slice A n c, .slice A' m d] 56)).alloc (Obj.cells #[.int .i64 y.kind, .int .i64 y.job, .int .i64 y.every, .int .i64 y.time, .int .i64 y.client] 24)).alloc (Obj.cells #[.int .i64 0, .int .i64 0, .int .i64 0, .int .i64 0, .int .i64 0, .int .i64 0, .int .i64 0, .int .i64 0, .int .i64 0, .int .i64 0, .slice none 0 0, .slice none 0 0] 56)).frozen? ⟨w.heap.size, 9, none⟩ = false := by simp [go_sem]
  have c10 : (((w.alloc (Obj.cells #[.int .i64 ep, .int .i64 dg, .int .i64 x.kind, .int .i64 x.job, .int .i64 x.every, .int .i64 x.time, .int .i64 x.client, .int .i64 at_, .int .i64 ln, .int .i64 pl, .slice A n c, .slice A' m d] 56)).alloc (Obj.cells #[.int .i64 y.kind, .int .i64 y.job, .int .i64 y.every, .int .i64 y.time, .int .i64 y.client] 24)).alloc (Obj.cells #[.int .i64 0, .int .i64 0, .int .i64 0, .int .i64 0, .int .i64 0, .int .i64 0, .int .i64 0, .int .i64 0, .int .i64 0, .int .i64 0, .slice none 0 0, .slice none 0 0] 56)).cell? ⟨w.heap.size, 10, none⟩ = some (.slice A n c) := by simp [go_sem]
  have fc10 : (((w.alloc (Obj.cells #[.int .i64 ep, .int .i64 dg, .int .i64 x.kind, .int .i64 x.job, .int .i64 x.every, .int .i64 x.time, .int .i64 x.client, .int .i64 at_, .int .i64 ln, .int .i64 pl, .slice A n c, .slice A' m d] 56)).alloc (Obj.cells #[.int .i64 y.kind, .int .i64 y.job, .int .i64 y.every, .int .i64 y.time, .int .i64 y.client] 24)).alloc (Obj.cells #[.int .i64 0, .int .i64 0, .int .i64 0, .int .i64 0, .int .i64 0, .int .i64 0, .int .i64 0, .int .i64 0, .int .i64 0, .int .i64 0, .slice none 0 0, .slice none 0 0] 56)).frozen? ⟨w.heap.size, 10, none⟩ = false := by simp [go_sem]
  have c11 : (((w.alloc (Obj.cells #[.int .i64 ep, .int .i64 dg, .int .i64 x.kind, .int .i64 x.job, .int .i64 x.every, .int .i64 x.time, .int .i64 x.client, .int .i64 at_, .int .i64 ln, .int .i64 pl, .slice A n c, .slice A' m d] 56)).alloc (Obj.cells #[.int .i64 y.kind, .int .i64 y.job, .int .i64 y.every, .int .i64 y.time, .int .i64 y.client] 24)).alloc (Obj.cells #[.int .i64 0, .int .i64 0, .int .i64 0, .int .i64 0, .int .i64 0, .int .i64 0, .int .i64 0, .int .i64 0, .int .i64 0, .int .i64 0, .slice none 0 0, .slice none 0 0] 56)).cell? ⟨w.heap.size, 11, none⟩ = some (.slice A' m d) := by simp [go_sem]
  have fc11 : (((w.alloc (Obj.cells #[.int .i64 ep, .int .i64 dg, .int .i64 x.kind, .int .i64 x.job, .int .i64 x.every, .int .i64 x.time, .int .i64 x.client, .int .i64 at_, .int .i64 ln, .int .i64 pl, .slice A n c, .slice A' m d] 56)).alloc (Obj.cells #[.int .i64 y.kind, .int .i64 y.job, .int .i64 y.every, .int .i64 y.time, .int .i64 y.client] 24)).alloc (Obj.cells #[.int .i64 0, .int .i64 0, .int .i64 0, .int .i64 0, .int .i64 0, .int .i64 0, .int .i64 0, .int .i64 0, .int .i64 0, .int .i64 0, .slice none 0 0, .slice none 0 0] 56)).frozen? ⟨w.heap.size, 11, none⟩ = false := by simp [go_sem]
  have e0 : (((w.alloc (Obj.cells #[.int .i64 ep, .int .i64 dg, .int .i64 x.kind, .int .i64 x.job, .int .i64 x.every, .int .i64 x.time, .int .i64 x.client, .int .i64 at_, .int .i64 ln, .int .i64 pl, .slice A n c, .slice A' m d] 56)).alloc (Obj.cells #[.int .i64 y.kind, .int .i64 y.job, .int .i64 y.every, .int .i64 y.time, .int .i64 y.client] 24)).alloc (Obj.cells #[.int .i64 0, .int .i64 0, .int .i64 0, .int .i64 0, .int .i64 0, .int .i64 0, .int .i64 0, .int .i64 0, .int .i64 0, .int .i64 0, .slice none 0 0, .slice none 0 0] 56)).cell? ⟨w.heap.size + 1, 0, none⟩ = some (.int .i64 y.kind) := by simp [go_sem]
  have e1 : (((w.alloc (Obj.cells #[.int .i64 ep, .int .i64 dg, .int .i64 x.kind, .int .i64 x.job, .int .i64 x.every, .int .i64 x.time, .int .i64 x.client, .int .i64 at_, .int .i64 ln, .int .i64 pl, .slice A n c, .slice A' m d] 56)).alloc (Obj.cells #[.int .i64 y.kind, .int .i64 y.job, .int .i64 y.every, .int .i64 y.time, .int .i64 y.client] 24)).alloc (Obj.cells #[.int .i64 0, .int .i64 0, .int .i64 0, .int .i64 0, .int .i64 0, .int .i64 0, .int .i64 0, .int .i64 0, .int .i64 0, .int .i64 0, .slice none 0 0, .slice none 0 0] 56)).cell? ⟨w.heap.size + 1, 1, none⟩ = some (.int .i64 y.job) := by simp [go_sem]
  have e2 : (((w.alloc (Obj.cells #[.int .i64 ep, .int .i64 dg, .int .i64 x.kind, .int .i64 x.job, .int .i64 x.every, .int .i64 x.time, .int .i64 x.client, .int .i64 at_, .int .i64 ln, .int .i64 pl, .slice A n c, .slice A' m d] 56)).alloc (Obj.cells #[.int .i64 y.kind, .int .i64 y.job, .int .i64 y.every, .int .i64 y.time, .int .i64 y.client] 24)).alloc (Obj.cells #[.int .i64 0, .int .i64 0, .int .i64 0, .int .i64 0, .int .i64 0, .int .i64 0, .int .i64 0, .int .i64 0, .int .i64 0, .int .i64 0, .slice none 0 0, .slice none 0 0] 56)).cell? ⟨w.heap.size + 1, 2, none⟩ = some (.int .i64 y.every) := by simp [go_sem]
  have e3 : (((w.alloc (Obj.cells #[.int .i64 ep, .int .i64 dg, .int .i64 x.kind, .int .i64 x.job, .int .i64 x.every, .int .i64 x.time, .int .i64 x.client, .int .i64 at_, .int .i64 ln, .int .i64 pl, .slice A n c, .slice A' m d] 56)).alloc (Obj.cells #[.int .i64 y.kind, .int .i64 y.job, .int .i64 y.every, .int .i64 y.time, .int .i64 y.client] 24)).alloc (Obj.cells #[.int .i64 0, .int .i64 0, .int .i64 0, .int .i64 0, .int .i64 0, .int .i64 0, .int .i64 0, .int .i64 0, .int .i64 0, .int .i64 0, .slice none 0 0, .slice none 0 0] 56)).cell? ⟨w.heap.size + 1, 3, none⟩ = some (.int .i64 y.time) := by simp [go_sem]
  have e4 : (((w.alloc (Obj.cells #[.int .i64 ep, .int .i64 dg, .int .i64 x.kind, .int .i64 x.job, .int .i64 x.every, .int .i64 x.time, .int .i64 x.client, .int .i64 at_, .int .i64 ln, .int .i64 pl, .slice A n c, .slice A' m d] 56)).alloc (Obj.cells #[.int .i64 y.kind, .int .i64 y.job, .int .i64 y.every, .int .i64 y.time, .int .i64 y.client] 24)).alloc (Obj.cells #[.int .i64 0, .int .i64 0, .int .i64 0, .int .i64 0, .int .i64 0, .int .i64 0, .int .i64 0, .int .i64 0, .int .i64 0, .int .i64 0, .slice none 0 0, .slice none 0 0] 56)).cell? ⟨w.heap.size + 1, 4, none⟩ = some (.int .i64 y.client) := by simp [go_sem]
  have p0 : (((w.alloc (Obj.cells #[.int .i64 ep, .int .i64 dg, .int .i64 x.kind, .int .i64 x.job, .int .i64 x.every, .int .i64 x.time, .int .i64 x.client, .int .i64 at_, .int .i64 ln, .int .i64 pl, .slice A n c, .slice A' m d] 56)).alloc (Obj.cells #[.int .i64 y.kind, .int .i64 y.job, .int .i64 y.every, .int .i64 y.time, .int .i64 y.client] 24)).alloc (Obj.cells #[.int .i64 0, .int .i64 0, .int .i64 0, .int .i64 0, .int .i64 0, .int .i64 0, .int .i64 0, .int .i64 0, .int .i64 0, .int .i64 0, .slice none 0 0, .slice none 0 0] 56)).cell? ⟨w.heap.size + 1 + 1, 0, none⟩ = some (.int .i64 0) := by simp [go_sem]
  have fp0 : (((w.alloc (Obj.cells #[.int .i64 ep, .int .i64 dg, .int .i64 x.kind, .int .i64 x.job, .int .i64 x.every, .int .i64 x.time, .int .i64 x.client, .int .i64 at_, .int .i64 ln, .int .i64 pl, .slice A n c, .slice A' m d] 56)).alloc (Obj.cells #[.int .i64 y.kind, .int .i64 y.job, .int .i64 y.every, .int .i64 y.time, .int .i64 y.client] 24)).alloc (Obj.cells #[.int .i64 0, .int .i64 0, .int .i64 0, .int .i64 0, .int .i64 0, .int .i64 0, .int .i64 0, .int .i64 0, .int .i64 0, .int .i64 0, .slice none 0 0, .slice none 0 0] 56)).frozen? ⟨w.heap.size + 1 + 1, 0, none⟩ = false := by simp [go_sem]
  have p1 : (((w.alloc (Obj.cells #[.int .i64 ep, .int .i64 dg, .int .i64 x.kind, .int .i64 x.job, .int .i64 x.every, .int .i64 x.time, .int .i64 x.client, .int .i64 at_, .int .i64 ln, .int .i64 pl, .slice A n c, .slice A' m d] 56)).alloc (Obj.cells #[.int .i64 y.kind, .int .i64 y.job, .int .i64 y.every, .int .i64 y.time, .int .i64 y.client] 24)).alloc (Obj.cells #[.int .i64 0, .int .i64 0, .int .i64 0, .int .i64 0, .int .i64 0, .int .i64 0, .int .i64 0, .int .i64 0, .int .i64 0, .int .i64 0, .slice none 0 0, .slice none 0 0] 56)).cell? ⟨w.heap.size + 1 + 1, 1, none⟩ = some (.int .i64 0) := by simp [go_sem]
  have fp1 : (((w.alloc (Obj.cells #[.int .i64 ep, .int .i64 dg, .int .i64 x.kind, .int .i64 x.job, .int .i64 x.every, .int .i64 x.time, .int .i64 x.client, .int .i64 at_, .int .i64 ln, .int .i64 pl, .slice A n c, .slice A' m d] 56)).alloc (Obj.cells #[.int .i64 y.kind, .int .i64 y.job, .int .i64 y.every, .int .i64 y.time, .int .i64 y.client] 24)).alloc (Obj.cells #[.int .i64 0, .int .i64 0, .int .i64 0, .int .i64 0, .int .i64 0, .int .i64 0, .int .i64 0, .int .i64 0, .int .i64 0, .int .i64 0, .slice none 0 0, .slice none 0 0] 56)).frozen? ⟨w.heap.size + 1 + 1, 1, none⟩ = false := by simp [go_sem]
  have p2 : (((w.alloc (Obj.cells #[.int .i64 ep, .int .i64 dg, .int .i64 x.kind, .int .i64 x.job, .int .i64 x.every, .int .i64 x.time, .int .i64 x.client, .int .i64 at_, .int .i64 ln, .int .i64 pl, .slice A n c, .slice A' m d] 56)).alloc (Obj.cells #[.int .i64 y.kind, .int .i64 y.job, .int .i64 y.every, .int .i64 y.time, .int .i64 y.client] 24)).alloc (Obj.cells #[.int .i64 0, .int .i64 0, .int .i64 0, .int .i64 0, .int .i64 0, .int .i64 0, .int .i64 0, .int .i64 0, .int .i64 0, .int .i64 0, .slice none 0 0, .slice none 0 0] 56)).cell? ⟨w.heap.size + 1 + 1, 2, none⟩ = some (.int .i64 0) := by simp [go_sem]
  have fp2 : (((w.alloc (Obj.cells #[.int .i64 ep, .int .i64 dg, .int .i64 x.kind, .int .i64 x.job, .int .i64 x.every, .int .i64 x.time, .int .i64 x.client, .int .i64 at_, .int .i64 ln, .int .i64 pl, .slice A n c, .slice A' m d] 56)).alloc (Obj.cells #[.int .i64 y.kind, .int .i64 y.job, .int .i64 y.every, .int .i64 y.time, .int .i64 y.client] 24)).alloc (Obj.cells #[.int .i64 0, .int .i64 0, .int .i64 0, .int .i64 0, .int .i64 0, .int .i64 0, .int .i64 0, .int .i64 0, .int .i64 0, .int .i64 0, .slice none 0 0, .slice none 0 0] 56)).frozen? ⟨w.heap.size + 1 + 1, 2, none⟩ = false := by simp [go_sem]
  have p3 : (((w.alloc (Obj.cells #[.int .i64 ep, .int .i64 dg, .int .i64 x.kind, .int .i64 x.job, .int .i64 x.every, .int .i64 x.time, .int .i64 x.client, .int .i64 at_, .int .i64 ln, .int .i64 pl, .slice A n c, .slice A' m d] 56)).alloc (Obj.cells #[.int .i64 y.kind, .int .i64 y.job, .int .i64 y.every, .int .i64 y.time, .int .i64 y.client] 24)).alloc (Obj.cells #[.int .i64 0, .int .i64 0, .int .i64 0, .int .i64 0, .int .i64 0, .int .i64 0, .int .i64 0, .int .i64 0, .int .i64 0, .int .i64 0, .slice none 0 0, .slice none 0 0] 56)).cell? ⟨w.heap.size + 1 + 1, 3, none⟩ = some (.int .i64 0) := by simp [go_sem]
  have fp3 : (((w.alloc (Obj.cells #[.int .i64 ep, .int .i64 dg, .int .i64 x.kind, .int .i64 x.job, .int .i64 x.every, .int .i64 x.time, .int .i64 x.client, .int .i64 at_, .int .i64 ln, .int .i64 pl, .slice A n c, .slice A' m d] 56)).alloc (Obj.cells #[.int .i64 y.kind, .int .i64 y.job, .int .i64 y.every, .int .i64 y.time, .int .i64 y.client] 24)).alloc (Obj.cells #[.int .i64 0, .int .i64 0, .int .i64 0, .int .i64 0, .int .i64 0, .int .i64 0, .int .i64 0, .int .i64 0, .int .i64 0, .int .i64 0, .slice none 0 0, .slice none 0 0] 56)).frozen? ⟨w.heap.size + 1 + 1, 3, none⟩ = false := by simp [go_sem]
  have p4 : (((w.alloc (Obj.cells #[.int .i64 ep, .int .i64 dg, .int .i64 x.kind, .int .i64 x.job, .int .i64 x.every, .int .i64 x.time, .int .i64 x.client, .int .i64 at_, .int .i64 ln, .int .i64 pl, .slice A n c, .slice A' m d] 56)).alloc (Obj.cells #[.int .i64 y.kind, .int .i64 y.job, .int .i64 y.every, .int .i64 y.time, .int .i64 y.client] 24)).alloc (Obj.cells #[.int .i64 0, .int .i64 0, .int .i64 0, .int .i64 0, .int .i64 0, .int .i64 0, .int .i64 0, .int .i64 0, .int .i64 0, .int .i64 0, .slice none 0 0, .slice none 0 0] 56)).cell? ⟨w.heap.size + 1 + 1, 4, none⟩ = some (.int .i64 0) := by simp [go_sem]
  have fp4 : (((w.alloc (Obj.cells #[.int .i64 ep, .int .i64 dg, .int .i64 x.kind, .int .i64 x.job, .int .i64 x.every, .int .i64 x.time, .int .i64 x.client, .int .i64 at_, .int .i64 ln, .int .i64 pl, .slice A n c, .slice A' m d] 56)).alloc (Obj.cells #[.int .i64 y.kind, .int .i64 y.job, .int .i64 y.every, .int .i64 y.time, .int .i64 y.client] 24)).alloc (Obj.cells #[.int .i64 0, .int .i64 0, .int .i64 0, .int .i64 0, .int .i64 0, .int .i64 0, .int .i64 0, .int .i64 0, .int .i64 0, .int .i64 0, .slice none 0 0, .slice none 0 0] 56)).frozen? ⟨w.heap.size + 1 + 1, 4, none⟩ = false := by simp [go_sem]
  have p5 : (((w.alloc (Obj.cells #[.int .i64 ep, .int .i64 dg, .int .i64 x.kind, .int .i64 x.job, .int .i64 x.every, .int .i64 x.time, .int .i64 x.client, .int .i64 at_, .int .i64 ln, .int .i64 pl, .slice A n c, .slice A' m d] 56)).alloc (Obj.cells #[.int .i64 y.kind, .int .i64 y.job, .int .i64 y.every, .int .i64 y.time, .int .i64 y.client] 24)).alloc (Obj.cells #[.int .i64 0, .int .i64 0, .int .i64 0, .int .i64 0, .int .i64 0, .int .i64 0, .int .i64 0, .int .i64 0, .int .i64 0, .int .i64 0, .slice none 0 0, .slice none 0 0] 56)).cell? ⟨w.heap.size + 1 + 1, 5, none⟩ = some (.int .i64 0) := by simp [go_sem]
  have fp5 : (((w.alloc (Obj.cells #[.int .i64 ep, .int .i64 dg, .int .i64 x.kind, .int .i64 x.job, .int .i64 x.every, .int .i64 x.time, .int .i64 x.client, .int .i64 at_, .int .i64 ln, .int .i64 pl, .slice A n c, .slice A' m d] 56)).alloc (Obj.cells #[.int .i64 y.kind, .int .i64 y.job, .int .i64 y.every, .int .i64 y.time, .int .i64 y.client] 24)).alloc (Obj.cells #[.int .i64 0, .int .i64 0, .int .i64 0, .int .i64 0, .int .i64 0, .int .i64 0, .int .i64 0, .int .i64 0, .int .i64 0, .int .i64 0, .slice none 0 0, .slice none 0 0] 56)).frozen? ⟨w.heap.size + 1 + 1, 5, none⟩ = false := by simp [go_sem]
  have p6 : (((w.alloc (Obj.cells #[.int .i64 ep, .int .i64 dg, .int .i64 x.kind, .int .i64 x.job, .int .i64 x.every, .int .i64 x.time, .int .i64 x.client, .int .i64 at_, .int .i64 ln, .int .i64 pl, .slice A n c, .slice A' m d] 56)).alloc (Obj.cells #[.int .i64 y.kind, .int .i64 y.job, .int .i64 y.every, .int .i64 y.time, .int .i64 y.client] 24)).alloc (Obj.cells #[.int .i64 0, .int .i64 0, .int .i64 0, .int .i64 0, .int .i64 0, .int .i64 0, .int .i64 0, .int .i64 0, .int .i64 0, .int .i64 0, .slice none 0 0, .slice none 0 0] 56)).cell? ⟨w.heap.size + 1 + 1, 6, none⟩ = some (.int .i64 0) := by simp [go_sem]
  have fp6 : (((w.alloc (Obj.cells #[.int .i64 ep, .int .i64 dg, .int .i64 x.kind, .int .i64 x.job, .int .i64 x.every, .int .i64 x.time, .int .i64 x.client, .int .i64 at_, .int .i64 ln, .int .i64 pl, .slice A n c, .slice A' m d] 56)).alloc (Obj.cells #[.int .i64 y.kind, .int .i64 y.job, .int .i64 y.every, .int .i64 y.time, .int .i64 y.client] 24)).alloc (Obj.cells #[.int .i64 0, .int .i64 0, .int .i64 0, .int .i64 0, .int .i64 0, .int .i64 0, .int .i64 0, .int .i64 0, .int .i64 0, .int .i64 0, .slice none 0 0, .slice none 0 0] 56)).frozen? ⟨w.heap.size + 1 + 1, 6, none⟩ = false := by simp [go_sem]
  have p7 : (((w.alloc (Obj.cells #[.int .i64 ep, .int .i64 dg, .int .i64 x.kind, .int .i64 x.job, .int .i64 x.every, .int .i64 x.time, .int .i64 x.client, .int .i64 at_, .int .i64 ln, .int .i64 pl, .slice A n c, .slice A' m d] 56)).alloc (Obj.cells #[.int .i64 y.kind, .int .i64 y.job, .int .i64 y.every, .int .i64 y.time, .int .i64 y.client] 24)).alloc (Obj.cells #[.int .i64 0, .int .i64 0, .int .i64 0, .int .i64 0, .int .i64 0, .int .i64 0, .int .i64 0, .int .i64 0, .int .i64 0, .int .i64 0, .slice none 0 0, .slice none 0 0] 56)).cell? ⟨w.heap.size + 1 + 1, 7, none⟩ = some (.int .i64 0) := by simp [go_sem]
  have fp7 : (((w.alloc (Obj.cells #[.int .i64 ep, .int .i64 dg, .int .i64 x.kind, .int .i64 x.job, .int .i64 x.every, .int .i64 x.time, .int .i64 x.client, .int .i64 at_, .int .i64 ln, .int .i64 pl, .slice A n c, .slice A' m d] 56)).alloc (Obj.cells #[.int .i64 y.kind, .int .i64 y.job, .int .i64 y.every, .int .i64 y.time, .int .i64 y.client] 24)).alloc (Obj.cells #[.int .i64 0, .int .i64 0, .int .i64 0, .int .i64 0, .int .i64 0, .int .i64 0, .int .i64 0, .int .i64 0, .int .i64 0, .int .i64 0, .slice none 0 0, .slice none 0 0] 56)).frozen? ⟨w.heap.size + 1 + 1, 7, none⟩ = false := by simp [go_sem]
  have p8 : (((w.alloc (Obj.cells #[.int .i64 ep, .int .i64 dg, .int .i64 x.kind, .int .i64 x.job, .int .i64 x.every, .int .i64 x.time, .int .i64 x.client, .int .i64 at_, .int .i64 ln, .int .i64 pl, .slice A n c, .slice A' m d] 56)).alloc (Obj.cells #[.int .i64 y.kind, .int .i64 y.job, .int .i64 y.every, .int .i64 y.time, .int .i64 y.client] 24)).alloc (Obj.cells #[.int .i64 0, .int .i64 0, .int .i64 0, .int .i64 0, .int .i64 0, .int .i64 0, .int .i64 0, .int .i64 0, .int .i64 0, .int .i64 0, .slice none 0 0, .slice none 0 0] 56)).cell? ⟨w.heap.size + 1 + 1, 8, none⟩ = some (.int .i64 0) := by simp [go_sem]
  have fp8 : (((w.alloc (Obj.cells #[.int .i64 ep, .int .i64 dg, .int .i64 x.kind, .int .i64 x.job, .int .i64 x.every, .int .i64 x.time, .int .i64 x.client, .int .i64 at_, .int .i64 ln, .int .i64 pl, .slice A n c, .slice A' m d] 56)).alloc (Obj.cells #[.int .i64 y.kind, .int .i64 y.job, .int .i64 y.every, .int .i64 y.time, .int .i64 y.client] 24)).alloc (Obj.cells #[.int .i64 0, .int .i64 0, .int .i64 0, .int .i64 0, .int .i64 0, .int .i64 0, .int .i64 0, .int .i64 0, .int .i64 0, .int .i64 0, .slice none 0 0, .slice none 0 0] 56)).frozen? ⟨w.heap.size + 1 + 1, 8, none⟩ = false := by simp [go_sem]
  have p9 : (((w.alloc (Obj.cells #[.int .i64 ep, .int .i64 dg, .int .i64 x.kind, .int .i64 x.job, .int .i64 x.every, .int .i64 x.time, .int .i64 x.client, .int .i64 at_, .int .i64 ln, .int .i64 pl, .slice A n c, .slice A' m d] 56)).alloc (Obj.cells #[.int .i64 y.kind, .int .i64 y.job, .int .i64 y.every, .int .i64 y.time, .int .i64 y.client] 24)).alloc (Obj.cells #[.int .i64 0, .int .i64 0, .int .i64 0, .int .i64 0, .int .i64 0, .int .i64 0, .int .i64 0, .int .i64 0, .int .i64 0, .int .i64 0, .slice none 0 0, .slice none 0 0] 56)).cell? ⟨w.heap.size + 1 + 1, 9, none⟩ = some (.int .i64 0) := by simp [go_sem]
  have fp9 : (((w.alloc (Obj.cells #[.int .i64 ep, .int .i64 dg, .int .i64 x.kind, .int .i64 x.job, .int .i64 x.every, .int .i64 x.time, .int .i64 x.client, .int .i64 at_, .int .i64 ln, .int .i64 pl, .slice A n c, .slice A' m d] 56)).alloc (Obj.cells #[.int .i64 y.kind, .int .i64 y.job, .int .i64 y.every, .int .i64 y.time, .int .i64 y.client] 24)).alloc (Obj.cells #[.int .i64 0, .int .i64 0, .int .i64 0, .int .i64 0, .int .i64 0, .int .i64 0, .int .i64 0, .int .i64 0, .int .i64 0, .int .i64 0, .slice none 0 0, .slice none 0 0] 56)).frozen? ⟨w.heap.size + 1 + 1, 9, none⟩ = false := by simp [go_sem]
  have p10 : (((w.alloc (Obj.cells #[.int .i64 ep, .int .i64 dg, .int .i64 x.kind, .int .i64 x.job, .int .i64 x.every, .int .i64 x.time, .int .i64 x.client, .int .i64 at_, .int .i64 ln, .int .i64 pl, .slice A n c, .slice A' m d] 56)).alloc (Obj.cells #[.int .i64 y.kind, .int .i64 y.job, .int .i64 y.every, .int .i64 y.time, .int .i64 y.client] 24)).alloc (Obj.cells #[.int .i64 0, .int .i64 0, .int .i64 0, .int .i64 0, .int .i64 0, .int .i64 0, .int .i64 0, .int .i64 0, .int .i64 0, .int .i64 0, .slice none 0 0, .slice none 0 0] 56)).cell? ⟨w.heap.size + 1 + 1, 10, none⟩ = some (.slice none 0 0) := by simp [go_sem]
  have fp10 : (((w.alloc (Obj.cells #[.int .i64 ep, .int .i64 dg, .int .i64 x.kind, .int .i64 x.job, .int .i64 x.every, .int .i64 x.time, .int .i64 x.client, .int .i64 at_, .int .i64 ln, .int .i64 pl, .slice A n c, .slice A' m d] 56)).alloc (Obj.cells #[.int .i64 y.kind, .int .i64 y.job, .int .i64 y.every, .int .i64 y.time, .int .i64 y.client] 24)).alloc (Obj.cells #[.int .i64 0, .int .i64 0, .int .i64 0, .int .i64 0, .int .i64 0, .int .i64 0, .int .i64 0, .int .i64 0, .int .i64 0, .int .i64 0, .slice none 0 0, .slice none 0 0] 56)).frozen? ⟨w.heap.size + 1 + 1, 10, none⟩ = false := by simp [go_sem]
  have p11 : (((w.alloc (Obj.cells #[.int .i64 ep, .int .i64 dg, .int .i64 x.kind, .int .i64 x.job, .int .i64 x.every, .int .i64 x.time, .int .i64 x.client, .int .i64 at_, .int .i64 ln, .int .i64 pl, .slice A n c, .slice A' m d] 56)).alloc (Obj.cells #[.int .i64 y.kind, .int .i64 y.job, .int .i64 y.every, .int .i64 y.time, .int .i64 y.client] 24)).alloc (Obj.cells #[.int .i64 0, .int .i64 0, .int .i64 0, .int .i64 0, .int .i64 0, .int .i64 0, .int .i64 0, .int .i64 0, .int .i64 0, .int .i64 0, .slice none 0 0, .slice none 0 0] 56)).cell? ⟨w.heap.size + 1 + 1, 11, none⟩ = some (.slice none 0 0) := by simp [go_sem]
  have fp11 : (((w.alloc (Obj.cells #[.int .i64 ep, .int .i64 dg, .int .i64 x.kind, .int .i64 x.job, .int .i64 x.every, .int .i64 x.time, .int .i64 x.client, .int .i64 at_, .int .i64 ln, .int .i64 pl, .slice A n c, .slice A' m d] 56)).alloc (Obj.cells #[.int .i64 y.kind, .int .i64 y.job, .int .i64 y.every, .int .i64 y.time, .int .i64 y.client] 24)).alloc (Obj.cells #[.int .i64 0, .int .i64 0, .int .i64 0, .int .i64 0, .int .i64 0, .int .i64 0, .int .i64 0, .int .i64 0, .int .i64 0, .int .i64 0, .slice none 0 0, .slice none 0 0] 56)).frozen? ⟨w.heap.size + 1 + 1, 11, none⟩ = false := by simp [go_sem]
  change Code.wp _ _ _ _ (((w.alloc (Obj.cells #[.int .i64 ep, .int .i64 dg, .int .i64 x.kind, .int .i64 x.job, .int .i64 x.every, .int .i64 x.time, .int .i64 x.client, .int .i64 at_, .int .i64 ln, .int .i64 pl, .slice A n c, .slice A' m d] 56)).alloc (Obj.cells #[.int .i64 y.kind, .int .i64 y.job, .int .i64 y.every, .int .i64 y.time, .int .i64 y.client] 24)).alloc (Obj.cells #[.int .i64 0, .int .i64 0, .int .i64 0, .int .i64 0, .int .i64 0, .int .i64 0, .int .i64 0, .int .i64 0, .int .i64 0, .int .i64 0, .slice none 0 0, .slice none 0 0] 56))
  generalize (((w.alloc (Obj.cells #[.int .i64 ep, .int .i64 dg, .int .i64 x.kind, .int .i64 x.job, .int .i64 x.every, .int .i64 x.time, .int .i64 x.client, .int .i64 at_, .int .i64 ln, .int .i64 pl, .slice A n c, .slice A' m d] 56)).alloc (Obj.cells #[.int .i64 y.kind, .int .i64 y.job, .int .i64 y.every, .int .i64 y.time, .int .i64 y.client] 24)).alloc (Obj.cells #[.int .i64 0, .int .i64 0, .int .i64 0, .int .i64 0, .int .i64 0, .int .i64 0, .int .i64 0, .int .i64 0, .int .i64 0, .int .i64 0, .slice none 0 0, .slice none 0 0] 56)) = w0 at *
  have hz0 : w.heap.size + 1 + 1 < w0.heap.size := World.block_lt_of_cell? _ _ p0
  go_wp2_with fail
  refine Calls.mono (RClCheck_calls ep dg at_ ln pl x A A' n c m d b _ sA sB) ?_
  rw [← HQ.out]
  rintro e w1 ⟨rfl, hb⟩
  replace fc0 := frozB hb c0 fc0; replace c0 := cellB hb c0
  replace fc1 := frozB hb c1 fc1; replace c1 := cellB hb c1
  replace fc2 := frozB hb c2 fc2; replace c2 := cellB hb c2
  replace fc3 := frozB hb c3 fc3; replace c3 := cellB hb c3
  replace fc4 := frozB hb c4 fc4; replace c4 := cellB hb c4
  replace fc5 := frozB hb c5 fc5; replace c5 := cellB hb c5
  replace fc6 := frozB hb c6 fc6; replace c6 := cellB hb c6
  replace fc7 := frozB hb c7 fc7; replace c7 := cellB hb c7
  replace fc8 := frozB hb c8 fc8; replace c8 := cellB hb c8
  replace fc9 := frozB hb c9 fc9; replace c9 := cellB hb c9
  replace fc10 := frozB hb c10 fc10; replace c10 := cellB hb c10
  replace fc11 := frozB hb c11 fc11; replace c11 := cellB hb c11
  replace e0 := cellB hb e0
  replace e1 := cellB hb e1
  replace e2 := cellB hb e2
  replace e3 := cellB hb e3
  replace e4 := cellB hb e4
  replace fp0 := frozB hb p0 fp0; replace p0 := cellB hb p0
  replace fp1 := frozB hb p1 fp1; replace p1 := cellB hb p1
  replace fp2 := frozB hb p2 fp2; replace p2 := cellB hb p2
  replace fp3 := frozB hb p3 fp3; replace p3 := cellB hb p3
  replace fp4 := frozB hb p4 fp4; replace p4 := cellB hb p4
  replace fp5 := frozB hb p5 fp5; replace p5 := cellB hb p5
  replace fp6 := frozB hb p6 fp6; replace p6 := cellB hb p6
  replace fp7 := frozB hb p7 fp7; replace p7 := cellB hb p7
  replace fp8 := frozB hb p8 fp8; replace p8 := cellB hb p8
  replace fp9 := frozB hb p9 fp9; replace p9 := cellB hb p9
  replace fp10 := frozB hb p10 fp10; replace p10 := cellB hb p10
  replace fp11 := frozB hb p11 fp11; replace p11 := cellB hb p11
  replace sA := S.onto sA hb
  replace sB := S.onto sB hb
  replace hon := Onto.to hon hb
  have hz1 := sizeB hb hz0
  clear hb hz0
  have hr := HR0.out
  clear HR0
  obtain ⟨ap, hap⟩ : ∃ ap, ap = applyB b y := ⟨_, rfl⟩
  rw [← hap] at hr
  have HAP := Lib.hid hap
  clear hap
  by_cases h0 : q = 0
  · rw [if_neg (by simp [h0])] at hr
    have hpl := checkCl_played (HQ.out.symm.trans h0)
    dsimp only at hpl
    obtain ⟨hp0, hp1⟩ := hpl
    subst h0
    by_cases hc : pl = 60
    · rw [if_pos hc] at hr
      have HR := Lib.hid hr
      have hd : (pl == 60) = true := by simpa using hc
      clear hr hc
      go_wp2_with fail
      clear c0 fc0 c1 fc1 c2 fc2 c3 fc3 c4 fc4 c5 fc5 c6 fc6 c7 fc7 c8 fc8 c9 fc9 c10 fc10 c11 fc11
      clear e0 e1 e2 e3 e4
      clear sA sB
      rw [show ((((((((((((w1.setCell ⟨w.heap.size + 1 + 1, 0, none⟩ (.int .i64 0)).setCell ⟨w.heap.size + 1 + 1, 1, none⟩ (.int .i64 0)).setCell ⟨w.heap.size + 1 + 1, 2, none⟩ (.int .i64 0)).setCell ⟨w.heap.size + 1 + 1, 3, none⟩ (.int .i64 0)).setCell ⟨w.heap.size + 1 + 1, 4, none⟩ (.int .i64 0)).setCell ⟨w.heap.size + 1 + 1, 5, none⟩ (.int .i64 0)).setCell ⟨w.heap.size + 1 + 1, 6, none⟩ (.int .i64 0)).setCell ⟨w.heap.size + 1 + 1, 7, none⟩ (.int .i64 0)).setCell ⟨w.heap.size + 1 + 1, 8, none⟩ (.int .i64 0)).setCell ⟨w.heap.size + 1 + 1, 9, none⟩ (.int .i64 0)).setCell ⟨w.heap.size + 1 + 1, 10, none⟩ (.slice none 0 0)).setCell ⟨w.heap.size + 1 + 1, 11, none⟩ (.slice none 0 0)) = (w1.setCells (w.heap.size + 1 + 1) 0 [.int .i64 0, .int .i64 0, .int .i64 0, .int .i64 0, .int .i64 0, .int .i64 0, .int .i64 0, .int .i64 0, .int .i64 0, .int .i64 0, .slice none 0 0, .slice none 0 0]) from rfl]
      have F0 : ∀ (j : Nat) vv, ([.int .i64 0, .int .i64 0, .int .i64 0, .int .i64 0, .int .i64 0, .int .i64 0, .int .i64 0, .int .i64 0, .int .i64 0, .int .i64 0, .slice none 0 0, .slice none 0 0] : List Value)[j]? = some vv → (w1.setCells (w.heap.size + 1 + 1) 0 [.int .i64 0, .int .i64 0, .int .i64 0, .int .i64 0, .int .i64 0, .int .i64 0, .int .i64 0, .int .i64 0, .int .i64 0, .int .i64 0, .slice none 0 0, .slice none 0 0]).cell? ⟨w.heap.size + 1 + 1, j, none⟩ = some vv := fun j vv hv => put_in (w := w1) (b := w.heap.size + 1 + 1) (vs := [.int .i64 0, .int .i64 0, .int .i64 0, .int .i64 0, .int .i64 0, .int .i64 0, .int .i64 0, .int .i64 0, .int .i64 0, .int .i64 0, .slice none 0 0, .slice none 0 0]) (there12 p0 p1 p2 p3 p4 p5 p6 p7 p8 p9 p10 p11) hv
      replace hon : Onto w (w1.setCells (w.heap.size + 1 + 1) 0 [.int .i64 0, .int .i64 0, .int .i64 0, .int .i64 0, .int .i64 0, .int .i64 0, .int .i64 0, .int .i64 0, .int .i64 0, .int .i64 0, .slice none 0 0, .slice none 0 0]) := put_onto (by omega) hon
      replace fp0 : (w1.setCells (w.heap.size + 1 + 1) 0 [.int .i64 0, .int .i64 0, .int .i64 0, .int .i64 0, .int .i64 0, .int .i64 0, .int .i64 0, .int .i64 0, .int .i64 0, .int .i64 0, .slice none 0 0, .slice none 0 0]).frozen? ⟨w.heap.size + 1 + 1, 0, none⟩ = false := (World.frozen?_setCells _ _ _ _ _).trans fp0
      replace fp1 : (w1.setCells (w.heap.size + 1 + 1) 0 [.int .i64 0, .int .i64 0, .int .i64 0, .int .i64 0, .int .i64 0, .int .i64 0, .int .i64 0, .int .i64 0, .int .i64 0, .int .i64 0, .slice none 0 0, .slice none 0 0]).frozen? ⟨w.heap.size + 1 + 1, 1, none⟩ = false := (World.frozen?_setCells _ _ _ _ _).trans fp1
      replace fp2 : (w1.setCells (w.heap.size + 1 + 1) 0 [.int .i64 0, .int .i64 0, .int .i64 0, .int .i64 0, .int .i64 0, .int .i64 0, .int .i64 0, .int .i64 0, .int .i64 0, .int .i64 0, .slice none 0 0, .slice none 0 0]).frozen? ⟨w.heap.size + 1 + 1, 2, none⟩ = false := (World.frozen?_setCells _ _ _ _ _).trans fp2
      replace fp3 : (w1.setCells (w.heap.size + 1 + 1) 0 [.int .i64 0, .int .i64 0, .int .i64 0, .int .i64 0, .int .i64 0, .int .i64 0, .int .i64 0, .int .i64 0, .int .i64 0, .int .i64 0, .slice none 0 0, .slice none 0 0]).frozen? ⟨w.heap.size + 1 + 1, 3, none⟩ = false := (World.frozen?_setCells _ _ _ _ _).trans fp3
      replace fp4 : (w1.setCells (w.heap.size + 1 + 1) 0 [.int .i64 0, .int .i64 0, .int .i64 0, .int .i64 0, .int .i64 0, .int .i64 0, .int .i64 0, .int .i64 0, .int .i64 0, .int .i64 0, .slice none 0 0, .slice none 0 0]).frozen? ⟨w.heap.size + 1 + 1, 4, none⟩ = false := (World.frozen?_setCells _ _ _ _ _).trans fp4
      replace fp5 : (w1.setCells (w.heap.size + 1 + 1) 0 [.int .i64 0, .int .i64 0, .int .i64 0, .int .i64 0, .int .i64 0, .int .i64 0, .int .i64 0, .int .i64 0, .int .i64 0, .int .i64 0, .slice none 0 0, .slice none 0 0]).frozen? ⟨w.heap.size + 1 + 1, 5, none⟩ = false := (World.frozen?_setCells _ _ _ _ _).trans fp5
      replace fp6 : (w1.setCells (w.heap.size + 1 + 1) 0 [.int .i64 0, .int .i64 0, .int .i64 0, .int .i64 0, .int .i64 0, .int .i64 0, .int .i64 0, .int .i64 0, .int .i64 0, .int .i64 0, .slice none 0 0, .slice none 0 0]).frozen? ⟨w.heap.size + 1 + 1, 6, none⟩ = false := (World.frozen?_setCells _ _ _ _ _).trans fp6
      replace fp7 : (w1.setCells (w.heap.size + 1 + 1) 0 [.int .i64 0, .int .i64 0, .int .i64 0, .int .i64 0, .int .i64 0, .int .i64 0, .int .i64 0, .int .i64 0, .int .i64 0, .int .i64 0, .slice none 0 0, .slice none 0 0]).frozen? ⟨w.heap.size + 1 + 1, 7, none⟩ = false := (World.frozen?_setCells _ _ _ _ _).trans fp7
      replace fp8 : (w1.setCells (w.heap.size + 1 + 1) 0 [.int .i64 0, .int .i64 0, .int .i64 0, .int .i64 0, .int .i64 0, .int .i64 0, .int .i64 0, .int .i64 0, .int .i64 0, .int .i64 0, .slice none 0 0, .slice none 0 0]).frozen? ⟨w.heap.size + 1 + 1, 8, none⟩ = false := (World.frozen?_setCells _ _ _ _ _).trans fp8
      replace fp9 : (w1.setCells (w.heap.size + 1 + 1) 0 [.int .i64 0, .int .i64 0, .int .i64 0, .int .i64 0, .int .i64 0, .int .i64 0, .int .i64 0, .int .i64 0, .int .i64 0, .int .i64 0, .slice none 0 0, .slice none 0 0]).frozen? ⟨w.heap.size + 1 + 1, 9, none⟩ = false := (World.frozen?_setCells _ _ _ _ _).trans fp9
      replace fp10 : (w1.setCells (w.heap.size + 1 + 1) 0 [.int .i64 0, .int .i64 0, .int .i64 0, .int .i64 0, .int .i64 0, .int .i64 0, .int .i64 0, .int .i64 0, .int .i64 0, .int .i64 0, .slice none 0 0, .slice none 0 0]).frozen? ⟨w.heap.size + 1 + 1, 10, none⟩ = false := (World.frozen?_setCells _ _ _ _ _).trans fp10
      replace fp11 : (w1.setCells (w.heap.size + 1 + 1) 0 [.int .i64 0, .int .i64 0, .int .i64 0, .int .i64 0, .int .i64 0, .int .i64 0, .int .i64 0, .int .i64 0, .int .i64 0, .int .i64 0, .slice none 0 0, .slice none 0 0]).frozen? ⟨w.heap.size + 1 + 1, 11, none⟩ = false := (World.frozen?_setCells _ _ _ _ _).trans fp11
      clear p0 p1 p2 p3 p4 p5 p6 p7 p8 p9 p10 p11
      generalize (w1.setCells (w.heap.size + 1 + 1) 0 [.int .i64 0, .int .i64 0, .int .i64 0, .int .i64 0, .int .i64 0, .int .i64 0, .int .i64 0, .int .i64 0, .int .i64 0, .int .i64 0, .slice none 0 0, .slice none 0 0]) = wf at *
      have p0 := F0 0 _ rfl
      have p1 := F0 1 _ rfl
      have p2 := F0 2 _ rfl
      have p3 := F0 3 _ rfl
      have p4 := F0 4 _ rfl
      have p5 := F0 5 _ rfl
      have p6 := F0 6 _ rfl
      have p7 := F0 7 _ rfl
      have p8 := F0 8 _ rfl
      have p9 := F0 9 _ rfl
      have p10 := F0 10 _ rfl
      have p11 := F0 11 _ rfl
      clear F0
      refine bodyPost_ret (v := .tuple #[.agg #[.int .i64 0, .int .i64 0, .int .i64 0, .int .i64 0, .int .i64 0, .int .i64 0, .int .i64 0, .int .i64 0, .int .i64 0, .int .i64 0, .slice none 0 0, .slice none 0 0], .int .i64 2]) (by simp [results, Try.results43, go_sem, p0, p1, p2, p3, p4, p5, p6, p7, p8, p9, p10, p11]) rfl ?_
      rw [HR.out]
      exact ⟨none, 0, 0, none, 0, 0, rfl, Sl.nil, Sl.nil, hon⟩
    · rw [if_neg hc] at hr
      have HR1 := Lib.hid hr
      have hd : (pl == 60) = false := by simpa using hc
      have hwp : IntKind.i64.wrap (pl + 1) = pl + 1 := by rw [IntKind.wrap_i64]; omega
      clear hr hc
      go_wp2_with fail
      refine Calls.mono (RApplied_calls A A' n c m d b y _ sA sB) ?_
      rw [← HAP.out]
      rintro e w2 ⟨A1, n1, k1, A2, n2, k2, rfl, s1, s2, hb, f1, f2, _, _⟩
      have o1 : OffN n1 w.heap.size A1 := f1.offN (by omega)
      have o2 : OffN n2 w.heap.size A2 := f2.offN (by omega)
      have o1' : OffN n1 (w.heap.size + 1 + 1) A1 := f1.offN (by omega)
      have o2' : OffN n2 (w.heap.size + 1 + 1) A2 := f2.offN (by omega)
      clear sA sB f1 f2
      replace fc0 := frozB hb c0 fc0; replace c0 := cellB hb c0
      replace fc1 := frozB hb c1 fc1; replace c1 := cellB hb c1
      replace fc2 := frozB hb c2 fc2; replace c2 := cellB hb c2
      replace fc3 := frozB hb c3 fc3; replace c3 := cellB hb c3
      replace fc4 := frozB hb c4 fc4; replace c4 := cellB hb c4
      replace fc5 := frozB hb c5 fc5; replace c5 := cellB hb c5
      replace fc6 := frozB hb c6 fc6; replace c6 := cellB hb c6
      replace fc7 := frozB hb c7 fc7; replace c7 := cellB hb c7
      replace fc8 := frozB hb c8 fc8; replace c8 := cellB hb c8
      replace fc9 := frozB hb c9 fc9; replace c9 := cellB hb c9
      replace fc10 := frozB hb c10 fc10; replace c10 := cellB hb c10
      replace fc11 := frozB hb c11 fc11; replace c11 := cellB hb c11
      replace e0 := cellB hb e0
      replace e1 := cellB hb e1
      replace e2 := cellB hb e2
      replace e3 := cellB hb e3
      replace e4 := cellB hb e4
      replace fp0 := frozB hb p0 fp0; replace p0 := cellB hb p0
      replace fp1 := frozB hb p1 fp1; replace p1 := cellB hb p1
      replace fp2 := frozB hb p2 fp2; replace p2 := cellB hb p2
      replace fp3 := frozB hb p3 fp3; replace p3 := cellB hb p3
      replace fp4 := frozB hb p4 fp4; replace p4 := cellB hb p4
      replace fp5 := frozB hb p5 fp5; replace p5 := cellB hb p5
      replace fp6 := frozB hb p6 fp6; replace p6 := cellB hb p6
      replace fp7 := frozB hb p7 fp7; replace p7 := cellB hb p7
      replace fp8 := frozB hb p8 fp8; replace p8 := cellB hb p8
      replace fp9 := frozB hb p9 fp9; replace p9 := cellB hb p9
      replace fp10 := frozB hb p10 fp10; replace p10 := cellB hb p10
      replace fp11 := frozB hb p11 fp11; replace p11 := cellB hb p11
      replace hon := Onto.to hon hb
      replace hz1 := sizeB hb hz1
      clear hb
      go_upto_region 7 with fail
      have htw : w.heap.size ≤ w2.heap.size := hon.size
      have hct : w.heap.size < w2.heap.size := World.block_lt_of_cell? _ _ c0
      have het : w.heap.size + 1 < w2.heap.size := World.block_lt_of_cell? _ _ e0
      have hpt : w.heap.size + 1 + 1 < w2.heap.size := World.block_lt_of_cell? _ _ p0
      have hbx : Onto w2 (w2.alloc (Obj.cells #[.slice A1 n1 k1, .slice A2 n2 k2] 54)) := (Below.refl _ _).alloc (Nat.le_refl _) _
      replace fc0 := frozB hbx c0 fc0; replace c0 := cellB hbx c0
      replace fc1 := frozB hbx c1 fc1; replace c1 := cellB hbx c1
      replace fc2 := frozB hbx c2 fc2; replace c2 := cellB hbx c2
      replace fc3 := frozB hbx c3 fc3; replace c3 := cellB hbx c3
      replace fc4 := frozB hbx c4 fc4; replace c4 := cellB hbx c4
      replace fc5 := frozB hbx c5 fc5; replace c5 := cellB hbx c5
      replace fc6 := frozB hbx c6 fc6; replace c6 := cellB hbx c6
      replace fc7 := frozB hbx c7 fc7; replace c7 := cellB hbx c7
      replace fc8 := frozB hbx c8 fc8; replace c8 := cellB hbx c8
      replace fc9 := frozB hbx c9 fc9; replace c9 := cellB hbx c9
      replace fc10 := frozB hbx c10 fc10; replace c10 := cellB hbx c10
      replace fc11 := frozB hbx c11 fc11; replace c11 := cellB hbx c11
      replace e0 := cellB hbx e0
      replace e1 := cellB hbx e1
      replace e2 := cellB hbx e2
      replace e3 := cellB hbx e3
      replace e4 := cellB hbx e4
      replace fp0 := frozB hbx p0 fp0; replace p0 := cellB hbx p0
      replace fp1 := frozB hbx p1 fp1; replace p1 := cellB hbx p1
      replace fp2 := frozB hbx p2 fp2; replace p2 := cellB hbx p2
      replace fp3 := frozB hbx p3 fp3; replace p3 := cellB hbx p3
      replace fp4 := frozB hbx p4 fp4; replace p4 := cellB hbx p4
      replace fp5 := frozB hbx p5 fp5; replace p5 := cellB hbx p5
      replace fp6 := frozB hbx p6 fp6; replace p6 := cellB hbx p6
      replace fp7 := frozB hbx p7 fp7; replace p7 := cellB hbx p7
      replace fp8 := frozB hbx p8 fp8; replace p8 := cellB hbx p8
      replace fp9 := frozB hbx p9 fp9; replace p9 := cellB hbx p9
      replace fp10 := frozB hbx p10 fp10; replace p10 := cellB hbx p10
      replace fp11 := frozB hbx p11 fp11; replace p11 := cellB hbx p11
      replace s1 := S.onto s1 hbx
      replace s2 := S.onto s2 hbx
      replace hon := Onto.to hon hbx
      have t0 : (w2.alloc (Obj.cells #[.slice A1 n1 k1, .slice A2 n2 k2] 54)).cell? ⟨w2.heap.size, 0, none⟩ = some (.slice A1 n1 k1) := by simp [go_sem]
      have ft0 : (w2.alloc (Obj.cells #[.slice A1 n1 k1, .slice A2 n2 k2] 54)).frozen? ⟨w2.heap.size, 0, none⟩ = false := by simp [go_sem]
      have t1 : (w2.alloc (Obj.cells #[.slice A1 n1 k1, .slice A2 n2 k2] 54)).cell? ⟨w2.heap.size, 1, none⟩ = some (.slice A2 n2 k2) := by simp [go_sem]
      have ft1 : (w2.alloc (Obj.cells #[.slice A1 n1 k1, .slice A2 n2 k2] 54)).frozen? ⟨w2.heap.size, 1, none⟩ = false := by simp [go_sem]
      change Code.wp _ _ _ _ (w2.alloc (Obj.cells #[.slice A1 n1 k1, .slice A2 n2 k2] 54))
      clear hbx
      generalize (w2.alloc (Obj.cells #[.slice A1 n1 k1, .slice A2 n2 k2] 54)) = w3 at *
      generalize w2.heap.size = Bt at *
      have hz1' : w.heap.size + 1 + 1 < w3.heap.size := World.block_lt_of_cell? _ _ p0
      clear hz1
      have hz1 := hz1'
      clear hz1'
      have hr := HR1.out
      clear HR1
      by_cases ha : ap.2 ≠ 0
      · rw [if_pos ha] at hr
        have HR := Lib.hid hr
        have hd2 : (ap.2 != 0) = true := by simpa using ha
        clear hr ha s1 s2
        go_wp2_with fail
        rw [show ((((((((((((w3.setCell ⟨w.heap.size + 1 + 1, 0, none⟩ (.int .i64 0)).setCell ⟨w.heap.size + 1 + 1, 1, none⟩ (.int .i64 0)).setCell ⟨w.heap.size + 1 + 1, 2, none⟩ (.int .i64 0)).setCell ⟨w.heap.size + 1 + 1, 3, none⟩ (.int .i64 0)).setCell ⟨w.heap.size + 1 + 1, 4, none⟩ (.int .i64 0)).setCell ⟨w.heap.size + 1 + 1, 5, none⟩ (.int .i64 0)).setCell ⟨w.heap.size + 1 + 1, 6, none⟩ (.int .i64 0)).setCell ⟨w.heap.size + 1 + 1, 7, none⟩ (.int .i64 0)).setCell ⟨w.heap.size + 1 + 1, 8, none⟩ (.int .i64 0)).setCell ⟨w.heap.size + 1 + 1, 9, none⟩ (.int .i64 0)).setCell ⟨w.heap.size + 1 + 1, 10, none⟩ (.slice none 0 0)).setCell ⟨w.heap.size + 1 + 1, 11, none⟩ (.slice none 0 0)) = (w3.setCells (w.heap.size + 1 + 1) 0 [.int .i64 0, .int .i64 0, .int .i64 0, .int .i64 0, .int .i64 0, .int .i64 0, .int .i64 0, .int .i64 0, .int .i64 0, .int .i64 0, .slice none 0 0, .slice none 0 0]) from rfl]
        have F0 : ∀ (j : Nat) vv, ([.int .i64 0, .int .i64 0, .int .i64 0, .int .i64 0, .int .i64 0, .int .i64 0, .int .i64 0, .int .i64 0, .int .i64 0, .int .i64 0, .slice none 0 0, .slice none 0 0] : List Value)[j]? = some vv → (w3.setCells (w.heap.size + 1 + 1) 0 [.int .i64 0, .int .i64 0, .int .i64 0, .int .i64 0, .int .i64 0, .int .i64 0, .int .i64 0, .int .i64 0, .int .i64 0, .int .i64 0, .slice none 0 0, .slice none 0 0]).cell? ⟨w.heap.size + 1 + 1, j, none⟩ = some vv := fun j vv hv => put_in (w := w3) (b := w.heap.size + 1 + 1) (vs := [.int .i64 0, .int .i64 0, .int .i64 0, .int .i64 0, .int .i64 0, .int .i64 0, .int .i64 0, .int .i64 0, .int .i64 0, .int .i64 0, .slice none 0 0, .slice none 0 0]) (there12 p0 p1 p2 p3 p4 p5 p6 p7 p8 p9 p10 p11) hv
        replace hon : Onto w (w3.setCells (w.heap.size + 1 + 1) 0 [.int .i64 0, .int .i64 0, .int .i64 0, .int .i64 0, .int .i64 0, .int .i64 0, .int .i64 0, .int .i64 0, .int .i64 0, .int .i64 0, .slice none 0 0, .slice none 0 0]) := put_onto (by omega) hon
        replace fc0 : (w3.setCells (w.heap.size + 1 + 1) 0 [.int .i64 0, .int .i64 0, .int .i64 0, .int .i64 0, .int .i64 0, .int .i64 0, .int .i64 0, .int .i64 0, .int .i64 0, .int .i64 0, .slice none 0 0, .slice none 0 0]).frozen? ⟨w.heap.size, 0, none⟩ = false := (World.frozen?_setCells _ _ _ _ _).trans fc0
        replace c0 : (w3.setCells (w.heap.size + 1 + 1) 0 [.int .i64 0, .int .i64 0, .int .i64 0, .int .i64 0, .int .i64 0, .int .i64 0, .int .i64 0, .int .i64 0, .int .i64 0, .int .i64 0, .slice none 0 0, .slice none 0 0]).cell? ⟨w.heap.size, 0, none⟩ = some (.int .i64 ep) := (put_out (by simp only; omega)).trans c0
        replace fc1 : (w3.setCells (w.heap.size + 1 + 1) 0 [.int .i64 0, .int .i64 0, .int .i64 0, .int .i64 0, .int .i64 0, .int .i64 0, .int .i64 0, .int .i64 0, .int .i64 0, .int .i64 0, .slice none 0 0, .slice none 0 0]).frozen? ⟨w.heap.size, 1, none⟩ = false := (World.frozen?_setCells _ _ _ _ _).trans fc1
        replace c1 : (w3.setCells (w.heap.size + 1 + 1) 0 [.int .i64 0, .int .i64 0, .int .i64 0, .int .i64 0, .int .i64 0, .int .i64 0, .int .i64 0, .int .i64 0, .int .i64 0, .int .i64 0, .slice none 0 0, .slice none 0 0]).cell? ⟨w.heap.size, 1, none⟩ = some (.int .i64 dg) := (put_out (by simp only; omega)).trans c1
        replace fc2 : (w3.setCells (w.heap.size + 1 + 1) 0 [.int .i64 0, .int .i64 0, .int .i64 0, .int .i64 0, .int .i64 0, .int .i64 0, .int .i64 0, .int .i64 0, .int .i64 0, .int .i64 0, .slice none 0 0, .slice none 0 0]).frozen? ⟨w.heap.size, 2, none⟩ = false := (World.frozen?_setCells _ _ _ _ _).trans fc2
        replace c2 : (w3.setCells (w.heap.size + 1 + 1) 0 [.int .i64 0, .int .i64 0, .int .i64 0, .int .i64 0, .int .i64 0, .int .i64 0, .int .i64 0, .int .i64 0, .int .i64 0, .int .i64 0, .slice none 0 0, .slice none 0 0]).cell? ⟨w.heap.size, 2, none⟩ = some (.int .i64 x.kind) := (put_out (by simp only; omega)).trans c2
        replace fc3 : (w3.setCells (w.heap.size + 1 + 1) 0 [.int .i64 0, .int .i64 0, .int .i64 0, .int .i64 0, .int .i64 0, .int .i64 0, .int .i64 0, .int .i64 0, .int .i64 0, .int .i64 0, .slice none 0 0, .slice none 0 0]).frozen? ⟨w.heap.size, 3, none⟩ = false := (World.frozen?_setCells _ _ _ _ _).trans fc3
        replace c3 : (w3.setCells (w.heap.size + 1 + 1) 0 [.int .i64 0, .int .i64 0, .int .i64 0, .int .i64 0, .int .i64 0, .int .i64 0, .int .i64 0, .int .i64 0, .int .i64 0, .int .i64 0, .slice none 0 0, .slice none 0 0]).cell? ⟨w.heap.size, 3, none⟩ = some (.int .i64 x.job) := (put_out (by simp only; omega)).trans c3
        replace fc4 : (w3.setCells (w.heap.size + 1 + 1) 0 [.int .i64 0, .int .i64 0, .int .i64 0, .int .i64 0, .int .i64 0, .int .i64 0, .int .i64 0, .int .i64 0, .int .i64 0, .int .i64 0, .slice none 0 0, .slice none 0 0]).frozen? ⟨w.heap.size, 4, none⟩ = false := (World.frozen?_setCells _ _ _ _ _).trans fc4
        replace c4 : (w3.setCells (w.heap.size + 1 + 1) 0 [.int .i64 0, .int .i64 0, .int .i64 0, .int .i64 0, .int .i64 0, .int .i64 0, .int .i64 0, .int .i64 0, .int .i64 0, .int .i64 0, .slice none 0 0, .slice none 0 0]).cell? ⟨w.heap.size, 4, none⟩ = some (.int .i64 x.every) := (put_out (by simp only; omega)).trans c4
        replace fc5 : (w3.setCells (w.heap.size + 1 + 1) 0 [.int .i64 0, .int .i64 0, .int .i64 0, .int .i64 0, .int .i64 0, .int .i64 0, .int .i64 0, .int .i64 0, .int .i64 0, .int .i64 0, .slice none 0 0, .slice none 0 0]).frozen? ⟨w.heap.size, 5, none⟩ = false := (World.frozen?_setCells _ _ _ _ _).trans fc5
        replace c5 : (w3.setCells (w.heap.size + 1 + 1) 0 [.int .i64 0, .int .i64 0, .int .i64 0, .int .i64 0, .int .i64 0, .int .i64 0, .int .i64 0, .int .i64 0, .int .i64 0, .int .i64 0, .slice none 0 0, .slice none 0 0]).cell? ⟨w.heap.size, 5, none⟩ = some (.int .i64 x.time) := (put_out (by simp only; omega)).trans c5
        replace fc6 : (w3.setCells (w.heap.size + 1 + 1) 0 [.int .i64 0, .int .i64 0, .int .i64 0, .int .i64 0, .int .i64 0, .int .i64 0, .int .i64 0, .int .i64 0, .int .i64 0, .int .i64 0, .slice none 0 0, .slice none 0 0]).frozen? ⟨w.heap.size, 6, none⟩ = false := (World.frozen?_setCells _ _ _ _ _).trans fc6
        replace c6 : (w3.setCells (w.heap.size + 1 + 1) 0 [.int .i64 0, .int .i64 0, .int .i64 0, .int .i64 0, .int .i64 0, .int .i64 0, .int .i64 0, .int .i64 0, .int .i64 0, .int .i64 0, .slice none 0 0, .slice none 0 0]).cell? ⟨w.heap.size, 6, none⟩ = some (.int .i64 x.client) := (put_out (by simp only; omega)).trans c6
        replace fc7 : (w3.setCells (w.heap.size + 1 + 1) 0 [.int .i64 0, .int .i64 0, .int .i64 0, .int .i64 0, .int .i64 0, .int .i64 0, .int .i64 0, .int .i64 0, .int .i64 0, .int .i64 0, .slice none 0 0, .slice none 0 0]).frozen? ⟨w.heap.size, 7, none⟩ = false := (World.frozen?_setCells _ _ _ _ _).trans fc7
        replace c7 : (w3.setCells (w.heap.size + 1 + 1) 0 [.int .i64 0, .int .i64 0, .int .i64 0, .int .i64 0, .int .i64 0, .int .i64 0, .int .i64 0, .int .i64 0, .int .i64 0, .int .i64 0, .slice none 0 0, .slice none 0 0]).cell? ⟨w.heap.size, 7, none⟩ = some (.int .i64 at_) := (put_out (by simp only; omega)).trans c7
        replace fc8 : (w3.setCells (w.heap.size + 1 + 1) 0 [.int .i64 0, .int .i64 0, .int .i64 0, .int .i64 0, .int .i64 0, .int .i64 0, .int .i64 0, .int .i64 0, .int .i64 0, .int .i64 0, .slice none 0 0, .slice none 0 0]).frozen? ⟨w.heap.size, 8, none⟩ = false := (World.frozen?_setCells _ _ _ _ _).trans fc8
        replace c8 : (w3.setCells (w.heap.size + 1 + 1) 0 [.int .i64 0, .int .i64 0, .int .i64 0, .int .i64 0, .int .i64 0, .int .i64 0, .int .i64 0, .int .i64 0, .int .i64 0, .int .i64 0, .slice none 0 0, .slice none 0 0]).cell? ⟨w.heap.size, 8, none⟩ = some (.int .i64 ln) := (put_out (by simp only; omega)).trans c8
        replace fc9 : (w3.setCells (w.heap.size + 1 + 1) 0 [.int .i64 0, .int .i64 0, .int .i64 0, .int .i64 0, .int .i64 0, .int .i64 0, .int .i64 0, .int .i64 0, .int .i64 0, .int .i64 0, .slice none 0 0, .slice none 0 0]).frozen? ⟨w.heap.size, 9, none⟩ = false := (World.frozen?_setCells _ _ _ _ _).trans fc9
        replace c9 : (w3.setCells (w.heap.size + 1 + 1) 0 [.int .i64 0, .int .i64 0, .int .i64 0, .int .i64 0, .int .i64 0, .int .i64 0, .int .i64 0, .int .i64 0, .int .i64 0, .int .i64 0, .slice none 0 0, .slice none 0 0]).cell? ⟨w.heap.size, 9, none⟩ = some (.int .i64 pl) := (put_out (by simp only; omega)).trans c9
        replace fc10 : (w3.setCells (w.heap.size + 1 + 1) 0 [.int .i64 0, .int .i64 0, .int .i64 0, .int .i64 0, .int .i64 0, .int .i64 0, .int .i64 0, .int .i64 0, .int .i64 0, .int .i64 0, .slice none 0 0, .slice none 0 0]).frozen? ⟨w.heap.size, 10, none⟩ = false := (World.frozen?_setCells _ _ _ _ _).trans fc10
        replace c10 : (w3.setCells (w.heap.size + 1 + 1) 0 [.int .i64 0, .int .i64 0, .int .i64 0, .int .i64 0, .int .i64 0, .int .i64 0, .int .i64 0, .int .i64 0, .int .i64 0, .int .i64 0, .slice none 0 0, .slice none 0 0]).cell? ⟨w.heap.size, 10, none⟩ = some (.slice A n c) := (put_out (by simp only; omega)).trans c10
        replace fc11 : (w3.setCells (w.heap.size + 1 + 1) 0 [.int .i64 0, .int .i64 0, .int .i64 0, .int .i64 0, .int .i64 0, .int .i64 0, .int .i64 0, .int .i64 0, .int .i64 0, .int .i64 0, .slice none 0 0, .slice none 0 0]).frozen? ⟨w.heap.size, 11, none⟩ = false := (World.frozen?_setCells _ _ _ _ _).trans fc11
        replace c11 : (w3.setCells (w.heap.size + 1 + 1) 0 [.int .i64 0, .int .i64 0, .int .i64 0, .int .i64 0, .int .i64 0, .int .i64 0, .int .i64 0, .int .i64 0, .int .i64 0, .int .i64 0, .slice none 0 0, .slice none 0 0]).cell? ⟨w.heap.size, 11, none⟩ = some (.slice A' m d) := (put_out (by simp only; omega)).trans c11
        replace e0 : (w3.setCells (w.heap.size + 1 + 1) 0 [.int .i64 0, .int .i64 0, .int .i64 0, .int .i64 0, .int .i64 0, .int .i64 0, .int .i64 0, .int .i64 0, .int .i64 0, .int .i64 0, .slice none 0 0, .slice none 0 0]).cell? ⟨w.heap.size + 1, 0, none⟩ = some (.int .i64 y.kind) := (put_out (by simp only; omega)).trans e0
        replace e1 : (w3.setCells (w.heap.size + 1 + 1) 0 [.int .i64 0, .int .i64 0, .int .i64 0, .int .i64 0, .int .i64 0, .int .i64 0, .int .i64 0, .int .i64 0, .int .i64 0, .int .i64 0, .slice none 0 0, .slice none 0 0]).cell? ⟨w.heap.size + 1, 1, none⟩ = some (.int .i64 y.job) := (put_out (by simp only; omega)).trans e1
        replace e2 : (w3.setCells (w.heap.size + 1 + 1) 0 [.int .i64 0, .int .i64 0, .int .i64 0, .int .i64 0, .int .i64 0, .int .i64 0, .int .i64 0, .int .i64 0, .int .i64 0, .int .i64 0, .slice none 0 0, .slice none 0 0]).cell? ⟨w.heap.size + 1, 2, none⟩ = some (.int .i64 y.every) := (put_out (by simp only; omega)).trans e2
        replace e3 : (w3.setCells (w.heap.size + 1 + 1) 0 [.int .i64 0, .int .i64 0, .int .i64 0, .int .i64 0, .int .i64 0, .int .i64 0, .int .i64 0, .int .i64 0, .int .i64 0, .int .i64 0, .slice none 0 0, .slice none 0 0]).cell? ⟨w.heap.size + 1, 3, none⟩ = some (.int .i64 y.time) := (put_out (by simp only; omega)).trans e3
        replace e4 : (w3.setCells (w.heap.size + 1 + 1) 0 [.int .i64 0, .int .i64 0, .int .i64 0, .int .i64 0, .int .i64 0, .int .i64 0, .int .i64 0, .int .i64 0, .int .i64 0, .int .i64 0, .slice none 0 0, .slice none 0 0]).cell? ⟨w.heap.size + 1, 4, none⟩ = some (.int .i64 y.client) := (put_out (by simp only; omega)).trans e4
        replace fp0 : (w3.setCells (w.heap.size + 1 + 1) 0 [.int .i64 0, .int .i64 0, .int .i64 0, .int .i64 0, .int .i64 0, .int .i64 0, .int .i64 0, .int .i64 0, .int .i64 0, .int .i64 0, .slice none 0 0, .slice none 0 0]).frozen? ⟨w.heap.size + 1 + 1, 0, none⟩ = false := (World.frozen?_setCells _ _ _ _ _).trans fp0
        replace fp1 : (w3.setCells (w.heap.size + 1 + 1) 0 [.int .i64 0, .int .i64 0, .int .i64 0, .int .i64 0, .int .i64 0, .int .i64 0, .int .i64 0, .int .i64 0, .int .i64 0, .int .i64 0, .slice none 0 0, .slice none 0 0]).frozen? ⟨w.heap.size + 1 + 1, 1, none⟩ = false := (World.frozen?_setCells _ _ _ _ _).trans fp1
        replace fp2 : (w3.setCells (w.heap.size + 1 + 1) 0 [.int .i64 0, .int .i64 0, .int .i64 0, .int .i64 0, .int .i64 0, .int .i64 0, .int .i64 0, .int .i64 0, .int .i64 0, .int .i64 0, .slice none 0 0, .slice none 0 0]).frozen? ⟨w.heap.size + 1 + 1, 2, none⟩ = false := (World.frozen?_setCells _ _ _ _ _).trans fp2
        replace fp3 : (w3.setCells (w.heap.size + 1 + 1) 0 [.int .i64 0, .int .i64 0, .int .i64 0, .int .i64 0, .int .i64 0, .int .i64 0, .int .i64 0, .int .i64 0, .int .i64 0, .int .i64 0, .slice none 0 0, .slice none 0 0]).frozen? ⟨w.heap.size + 1 + 1, 3, none⟩ = false := (World.frozen?_setCells _ _ _ _ _).trans fp3
        replace fp4 : (w3.setCells (w.heap.size + 1 + 1) 0 [.int .i64 0, .int .i64 0, .int .i64 0, .int .i64 0, .int .i64 0, .int .i64 0, .int .i64 0, .int .i64 0, .int .i64 0, .int .i64 0, .slice none 0 0, .slice none 0 0]).frozen? ⟨w.heap.size + 1 + 1, 4, none⟩ = false := (World.frozen?_setCells _ _ _ _ _).trans fp4
        replace fp5 : (w3.setCells (w.heap.size + 1 + 1) 0 [.int .i64 0, .int .i64 0, .int .i64 0, .int .i64 0, .int .i64 0, .int .i64 0, .int .i64 0, .int .i64 0, .int .i64 0, .int .i64 0, .slice none 0 0, .slice none 0 0]).frozen? ⟨w.heap.size + 1 + 1, 5, none⟩ = false := (World.frozen?_setCells _ _ _ _ _).trans fp5
        replace fp6 : (w3.setCells (w.heap.size + 1 + 1) 0 [.int .i64 0, .int .i64 0, .int .i64 0, .int .i64 0, .int .i64 0, .int .i64 0, .int .i64 0, .int .i64 0, .int .i64 0, .int .i64 0, .slice none 0 0, .slice none 0 0]).frozen? ⟨w.heap.size + 1 + 1, 6, none⟩ = false := (World.frozen?_setCells _ _ _ _ _).trans fp6
        replace fp7 : (w3.setCells (w.heap.size + 1 + 1) 0 [.int .i64 0, .int .i64 0, .int .i64 0, .int .i64 0, .int .i64 0, .int .i64 0, .int .i64 0, .int .i64 0, .int .i64 0, .int .i64 0, .slice none 0 0, .slice none 0 0]).frozen? ⟨w.heap.size + 1 + 1, 7, none⟩ = false := (World.frozen?_setCells _ _ _ _ _).trans fp7
        replace fp8 : (w3.setCells (w.heap.size + 1 + 1) 0 [.int .i64 0, .int .i64 0, .int .i64 0, .int .i64 0, .int .i64 0, .int .i64 0, .int .i64 0, .int .i64 0, .int .i64 0, .int .i64 0, .slice none 0 0, .slice none 0 0]).frozen? ⟨w.heap.size + 1 + 1, 8, none⟩ = false := (World.frozen?_setCells _ _ _ _ _).trans fp8
        replace fp9 : (w3.setCells (w.heap.size + 1 + 1) 0 [.int .i64 0, .int .i64 0, .int .i64 0, .int .i64 0, .int .i64 0, .int .i64 0, .int .i64 0, .int .i64 0, .int .i64 0, .int .i64 0, .slice none 0 0, .slice none 0 0]).frozen? ⟨w.heap.size + 1 + 1, 9, none⟩ = false := (World.frozen?_setCells _ _ _ _ _).trans fp9
        replace fp10 : (w3.setCells (w.heap.size + 1 + 1) 0 [.int .i64 0, .int .i64 0, .int .i64 0, .int .i64 0, .int .i64 0, .int .i64 0, .int .i64 0, .int .i64 0, .int .i64 0, .int .i64 0, .slice none 0 0, .slice none 0 0]).frozen? ⟨w.heap.size + 1 + 1, 10, none⟩ = false := (World.frozen?_setCells _ _ _ _ _).trans fp10
        replace fp11 : (w3.setCells (w.heap.size + 1 + 1) 0 [.int .i64 0, .int .i64 0, .int .i64 0, .int .i64 0, .int .i64 0, .int .i64 0, .int .i64 0, .int .i64 0, .int .i64 0, .int .i64 0, .slice none 0 0, .slice none 0 0]).frozen? ⟨w.heap.size + 1 + 1, 11, none⟩ = false := (World.frozen?_setCells _ _ _ _ _).trans fp11
        replace ft0 : (w3.setCells (w.heap.size + 1 + 1) 0 [.int .i64 0, .int .i64 0, .int .i64 0, .int .i64 0, .int .i64 0, .int .i64 0, .int .i64 0, .int .i64 0, .int .i64 0, .int .i64 0, .slice none 0 0, .slice none 0 0]).frozen? ⟨Bt, 0, none⟩ = false := (World.frozen?_setCells _ _ _ _ _).trans ft0
        replace t0 : (w3.setCells (w.heap.size + 1 + 1) 0 [.int .i64 0, .int .i64 0, .int .i64 0, .int .i64 0, .int .i64 0, .int .i64 0, .int .i64 0, .int .i64 0, .int .i64 0, .int .i64 0, .slice none 0 0, .slice none 0 0]).cell? ⟨Bt, 0, none⟩ = some (.slice A1 n1 k1) := (put_out (by simp only; omega)).trans t0
        replace ft1 : (w3.setCells (w.heap.size + 1 + 1) 0 [.int .i64 0, .int .i64 0, .int .i64 0, .int .i64 0, .int .i64 0, .int .i64 0, .int .i64 0, .int .i64 0, .int .i64 0, .int .i64 0, .slice none 0 0, .slice none 0 0]).frozen? ⟨Bt, 1, none⟩ = false := (World.frozen?_setCells _ _ _ _ _).trans ft1
        replace t1 : (w3.setCells (w.heap.size + 1 + 1) 0 [.int .i64 0, .int .i64 0, .int .i64 0, .int .i64 0, .int .i64 0, .int .i64 0, .int .i64 0, .int .i64 0, .int .i64 0, .int .i64 0, .slice none 0 0, .slice none 0 0]).cell? ⟨Bt, 1, none⟩ = some (.slice A2 n2 k2) := (put_out (by simp only; omega)).trans t1
        clear p0 p1 p2 p3 p4 p5 p6 p7 p8 p9 p10 p11
        generalize (w3.setCells (w.heap.size + 1 + 1) 0 [.int .i64 0, .int .i64 0, .int .i64 0, .int .i64 0, .int .i64 0, .int .i64 0, .int .i64 0, .int .i64 0, .int .i64 0, .int .i64 0, .slice none 0 0, .slice none 0 0]) = wf at *
        have p0 := F0 0 _ rfl
        have p1 := F0 1 _ rfl
        have p2 := F0 2 _ rfl
        have p3 := F0 3 _ rfl
        have p4 := F0 4 _ rfl
        have p5 := F0 5 _ rfl
        have p6 := F0 6 _ rfl
        have p7 := F0 7 _ rfl
        have p8 := F0 8 _ rfl
        have p9 := F0 9 _ rfl
        have p10 := F0 10 _ rfl
        have p11 := F0 11 _ rfl
        clear F0
        refine bodyPost_ret (v := .tuple #[.agg #[.int .i64 0, .int .i64 0, .int .i64 0, .int .i64 0, .int .i64 0, .int .i64 0, .int .i64 0, .int .i64 0, .int .i64 0, .int .i64 0, .slice none 0 0, .slice none 0 0], .int .i64 ap.2]) (by simp [results, Try.results43, go_sem, p0, p1, p2, p3, p4, p5, p6, p7, p8, p9, p10, p11]) rfl ?_
        rw [HR.out]
        exact ⟨none, 0, 0, none, 0, 0, rfl, Sl.nil, Sl.nil, hon⟩
      · rw [if_neg ha] at hr
        have HR := Lib.hid hr
        have hd2 : (ap.2 != 0) = false := by simpa using ha
        clear hr ha
        go_upto_region 9 with fail
        go_region
        go_upto_region 10 with fail
        skip
        replace hon : Onto w ((((w3.setCell ⟨w.heap.size, 9, none⟩ (.int .i64 (pl + 1))).setCell ⟨w.heap.size, 10, none⟩ (.slice A1 n1 k1)).setCell ⟨w.heap.size, 11, none⟩ (.slice A2 n2 k2)).drew) := (Onto.draw (((hon.put (by simp) _).put (by simp) _).put (by simp) _))
        replace s1 := (S.draw (S.off (S.off (S.off s1 (p := ⟨w.heap.size, 9, none⟩) o1 (.int .i64 (pl + 1))) (p := ⟨w.heap.size, 10, none⟩) o1 (.slice A1 n1 k1)) (p := ⟨w.heap.size, 11, none⟩) o1 (.slice A2 n2 k2)))
        replace s2 := (S.draw (S.off (S.off (S.off s2 (p := ⟨w.heap.size, 9, none⟩) o2 (.int .i64 (pl + 1))) (p := ⟨w.heap.size, 10, none⟩) o2 (.slice A1 n1 k1)) (p := ⟨w.heap.size, 11, none⟩) o2 (.slice A2 n2 k2)))
        have c0n : ((((w3.setCell ⟨w.heap.size, 9, none⟩ (.int .i64 (pl + 1))).setCell ⟨w.heap.size, 10, none⟩ (.slice A1 n1 k1)).setCell ⟨w.heap.size, 11, none⟩ (.slice A2 n2 k2)).drew).cell? ⟨w.heap.size, 0, none⟩ = some (.int .i64 ep) := by simp [go_sem, c0, c9, c10, c11]
        have c1n : ((((w3.setCell ⟨w.heap.size, 9, none⟩ (.int .i64 (pl + 1))).setCell ⟨w.heap.size, 10, none⟩ (.slice A1 n1 k1)).setCell ⟨w.heap.size, 11, none⟩ (.slice A2 n2 k2)).drew).cell? ⟨w.heap.size, 1, none⟩ = some (.int .i64 dg) := by simp [go_sem, c1, c9, c10, c11]
        have c2n : ((((w3.setCell ⟨w.heap.size, 9, none⟩ (.int .i64 (pl + 1))).setCell ⟨w.heap.size, 10, none⟩ (.slice A1 n1 k1)).setCell ⟨w.heap.size, 11, none⟩ (.slice A2 n2 k2)).drew).cell? ⟨w.heap.size, 2, none⟩ = some (.int .i64 x.kind) := by simp [go_sem, c2, c9, c10, c11]
        have c3n : ((((w3.setCell ⟨w.heap.size, 9, none⟩ (.int .i64 (pl + 1))).setCell ⟨w.heap.size, 10, none⟩ (.slice A1 n1 k1)).setCell ⟨w.heap.size, 11, none⟩ (.slice A2 n2 k2)).drew).cell? ⟨w.heap.size, 3, none⟩ = some (.int .i64 x.job) := by simp [go_sem, c3, c9, c10, c11]
        have c4n : ((((w3.setCell ⟨w.heap.size, 9, none⟩ (.int .i64 (pl + 1))).setCell ⟨w.heap.size, 10, none⟩ (.slice A1 n1 k1)).setCell ⟨w.heap.size, 11, none⟩ (.slice A2 n2 k2)).drew).cell? ⟨w.heap.size, 4, none⟩ = some (.int .i64 x.every) := by simp [go_sem, c4, c9, c10, c11]
        have c5n : ((((w3.setCell ⟨w.heap.size, 9, none⟩ (.int .i64 (pl + 1))).setCell ⟨w.heap.size, 10, none⟩ (.slice A1 n1 k1)).setCell ⟨w.heap.size, 11, none⟩ (.slice A2 n2 k2)).drew).cell? ⟨w.heap.size, 5, none⟩ = some (.int .i64 x.time) := by simp [go_sem, c5, c9, c10, c11]
        have c6n : ((((w3.setCell ⟨w.heap.size, 9, none⟩ (.int .i64 (pl + 1))).setCell ⟨w.heap.size, 10, none⟩ (.slice A1 n1 k1)).setCell ⟨w.heap.size, 11, none⟩ (.slice A2 n2 k2)).drew).cell? ⟨w.heap.size, 6, none⟩ = some (.int .i64 x.client) := by simp [go_sem, c6, c9, c10, c11]
        have c7n : ((((w3.setCell ⟨w.heap.size, 9, none⟩ (.int .i64 (pl + 1))).setCell ⟨w.heap.size, 10, none⟩ (.slice A1 n1 k1)).setCell ⟨w.heap.size, 11, none⟩ (.slice A2 n2 k2)).drew).cell? ⟨w.heap.size, 7, none⟩ = some (.int .i64 at_) := by simp [go_sem, c7, c9, c10, c11]
        have c8n : ((((w3.setCell ⟨w.heap.size, 9, none⟩ (.int .i64 (pl + 1))).setCell ⟨w.heap.size, 10, none⟩ (.slice A1 n1 k1)).setCell ⟨w.heap.size, 11, none⟩ (.slice A2 n2 k2)).drew).cell? ⟨w.heap.size, 8, none⟩ = some (.int .i64 ln) := by simp [go_sem, c8, c9, c10, c11]
        have c9n : ((((w3.setCell ⟨w.heap.size, 9, none⟩ (.int .i64 (pl + 1))).setCell ⟨w.heap.size, 10, none⟩ (.slice A1 n1 k1)).setCell ⟨w.heap.size, 11, none⟩ (.slice A2 n2 k2)).drew).cell? ⟨w.heap.size, 9, none⟩ = some (.int .i64 (pl + 1)) := by simp [go_sem, c9, c9, c10, c11]
        have c10n : ((((w3.setCell ⟨w.heap.size, 9, none⟩ (.int .i64 (pl + 1))).setCell ⟨w.heap.size, 10, none⟩ (.slice A1 n1 k1)).setCell ⟨w.heap.size, 11, none⟩ (.slice A2 n2 k2)).drew).cell? ⟨w.heap.size, 10, none⟩ = some (.slice A1 n1 k1) := by simp [go_sem, c10, c9, c10, c11]
        have c11n : ((((w3.setCell ⟨w.heap.size, 9, none⟩ (.int .i64 (pl + 1))).setCell ⟨w.heap.size, 10, none⟩ (.slice A1 n1 k1)).setCell ⟨w.heap.size, 11, none⟩ (.slice A2 n2 k2)).drew).cell? ⟨w.heap.size, 11, none⟩ = some (.slice A2 n2 k2) := by simp [go_sem, c11, c9, c10, c11]
        replace p0 : ((((w3.setCell ⟨w.heap.size, 9, none⟩ (.int .i64 (pl + 1))).setCell ⟨w.heap.size, 10, none⟩ (.slice A1 n1 k1)).setCell ⟨w.heap.size, 11, none⟩ (.slice A2 n2 k2)).drew).cell? ⟨w.heap.size + 1 + 1, 0, none⟩ = some (.int .i64 0) := by simp [go_sem, p0]
        replace fp0 : ((((w3.setCell ⟨w.heap.size, 9, none⟩ (.int .i64 (pl + 1))).setCell ⟨w.heap.size, 10, none⟩ (.slice A1 n1 k1)).setCell ⟨w.heap.size, 11, none⟩ (.slice A2 n2 k2)).drew).frozen? ⟨w.heap.size + 1 + 1, 0, none⟩ = false := by simp [fp0]
        replace p1 : ((((w3.setCell ⟨w.heap.size, 9, none⟩ (.int .i64 (pl + 1))).setCell ⟨w.heap.size, 10, none⟩ (.slice A1 n1 k1)).setCell ⟨w.heap.size, 11, none⟩ (.slice A2 n2 k2)).drew).cell? ⟨w.heap.size + 1 + 1, 1, none⟩ = some (.int .i64 0) := by simp [go_sem, p1]
        replace fp1 : ((((w3.setCell ⟨w.heap.size, 9, none⟩ (.int .i64 (pl + 1))).setCell ⟨w.heap.size, 10, none⟩ (.slice A1 n1 k1)).setCell ⟨w.heap.size, 11, none⟩ (.slice A2 n2 k2)).drew).frozen? ⟨w.heap.size + 1 + 1, 1, none⟩ = false := by simp [fp1]
        replace p2 : ((((w3.setCell ⟨w.heap.size, 9, none⟩ (.int .i64 (pl + 1))).setCell ⟨w.heap.size, 10, none⟩ (.slice A1 n1 k1)).setCell ⟨w.heap.size, 11, none⟩ (.slice A2 n2 k2)).drew).cell? ⟨w.heap.size + 1 + 1, 2, none⟩ = some (.int .i64 0) := by simp [go_sem, p2]
        replace fp2 : ((((w3.setCell ⟨w.heap.size, 9, none⟩ (.int .i64 (pl + 1))).setCell ⟨w.heap.size, 10, none⟩ (.slice A1 n1 k1)).setCell ⟨w.heap.size, 11, none⟩ (.slice A2 n2 k2)).drew).frozen? ⟨w.heap.size + 1 + 1, 2, none⟩ = false := by simp [fp2]
        replace p3 : ((((w3.setCell ⟨w.heap.size, 9, none⟩ (.int .i64 (pl + 1))).setCell ⟨w.heap.size, 10, none⟩ (.slice A1 n1 k1)).setCell ⟨w.heap.size, 11, none⟩ (.slice A2 n2 k2)).drew).cell? ⟨w.heap.size + 1 + 1, 3, none⟩ = some (.int .i64 0) := by simp [go_sem, p3]
        replace fp3 : ((((w3.setCell ⟨w.heap.size, 9, none⟩ (.int .i64 (pl + 1))).setCell ⟨w.heap.size, 10, none⟩ (.slice A1 n1 k1)).setCell ⟨w.heap.size, 11, none⟩ (.slice A2 n2 k2)).drew).frozen? ⟨w.heap.size + 1 + 1, 3, none⟩ = false := by simp [fp3]
        replace p4 : ((((w3.setCell ⟨w.heap.size, 9, none⟩ (.int .i64 (pl + 1))).setCell ⟨w.heap.size, 10, none⟩ (.slice A1 n1 k1)).setCell ⟨w.heap.size, 11, none⟩ (.slice A2 n2 k2)).drew).cell? ⟨w.heap.size + 1 + 1, 4, none⟩ = some (.int .i64 0) := by simp [go_sem, p4]
        replace fp4 : ((((w3.setCell ⟨w.heap.size, 9, none⟩ (.int .i64 (pl + 1))).setCell ⟨w.heap.size, 10, none⟩ (.slice A1 n1 k1)).setCell ⟨w.heap.size, 11, none⟩ (.slice A2 n2 k2)).drew).frozen? ⟨w.heap.size + 1 + 1, 4, none⟩ = false := by simp [fp4]
        replace p5 : ((((w3.setCell ⟨w.heap.size, 9, none⟩ (.int .i64 (pl + 1))).setCell ⟨w.heap.size, 10, none⟩ (.slice A1 n1 k1)).setCell ⟨w.heap.size, 11, none⟩ (.slice A2 n2 k2)).drew).cell? ⟨w.heap.size + 1 + 1, 5, none⟩ = some (.int .i64 0) := by simp [go_sem, p5]
        replace fp5 : ((((w3.setCell ⟨w.heap.size, 9, none⟩ (.int .i64 (pl + 1))).setCell ⟨w.heap.size, 10, none⟩ (.slice A1 n1 k1)).setCell ⟨w.heap.size, 11, none⟩ (.slice A2 n2 k2)).drew).frozen? ⟨w.heap.size + 1 + 1, 5, none⟩ = false := by simp [fp5]
        replace p6 : ((((w3.setCell ⟨w.heap.size, 9, none⟩ (.int .i64 (pl + 1))).setCell ⟨w.heap.size, 10, none⟩ (.slice A1 n1 k1)).setCell ⟨w.heap.size, 11, none⟩ (.slice A2 n2 k2)).drew).cell? ⟨w.heap.size + 1 + 1, 6, none⟩ = some (.int .i64 0) := by simp [go_sem, p6]
        replace fp6 : ((((w3.setCell ⟨w.heap.size, 9, none⟩ (.int .i64 (pl + 1))).setCell ⟨w.heap.size, 10, none⟩ (.slice A1 n1 k1)).setCell ⟨w.heap.size, 11, none⟩ (.slice A2 n2 k2)).drew).frozen? ⟨w.heap.size + 1 + 1, 6, none⟩ = false := by simp [fp6]
        replace p7 : ((((w3.setCell ⟨w.heap.size, 9, none⟩ (.int .i64 (pl + 1))).setCell ⟨w.heap.size, 10, none⟩ (.slice A1 n1 k1)).setCell ⟨w.heap.size, 11, none⟩ (.slice A2 n2 k2)).drew).cell? ⟨w.heap.size + 1 + 1, 7, none⟩ = some (.int .i64 0) := by simp [go_sem, p7]
        replace fp7 : ((((w3.setCell ⟨w.heap.size, 9, none⟩ (.int .i64 (pl + 1))).setCell ⟨w.heap.size, 10, none⟩ (.slice A1 n1 k1)).setCell ⟨w.heap.size, 11, none⟩ (.slice A2 n2 k2)).drew).frozen? ⟨w.heap.size + 1 + 1, 7, none⟩ = false := by simp [fp7]
        replace p8 : ((((w3.setCell ⟨w.heap.size, 9, none⟩ (.int .i64 (pl + 1))).setCell ⟨w.heap.size, 10, none⟩ (.slice A1 n1 k1)).setCell ⟨w.heap.size, 11, none⟩ (.slice A2 n2 k2)).drew).cell? ⟨w.heap.size + 1 + 1, 8, none⟩ = some (.int .i64 0) := by simp [go_sem, p8]
        replace fp8 : ((((w3.setCell ⟨w.heap.size, 9, none⟩ (.int .i64 (pl + 1))).setCell ⟨w.heap.size, 10, none⟩ (.slice A1 n1 k1)).setCell ⟨w.heap.size, 11, none⟩ (.slice A2 n2 k2)).drew).frozen? ⟨w.heap.size + 1 + 1, 8, none⟩ = false := by simp [fp8]
        replace p9 : ((((w3.setCell ⟨w.heap.size, 9, none⟩ (.int .i64 (pl + 1))).setCell ⟨w.heap.size, 10, none⟩ (.slice A1 n1 k1)).setCell ⟨w.heap.size, 11, none⟩ (.slice A2 n2 k2)).drew).cell? ⟨w.heap.size + 1 + 1, 9, none⟩ = some (.int .i64 0) := by simp [go_sem, p9]
        replace fp9 : ((((w3.setCell ⟨w.heap.size, 9, none⟩ (.int .i64 (pl + 1))).setCell ⟨w.heap.size, 10, none⟩ (.slice A1 n1 k1)).setCell ⟨w.heap.size, 11, none⟩ (.slice A2 n2 k2)).drew).frozen? ⟨w.heap.size + 1 + 1, 9, none⟩ = false := by simp [fp9]
        replace p10 : ((((w3.setCell ⟨w.heap.size, 9, none⟩ (.int .i64 (pl + 1))).setCell ⟨w.heap.size, 10, none⟩ (.slice A1 n1 k1)).setCell ⟨w.heap.size, 11, none⟩ (.slice A2 n2 k2)).drew).cell? ⟨w.heap.size + 1 + 1, 10, none⟩ = some (.slice none 0 0) := by simp [go_sem, p10]
        replace fp10 : ((((w3.setCell ⟨w.heap.size, 9, none⟩ (.int .i64 (pl + 1))).setCell ⟨w.heap.size, 10, none⟩ (.slice A1 n1 k1)).setCell ⟨w.heap.size, 11, none⟩ (.slice A2 n2 k2)).drew).frozen? ⟨w.heap.size + 1 + 1, 10, none⟩ = false := by simp [fp10]
        replace p11 : ((((w3.setCell ⟨w.heap.size, 9, none⟩ (.int .i64 (pl + 1))).setCell ⟨w.heap.size, 10, none⟩ (.slice A1 n1 k1)).setCell ⟨w.heap.size, 11, none⟩ (.slice A2 n2 k2)).drew).cell? ⟨w.heap.size + 1 + 1, 11, none⟩ = some (.slice none 0 0) := by simp [go_sem, p11]
        replace fp11 : ((((w3.setCell ⟨w.heap.size, 9, none⟩ (.int .i64 (pl + 1))).setCell ⟨w.heap.size, 10, none⟩ (.slice A1 n1 k1)).setCell ⟨w.heap.size, 11, none⟩ (.slice A2 n2 k2)).drew).frozen? ⟨w.heap.size + 1 + 1, 11, none⟩ = false := by simp [fp11]
        clear c0 fc0 c1 fc1 c2 fc2 c3 fc3 c4 fc4 c5 fc5 c6 fc6 c7 fc7 c8 fc8 c9 fc9 c10 fc10 c11 fc11 e0 e1 e2 e3 e4 hz1 t0 ft0 t1 ft1
        change Code.wp _ _ _ _ ((((w3.setCell ⟨w.heap.size, 9, none⟩ (.int .i64 (pl + 1))).setCell ⟨w.heap.size, 10, none⟩ (.slice A1 n1 k1)).setCell ⟨w.heap.size, 11, none⟩ (.slice A2 n2 k2)).drew)
        generalize ((((w3.setCell ⟨w.heap.size, 9, none⟩ (.int .i64 (pl + 1))).setCell ⟨w.heap.size, 10, none⟩ (.slice A1 n1 k1)).setCell ⟨w.heap.size, 11, none⟩ (.slice A2 n2 k2)).drew) = w4 at *
        have hz1 : w.heap.size + 1 + 1 < w4.heap.size := World.block_lt_of_cell? _ _ p0
        have c0 := c0n; clear c0n
        have c1 := c1n; clear c1n
        have c2 := c2n; clear c2n
        have c3 := c3n; clear c3n
        have c4 := c4n; clear c4n
        have c5 := c5n; clear c5n
        have c6 := c6n; clear c6n
        have c7 := c7n; clear c7n
        have c8 := c8n; clear c8n
        have c9 := c9n; clear c9n
        have c10 := c10n; clear c10n
        have c11 := c11n; clear c11n
        go_wp2_with fail
        clear c0 c1 c2 c3 c4 c5 c6 c7 c8 c9 c10 c11
        rw [show ((((((((((((w4.setCell ⟨w.heap.size + 1 + 1, 0, none⟩ (.int .i64 ep)).setCell ⟨w.heap.size + 1 + 1, 1, none⟩ (.int .i64 dg)).setCell ⟨w.heap.size + 1 + 1, 2, none⟩ (.int .i64 x.kind)).setCell ⟨w.heap.size + 1 + 1, 3, none⟩ (.int .i64 x.job)).setCell ⟨w.heap.size + 1 + 1, 4, none⟩ (.int .i64 x.every)).setCell ⟨w.heap.size + 1 + 1, 5, none⟩ (.int .i64 x.time)).setCell ⟨w.heap.size + 1 + 1, 6, none⟩ (.int .i64 x.client)).setCell ⟨w.heap.size + 1 + 1, 7, none⟩ (.int .i64 at_)).setCell ⟨w.heap.size + 1 + 1, 8, none⟩ (.int .i64 ln)).setCell ⟨w.heap.size + 1 + 1, 9, none⟩ (.int .i64 (pl + 1))).setCell ⟨w.heap.size + 1 + 1, 10, none⟩ (.slice A1 n1 k1)).setCell ⟨w.heap.size + 1 + 1, 11, none⟩ (.slice A2 n2 k2)) = (w4.setCells (w.heap.size + 1 + 1) 0 [.int .i64 ep, .int .i64 dg, .int .i64 x.kind, .int .i64 x.job, .int .i64 x.every, .int .i64 x.time, .int .i64 x.client, .int .i64 at_, .int .i64 ln, .int .i64 (pl + 1), .slice A1 n1 k1, .slice A2 n2 k2]) from rfl]
        have F0 : ∀ (j : Nat) vv, ([.int .i64 ep, .int .i64 dg, .int .i64 x.kind, .int .i64 x.job, .int .i64 x.every, .int .i64 x.time, .int .i64 x.client, .int .i64 at_, .int .i64 ln, .int .i64 (pl + 1), .slice A1 n1 k1, .slice A2 n2 k2] : List Value)[j]? = some vv → (w4.setCells (w.heap.size + 1 + 1) 0 [.int .i64 ep, .int .i64 dg, .int .i64 x.kind, .int .i64 x.job, .int .i64 x.every, .int .i64 x.time, .int .i64 x.client, .int .i64 at_, .int .i64 ln, .int .i64 (pl + 1), .slice A1 n1 k1, .slice A2 n2 k2]).cell? ⟨w.heap.size + 1 + 1, j, none⟩ = some vv := fun j vv hv => put_in (w := w4) (b := w.heap.size + 1 + 1) (vs := [.int .i64 ep, .int .i64 dg, .int .i64 x.kind, .int .i64 x.job, .int .i64 x.every, .int .i64 x.time, .int .i64 x.client, .int .i64 at_, .int .i64 ln, .int .i64 (pl + 1), .slice A1 n1 k1, .slice A2 n2 k2]) (there12 p0 p1 p2 p3 p4 p5 p6 p7 p8 p9 p10 p11) hv
        replace hon : Onto w (w4.setCells (w.heap.size + 1 + 1) 0 [.int .i64 ep, .int .i64 dg, .int .i64 x.kind, .int .i64 x.job, .int .i64 x.every, .int .i64 x.time, .int .i64 x.client, .int .i64 at_, .int .i64 ln, .int .i64 (pl + 1), .slice A1 n1 k1, .slice A2 n2 k2]) := put_onto (by omega) hon
        replace fp0 : (w4.setCells (w.heap.size + 1 + 1) 0 [.int .i64 ep, .int .i64 dg, .int .i64 x.kind, .int .i64 x.job, .int .i64 x.every, .int .i64 x.time, .int .i64 x.client, .int .i64 at_, .int .i64 ln, .int .i64 (pl + 1), .slice A1 n1 k1, .slice A2 n2 k2]).frozen? ⟨w.heap.size + 1 + 1, 0, none⟩ = false := (World.frozen?_setCells _ _ _ _ _).trans fp0
        replace fp1 : (w4.setCells (w.heap.size + 1 + 1) 0 [.int .i64 ep, .int .i64 dg, .int .i64 x.kind, .int .i64 x.job, .int .i64 x.every, .int .i64 x.time, .int .i64 x.client, .int .i64 at_, .int .i64 ln, .int .i64 (pl + 1), .slice A1 n1 k1, .slice A2 n2 k2]).frozen? ⟨w.heap.size + 1 + 1, 1, none⟩ = false := (World.frozen?_setCells _ _ _ _ _).trans fp1
        replace fp2 : (w4.setCells (w.heap.size + 1 + 1) 0 [.int .i64 ep, .int .i64 dg, .int .i64 x.kind, .int .i64 x.job, .int .i64 x.every, .int .i64 x.time, .int .i64 x.client, .int .i64 at_, .int .i64 ln, .int .i64 (pl + 1), .slice A1 n1 k1, .slice A2 n2 k2]).frozen? ⟨w.heap.size + 1 + 1, 2, none⟩ = false := (World.frozen?_setCells _ _ _ _ _).trans fp2
        replace fp3 : (w4.setCells (w.heap.size + 1 + 1) 0 [.int .i64 ep, .int .i64 dg, .int .i64 x.kind, .int .i64 x.job, .int .i64 x.every, .int .i64 x.time, .int .i64 x.client, .int .i64 at_, .int .i64 ln, .int .i64 (pl + 1), .slice A1 n1 k1, .slice A2 n2 k2]).frozen? ⟨w.heap.size + 1 + 1, 3, none⟩ = false := (World.frozen?_setCells _ _ _ _ _).trans fp3
        replace fp4 : (w4.setCells (w.heap.size + 1 + 1) 0 [.int .i64 ep, .int .i64 dg, .int .i64 x.kind, .int .i64 x.job, .int .i64 x.every, .int .i64 x.time, .int .i64 x.client, .int .i64 at_, .int .i64 ln, .int .i64 (pl + 1), .slice A1 n1 k1, .slice A2 n2 k2]).frozen? ⟨w.heap.size + 1 + 1, 4, none⟩ = false := (World.frozen?_setCells _ _ _ _ _).trans fp4
        replace fp5 : (w4.setCells (w.heap.size + 1 + 1) 0 [.int .i64 ep, .int .i64 dg, .int .i64 x.kind, .int .i64 x.job, .int .i64 x.every, .int .i64 x.time, .int .i64 x.client, .int .i64 at_, .int .i64 ln, .int .i64 (pl + 1), .slice A1 n1 k1, .slice A2 n2 k2]).frozen? ⟨w.heap.size + 1 + 1, 5, none⟩ = false := (World.frozen?_setCells _ _ _ _ _).trans fp5
        replace fp6 : (w4.setCells (w.heap.size + 1 + 1) 0 [.int .i64 ep, .int .i64 dg, .int .i64 x.kind, .int .i64 x.job, .int .i64 x.every, .int .i64 x.time, .int .i64 x.client, .int .i64 at_, .int .i64 ln, .int .i64 (pl + 1), .slice A1 n1 k1, .slice A2 n2 k2]).frozen? ⟨w.heap.size + 1 + 1, 6, none⟩ = false := (World.frozen?_setCells _ _ _ _ _).trans fp6
        replace fp7 : (w4.setCells (w.heap.size + 1 + 1) 0 [.int .i64 ep, .int .i64 dg, .int .i64 x.kind, .int .i64 x.job, .int .i64 x.every, .int .i64 x.time, .int .i64 x.client, .int .i64 at_, .int .i64 ln, .int .i64 (pl + 1), .slice A1 n1 k1, .slice A2 n2 k2]).frozen? ⟨w.heap.size + 1 + 1, 7, none⟩ = false := (World.frozen?_setCells _ _ _ _ _).trans fp7
        replace fp8 : (w4.setCells (w.heap.size + 1 + 1) 0 [.int .i64 ep, .int .i64 dg, .int .i64 x.kind, .int .i64 x.job, .int .i64 x.every, .int .i64 x.time, .int .i64 x.client, .int .i64 at_, .int .i64 ln, .int .i64 (pl + 1), .slice A1 n1 k1, .slice A2 n2 k2]).frozen? ⟨w.heap.size + 1 + 1, 8, none⟩ = false := (World.frozen?_setCells _ _ _ _ _).trans fp8
        replace fp9 : (w4.setCells (w.heap.size + 1 + 1) 0 [.int .i64 ep, .int .i64 dg, .int .i64 x.kind, .int .i64 x.job, .int .i64 x.every, .int .i64 x.time, .int .i64 x.client, .int .i64 at_, .int .i64 ln, .int .i64 (pl + 1), .slice A1 n1 k1, .slice A2 n2 k2]).frozen? ⟨w.heap.size + 1 + 1, 9, none⟩ = false := (World.frozen?_setCells _ _ _ _ _).trans fp9
        replace fp10 : (w4.setCells (w.heap.size + 1 + 1) 0 [.int .i64 ep, .int .i64 dg, .int .i64 x.kind, .int .i64 x.job, .int .i64 x.every, .int .i64 x.time, .int .i64 x.client, .int .i64 at_, .int .i64 ln, .int .i64 (pl + 1), .slice A1 n1 k1, .slice A2 n2 k2]).frozen? ⟨w.heap.size + 1 + 1, 10, none⟩ = false := (World.frozen?_setCells _ _ _ _ _).trans fp10
        replace fp11 : (w4.setCells (w.heap.size + 1 + 1) 0 [.int .i64 ep, .int .i64 dg, .int .i64 x.kind, .int .i64 x.job, .int .i64 x.every, .int .i64 x.time, .int .i64 x.client, .int .i64 at_, .int .i64 ln, .int .i64 (pl + 1), .slice A1 n1 k1, .slice A2 n2 k2]).frozen? ⟨w.heap.size + 1 + 1, 11, none⟩ = false := (World.frozen?_setCells _ _ _ _ _).trans fp11
        replace s1 := put_S (vs := [.int .i64 ep, .int .i64 dg, .int .i64 x.kind, .int .i64 x.job, .int .i64 x.every, .int .i64 x.time, .int .i64 x.client, .int .i64 at_, .int .i64 ln, .int .i64 (pl + 1), .slice A1 n1 k1, .slice A2 n2 k2]) (b := w.heap.size + 1 + 1) (o := 0) (w := w4) o1' s1
        replace s2 := put_S (vs := [.int .i64 ep, .int .i64 dg, .int .i64 x.kind, .int .i64 x.job, .int .i64 x.every, .int .i64 x.time, .int .i64 x.client, .int .i64 at_, .int .i64 ln, .int .i64 (pl + 1), .slice A1 n1 k1, .slice A2 n2 k2]) (b := w.heap.size + 1 + 1) (o := 0) (w := w4) o2' s2
        clear p0 p1 p2 p3 p4 p5 p6 p7 p8 p9 p10 p11
        generalize (w4.setCells (w.heap.size + 1 + 1) 0 [.int .i64 ep, .int .i64 dg, .int .i64 x.kind, .int .i64 x.job, .int .i64 x.every, .int .i64 x.time, .int .i64 x.client, .int .i64 at_, .int .i64 ln, .int .i64 (pl + 1), .slice A1 n1 k1, .slice A2 n2 k2]) = wf at *
        have p0 := F0 0 _ rfl
        have p1 := F0 1 _ rfl
        have p2 := F0 2 _ rfl
        have p3 := F0 3 _ rfl
        have p4 := F0 4 _ rfl
        have p5 := F0 5 _ rfl
        have p6 := F0 6 _ rfl
        have p7 := F0 7 _ rfl
        have p8 := F0 8 _ rfl
        have p9 := F0 9 _ rfl
        have p10 := F0 10 _ rfl
        have p11 := F0 11 _ rfl
        clear F0
        refine bodyPost_ret (v := .tuple #[.agg #[.int .i64 ep, .int .i64 dg, .int .i64 x.kind, .int .i64 x.job, .int .i64 x.every, .int .i64 x.time, .int .i64 x.client, .int .i64 at_, .int .i64 ln, .int .i64 (pl + 1), .slice A1 n1 k1, .slice A2 n2 k2], .int .i64 0]) (by simp [results, Try.results43, go_sem, p0, p1, p2, p3, p4, p5, p6, p7, p8, p9, p10, p11]) rfl ?_
        rw [HR.out]
        exact ⟨A1, n1, k1, A2, n2, k2, rfl, s1, s2, hon⟩
  · rw [if_pos h0] at hr
    have HR := Lib.hid hr
    have hd : (q != 0) = true := by simpa using h0
    clear hr h0
    go_wp2_with fail
    clear c0 fc0 c1 fc1 c2 fc2 c3 fc3 c4 fc4 c5 fc5 c6 fc6 c7 fc7 c8 fc8 c9 fc9 c10 fc10 c11 fc11
    clear e0 e1 e2 e3 e4
    clear sA sB
    rw [show ((((((((((((w1.setCell ⟨w.heap.size + 1 + 1, 0, none⟩ (.int .i64 0)).setCell ⟨w.heap.size + 1 + 1, 1, none⟩ (.int .i64 0)).setCell ⟨w.heap.size + 1 + 1, 2, none⟩ (.int .i64 0)).setCell ⟨w.heap.size + 1 + 1, 3, none⟩ (.int .i64 0)).setCell ⟨w.heap.size + 1 + 1, 4, none⟩ (.int .i64 0)).setCell ⟨w.heap.size + 1 + 1, 5, none⟩ (.int .i64 0)).setCell ⟨w.heap.size + 1 + 1, 6, none⟩ (.int .i64 0)).setCell ⟨w.heap.size + 1 + 1, 7, none⟩ (.int .i64 0)).setCell ⟨w.heap.size + 1 + 1, 8, none⟩ (.int .i64 0)).setCell ⟨w.heap.size + 1 + 1, 9, none⟩ (.int .i64 0)).setCell ⟨w.heap.size + 1 + 1, 10, none⟩ (.slice none 0 0)).setCell ⟨w.heap.size + 1 + 1, 11, none⟩ (.slice none 0 0)) = (w1.setCells (w.heap.size + 1 + 1) 0 [.int .i64 0, .int .i64 0, .int .i64 0, .int .i64 0, .int .i64 0, .int .i64 0, .int .i64 0, .int .i64 0, .int .i64 0, .int .i64 0, .slice none 0 0, .slice none 0 0]) from rfl]
    have F0 : ∀ (j : Nat) vv, ([.int .i64 0, .int .i64 0, .int .i64 0, .int .i64 0, .int .i64 0, .int .i64 0, .int .i64 0, .int .i64 0, .int .i64 0, .int .i64 0, .slice none 0 0, .slice none 0 0] : List Value)[j]? = some vv → (w1.setCells (w.heap.size + 1 + 1) 0 [.int .i64 0, .int .i64 0, .int .i64 0, .int .i64 0, .int .i64 0, .int .i64 0, .int .i64 0, .int .i64 0, .int .i64 0, .int .i64 0, .slice none 0 0, .slice none 0 0]).cell? ⟨w.heap.size + 1 + 1, j, none⟩ = some vv := fun j vv hv => put_in (w := w1) (b := w.heap.size + 1 + 1) (vs := [.int .i64 0, .int .i64 0, .int .i64 0, .int .i64 0, .int .i64 0, .int .i64 0, .int .i64 0, .int .i64 0, .int .i64 0, .int .i64 0, .slice none 0 0, .slice none 0 0]) (there12 p0 p1 p2 p3 p4 p5 p6 p7 p8 p9 p10 p11) hv
    replace hon : Onto w (w1.setCells (w.heap.size + 1 + 1) 0 [.int .i64 0, .int .i64 0, .int .i64 0, .int .i64 0, .int .i64 0, .int .i64 0, .int .i64 0, .int .i64 0, .int .i64 0, .int .i64 0, .slice none 0 0, .slice none 0 0]) := put_onto (by omega) hon
    replace fp0 : (w1.setCells (w.heap.size + 1 + 1) 0 [.int .i64 0, .int .i64 0, .int .i64 0, .int .i64 0, .int .i64 0, .int .i64 0, .int .i64 0, .int .i64 0, .int .i64 0, .int .i64 0, .slice none 0 0, .slice none 0 0]).frozen? ⟨w.heap.size + 1 + 1, 0, none⟩ = false := (World.frozen?_setCells _ _ _ _ _).trans fp0
    replace fp1 : (w1.setCells (w.heap.size + 1 + 1) 0 [.int .i64 0, .int .i64 0, .int .i64 0, .int .i64 0, .int .i64 0, .int .i64 0, .int .i64 0, .int .i64 0, .int .i64 0, .int .i64 0, .slice none 0 0, .slice none 0 0]).frozen? ⟨w.heap.size + 1 + 1, 1, none⟩ = false := (World.frozen?_setCells _ _ _ _ _).trans fp1
    replace fp2 : (w1.setCells (w.heap.size + 1 + 1) 0 [.int .i64 0, .int .i64 0, .int .i64 0, .int .i64 0, .int .i64 0, .int .i64 0, .int .i64 0, .int .i64 0, .int .i64 0, .int .i64 0, .slice none 0 0, .slice none 0 0]).frozen? ⟨w.heap.size + 1 + 1, 2, none⟩ = false := (World.frozen?_setCells _ _ _ _ _).trans fp2
    replace fp3 : (w1.setCells (w.heap.size + 1 + 1) 0 [.int .i64 0, .int .i64 0, .int .i64 0, .int .i64 0, .int .i64 0, .int .i64 0, .int .i64 0, .int .i64 0, .int .i64 0, .int .i64 0, .slice none 0 0, .slice none 0 0]).frozen? ⟨w.heap.size + 1 + 1, 3, none⟩ = false := (World.frozen?_setCells _ _ _ _ _).trans fp3
    replace fp4 : (w1.setCells (w.heap.size + 1 + 1) 0 [.int .i64 0, .int .i64 0, .int .i64 0, .int .i64 0, .int .i64 0, .int .i64 0, .int .i64 0, .int .i64 0, .int .i64 0, .int .i64 0, .slice none 0 0, .slice none 0 0]).frozen? ⟨w.heap.size + 1 + 1, 4, none⟩ = false := (World.frozen?_setCells _ _ _ _ _).trans fp4
    replace fp5 : (w1.setCells (w.heap.size + 1 + 1) 0 [.int .i64 0, .int .i64 0, .int .i64 0, .int .i64 0, .int .i64 0, .int .i64 0, .int .i64 0, .int .i64 0, .int .i64 0, .int .i64 0, .slice none 0 0, .slice none 0 0]).frozen? ⟨w.heap.size + 1 + 1, 5, none⟩ = false := (World.frozen?_setCells _ _ _ _ _).trans fp5
    replace fp6 : (w1.setCells (w.heap.size + 1 + 1) 0 [.int .i64 0, .int .i64 0, .int .i64 0, .int .i64 0, .int .i64 0, .int .i64 0, .int .i64 0, .int .i64 0, .int .i64 0, .int .i64 0, .slice none 0 0, .slice none 0 0]).frozen? ⟨w.heap.size + 1 + 1, 6, none⟩ = false := (World.frozen?_setCells _ _ _ _ _).trans fp6
    replace fp7 : (w1.setCells (w.heap.size + 1 + 1) 0 [.int .i64 0, .int .i64 0, .int .i64 0, .int .i64 0, .int .i64 0, .int .i64 0, .int .i64 0, .int .i64 0, .int .i64 0, .int .i64 0, .slice none 0 0, .slice none 0 0]).frozen? ⟨w.heap.size + 1 + 1, 7, none⟩ = false := (World.frozen?_setCells _ _ _ _ _).trans fp7
    replace fp8 : (w1.setCells (w.heap.size + 1 + 1) 0 [.int .i64 0, .int .i64 0, .int .i64 0, .int .i64 0, .int .i64 0, .int .i64 0, .int .i64 0, .int .i64 0, .int .i64 0, .int .i64 0, .slice none 0 0, .slice none 0 0]).frozen? ⟨w.heap.size + 1 + 1, 8, none⟩ = false := (World.frozen?_setCells _ _ _ _ _).trans fp8
    replace fp9 : (w1.setCells (w.heap.size + 1 + 1) 0 [.int .i64 0, .int .i64 0, .int .i64 0, .int .i64 0, .int .i64 0, .int .i64 0, .int .i64 0, .int .i64 0, .int .i64 0, .int .i64 0, .slice none 0 0, .slice none 0 0]).frozen? ⟨w.heap.size + 1 + 1, 9, none⟩ = false := (World.frozen?_setCells _ _ _ _ _).trans fp9
    replace fp10 : (w1.setCells (w.heap.size + 1 + 1) 0 [.int .i64 0, .int .i64 0, .int .i64 0, .int .i64 0, .int .i64 0, .int .i64 0, .int .i64 0, .int .i64 0, .int .i64 0, .int .i64 0, .slice none 0 0, .slice none 0 0]).frozen? ⟨w.heap.size + 1 + 1, 10, none⟩ = false := (World.frozen?_setCells _ _ _ _ _).trans fp10
    replace fp11 : (w1.setCells (w.heap.size + 1 + 1) 0 [.int .i64 0, .int .i64 0, .int .i64 0, .int .i64 0, .int .i64 0, .int .i64 0, .int .i64 0, .int .i64 0, .int .i64 0, .int .i64 0, .slice none 0 0, .slice none 0 0]).frozen? ⟨w.heap.size + 1 + 1, 11, none⟩ = false := (World.frozen?_setCells _ _ _ _ _).trans fp11
    clear p0 p1 p2 p3 p4 p5 p6 p7 p8 p9 p10 p11
    generalize (w1.setCells (w.heap.size + 1 + 1) 0 [.int .i64 0, .int .i64 0, .int .i64 0, .int .i64 0, .int .i64 0, .int .i64 0, .int .i64 0, .int .i64 0, .int .i64 0, .int .i64 0, .slice none 0 0, .slice none 0 0]) = wf at *
    have p0 := F0 0 _ rfl
    have p1 := F0 1 _ rfl
    have p2 := F0 2 _ rfl
    have p3 := F0 3 _ rfl
    have p4 := F0 4 _ rfl
    have p5 := F0 5 _ rfl
    have p6 := F0 6 _ rfl
    have p7 := F0 7 _ rfl
    have p8 := F0 8 _ rfl
    have p9 := F0 9 _ rfl
    have p10 := F0 10 _ rfl
    have p11 := F0 11 _ rfl
    clear F0
    refine bodyPost_ret (v := .tuple #[.agg #[.int .i64 0, .int .i64 0, .int .i64 0, .int .i64 0, .int .i64 0, .int .i64 0, .int .i64 0, .int .i64 0, .int .i64 0, .int .i64 0, .slice none 0 0, .slice none 0 0], .int .i64 q]) (by simp [results, Try.results43, go_sem, p0, p1, p2, p3, p4, p5, p6, p7, p8, p9, p10, p11]) rfl ?_
    rw [HR.out]
    exact ⟨none, 0, 0, none, 0, 0, rfl, Sl.nil, Sl.nil, hon⟩
end Go.Proofs.Ytbipmoehcmighaa
