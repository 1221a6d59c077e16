/- The walk of the law ClientKeeps, of a client that rests. -/
import Derived.Test.YtbipmoehcmighaaKeeps
namespace Go.Proofs.Ytbipmoehcmighaa
set_option linter.unusedSimpArgs false
set_option linter.unusedVariables false
open Go.RowKit

set_option maxHeartbeats 8000000 in
set_option maxRecDepth 100000 in
theorem Keeps_junk (ep pl : Int) (A A' : Option Addr) (n k m d : Nat) (b : Book) (place : Int) (x : Entry) (w : World) (sA : S w 3 A n (b.jobs.map encJ)) (sB : S w 3 A' m (b.rung.map encR)) (hx : checkE x ≠ 0) (hck : checkCl ⟨ep, 0, ⟨0, 0, 0, 0, 0⟩, 0, 0, pl, b⟩ = 0) (hln : n ≤ 9223372036854775807) (hlm : m ≤ 9223372036854775807) :
    Calls Try.prog 8 #[.agg #[.int .i64 ep, .int .i64 0, .int .i64 0, .int .i64 0, .int .i64 0, .int .i64 0, .int .i64 0, .int .i64 0, .int .i64 0, .int .i64 pl, .slice A n k, .slice A' m d], .int .i64 place, .agg #[.int .i64 x.kind, .int .i64 x.job, .int .i64 x.every, .int .i64 x.time, .int .i64 x.client]] w fun e w' => e = .returned (.bool true) ∧ Onto w w' := by
  have HLN := Lib.hid hln; have HLM := Lib.hid hlm
  clear hln hlm
  have HQ := Lib.hid hck
  have HX := Lib.hid hx
  clear hx
  clear hck
  have oA : ∀ z, w.heap.size ≤ z → OffN n z A := fun z hz => sA.offN hz
  have oB : ∀ z, w.heap.size ≤ z → OffN m z A' := fun z hz => sB.offN hz
  have OA := Lib.hid oA; have OB := Lib.hid oB
  clear oA oB
  have hp0 : 0 ≤ place % 60 := Int.emod_nonneg _ (by omega)
  have hp1 : place % 60 < 60 := Int.emod_lt_of_pos _ (by omega)
  go_enter Try.func8, Try.ntmps8
  go_upto_region 1 with fail
  have hon : Onto w ((w.alloc (Obj.cells #[.int .i64 ep, .int .i64 0, .int .i64 0, .int .i64 0, .int .i64 0, .int .i64 0, .int .i64 0, .int .i64 0, .int .i64 0, .int .i64 pl, .slice A n k, .slice A' m d] 56)).alloc (Obj.cells #[.int .i64 x.kind, .int .i64 x.job, .int .i64 x.every, .int .i64 x.time, .int .i64 x.client] 24)) := ((Onto.rfl' w).new _).new _
  replace sA := (sA.new (Obj.cells #[.int .i64 ep, .int .i64 0, .int .i64 0, .int .i64 0, .int .i64 0, .int .i64 0, .int .i64 0, .int .i64 0, .int .i64 0, .int .i64 pl, .slice A n k, .slice A' m d] 56)).new (Obj.cells #[.int .i64 x.kind, .int .i64 x.job, .int .i64 x.every, .int .i64 x.time, .int .i64 x.client] 24)
  replace sB := (sB.new (Obj.cells #[.int .i64 ep, .int .i64 0, .int .i64 0, .int .i64 0, .int .i64 0, .int .i64 0, .int .i64 0, .int .i64 0, .int .i64 0, .int .i64 pl, .slice A n k, .slice A' m d] 56)).new (Obj.cells #[.int .i64 x.kind, .int .i64 x.job, .int .i64 x.every, .int .i64 x.time, .int .i64 x.client] 24)
  have c0 : ((w.alloc (Obj.cells #[.int .i64 ep, .int .i64 0, .int .i64 0, .int .i64 0, .int .i64 0, .int .i64 0, .int .i64 0, .int .i64 0, .int .i64 0, .int .i64 pl, .slice A n k, .slice A' m d] 56)).alloc (Obj.cells #[.int .i64 x.kind, .int .i64 x.job, .int .i64 x.every, .int .i64 x.time, .int .i64 x.client] 24)).cell? ⟨w.heap.size, 0, none⟩ = some (.int .i64 ep) := by simp [go_sem]
  have fc0 : ((w.alloc (Obj.cells #[.int .i64 ep, .int .i64 0, .int .i64 0, .int .i64 0, .int .i64 0, .int .i64 0, .int .i64 0, .int .i64 0, .int .i64 0, .int .i64 pl, .slice A n k, .slice A' m d] 56)).alloc (Obj.cells #[.int .i64 x.kind, .int .i64 x.job, .int .i64 x.every, .int .i64 x.time, .int .i64 x.client] 24)).frozen? ⟨w.heap.size, 0, none⟩ = false := by simp [go_sem]
  have c1 : ((w.alloc (Obj.cells #[.int .i64 ep, .int .i64 0, .int .i64 0, .int .i64 0, .int .i64 0, .int .i64 0, .int .i64 0, .int .i64 0, .int .i64 0, .int .i64 pl, .slice A n k, .slice A' m d] 56)).alloc (Obj.cells #[.int .i64 x.kind, .int .i64 x.job, .int .i64 x.every, .int .i64 x.time, .int .i64 x.client] 24)).cell? ⟨w.heap.size, 1, none⟩ = some (.int .i64 0) := by simp [go_sem]
  have fc1 : ((w.alloc (Obj.cells #[.int .i64 ep, .int .i64 0, .int .i64 0, .int .i64 0, .int .i64 0, .int .i64 0, .int .i64 0, .int .i64 0, .int .i64 0, .int .i64 pl, .slice A n k, .slice A' m d] 56)).alloc (Obj.cells #[.int .i64 x.kind, .int .i64 x.job, .int .i64 x.every, .int .i64 x.time, .int .i64 x.client] 24)).frozen? ⟨w.heap.size, 1, none⟩ = false := by simp [go_sem]
  have c2 : ((w.alloc (Obj.cells #[.int .i64 ep, .int .i64 0, .int .i64 0, .int .i64 0, .int .i64 0, .int .i64 0, .int .i64 0, .int .i64 0, .int .i64 0, .int .i64 pl, .slice A n k, .slice A' m d] 56)).alloc (Obj.cells #[.int .i64 x.kind, .int .i64 x.job, .int .i64 x.every, .int .i64 x.time, .int .i64 x.client] 24)).cell? ⟨w.heap.size, 2, none⟩ = some (.int .i64 0) := by simp [go_sem]
  have fc2 : ((w.alloc (Obj.cells #[.int .i64 ep, .int .i64 0, .int .i64 0, .int .i64 0, .int .i64 0, .int .i64 0, .int .i64 0, .int .i64 0, .int .i64 0, .int .i64 pl, .slice A n k, .slice A' m d] 56)).alloc (Obj.cells #[.int .i64 x.kind, .int .i64 x.job, .int .i64 x.every, .int .i64 x.time, .int .i64 x.client] 24)).frozen? ⟨w.heap.size, 2, none⟩ = false := by simp [go_sem]
  have c3 : ((w.alloc (Obj.cells #[.int .i64 ep, .int .i64 0, .int .i64 0, .int .i64 0, .int .i64 0, .int .i64 0, .int .i64 0, .int .i64 0, .int .i64 0, .int .i64 pl, .slice A n k, .slice A' m d] 56)).alloc (Obj.cells #[.int .i64 x.kind, .int .i64 x.job, .int .i64 x.every, .int .i64 x.time, .int .i64 x.client] 24)).cell? ⟨w.heap.size, 3, none⟩ = some (.int .i64 0) := by simp [go_sem]
  have fc3 : ((w.alloc (Obj.cells #[.int .i64 ep, .int .i64 0, .int .i64 0, .int .i64 0, .int .i64 0, .int .i64 0, .int .i64 0, .int .i64 0, .int .i64 0, .int .i64 pl, .slice A n k, .slice A' m d] 56)).alloc (Obj.cells #[.int .i64 x.kind, .int .i64 x.job, .int .i64 x.every, .int .i64 x.time, .int .i64 x.client] 24)).frozen? ⟨w.heap.size, 3, none⟩ = false := by simp [go_sem]
  have c4 : ((w.alloc (Obj.cells #[.int .i64 ep, .int .i64 0, .int .i64 0, .int .i64 0, .int .i64 0, .int .i64 0, .int .i64 0, .int .i64 0, .int .i64 0, .int .i64 pl, .slice A n k, .slice A' m d] 56)).alloc (Obj.cells #[.int .i64 x.kind, .int .i64 x.job, .int .i64 x.every, .int .i64 x.time, .int .i64 x.client] 24)).cell? ⟨w.heap.size, 4, none⟩ = some (.int .i64 0) := by simp [go_sem]
  have fc4 : ((w.alloc (Obj.cells #[.int .i64 ep, .int .i64 0, .int .i64 0, .int .i64 0, .int .i64 0, .int .i64 0, .int .i64 0, .int .i64 0, .int .i64 0, .int .i64 pl, .slice A n k, .slice A' m d] 56)).alloc (Obj.cells #[.int .i64 x.kind, .int .i64 x.job, .int .i64 x.every, .int .i64 x.time, .int .i64 x.client] 24)).frozen? ⟨w.heap.size, 4, none⟩ = false := by simp [go_sem]
  have c5 : ((w.alloc (Obj.cells #[.int .i64 ep, .int .i64 0, .int .i64 0, .int .i64 0, .int .i64 0, .int .i64 0, .int .i64 0, .int .i64 0, .int .i64 0, .int .i64 pl, .slice A n k, .slice A' m d] 56)).alloc (Obj.cells #[.int .i64 x.kind, .int .i64 x.job, .int .i64 x.every, .int .i64 x.time, .int .i64 x.client] 24)).cell? ⟨w.heap.size, 5, none⟩ = some (.int .i64 0) := by simp [go_sem]
  have fc5 : ((w.alloc (Obj.cells #[.int .i64 ep, .int .i64 0, .int .i64 0, .int .i64 0, .int .i64 0, .int .i64 0, .int .i64 0, .int .i64 0, .int .i64 0, .int .i64 pl, .slice A n k, .slice A' m d] 56)).alloc (Obj.cells #[.int .i64 x.kind, .int .i64 x.job, .int .i64 x.every, .int .i64 x.time, .int .i64 x.client] 24)).frozen? ⟨w.heap.size, 5, none⟩ = false := by simp [go_sem]
  have c6 : ((w.alloc (Obj.cells #[.int .i64 ep, .int .i64 0, .int .i64 0, .int .i64 0, .int .i64 0, .int .i64 0, .int .i64 0, .int .i64 0, .int .i64 0, .int .i64 pl, .slice A n k, .slice A' m d] 56)).alloc (Obj.cells #[.int .i64 x.kind, .int .i64 x.job, .int .i64 x.every, .int .i64 x.time, .int .i64 x.client] 24)).cell? ⟨w.heap.size, 6, none⟩ = some (.int .i64 0) := by simp [go_sem]
  have fc6 : ((w.alloc (Obj.cells #[.int .i64 ep, .int .i64 0, .int .i64 0, .int .i64 0, .int .i64 0, .int .i64 0, .int .i64 0, .int .i64 0, .int .i64 0, .int .i64 pl, .slice A n k, .slice A' m d] 56)).alloc (Obj.cells #[.int .i64 x.kind, .int .i64 x.job, .int .i64 x.every, .int .i64 x.time, .int .i64 x.client] 24)).frozen? ⟨w.heap.size, 6, none⟩ = false := by simp [go_sem]
  have c7 : ((w.alloc (Obj.cells #[.int .i64 ep, .int .i64 0, .int .i64 0, .int .i64 0, .int .i64 0, .int .i64 0, .int .i64 0, .int .i64 0, .int .i64 0, .int .i64 pl, .slice A n k, .slice A' m d] 56)).alloc (Obj.cells #[.int .i64 x.kind, .int .i64 x.job, .int .i64 x.every, .int .i64 x.time, .int .i64 x.client] 24)).cell? ⟨w.heap.size, 7, none⟩ = some (.int .i64 0) := by simp [go_sem]
  have fc7 : ((w.alloc (Obj.cells #[.int .i64 ep, .int .i64 0, .int .i64 0, .int .i64 0, .int .i64 0, .int .i64 0, .int .i64 0, .int .i64 0, .int .i64 0, .int .i64 pl, .slice A n k, .slice A' m d] 56)).alloc (Obj.cells #[.int .i64 x.kind, .int .i64 x.job, .int .i64 x.every, .int .i64 x.time, .int .i64 x.client] 24)).frozen? ⟨w.heap.size, 7, none⟩ = false := by simp [go_sem]
  have c8 : ((w.alloc (Obj.cells #[.int .i64 ep, .int .i64 0, .int .i64 0, .int .i64 0, .int .i64 0, .int .i64 0, .int .i64 0, .int .i64 0, .int .i64 0, .int .i64 pl, .slice A n k, .slice A' m d] 56)).alloc (Obj.cells #[.int .i64 x.kind, .int .i64 x.job, .int .i64 x.every, .int .i64 x.time, .int .i64 x.client] 24)).cell? ⟨w.heap.size, 8, none⟩ = some (.int .i64 0) := by simp [go_sem]
  have fc8 : ((w.alloc (Obj.cells #[.int .i64 ep, .int .i64 0, .int .i64 0, .int .i64 0, .int .i64 0, .int .i64 0, .int .i64 0, .int .i64 0, .int .i64 0, .int .i64 pl, .slice A n k, .slice A' m d] 56)).alloc (Obj.cells #[.int .i64 x.kind, .int .i64 x.job, .int .i64 x.every, .int .i64 x.time, .int .i64 x.client] 24)).frozen? ⟨w.heap.size, 8, none⟩ = false := by simp [go_sem]
  have c9 : ((w.alloc (Obj.cells #[.int .i64 ep, .int .i64 0, .int .i64 0, .int .i64 0, .int .i64 0, .int .i64 0, .int .i64 0, .int .i64 0, .int .i64 0, .int .i64 pl, .slice A n k, .slice A' m d] 56)).alloc (Obj.cells #[.int .i64 x.kind, .int .i64 x.job, .int .i64 x.every, .int .i64 x.time, .int .i64 x.client] 24)).cell? ⟨w.heap.size, 9, none⟩ = some (.int .i64 pl) := by simp [go_sem]
  have fc9 : ((w.alloc (Obj.cells #[.int .i64 ep, .int .i64 0, .int .i64 0, .int .i64 0, .int .i64 0, .int .i64 0, .int .i64 0, .int .i64 0, .int .i64 0, .int .i64 pl, .slice A n k, .slice A' m d] 56)).alloc (Obj.cells #[.int .i64 x.kind, .int .i64 x.job, .int .i64 x.every, .int .i64 x.time, .int .i64 x.client] 24)).frozen? ⟨w.heap.size, 9, none⟩ = false := by simp [go_sem]
  have c10 : ((w.alloc (Obj.cells #[.int .i64 ep, .int .i64 0, .int .i64 0, .int .i64 0, .int .i64 0, .int .i64 0, .int .i64 0, .int .i64 0, .int .i64 0, .int .i64 pl, .slice A n k, .slice A' m d] 56)).alloc (Obj.cells #[.int .i64 x.kind, .int .i64 x.job, .int .i64 x.every, .int .i64 x.time, .int .i64 x.client] 24)).cell? ⟨w.heap.size, 10, none⟩ = some (.slice A n k) := by simp [go_sem]
  have fc10 : ((w.alloc (Obj.cells #[.int .i64 ep, .int .i64 0, .int .i64 0, .int .i64 0, .int .i64 0, .int .i64 0, .int .i64 0, .int .i64 0, .int .i64 0, .int .i64 pl, .slice A n k, .slice A' m d] 56)).alloc (Obj.cells #[.int .i64 x.kind, .int .i64 x.job, .int .i64 x.every, .int .i64 x.time, .int .i64 x.client] 24)).frozen? ⟨w.heap.size, 10, none⟩ = false := by simp [go_sem]
  have c11 : ((w.alloc (Obj.cells #[.int .i64 ep, .int .i64 0, .int .i64 0, .int .i64 0, .int .i64 0, .int .i64 0, .int .i64 0, .int .i64 0, .int .i64 0, .int .i64 pl, .slice A n k, .slice A' m d] 56)).alloc (Obj.cells #[.int .i64 x.kind, .int .i64 x.job, .int .i64 x.every, .int .i64 x.time, .int .i64 x.client] 24)).cell? ⟨w.heap.size, 11, none⟩ = some (.slice A' m d) := by simp [go_sem]
  have fc11 : ((w.alloc (Obj.cells #[.int .i64 ep, .int .i64 0, .int .i64 0, .int .i64 0, .int .i64 0, .int .i64 0, .int .i64 0, .int .i64 0, .int .i64 0, .int .i64 pl, .slice A n k, .slice A' m d] 56)).alloc (Obj.cells #[.int .i64 x.kind, .int .i64 x.job, .int .i64 x.every, .int .i64 x.time, .int .i64 x.client] 24)).frozen? ⟨w.heap.size, 11, none⟩ = false := by simp [go_sem]
  have e0 : ((w.alloc (Obj.cells #[.int .i64 ep, .int .i64 0, .int .i64 0, .int .i64 0, .int .i64 0, .int .i64 0, .int .i64 0, .int .i64 0, .int .i64 0, .int .i64 pl, .slice A n k, .slice A' m d] 56)).alloc (Obj.cells #[.int .i64 x.kind, .int .i64 x.job, .int .i64 x.every, .int .i64 x.time, .int .i64 x.client] 24)).cell? ⟨w.heap.size + 1, 0, none⟩ = some (.int .i64 x.kind) := by simp [go_sem]
  have e1 : ((w.alloc (Obj.cells #[.int .i64 ep, .int .i64 0, .int .i64 0, .int .i64 0, .int .i64 0, .int .i64 0, .int .i64 0, .int .i64 0, .int .i64 0, .int .i64 pl, .slice A n k, .slice A' m d] 56)).alloc (Obj.cells #[.int .i64 x.kind, .int .i64 x.job, .int .i64 x.every, .int .i64 x.time, .int .i64 x.client] 24)).cell? ⟨w.heap.size + 1, 1, none⟩ = some (.int .i64 x.job) := by simp [go_sem]
  have e2 : ((w.alloc (Obj.cells #[.int .i64 ep, .int .i64 0, .int .i64 0, .int .i64 0, .int .i64 0, .int .i64 0, .int .i64 0, .int .i64 0, .int .i64 0, .int .i64 pl, .slice A n k, .slice A' m d] 56)).alloc (Obj.cells #[.int .i64 x.kind, .int .i64 x.job, .int .i64 x.every, .int .i64 x.time, .int .i64 x.client] 24)).cell? ⟨w.heap.size + 1, 2, none⟩ = some (.int .i64 x.every) := by simp [go_sem]
  have e3 : ((w.alloc (Obj.cells #[.int .i64 ep, .int .i64 0, .int .i64 0, .int .i64 0, .int .i64 0, .int .i64 0, .int .i64 0, .int .i64 0, .int .i64 0, .int .i64 pl, .slice A n k, .slice A' m d] 56)).alloc (Obj.cells #[.int .i64 x.kind, .int .i64 x.job, .int .i64 x.every, .int .i64 x.time, .int .i64 x.client] 24)).cell? ⟨w.heap.size + 1, 3, none⟩ = some (.int .i64 x.time) := by simp [go_sem]
  have e4 : ((w.alloc (Obj.cells #[.int .i64 ep, .int .i64 0, .int .i64 0, .int .i64 0, .int .i64 0, .int .i64 0, .int .i64 0, .int .i64 0, .int .i64 0, .int .i64 pl, .slice A n k, .slice A' m d] 56)).alloc (Obj.cells #[.int .i64 x.kind, .int .i64 x.job, .int .i64 x.every, .int .i64 x.time, .int .i64 x.client] 24)).cell? ⟨w.heap.size + 1, 4, none⟩ = some (.int .i64 x.client) := by simp [go_sem]
  change Code.wp _ _ _ _ ((w.alloc (Obj.cells #[.int .i64 ep, .int .i64 0, .int .i64 0, .int .i64 0, .int .i64 0, .int .i64 0, .int .i64 0, .int .i64 0, .int .i64 0, .int .i64 pl, .slice A n k, .slice A' m d] 56)).alloc (Obj.cells #[.int .i64 x.kind, .int .i64 x.job, .int .i64 x.every, .int .i64 x.time, .int .i64 x.client] 24))
  generalize ((w.alloc (Obj.cells #[.int .i64 ep, .int .i64 0, .int .i64 0, .int .i64 0, .int .i64 0, .int .i64 0, .int .i64 0, .int .i64 0, .int .i64 0, .int .i64 pl, .slice A n k, .slice A' m d] 56)).alloc (Obj.cells #[.int .i64 x.kind, .int .i64 x.job, .int .i64 x.every, .int .i64 x.time, .int .i64 x.client] 24)) = w0 at *
  go_wp2_with fail
  refine Calls.mono (at_calls place 60 _ (by omega) (by omega)) ?_
  rintro e w1 ⟨rfl, rfl⟩
  generalize place % 60 = pv at *
  go_wp2_with fail
  refine Calls.mono (heard_calls _) ?_
  rintro e w2 ⟨rfl, hb⟩
  replace fc0 := frozB hb c0 fc0; replace c0 := cellB hb c0
  replace fc1 := frozB hb c1 fc1; replace c1 := cellB hb c1
  replace fc2 := frozB hb c2 fc2; replace c2 := cellB hb c2
  replace fc3 := frozB hb c3 fc3; replace c3 := cellB hb c3
  replace fc4 := frozB hb c4 fc4; replace c4 := cellB hb c4
  replace fc5 := frozB hb c5 fc5; replace c5 := cellB hb c5
  replace fc6 := frozB hb c6 fc6; replace c6 := cellB hb c6
  replace fc7 := frozB hb c7 fc7; replace c7 := cellB hb c7
  replace fc8 := frozB hb c8 fc8; replace c8 := cellB hb c8
  replace fc9 := frozB hb c9 fc9; replace c9 := cellB hb c9
  replace fc10 := frozB hb c10 fc10; replace c10 := cellB hb c10
  replace fc11 := frozB hb c11 fc11; replace c11 := cellB hb c11
  replace e0 := cellB hb e0
  replace e1 := cellB hb e1
  replace e2 := cellB hb e2
  replace e3 := cellB hb e3
  replace e4 := cellB hb e4
  replace sA := S.onto sA hb
  replace sB := S.onto sB hb
  replace hon := Onto.to hon hb
  clear hb
  go_wp2_with fail
  refine Calls.mono (ClCheck_calls ep 0 0 0 pl ⟨0, 0, 0, 0, 0⟩ A A' n k m d b _ sA sB) ?_
  rw [HQ.out]
  rintro e w3 ⟨rfl, hb⟩
  replace fc0 := frozB hb c0 fc0; replace c0 := cellB hb c0
  replace fc1 := frozB hb c1 fc1; replace c1 := cellB hb c1
  replace fc2 := frozB hb c2 fc2; replace c2 := cellB hb c2
  replace fc3 := frozB hb c3 fc3; replace c3 := cellB hb c3
  replace fc4 := frozB hb c4 fc4; replace c4 := cellB hb c4
  replace fc5 := frozB hb c5 fc5; replace c5 := cellB hb c5
  replace fc6 := frozB hb c6 fc6; replace c6 := cellB hb c6
  replace fc7 := frozB hb c7 fc7; replace c7 := cellB hb c7
  replace fc8 := frozB hb c8 fc8; replace c8 := cellB hb c8
  replace fc9 := frozB hb c9 fc9; replace c9 := cellB hb c9
  replace fc10 := frozB hb c10 fc10; replace c10 := cellB hb c10
  replace fc11 := frozB hb c11 fc11; replace c11 := cellB hb c11
  replace e0 := cellB hb e0
  replace e1 := cellB hb e1
  replace e2 := cellB hb e2
  replace e3 := cellB hb e3
  replace e4 := cellB hb e4
  replace sA := S.onto sA hb
  replace sB := S.onto sB hb
  replace hon := Onto.to hon hb
  clear hb
  go_wp2_with fail
  obtain ⟨r, hr⟩ : ∃ r, r = playCl ⟨ep, 0, ⟨0, 0, 0, 0, 0⟩, 0, 0, pl, b⟩ x := ⟨_, rfl⟩
  have HR := Lib.hid hr
  clear hr
  refine Calls.mono (ClPlay_calls ep 0 0 0 pl ⟨0, 0, 0, 0, 0⟩ x A A' n k m d b _ sA sB) ?_
  rw [← HR.out]
  rintro e w4 ⟨A1, n1, k1, A2, m1, d1, rfl, s1, s2, hb, _, _, _, _⟩
  replace fc0 := frozB hb c0 fc0; replace c0 := cellB hb c0
  replace fc1 := frozB hb c1 fc1; replace c1 := cellB hb c1
  replace fc2 := frozB hb c2 fc2; replace c2 := cellB hb c2
  replace fc3 := frozB hb c3 fc3; replace c3 := cellB hb c3
  replace fc4 := frozB hb c4 fc4; replace c4 := cellB hb c4
  replace fc5 := frozB hb c5 fc5; replace c5 := cellB hb c5
  replace fc6 := frozB hb c6 fc6; replace c6 := cellB hb c6
  replace fc7 := frozB hb c7 fc7; replace c7 := cellB hb c7
  replace fc8 := frozB hb c8 fc8; replace c8 := cellB hb c8
  replace fc9 := frozB hb c9 fc9; replace c9 := cellB hb c9
  replace fc10 := frozB hb c10 fc10; replace c10 := cellB hb c10
  replace fc11 := frozB hb c11 fc11; replace c11 := cellB hb c11
  replace e0 := cellB hb e0
  replace e1 := cellB hb e1
  replace e2 := cellB hb e2
  replace e3 := cellB hb e3
  replace e4 := cellB hb e4
  replace sA := S.onto sA hb
  replace sB := S.onto sB hb
  replace hon := Onto.to hon hb
  clear hb
  go_upto_region 5 with fail
  have hpw : w.heap.size ≤ w4.heap.size := hon.size
  have hcp : w.heap.size < w4.heap.size := World.block_lt_of_cell? _ _ c0
  have hep : w.heap.size + 1 < w4.heap.size := World.block_lt_of_cell? _ _ e0
  have hbx : Onto w4 (w4.alloc (Obj.cells #[.int .i64 r.1.epoch, .int .i64 r.1.doing, .int .i64 r.1.e.kind, .int .i64 r.1.e.job, .int .i64 r.1.e.every, .int .i64 r.1.e.time, .int .i64 r.1.e.client, .int .i64 r.1.at_, .int .i64 r.1.link, .int .i64 r.1.played, .slice A1 n1 k1, .slice A2 m1 d1] 56)) := (Below.refl _ _).alloc (Nat.le_refl _) _
  replace fc0 := frozB hbx c0 fc0; replace c0 := cellB hbx c0
  replace fc1 := frozB hbx c1 fc1; replace c1 := cellB hbx c1
  replace fc2 := frozB hbx c2 fc2; replace c2 := cellB hbx c2
  replace fc3 := frozB hbx c3 fc3; replace c3 := cellB hbx c3
  replace fc4 := frozB hbx c4 fc4; replace c4 := cellB hbx c4
  replace fc5 := frozB hbx c5 fc5; replace c5 := cellB hbx c5
  replace fc6 := frozB hbx c6 fc6; replace c6 := cellB hbx c6
  replace fc7 := frozB hbx c7 fc7; replace c7 := cellB hbx c7
  replace fc8 := frozB hbx c8 fc8; replace c8 := cellB hbx c8
  replace fc9 := frozB hbx c9 fc9; replace c9 := cellB hbx c9
  replace fc10 := frozB hbx c10 fc10; replace c10 := cellB hbx c10
  replace fc11 := frozB hbx c11 fc11; replace c11 := cellB hbx c11
  replace e0 := cellB hbx e0
  replace e1 := cellB hbx e1
  replace e2 := cellB hbx e2
  replace e3 := cellB hbx e3
  replace e4 := cellB hbx e4
  replace sA := S.onto sA hbx
  replace sB := S.onto sB hbx
  replace s1 := S.onto s1 hbx
  replace s2 := S.onto s2 hbx
  replace hon := Onto.to hon hbx
  have p0 : (w4.alloc (Obj.cells #[.int .i64 r.1.epoch, .int .i64 r.1.doing, .int .i64 r.1.e.kind, .int .i64 r.1.e.job, .int .i64 r.1.e.every, .int .i64 r.1.e.time, .int .i64 r.1.e.client, .int .i64 r.1.at_, .int .i64 r.1.link, .int .i64 r.1.played, .slice A1 n1 k1, .slice A2 m1 d1] 56)).cell? ⟨w4.heap.size, 0, none⟩ = some (.int .i64 r.1.epoch) := by simp [go_sem]
  have fp0 : (w4.alloc (Obj.cells #[.int .i64 r.1.epoch, .int .i64 r.1.doing, .int .i64 r.1.e.kind, .int .i64 r.1.e.job, .int .i64 r.1.e.every, .int .i64 r.1.e.time, .int .i64 r.1.e.client, .int .i64 r.1.at_, .int .i64 r.1.link, .int .i64 r.1.played, .slice A1 n1 k1, .slice A2 m1 d1] 56)).frozen? ⟨w4.heap.size, 0, none⟩ = false := by simp [go_sem]
  have p1 : (w4.alloc (Obj.cells #[.int .i64 r.1.epoch, .int .i64 r.1.doing, .int .i64 r.1.e.kind, .int .i64 r.1.e.job, .int .i64 r.1.e.every, .int .i64 r.1.e.time, .int .i64 r.1.e.client, .int .i64 r.1.at_, .int .i64 r.1.link, .int .i64 r.1.played, .slice A1 n1 k1, .slice A2 m1 d1] 56)).cell? ⟨w4.heap.size, 1, none⟩ = some (.int .i64 r.1.doing) := by simp [go_sem]
  have fp1 : (w4.alloc (Obj.cells #[.int .i64 r.1.epoch, .int .i64 r.1.doing, .int .i64 r.1.e.kind, .int .i64 r.1.e.job, .int .i64 r.1.e.every, .int .i64 r.1.e.time, .int .i64 r.1.e.client, .int .i64 r.1.at_, .int .i64 r.1.link, .int .i64 r.1.played, .slice A1 n1 k1, .slice A2 m1 d1] 56)).frozen? ⟨w4.heap.size, 1, none⟩ = false := by simp [go_sem]
  have p2 : (w4.alloc (Obj.cells #[.int .i64 r.1.epoch, .int .i64 r.1.doing, .int .i64 r.1.e.kind, .int .i64 r.1.e.job, .int .i64 r.1.e.every, .int .i64 r.1.e.time, .int .i64 r.1.e.client, .int .i64 r.1.at_, .int .i64 r.1.link, .int .i64 r.1.played, .slice A1 n1 k1, .slice A2 m1 d1] 56)).cell? ⟨w4.heap.size, 2, none⟩ = some (.int .i64 r.1.e.kind) := by simp [go_sem]
  have fp2 : (w4.alloc (Obj.cells #[.int .i64 r.1.epoch, .int .i64 r.1.doing, .int .i64 r.1.e.kind, .int .i64 r.1.e.job, .int .i64 r.1.e.every, .int .i64 r.1.e.time, .int .i64 r.1.e.client, .int .i64 r.1.at_, .int .i64 r.1.link, .int .i64 r.1.played, .slice A1 n1 k1, .slice A2 m1 d1] 56)).frozen? ⟨w4.heap.size, 2, none⟩ = false := by simp [go_sem]
  have p3 : (w4.alloc (Obj.cells #[.int .i64 r.1.epoch, .int .i64 r.1.doing, .int .i64 r.1.e.kind, .int .i64 r.1.e.job, .int .i64 r.1.e.every, .int .i64 r.1.e.time, .int .i64 r.1.e.client, .int .i64 r.1.at_, .int .i64 r.1.link, .int .i64 r.1.played, .slice A1 n1 k1, .slice A2 m1 d1] 56)).cell? ⟨w4.heap.size, 3, none⟩ = some (.int .i64 r.1.e.job) := by simp [go_sem]
  have fp3 : (w4.alloc (Obj.cells #[.int .i64 r.1.epoch, .int .i64 r.1.doing, .int .i64 r.1.e.kind, .int .i64 r.1.e.job, .int .i64 r.1.e.every, .int .i64 r.1.e.time, .int .i64 r.1.e.client, .int .i64 r.1.at_, .int .i64 r.1.link, .int .i64 r.1.played, .slice A1 n1 k1, .slice A2 m1 d1] 56)).frozen? ⟨w4.heap.size, 3, none⟩ = false := by simp [go_sem]
  have p4 : (w4.alloc (Obj.cells #[.int .i64 r.1.epoch, .int .i64 r.1.doing, .int .i64 r.1.e.kind, .int .i64 r.1.e.job, .int .i64 r.1.e.every, .int .i64 r.1.e.time, .int .i64 r.1.e.client, .int .i64 r.1.at_, .int .i64 r.1.link, .int .i64 r.1.played, .slice A1 n1 k1, .slice A2 m1 d1] 56)).cell? ⟨w4.heap.size, 4, none⟩ = some (.int .i64 r.1.e.every) := by simp [go_sem]
  have fp4 : (w4.alloc (Obj.cells #[.int .i64 r.1.epoch, .int .i64 r.1.doing, .int .i64 r.1.e.kind, .int .i64 r.1.e.job, .int .i64 r.1.e.every, .int .i64 r.1.e.time, .int .i64 r.1.e.client, .int .i64 r.1.at_, .int .i64 r.1.link, .int .i64 r.1.played, .slice A1 n1 k1, .slice A2 m1 d1] 56)).frozen? ⟨w4.heap.size, 4, none⟩ = false := by simp [go_sem]
  have p5 : (w4.alloc (Obj.cells #[.int .i64 r.1.epoch, .int .i64 r.1.doing, .int .i64 r.1.e.kind, .int .i64 r.1.e.job, .int .i64 r.1.e.every, .int .i64 r.1.e.time, .int .i64 r.1.e.client, .int .i64 r.1.at_, .int .i64 r.1.link, .int .i64 r.1.played, .slice A1 n1 k1, .slice A2 m1 d1] 56)).cell? ⟨w4.heap.size, 5, none⟩ = some (.int .i64 r.1.e.time) := by simp [go_sem]
  have fp5 : (w4.alloc (Obj.cells #[.int .i64 r.1.epoch, .int .i64 r.1.doing, .int .i64 r.1.e.kind, .int .i64 r.1.e.job, .int .i64 r.1.e.every, .int .i64 r.1.e.time, .int .i64 r.1.e.client, .int .i64 r.1.at_, .int .i64 r.1.link, .int .i64 r.1.played, .slice A1 n1 k1, .slice A2 m1 d1] 56)).frozen? ⟨w4.heap.size, 5, none⟩ = false := by simp [go_sem]
  have p6 : (w4.alloc (Obj.cells #[.int .i64 r.1.epoch, .int .i64 r.1.doing, .int .i64 r.1.e.kind, .int .i64 r.1.e.job, .int .i64 r.1.e.every, .int .i64 r.1.e.time, .int .i64 r.1.e.client, .int .i64 r.1.at_, .int .i64 r.1.link, .int .i64 r.1.played, .slice A1 n1 k1, .slice A2 m1 d1] 56)).cell? ⟨w4.heap.size, 6, none⟩ = some (.int .i64 r.1.e.client) := by simp [go_sem]
  have fp6 : (w4.alloc (Obj.cells #[.int .i64 r.1.epoch, .int .i64 r.1.doing, .int .i64 r.1.e.kind, .int .i64 r.1.e.job, .int .i64 r.1.e.every, .int .i64 r.1.e.time, .int .i64 r.1.e.client, .int .i64 r.1.at_, .int .i64 r.1.link, .int .i64 r.1.played, .slice A1 n1 k1, .slice A2 m1 d1] 56)).frozen? ⟨w4.heap.size, 6, none⟩ = false := by simp [go_sem]
  have p7 : (w4.alloc (Obj.cells #[.int .i64 r.1.epoch, .int .i64 r.1.doing, .int .i64 r.1.e.kind, .int .i64 r.1.e.job, .int .i64 r.1.e.every, .int .i64 r.1.e.time, .int .i64 r.1.e.client, .int .i64 r.1.at_, .int .i64 r.1.link, .int .i64 r.1.played, .slice A1 n1 k1, .slice A2 m1 d1] 56)).cell? ⟨w4.heap.size, 7, none⟩ = some (.int .i64 r.1.at_) := by simp [go_sem]
  have fp7 : (w4.alloc (Obj.cells #[.int .i64 r.1.epoch, .int .i64 r.1.doing, .int .i64 r.1.e.kind, .int .i64 r.1.e.job, .int .i64 r.1.e.every, .int .i64 r.1.e.time, .int .i64 r.1.e.client, .int .i64 r.1.at_, .int .i64 r.1.link, .int .i64 r.1.played, .slice A1 n1 k1, .slice A2 m1 d1] 56)).frozen? ⟨w4.heap.size, 7, none⟩ = false := by simp [go_sem]
  have p8 : (w4.alloc (Obj.cells #[.int .i64 r.1.epoch, .int .i64 r.1.doing, .int .i64 r.1.e.kind, .int .i64 r.1.e.job, .int .i64 r.1.e.every, .int .i64 r.1.e.time, .int .i64 r.1.e.client, .int .i64 r.1.at_, .int .i64 r.1.link, .int .i64 r.1.played, .slice A1 n1 k1, .slice A2 m1 d1] 56)).cell? ⟨w4.heap.size, 8, none⟩ = some (.int .i64 r.1.link) := by simp [go_sem]
  have fp8 : (w4.alloc (Obj.cells #[.int .i64 r.1.epoch, .int .i64 r.1.doing, .int .i64 r.1.e.kind, .int .i64 r.1.e.job, .int .i64 r.1.e.every, .int .i64 r.1.e.time, .int .i64 r.1.e.client, .int .i64 r.1.at_, .int .i64 r.1.link, .int .i64 r.1.played, .slice A1 n1 k1, .slice A2 m1 d1] 56)).frozen? ⟨w4.heap.size, 8, none⟩ = false := by simp [go_sem]
  have p9 : (w4.alloc (Obj.cells #[.int .i64 r.1.epoch, .int .i64 r.1.doing, .int .i64 r.1.e.kind, .int .i64 r.1.e.job, .int .i64 r.1.e.every, .int .i64 r.1.e.time, .int .i64 r.1.e.client, .int .i64 r.1.at_, .int .i64 r.1.link, .int .i64 r.1.played, .slice A1 n1 k1, .slice A2 m1 d1] 56)).cell? ⟨w4.heap.size, 9, none⟩ = some (.int .i64 r.1.played) := by simp [go_sem]
  have fp9 : (w4.alloc (Obj.cells #[.int .i64 r.1.epoch, .int .i64 r.1.doing, .int .i64 r.1.e.kind, .int .i64 r.1.e.job, .int .i64 r.1.e.every, .int .i64 r.1.e.time, .int .i64 r.1.e.client, .int .i64 r.1.at_, .int .i64 r.1.link, .int .i64 r.1.played, .slice A1 n1 k1, .slice A2 m1 d1] 56)).frozen? ⟨w4.heap.size, 9, none⟩ = false := by simp [go_sem]
  have p10 : (w4.alloc (Obj.cells #[.int .i64 r.1.epoch, .int .i64 r.1.doing, .int .i64 r.1.e.kind, .int .i64 r.1.e.job, .int .i64 r.1.e.every, .int .i64 r.1.e.time, .int .i64 r.1.e.client, .int .i64 r.1.at_, .int .i64 r.1.link, .int .i64 r.1.played, .slice A1 n1 k1, .slice A2 m1 d1] 56)).cell? ⟨w4.heap.size, 10, none⟩ = some (.slice A1 n1 k1) := by simp [go_sem]
  have fp10 : (w4.alloc (Obj.cells #[.int .i64 r.1.epoch, .int .i64 r.1.doing, .int .i64 r.1.e.kind, .int .i64 r.1.e.job, .int .i64 r.1.e.every, .int .i64 r.1.e.time, .int .i64 r.1.e.client, .int .i64 r.1.at_, .int .i64 r.1.link, .int .i64 r.1.played, .slice A1 n1 k1, .slice A2 m1 d1] 56)).frozen? ⟨w4.heap.size, 10, none⟩ = false := by simp [go_sem]
  have p11 : (w4.alloc (Obj.cells #[.int .i64 r.1.epoch, .int .i64 r.1.doing, .int .i64 r.1.e.kind, .int .i64 r.1.e.job, .int .i64 r.1.e.every, .int .i64 r.1.e.time, .int .i64 r.1.e.client, .int .i64 r.1.at_, .int .i64 r.1.link, .int .i64 r.1.played, .slice A1 n1 k1, .slice A2 m1 d1] 56)).cell? ⟨w4.heap.size, 11, none⟩ = some (.slice A2 m1 d1) := by simp [go_sem]
  have fp11 : (w4.alloc (Obj.cells #[.int .i64 r.1.epoch, .int .i64 r.1.doing, .int .i64 r.1.e.kind, .int .i64 r.1.e.job, .int .i64 r.1.e.every, .int .i64 r.1.e.time, .int .i64 r.1.e.client, .int .i64 r.1.at_, .int .i64 r.1.link, .int .i64 r.1.played, .slice A1 n1 k1, .slice A2 m1 d1] 56)).frozen? ⟨w4.heap.size, 11, none⟩ = false := by simp [go_sem]
  change Code.wp _ _ _ _ (w4.alloc (Obj.cells #[.int .i64 r.1.epoch, .int .i64 r.1.doing, .int .i64 r.1.e.kind, .int .i64 r.1.e.job, .int .i64 r.1.e.every, .int .i64 r.1.e.time, .int .i64 r.1.e.client, .int .i64 r.1.at_, .int .i64 r.1.link, .int .i64 r.1.played, .slice A1 n1 k1, .slice A2 m1 d1] 56))
  clear hbx
  generalize (w4.alloc (Obj.cells #[.int .i64 r.1.epoch, .int .i64 r.1.doing, .int .i64 r.1.e.kind, .int .i64 r.1.e.job, .int .i64 r.1.e.every, .int .i64 r.1.e.time, .int .i64 r.1.e.client, .int .i64 r.1.at_, .int .i64 r.1.link, .int .i64 r.1.played, .slice A1 n1 k1, .slice A2 m1 d1] 56)) = w5 at *
  generalize w4.heap.size = Bp at *
  go_cut [70] (fun s70 wx => s70 = .bool false ∧ Onto w5 wx)
  case first =>
    by_cases hq : r.2 = 0
    · have hk := playCl_keeps (by rw [← HR.out]; exact hq)
      have hwl : IntKind.i64.wrap (pl + 1) = pl + 1 := by have := checkCl_played hk.1; dsimp only at this; have := hk.2.1; dsimp only at this; rw [IntKind.wrap_i64]; omega
      have hr2 := HR.out.trans hk.2.2.2.1
      have HCK := Lib.hid hk.2.2.2.2
      clear hk hq
      subst hr2
      have hne := neqE
      dsimp only at p0 p1 p2 p3 p4 p5 p6 p7 p8 p9 p10 p11 s1 s2
      go_wp2_with fail
      refine Calls.mono (ClCheck_calls ep 0 0 0 (pl + 1) ⟨0, 0, 0, 0, 0⟩ A1 A2 n1 k1 m1 d1 (applyB b x).1 _ s1 s2) ?_
      rw [HCK.out]
      rintro e w6 ⟨rfl, hb⟩
      replace fc0 := frozB hb c0 fc0; replace c0 := cellB hb c0
      replace fc1 := frozB hb c1 fc1; replace c1 := cellB hb c1
      replace fc2 := frozB hb c2 fc2; replace c2 := cellB hb c2
      replace fc3 := frozB hb c3 fc3; replace c3 := cellB hb c3
      replace fc4 := frozB hb c4 fc4; replace c4 := cellB hb c4
      replace fc5 := frozB hb c5 fc5; replace c5 := cellB hb c5
      replace fc6 := frozB hb c6 fc6; replace c6 := cellB hb c6
      replace fc7 := frozB hb c7 fc7; replace c7 := cellB hb c7
      replace fc8 := frozB hb c8 fc8; replace c8 := cellB hb c8
      replace fc9 := frozB hb c9 fc9; replace c9 := cellB hb c9
      replace fc10 := frozB hb c10 fc10; replace c10 := cellB hb c10
      replace fc11 := frozB hb c11 fc11; replace c11 := cellB hb c11
      replace e0 := cellB hb e0
      replace e1 := cellB hb e1
      replace e2 := cellB hb e2
      replace e3 := cellB hb e3
      replace e4 := cellB hb e4
      replace fp0 := frozB hb p0 fp0; replace p0 := cellB hb p0
      replace fp1 := frozB hb p1 fp1; replace p1 := cellB hb p1
      replace fp2 := frozB hb p2 fp2; replace p2 := cellB hb p2
      replace fp3 := frozB hb p3 fp3; replace p3 := cellB hb p3
      replace fp4 := frozB hb p4 fp4; replace p4 := cellB hb p4
      replace fp5 := frozB hb p5 fp5; replace p5 := cellB hb p5
      replace fp6 := frozB hb p6 fp6; replace p6 := cellB hb p6
      replace fp7 := frozB hb p7 fp7; replace p7 := cellB hb p7
      replace fp8 := frozB hb p8 fp8; replace p8 := cellB hb p8
      replace fp9 := frozB hb p9 fp9; replace p9 := cellB hb p9
      replace fp10 := frozB hb p10 fp10; replace p10 := cellB hb p10
      replace fp11 := frozB hb p11 fp11; replace p11 := cellB hb p11
      replace sA := S.onto sA hb
      replace sB := S.onto sB hb
      replace s1 := S.onto s1 hb
      replace s2 := S.onto s2 hb
      replace hon := Onto.to hon hb
      go_wp2_with fail
      go_meet
      exact ⟨rfl, hb⟩
    · have hd : (r.2 == 0) = false := by simpa using hq
      clear hq
      go_wp2_with fail
      go_meet
      exact ⟨rfl, Onto.rfl' _⟩
  case rest =>
  obtain ⟨rfl, hb⟩ := hcut
  clear p0 fp0 p1 fp1 p2 fp2 p3 fp3 p4 fp4 p5 fp5 p6 fp6 p7 fp7 p8 fp8 p9 fp9 p10 fp10 p11 fp11
  clear s1 s2
  replace fc0 := frozB hb c0 fc0; replace c0 := cellB hb c0
  replace fc1 := frozB hb c1 fc1; replace c1 := cellB hb c1
  replace fc2 := frozB hb c2 fc2; replace c2 := cellB hb c2
  replace fc3 := frozB hb c3 fc3; replace c3 := cellB hb c3
  replace fc4 := frozB hb c4 fc4; replace c4 := cellB hb c4
  replace fc5 := frozB hb c5 fc5; replace c5 := cellB hb c5
  replace fc6 := frozB hb c6 fc6; replace c6 := cellB hb c6
  replace fc7 := frozB hb c7 fc7; replace c7 := cellB hb c7
  replace fc8 := frozB hb c8 fc8; replace c8 := cellB hb c8
  replace fc9 := frozB hb c9 fc9; replace c9 := cellB hb c9
  replace fc10 := frozB hb c10 fc10; replace c10 := cellB hb c10
  replace fc11 := frozB hb c11 fc11; replace c11 := cellB hb c11
  replace e0 := cellB hb e0
  replace e1 := cellB hb e1
  replace e2 := cellB hb e2
  replace e3 := cellB hb e3
  replace e4 := cellB hb e4
  replace sA := S.onto sA hb
  replace sB := S.onto sB hb
  replace hon := Onto.to hon hb
  clear hb
  go_wp2_with fail
  refine Calls.mono (ClFill_calls ep 0 0 0 pl ⟨0, 0, 0, 0, 0⟩ A A' n k m d b pv _ sA sB) ?_
  rw [(fillCl_rests HQ.out rfl hp0 hp1).2.2.2]
  rintro e w8 ⟨A3, n3, k3, A4, n4, k4, rfl, s3, s4, hb, _, _, _, _⟩
  replace fc0 := frozB hb c0 fc0; replace c0 := cellB hb c0
  replace fc1 := frozB hb c1 fc1; replace c1 := cellB hb c1
  replace fc2 := frozB hb c2 fc2; replace c2 := cellB hb c2
  replace fc3 := frozB hb c3 fc3; replace c3 := cellB hb c3
  replace fc4 := frozB hb c4 fc4; replace c4 := cellB hb c4
  replace fc5 := frozB hb c5 fc5; replace c5 := cellB hb c5
  replace fc6 := frozB hb c6 fc6; replace c6 := cellB hb c6
  replace fc7 := frozB hb c7 fc7; replace c7 := cellB hb c7
  replace fc8 := frozB hb c8 fc8; replace c8 := cellB hb c8
  replace fc9 := frozB hb c9 fc9; replace c9 := cellB hb c9
  replace fc10 := frozB hb c10 fc10; replace c10 := cellB hb c10
  replace fc11 := frozB hb c11 fc11; replace c11 := cellB hb c11
  replace e0 := cellB hb e0
  replace e1 := cellB hb e1
  replace e2 := cellB hb e2
  replace e3 := cellB hb e3
  replace e4 := cellB hb e4
  replace sA := S.onto sA hb
  replace sB := S.onto sB hb
  replace hon := Onto.to hon hb
  clear hb
  go_upto_region 8 with fail
  have hgw : w.heap.size ≤ w8.heap.size := hon.size
  have hcg : w.heap.size < w8.heap.size := World.block_lt_of_cell? _ _ c0
  have heg : w.heap.size + 1 < w8.heap.size := World.block_lt_of_cell? _ _ e0
  have hbx : Onto w8 (w8.alloc (Obj.cells #[.int .i64 ep, .int .i64 2, .int .i64 0, .int .i64 0, .int .i64 0, .int .i64 0, .int .i64 0, .int .i64 pv, .int .i64 0, .int .i64 pl, .slice A3 n3 k3, .slice A4 n4 k4] 56)) := (Below.refl _ _).alloc (Nat.le_refl _) _
  replace fc0 := frozB hbx c0 fc0; replace c0 := cellB hbx c0
  replace fc1 := frozB hbx c1 fc1; replace c1 := cellB hbx c1
  replace fc2 := frozB hbx c2 fc2; replace c2 := cellB hbx c2
  replace fc3 := frozB hbx c3 fc3; replace c3 := cellB hbx c3
  replace fc4 := frozB hbx c4 fc4; replace c4 := cellB hbx c4
  replace fc5 := frozB hbx c5 fc5; replace c5 := cellB hbx c5
  replace fc6 := frozB hbx c6 fc6; replace c6 := cellB hbx c6
  replace fc7 := frozB hbx c7 fc7; replace c7 := cellB hbx c7
  replace fc8 := frozB hbx c8 fc8; replace c8 := cellB hbx c8
  replace fc9 := frozB hbx c9 fc9; replace c9 := cellB hbx c9
  replace fc10 := frozB hbx c10 fc10; replace c10 := cellB hbx c10
  replace fc11 := frozB hbx c11 fc11; replace c11 := cellB hbx c11
  replace e0 := cellB hbx e0
  replace e1 := cellB hbx e1
  replace e2 := cellB hbx e2
  replace e3 := cellB hbx e3
  replace e4 := cellB hbx e4
  replace sA := S.onto sA hbx
  replace sB := S.onto sB hbx
  replace s3 := S.onto s3 hbx
  replace s4 := S.onto s4 hbx
  replace hon := Onto.to hon hbx
  have g0 : (w8.alloc (Obj.cells #[.int .i64 ep, .int .i64 2, .int .i64 0, .int .i64 0, .int .i64 0, .int .i64 0, .int .i64 0, .int .i64 pv, .int .i64 0, .int .i64 pl, .slice A3 n3 k3, .slice A4 n4 k4] 56)).cell? ⟨w8.heap.size, 0, none⟩ = some (.int .i64 ep) := by simp [go_sem]
  have fg0 : (w8.alloc (Obj.cells #[.int .i64 ep, .int .i64 2, .int .i64 0, .int .i64 0, .int .i64 0, .int .i64 0, .int .i64 0, .int .i64 pv, .int .i64 0, .int .i64 pl, .slice A3 n3 k3, .slice A4 n4 k4] 56)).frozen? ⟨w8.heap.size, 0, none⟩ = false := by simp [go_sem]
  have g1 : (w8.alloc (Obj.cells #[.int .i64 ep, .int .i64 2, .int .i64 0, .int .i64 0, .int .i64 0, .int .i64 0, .int .i64 0, .int .i64 pv, .int .i64 0, .int .i64 pl, .slice A3 n3 k3, .slice A4 n4 k4] 56)).cell? ⟨w8.heap.size, 1, none⟩ = some (.int .i64 2) := by simp [go_sem]
  have fg1 : (w8.alloc (Obj.cells #[.int .i64 ep, .int .i64 2, .int .i64 0, .int .i64 0, .int .i64 0, .int .i64 0, .int .i64 0, .int .i64 pv, .int .i64 0, .int .i64 pl, .slice A3 n3 k3, .slice A4 n4 k4] 56)).frozen? ⟨w8.heap.size, 1, none⟩ = false := by simp [go_sem]
  have g2 : (w8.alloc (Obj.cells #[.int .i64 ep, .int .i64 2, .int .i64 0, .int .i64 0, .int .i64 0, .int .i64 0, .int .i64 0, .int .i64 pv, .int .i64 0, .int .i64 pl, .slice A3 n3 k3, .slice A4 n4 k4] 56)).cell? ⟨w8.heap.size, 2, none⟩ = some (.int .i64 0) := by simp [go_sem]
  have fg2 : (w8.alloc (Obj.cells #[.int .i64 ep, .int .i64 2, .int .i64 0, .int .i64 0, .int .i64 0, .int .i64 0, .int .i64 0, .int .i64 pv, .int .i64 0, .int .i64 pl, .slice A3 n3 k3, .slice A4 n4 k4] 56)).frozen? ⟨w8.heap.size, 2, none⟩ = false := by simp [go_sem]
  have g3 : (w8.alloc (Obj.cells #[.int .i64 ep, .int .i64 2, .int .i64 0, .int .i64 0, .int .i64 0, .int .i64 0, .int .i64 0, .int .i64 pv, .int .i64 0, .int .i64 pl, .slice A3 n3 k3, .slice A4 n4 k4] 56)).cell? ⟨w8.heap.size, 3, none⟩ = some (.int .i64 0) := by simp [go_sem]
  have fg3 : (w8.alloc (Obj.cells #[.int .i64 ep, .int .i64 2, .int .i64 0, .int .i64 0, .int .i64 0, .int .i64 0, .int .i64 0, .int .i64 pv, .int .i64 0, .int .i64 pl, .slice A3 n3 k3, .slice A4 n4 k4] 56)).frozen? ⟨w8.heap.size, 3, none⟩ = false := by simp [go_sem]
  have g4 : (w8.alloc (Obj.cells #[.int .i64 ep, .int .i64 2, .int .i64 0, .int .i64 0, .int .i64 0, .int .i64 0, .int .i64 0, .int .i64 pv, .int .i64 0, .int .i64 pl, .slice A3 n3 k3, .slice A4 n4 k4] 56)).cell? ⟨w8.heap.size, 4, none⟩ = some (.int .i64 0) := by simp [go_sem]
  have fg4 : (w8.alloc (Obj.cells #[.int .i64 ep, .int .i64 2, .int .i64 0, .int .i64 0, .int .i64 0, .int .i64 0, .int .i64 0, .int .i64 pv, .int .i64 0, .int .i64 pl, .slice A3 n3 k3, .slice A4 n4 k4] 56)).frozen? ⟨w8.heap.size, 4, none⟩ = false := by simp [go_sem]
  have g5 : (w8.alloc (Obj.cells #[.int .i64 ep, .int .i64 2, .int .i64 0, .int .i64 0, .int .i64 0, .int .i64 0, .int .i64 0, .int .i64 pv, .int .i64 0, .int .i64 pl, .slice A3 n3 k3, .slice A4 n4 k4] 56)).cell? ⟨w8.heap.size, 5, none⟩ = some (.int .i64 0) := by simp [go_sem]
  have fg5 : (w8.alloc (Obj.cells #[.int .i64 ep, .int .i64 2, .int .i64 0, .int .i64 0, .int .i64 0, .int .i64 0, .int .i64 0, .int .i64 pv, .int .i64 0, .int .i64 pl, .slice A3 n3 k3, .slice A4 n4 k4] 56)).frozen? ⟨w8.heap.size, 5, none⟩ = false := by simp [go_sem]
  have g6 : (w8.alloc (Obj.cells #[.int .i64 ep, .int .i64 2, .int .i64 0, .int .i64 0, .int .i64 0, .int .i64 0, .int .i64 0, .int .i64 pv, .int .i64 0, .int .i64 pl, .slice A3 n3 k3, .slice A4 n4 k4] 56)).cell? ⟨w8.heap.size, 6, none⟩ = some (.int .i64 0) := by simp [go_sem]
  have fg6 : (w8.alloc (Obj.cells #[.int .i64 ep, .int .i64 2, .int .i64 0, .int .i64 0, .int .i64 0, .int .i64 0, .int .i64 0, .int .i64 pv, .int .i64 0, .int .i64 pl, .slice A3 n3 k3, .slice A4 n4 k4] 56)).frozen? ⟨w8.heap.size, 6, none⟩ = false := by simp [go_sem]
  have g7 : (w8.alloc (Obj.cells #[.int .i64 ep, .int .i64 2, .int .i64 0, .int .i64 0, .int .i64 0, .int .i64 0, .int .i64 0, .int .i64 pv, .int .i64 0, .int .i64 pl, .slice A3 n3 k3, .slice A4 n4 k4] 56)).cell? ⟨w8.heap.size, 7, none⟩ = some (.int .i64 pv) := by simp [go_sem]
  have fg7 : (w8.alloc (Obj.cells #[.int .i64 ep, .int .i64 2, .int .i64 0, .int .i64 0, .int .i64 0, .int .i64 0, .int .i64 0, .int .i64 pv, .int .i64 0, .int .i64 pl, .slice A3 n3 k3, .slice A4 n4 k4] 56)).frozen? ⟨w8.heap.size, 7, none⟩ = false := by simp [go_sem]
  have g8 : (w8.alloc (Obj.cells #[.int .i64 ep, .int .i64 2, .int .i64 0, .int .i64 0, .int .i64 0, .int .i64 0, .int .i64 0, .int .i64 pv, .int .i64 0, .int .i64 pl, .slice A3 n3 k3, .slice A4 n4 k4] 56)).cell? ⟨w8.heap.size, 8, none⟩ = some (.int .i64 0) := by simp [go_sem]
  have fg8 : (w8.alloc (Obj.cells #[.int .i64 ep, .int .i64 2, .int .i64 0, .int .i64 0, .int .i64 0, .int .i64 0, .int .i64 0, .int .i64 pv, .int .i64 0, .int .i64 pl, .slice A3 n3 k3, .slice A4 n4 k4] 56)).frozen? ⟨w8.heap.size, 8, none⟩ = false := by simp [go_sem]
  have g9 : (w8.alloc (Obj.cells #[.int .i64 ep, .int .i64 2, .int .i64 0, .int .i64 0, .int .i64 0, .int .i64 0, .int .i64 0, .int .i64 pv, .int .i64 0, .int .i64 pl, .slice A3 n3 k3, .slice A4 n4 k4] 56)).cell? ⟨w8.heap.size, 9, none⟩ = some (.int .i64 pl) := by simp [go_sem]
  have fg9 : (w8.alloc (Obj.cells #[.int .i64 ep, .int .i64 2, .int .i64 0, .int .i64 0, .int .i64 0, .int .i64 0, .int .i64 0, .int .i64 pv, .int .i64 0, .int .i64 pl, .slice A3 n3 k3, .slice A4 n4 k4] 56)).frozen? ⟨w8.heap.size, 9, none⟩ = false := by simp [go_sem]
  have g10 : (w8.alloc (Obj.cells #[.int .i64 ep, .int .i64 2, .int .i64 0, .int .i64 0, .int .i64 0, .int .i64 0, .int .i64 0, .int .i64 pv, .int .i64 0, .int .i64 pl, .slice A3 n3 k3, .slice A4 n4 k4] 56)).cell? ⟨w8.heap.size, 10, none⟩ = some (.slice A3 n3 k3) := by simp [go_sem]
  have fg10 : (w8.alloc (Obj.cells #[.int .i64 ep, .int .i64 2, .int .i64 0, .int .i64 0, .int .i64 0, .int .i64 0, .int .i64 0, .int .i64 pv, .int .i64 0, .int .i64 pl, .slice A3 n3 k3, .slice A4 n4 k4] 56)).frozen? ⟨w8.heap.size, 10, none⟩ = false := by simp [go_sem]
  have g11 : (w8.alloc (Obj.cells #[.int .i64 ep, .int .i64 2, .int .i64 0, .int .i64 0, .int .i64 0, .int .i64 0, .int .i64 0, .int .i64 pv, .int .i64 0, .int .i64 pl, .slice A3 n3 k3, .slice A4 n4 k4] 56)).cell? ⟨w8.heap.size, 11, none⟩ = some (.slice A4 n4 k4) := by simp [go_sem]
  have fg11 : (w8.alloc (Obj.cells #[.int .i64 ep, .int .i64 2, .int .i64 0, .int .i64 0, .int .i64 0, .int .i64 0, .int .i64 0, .int .i64 pv, .int .i64 0, .int .i64 pl, .slice A3 n3 k3, .slice A4 n4 k4] 56)).frozen? ⟨w8.heap.size, 11, none⟩ = false := by simp [go_sem]
  change Code.wp _ _ _ _ (w8.alloc (Obj.cells #[.int .i64 ep, .int .i64 2, .int .i64 0, .int .i64 0, .int .i64 0, .int .i64 0, .int .i64 0, .int .i64 pv, .int .i64 0, .int .i64 pl, .slice A3 n3 k3, .slice A4 n4 k4] 56))
  clear hbx
  generalize (w8.alloc (Obj.cells #[.int .i64 ep, .int .i64 2, .int .i64 0, .int .i64 0, .int .i64 0, .int .i64 0, .int .i64 0, .int .i64 pv, .int .i64 0, .int .i64 pl, .slice A3 n3 k3, .slice A4 n4 k4] 56)) = w9 at *
  generalize w8.heap.size = Bg at *
  have hg : checkCl ⟨ep, 2, ⟨0, 0, 0, 0, 0⟩, pv, 0, pl, b⟩ = 0 := writes_ok _ 0 HQ.out (by decide) hp0 hp1 (by omega) (by omega)
  have hh := heardCl_first (x := x) hg
  have HG := Lib.hid hh
  clear hg hh
  go_wp2_with fail
  refine Calls.mono (ClHeard_calls ep 2 pv 0 pl ⟨0, 0, 0, 0, 0⟩ x A3 A4 n3 k3 n4 k4 b _ s3 s4) ?_
  rw [show heardCl ⟨ep, 2, ⟨0, 0, 0, 0, 0⟩, pv, 0, pl, b⟩ x = _ from HG.out, if_pos HX.out]
  rintro e w10 ⟨A5, n5, k5, A6, n6, k6, rfl, s5, s6, hb, _, _, f5, f6⟩
  clear s3 s4
  clear g0 fg0 g1 fg1 g2 fg2 g3 fg3 g4 fg4 g5 fg5 g6 fg6 g7 fg7 g8 fg8 g9 fg9 g10 fg10 g11 fg11
  replace fc0 := frozB hb c0 fc0; replace c0 := cellB hb c0
  replace fc1 := frozB hb c1 fc1; replace c1 := cellB hb c1
  replace fc2 := frozB hb c2 fc2; replace c2 := cellB hb c2
  replace fc3 := frozB hb c3 fc3; replace c3 := cellB hb c3
  replace fc4 := frozB hb c4 fc4; replace c4 := cellB hb c4
  replace fc5 := frozB hb c5 fc5; replace c5 := cellB hb c5
  replace fc6 := frozB hb c6 fc6; replace c6 := cellB hb c6
  replace fc7 := frozB hb c7 fc7; replace c7 := cellB hb c7
  replace fc8 := frozB hb c8 fc8; replace c8 := cellB hb c8
  replace fc9 := frozB hb c9 fc9; replace c9 := cellB hb c9
  replace fc10 := frozB hb c10 fc10; replace c10 := cellB hb c10
  replace fc11 := frozB hb c11 fc11; replace c11 := cellB hb c11
  replace e0 := cellB hb e0
  replace e1 := cellB hb e1
  replace e2 := cellB hb e2
  replace e3 := cellB hb e3
  replace e4 := cellB hb e4
  replace sA := S.onto sA hb
  replace sB := S.onto sB hb
  replace hon := Onto.to hon hb
  have hd : (checkE x != 0) = true := by simpa using HX.out
  generalize checkE x = qx at *
  clear hb s5 s6 f5 f6
  go_upto_region 13 with fail
  have hzw : w.heap.size ≤ w10.heap.size := hon.size
  have hcz : w.heap.size < w10.heap.size := World.block_lt_of_cell? _ _ c0
  have hez : w.heap.size + 1 < w10.heap.size := World.block_lt_of_cell? _ _ e0
  have hbx : Onto w10 (w10.alloc (Obj.cells #[.int .i64 zeroCl.epoch, .int .i64 zeroCl.doing, .int .i64 zeroCl.e.kind, .int .i64 zeroCl.e.job, .int .i64 zeroCl.e.every, .int .i64 zeroCl.e.time, .int .i64 zeroCl.e.client, .int .i64 zeroCl.at_, .int .i64 zeroCl.link, .int .i64 zeroCl.played, .slice A5 n5 k5, .slice A6 n6 k6] 56)) := (Below.refl _ _).alloc (Nat.le_refl _) _
  replace fc0 := frozB hbx c0 fc0; replace c0 := cellB hbx c0
  replace fc1 := frozB hbx c1 fc1; replace c1 := cellB hbx c1
  replace fc2 := frozB hbx c2 fc2; replace c2 := cellB hbx c2
  replace fc3 := frozB hbx c3 fc3; replace c3 := cellB hbx c3
  replace fc4 := frozB hbx c4 fc4; replace c4 := cellB hbx c4
  replace fc5 := frozB hbx c5 fc5; replace c5 := cellB hbx c5
  replace fc6 := frozB hbx c6 fc6; replace c6 := cellB hbx c6
  replace fc7 := frozB hbx c7 fc7; replace c7 := cellB hbx c7
  replace fc8 := frozB hbx c8 fc8; replace c8 := cellB hbx c8
  replace fc9 := frozB hbx c9 fc9; replace c9 := cellB hbx c9
  replace fc10 := frozB hbx c10 fc10; replace c10 := cellB hbx c10
  replace fc11 := frozB hbx c11 fc11; replace c11 := cellB hbx c11
  replace e0 := cellB hbx e0
  replace e1 := cellB hbx e1
  replace e2 := cellB hbx e2
  replace e3 := cellB hbx e3
  replace e4 := cellB hbx e4
  replace sA := S.onto sA hbx
  replace sB := S.onto sB hbx
  replace hon := Onto.to hon hbx
  have z0 : (w10.alloc (Obj.cells #[.int .i64 zeroCl.epoch, .int .i64 zeroCl.doing, .int .i64 zeroCl.e.kind, .int .i64 zeroCl.e.job, .int .i64 zeroCl.e.every, .int .i64 zeroCl.e.time, .int .i64 zeroCl.e.client, .int .i64 zeroCl.at_, .int .i64 zeroCl.link, .int .i64 zeroCl.played, .slice A5 n5 k5, .slice A6 n6 k6] 56)).cell? ⟨w10.heap.size, 0, none⟩ = some (.int .i64 zeroCl.epoch) := by simp [go_sem]
  have fz0 : (w10.alloc (Obj.cells #[.int .i64 zeroCl.epoch, .int .i64 zeroCl.doing, .int .i64 zeroCl.e.kind, .int .i64 zeroCl.e.job, .int .i64 zeroCl.e.every, .int .i64 zeroCl.e.time, .int .i64 zeroCl.e.client, .int .i64 zeroCl.at_, .int .i64 zeroCl.link, .int .i64 zeroCl.played, .slice A5 n5 k5, .slice A6 n6 k6] 56)).frozen? ⟨w10.heap.size, 0, none⟩ = false := by simp [go_sem]
  have z1 : (w10.alloc (Obj.cells #[.int .i64 zeroCl.epoch, .int .i64 zeroCl.doing, .int .i64 zeroCl.e.kind, .int .i64 zeroCl.e.job, .int .i64 zeroCl.e.every, .int .i64 zeroCl.e.time, .int .i64 zeroCl.e.client, .int .i64 zeroCl.at_, .int .i64 zeroCl.link, .int .i64 zeroCl.played, .slice A5 n5 k5, .slice A6 n6 k6] 56)).cell? ⟨w10.heap.size, 1, none⟩ = some (.int .i64 zeroCl.doing) := by simp [go_sem]
  have fz1 : (w10.alloc (Obj.cells #[.int .i64 zeroCl.epoch, .int .i64 zeroCl.doing, .int .i64 zeroCl.e.kind, .int .i64 zeroCl.e.job, .int .i64 zeroCl.e.every, .int .i64 zeroCl.e.time, .int .i64 zeroCl.e.client, .int .i64 zeroCl.at_, .int .i64 zeroCl.link, .int .i64 zeroCl.played, .slice A5 n5 k5, .slice A6 n6 k6] 56)).frozen? ⟨w10.heap.size, 1, none⟩ = false := by simp [go_sem]
  have z2 : (w10.alloc (Obj.cells #[.int .i64 zeroCl.epoch, .int .i64 zeroCl.doing, .int .i64 zeroCl.e.kind, .int .i64 zeroCl.e.job, .int .i64 zeroCl.e.every, .int .i64 zeroCl.e.time, .int .i64 zeroCl.e.client, .int .i64 zeroCl.at_, .int .i64 zeroCl.link, .int .i64 zeroCl.played, .slice A5 n5 k5, .slice A6 n6 k6] 56)).cell? ⟨w10.heap.size, 2, none⟩ = some (.int .i64 zeroCl.e.kind) := by simp [go_sem]
  have fz2 : (w10.alloc (Obj.cells #[.int .i64 zeroCl.epoch, .int .i64 zeroCl.doing, .int .i64 zeroCl.e.kind, .int .i64 zeroCl.e.job, .int .i64 zeroCl.e.every, .int .i64 zeroCl.e.time, .int .i64 zeroCl.e.client, .int .i64 zeroCl.at_, .int .i64 zeroCl.link, .int .i64 zeroCl.played, .slice A5 n5 k5, .slice A6 n6 k6] 56)).frozen? ⟨w10.heap.size, 2, none⟩ = false := by simp [go_sem]
  have z3 : (w10.alloc (Obj.cells #[.int .i64 zeroCl.epoch, .int .i64 zeroCl.doing, .int .i64 zeroCl.e.kind, .int .i64 zeroCl.e.job, .int .i64 zeroCl.e.every, .int .i64 zeroCl.e.time, .int .i64 zeroCl.e.client, .int .i64 zeroCl.at_, .int .i64 zeroCl.link, .int .i64 zeroCl.played, .slice A5 n5 k5, .slice A6 n6 k6] 56)).cell? ⟨w10.heap.size, 3, none⟩ = some (.int .i64 zeroCl.e.job) := by simp [go_sem]
  have fz3 : (w10.alloc (Obj.cells #[.int .i64 zeroCl.epoch, .int .i64 zeroCl.doing, .int .i64 zeroCl.e.kind, .int .i64 zeroCl.e.job, .int .i64 zeroCl.e.every, .int .i64 zeroCl.e.time, .int .i64 zeroCl.e.client, .int .i64 zeroCl.at_, .int .i64 zeroCl.link, .int .i64 zeroCl.played, .slice A5 n5 k5, .slice A6 n6 k6] 56)).frozen? ⟨w10.heap.size, 3, none⟩ = false := by simp [go_sem]
  have z4 : (w10.alloc (Obj.cells #[.int .i64 zeroCl.epoch, .int .i64 zeroCl.doing, .int .i64 zeroCl.e.kind, .int .i64 zeroCl.e.job, .int .i64 zeroCl.e.every, .int .i64 zeroCl.e.time, .int .i64 zeroCl.e.client, .int .i64 zeroCl.at_, .int .i64 zeroCl.link, .int .i64 zeroCl.played, .slice A5 n5 k5, .slice A6 n6 k6] 56)).cell? ⟨w10.heap.size, 4, none⟩ = some (.int .i64 zeroCl.e.every) := by simp [go_sem]
  have fz4 : (w10.alloc (Obj.cells #[.int .i64 zeroCl.epoch, .int .i64 zeroCl.doing, .int .i64 zeroCl.e.kind, .int .i64 zeroCl.e.job, .int .i64 zeroCl.e.every, .int .i64 zeroCl.e.time, .int .i64 zeroCl.e.client, .int .i64 zeroCl.at_, .int .i64 zeroCl.link, .int .i64 zeroCl.played, .slice A5 n5 k5, .slice A6 n6 k6] 56)).frozen? ⟨w10.heap.size, 4, none⟩ = false := by simp [go_sem]
  have z5 : (w10.alloc (Obj.cells #[.int .i64 zeroCl.epoch, .int .i64 zeroCl.doing, .int .i64 zeroCl.e.kind, .int .i64 zeroCl.e.job, .int .i64 zeroCl.e.every, .int .i64 zeroCl.e.time, .int .i64 zeroCl.e.client, .int .i64 zeroCl.at_, .int .i64 zeroCl.link, .int .i64 zeroCl.played, .slice A5 n5 k5, .slice A6 n6 k6] 56)).cell? ⟨w10.heap.size, 5, none⟩ = some (.int .i64 zeroCl.e.time) := by simp [go_sem]
  have fz5 : (w10.alloc (Obj.cells #[.int .i64 zeroCl.epoch, .int .i64 zeroCl.doing, .int .i64 zeroCl.e.kind, .int .i64 zeroCl.e.job, .int .i64 zeroCl.e.every, .int .i64 zeroCl.e.time, .int .i64 zeroCl.e.client, .int .i64 zeroCl.at_, .int .i64 zeroCl.link, .int .i64 zeroCl.played, .slice A5 n5 k5, .slice A6 n6 k6] 56)).frozen? ⟨w10.heap.size, 5, none⟩ = false := by simp [go_sem]
  have z6 : (w10.alloc (Obj.cells #[.int .i64 zeroCl.epoch, .int .i64 zeroCl.doing, .int .i64 zeroCl.e.kind, .int .i64 zeroCl.e.job, .int .i64 zeroCl.e.every, .int .i64 zeroCl.e.time, .int .i64 zeroCl.e.client, .int .i64 zeroCl.at_, .int .i64 zeroCl.link, .int .i64 zeroCl.played, .slice A5 n5 k5, .slice A6 n6 k6] 56)).cell? ⟨w10.heap.size, 6, none⟩ = some (.int .i64 zeroCl.e.client) := by simp [go_sem]
  have fz6 : (w10.alloc (Obj.cells #[.int .i64 zeroCl.epoch, .int .i64 zeroCl.doing, .int .i64 zeroCl.e.kind, .int .i64 zeroCl.e.job, .int .i64 zeroCl.e.every, .int .i64 zeroCl.e.time, .int .i64 zeroCl.e.client, .int .i64 zeroCl.at_, .int .i64 zeroCl.link, .int .i64 zeroCl.played, .slice A5 n5 k5, .slice A6 n6 k6] 56)).frozen? ⟨w10.heap.size, 6, none⟩ = false := by simp [go_sem]
  have z7 : (w10.alloc (Obj.cells #[.int .i64 zeroCl.epoch, .int .i64 zeroCl.doing, .int .i64 zeroCl.e.kind, .int .i64 zeroCl.e.job, .int .i64 zeroCl.e.every, .int .i64 zeroCl.e.time, .int .i64 zeroCl.e.client, .int .i64 zeroCl.at_, .int .i64 zeroCl.link, .int .i64 zeroCl.played, .slice A5 n5 k5, .slice A6 n6 k6] 56)).cell? ⟨w10.heap.size, 7, none⟩ = some (.int .i64 zeroCl.at_) := by simp [go_sem]
  have fz7 : (w10.alloc (Obj.cells #[.int .i64 zeroCl.epoch, .int .i64 zeroCl.doing, .int .i64 zeroCl.e.kind, .int .i64 zeroCl.e.job, .int .i64 zeroCl.e.every, .int .i64 zeroCl.e.time, .int .i64 zeroCl.e.client, .int .i64 zeroCl.at_, .int .i64 zeroCl.link, .int .i64 zeroCl.played, .slice A5 n5 k5, .slice A6 n6 k6] 56)).frozen? ⟨w10.heap.size, 7, none⟩ = false := by simp [go_sem]
  have z8 : (w10.alloc (Obj.cells #[.int .i64 zeroCl.epoch, .int .i64 zeroCl.doing, .int .i64 zeroCl.e.kind, .int .i64 zeroCl.e.job, .int .i64 zeroCl.e.every, .int .i64 zeroCl.e.time, .int .i64 zeroCl.e.client, .int .i64 zeroCl.at_, .int .i64 zeroCl.link, .int .i64 zeroCl.played, .slice A5 n5 k5, .slice A6 n6 k6] 56)).cell? ⟨w10.heap.size, 8, none⟩ = some (.int .i64 zeroCl.link) := by simp [go_sem]
  have fz8 : (w10.alloc (Obj.cells #[.int .i64 zeroCl.epoch, .int .i64 zeroCl.doing, .int .i64 zeroCl.e.kind, .int .i64 zeroCl.e.job, .int .i64 zeroCl.e.every, .int .i64 zeroCl.e.time, .int .i64 zeroCl.e.client, .int .i64 zeroCl.at_, .int .i64 zeroCl.link, .int .i64 zeroCl.played, .slice A5 n5 k5, .slice A6 n6 k6] 56)).frozen? ⟨w10.heap.size, 8, none⟩ = false := by simp [go_sem]
  have z9 : (w10.alloc (Obj.cells #[.int .i64 zeroCl.epoch, .int .i64 zeroCl.doing, .int .i64 zeroCl.e.kind, .int .i64 zeroCl.e.job, .int .i64 zeroCl.e.every, .int .i64 zeroCl.e.time, .int .i64 zeroCl.e.client, .int .i64 zeroCl.at_, .int .i64 zeroCl.link, .int .i64 zeroCl.played, .slice A5 n5 k5, .slice A6 n6 k6] 56)).cell? ⟨w10.heap.size, 9, none⟩ = some (.int .i64 zeroCl.played) := by simp [go_sem]
  have fz9 : (w10.alloc (Obj.cells #[.int .i64 zeroCl.epoch, .int .i64 zeroCl.doing, .int .i64 zeroCl.e.kind, .int .i64 zeroCl.e.job, .int .i64 zeroCl.e.every, .int .i64 zeroCl.e.time, .int .i64 zeroCl.e.client, .int .i64 zeroCl.at_, .int .i64 zeroCl.link, .int .i64 zeroCl.played, .slice A5 n5 k5, .slice A6 n6 k6] 56)).frozen? ⟨w10.heap.size, 9, none⟩ = false := by simp [go_sem]
  have z10 : (w10.alloc (Obj.cells #[.int .i64 zeroCl.epoch, .int .i64 zeroCl.doing, .int .i64 zeroCl.e.kind, .int .i64 zeroCl.e.job, .int .i64 zeroCl.e.every, .int .i64 zeroCl.e.time, .int .i64 zeroCl.e.client, .int .i64 zeroCl.at_, .int .i64 zeroCl.link, .int .i64 zeroCl.played, .slice A5 n5 k5, .slice A6 n6 k6] 56)).cell? ⟨w10.heap.size, 10, none⟩ = some (.slice A5 n5 k5) := by simp [go_sem]
  have fz10 : (w10.alloc (Obj.cells #[.int .i64 zeroCl.epoch, .int .i64 zeroCl.doing, .int .i64 zeroCl.e.kind, .int .i64 zeroCl.e.job, .int .i64 zeroCl.e.every, .int .i64 zeroCl.e.time, .int .i64 zeroCl.e.client, .int .i64 zeroCl.at_, .int .i64 zeroCl.link, .int .i64 zeroCl.played, .slice A5 n5 k5, .slice A6 n6 k6] 56)).frozen? ⟨w10.heap.size, 10, none⟩ = false := by simp [go_sem]
  have z11 : (w10.alloc (Obj.cells #[.int .i64 zeroCl.epoch, .int .i64 zeroCl.doing, .int .i64 zeroCl.e.kind, .int .i64 zeroCl.e.job, .int .i64 zeroCl.e.every, .int .i64 zeroCl.e.time, .int .i64 zeroCl.e.client, .int .i64 zeroCl.at_, .int .i64 zeroCl.link, .int .i64 zeroCl.played, .slice A5 n5 k5, .slice A6 n6 k6] 56)).cell? ⟨w10.heap.size, 11, none⟩ = some (.slice A6 n6 k6) := by simp [go_sem]
  have fz11 : (w10.alloc (Obj.cells #[.int .i64 zeroCl.epoch, .int .i64 zeroCl.doing, .int .i64 zeroCl.e.kind, .int .i64 zeroCl.e.job, .int .i64 zeroCl.e.every, .int .i64 zeroCl.e.time, .int .i64 zeroCl.e.client, .int .i64 zeroCl.at_, .int .i64 zeroCl.link, .int .i64 zeroCl.played, .slice A5 n5 k5, .slice A6 n6 k6] 56)).frozen? ⟨w10.heap.size, 11, none⟩ = false := by simp [go_sem]
  change Code.wp _ _ _ _ (w10.alloc (Obj.cells #[.int .i64 zeroCl.epoch, .int .i64 zeroCl.doing, .int .i64 zeroCl.e.kind, .int .i64 zeroCl.e.job, .int .i64 zeroCl.e.every, .int .i64 zeroCl.e.time, .int .i64 zeroCl.e.client, .int .i64 zeroCl.at_, .int .i64 zeroCl.link, .int .i64 zeroCl.played, .slice A5 n5 k5, .slice A6 n6 k6] 56))
  clear hbx
  generalize (w10.alloc (Obj.cells #[.int .i64 zeroCl.epoch, .int .i64 zeroCl.doing, .int .i64 zeroCl.e.kind, .int .i64 zeroCl.e.job, .int .i64 zeroCl.e.every, .int .i64 zeroCl.e.time, .int .i64 zeroCl.e.client, .int .i64 zeroCl.at_, .int .i64 zeroCl.link, .int .i64 zeroCl.played, .slice A5 n5 k5, .slice A6 n6 k6] 56)) = w11 at *
  generalize w10.heap.size = Bz at *
  go_wp2_with fail
  go_loopw [8, 91] (fun s8 s wr => s8 = .int .i64 qx ∧ s = .int .i64 0 ∧ Onto w wr) (fun _ s _ => 3 - (intOf s).toNat)
  case atStart => exact ⟨rfl, rfl, hon⟩
  case round =>
  clear c0 fc0 c1 fc1 c2 fc2 c3 fc3 c4 fc4 c5 fc5 c6 fc6 c7 fc7 c8 fc8 c9 fc9 c10 fc10 c11 fc11 e0 e1 e2 e3 e4 z0 fz0 z1 fz1 z2 fz2 z3 fz3 z4 fz4 z5 fz5 z6 fz6 z7 fz7 z8 fz8 z9 fz9 z10 fz10 z11 fz11 hon sA sB
  obtain ⟨rfl, rfl, hon⟩ := hrel
  go_wp2_with fail
  go_ret
  exact ⟨rfl, hon⟩

set_option maxHeartbeats 8000000 in
set_option maxRecDepth 100000 in
theorem Keeps_rests (ep pl : Int) (A A' : Option Addr) (n k m d : Nat) (b : Book) (place : Int) (x : Entry) (w : World) (sA : S w 3 A n (b.jobs.map encJ)) (sB : S w 3 A' m (b.rung.map encR)) (hx : checkE x = 0) (hck : checkCl ⟨ep, 0, ⟨0, 0, 0, 0, 0⟩, 0, 0, pl, b⟩ = 0) (hln : n ≤ 9223372036854775807) (hlm : m ≤ 9223372036854775807) :
    Calls Try.prog 8 #[.agg #[.int .i64 ep, .int .i64 0, .int .i64 0, .int .i64 0, .int .i64 0, .int .i64 0, .int .i64 0, .int .i64 0, .int .i64 0, .int .i64 pl, .slice A n k, .slice A' m d], .int .i64 place, .agg #[.int .i64 x.kind, .int .i64 x.job, .int .i64 x.every, .int .i64 x.time, .int .i64 x.client]] w fun e w' => e = .returned (.bool true) ∧ Onto w w' := by
  have HLN := Lib.hid hln; have HLM := Lib.hid hlm
  clear hln hlm
  have HQ := Lib.hid hck
  have HX := Lib.hid hx
  clear hx
  clear hck
  have oA : ∀ z, w.heap.size ≤ z → OffN n z A := fun z hz => sA.offN hz
  have oB : ∀ z, w.heap.size ≤ z → OffN m z A' := fun z hz => sB.offN hz
  have OA := Lib.hid oA; have OB := Lib.hid oB
  clear oA oB
  have hp0 : 0 ≤ place % 60 := Int.emod_nonneg _ (by omega)
  have hp1 : place % 60 < 60 := Int.emod_lt_of_pos _ (by omega)
  go_enter Try.func8, Try.ntmps8
  go_upto_region 1 with fail
  have hon : Onto w ((w.alloc (Obj.cells #[.int .i64 ep, .int .i64 0, .int .i64 0, .int .i64 0, .int .i64 0, .int .i64 0, .int .i64 0, .int .i64 0, .int .i64 0, .int .i64 pl, .slice A n k, .slice A' m d] 56)).alloc (Obj.cells #[.int .i64 x.kind, .int .i64 x.job, .int .i64 x.every, .int .i64 x.time, .int .i64 x.client] 24)) := ((Onto.rfl' w).new _).new _
  replace sA := (sA.new (Obj.cells #[.int .i64 ep, .int .i64 0, .int .i64 0, .int .i64 0, .int .i64 0, .int .i64 0, .int .i64 0, .int .i64 0, .int .i64 0, .int .i64 pl, .slice A n k, .slice A' m d] 56)).new (Obj.cells #[.int .i64 x.kind, .int .i64 x.job, .int .i64 x.every, .int .i64 x.time, .int .i64 x.client] 24)
  replace sB := (sB.new (Obj.cells #[.int .i64 ep, .int .i64 0, .int .i64 0, .int .i64 0, .int .i64 0, .int .i64 0, .int .i64 0, .int .i64 0, .int .i64 0, .int .i64 pl, .slice A n k, .slice A' m d] 56)).new (Obj.cells #[.int .i64 x.kind, .int .i64 x.job, .int .i64 x.every, .int .i64 x.time, .int .i64 x.client] 24)
  have c0 : ((w.alloc (Obj.cells #[.int .i64 ep, .int .i64 0, .int .i64 0, .int .i64 0, .int .i64 0, .int .i64 0, .int .i64 0, .int .i64 0, .int .i64 0, .int .i64 pl, .slice A n k, .slice A' m d] 56)).alloc (Obj.cells #[.int .i64 x.kind, .int .i64 x.job, .int .i64 x.every, .int .i64 x.time, .int .i64 x.client] 24)).cell? ⟨w.heap.size, 0, none⟩ = some (.int .i64 ep) := by simp [go_sem]
  have fc0 : ((w.alloc (Obj.cells #[.int .i64 ep, .int .i64 0, .int .i64 0, .int .i64 0, .int .i64 0, .int .i64 0, .int .i64 0, .int .i64 0, .int .i64 0, .int .i64 pl, .slice A n k, .slice A' m d] 56)).alloc (Obj.cells #[.int .i64 x.kind, .int .i64 x.job, .int .i64 x.every, .int .i64 x.time, .int .i64 x.client] 24)).frozen? ⟨w.heap.size, 0, none⟩ = false := by simp [go_sem]
  have c1 : ((w.alloc (Obj.cells #[.int .i64 ep, .int .i64 0, .int .i64 0, .int .i64 0, .int .i64 0, .int .i64 0, .int .i64 0, .int .i64 0, .int .i64 0, .int .i64 pl, .slice A n k, .slice A' m d] 56)).alloc (Obj.cells #[.int .i64 x.kind, .int .i64 x.job, .int .i64 x.every, .int .i64 x.time, .int .i64 x.client] 24)).cell? ⟨w.heap.size, 1, none⟩ = some (.int .i64 0) := by simp [go_sem]
  have fc1 : ((w.alloc (Obj.cells #[.int .i64 ep, .int .i64 0, .int .i64 0, .int .i64 0, .int .i64 0, .int .i64 0, .int .i64 0, .int .i64 0, .int .i64 0, .int .i64 pl, .slice A n k, .slice A' m d] 56)).alloc (Obj.cells #[.int .i64 x.kind, .int .i64 x.job, .int .i64 x.every, .int .i64 x.time, .int .i64 x.client] 24)).frozen? ⟨w.heap.size, 1, none⟩ = false := by simp [go_sem]
  have c2 : ((w.alloc (Obj.cells #[.int .i64 ep, .int .i64 0, .int .i64 0, .int .i64 0, .int .i64 0, .int .i64 0, .int .i64 0, .int .i64 0, .int .i64 0, .int .i64 pl, .slice A n k, .slice A' m d] 56)).alloc (Obj.cells #[.int .i64 x.kind, .int .i64 x.job, .int .i64 x.every, .int .i64 x.time, .int .i64 x.client] 24)).cell? ⟨w.heap.size, 2, none⟩ = some (.int .i64 0) := by simp [go_sem]
  have fc2 : ((w.alloc (Obj.cells #[.int .i64 ep, .int .i64 0, .int .i64 0, .int .i64 0, .int .i64 0, .int .i64 0, .int .i64 0, .int .i64 0, .int .i64 0, .int .i64 pl, .slice A n k, .slice A' m d] 56)).alloc (Obj.cells #[.int .i64 x.kind, .int .i64 x.job, .int .i64 x.every, .int .i64 x.time, .int .i64 x.client] 24)).frozen? ⟨w.heap.size, 2, none⟩ = false := by simp [go_sem]
  have c3 : ((w.alloc (Obj.cells #[.int .i64 ep, .int .i64 0, .int .i64 0, .int .i64 0, .int .i64 0, .int .i64 0, .int .i64 0, .int .i64 0, .int .i64 0, .int .i64 pl, .slice A n k, .slice A' m d] 56)).alloc (Obj.cells #[.int .i64 x.kind, .int .i64 x.job, .int .i64 x.every, .int .i64 x.time, .int .i64 x.client] 24)).cell? ⟨w.heap.size, 3, none⟩ = some (.int .i64 0) := by simp [go_sem]
  have fc3 : ((w.alloc (Obj.cells #[.int .i64 ep, .int .i64 0, .int .i64 0, .int .i64 0, .int .i64 0, .int .i64 0, .int .i64 0, .int .i64 0, .int .i64 0, .int .i64 pl, .slice A n k, .slice A' m d] 56)).alloc (Obj.cells #[.int .i64 x.kind, .int .i64 x.job, .int .i64 x.every, .int .i64 x.time, .int .i64 x.client] 24)).frozen? ⟨w.heap.size, 3, none⟩ = false := by simp [go_sem]
  have c4 : ((w.alloc (Obj.cells #[.int .i64 ep, .int .i64 0, .int .i64 0, .int .i64 0, .int .i64 0, .int .i64 0, .int .i64 0, .int .i64 0, .int .i64 0, .int .i64 pl, .slice A n k, .slice A' m d] 56)).alloc (Obj.cells #[.int .i64 x.kind, .int .i64 x.job, .int .i64 x.every, .int .i64 x.time, .int .i64 x.client] 24)).cell? ⟨w.heap.size, 4, none⟩ = some (.int .i64 0) := by simp [go_sem]
  have fc4 : ((w.alloc (Obj.cells #[.int .i64 ep, .int .i64 0, .int .i64 0, .int .i64 0, .int .i64 0, .int .i64 0, .int .i64 0, .int .i64 0, .int .i64 0, .int .i64 pl, .slice A n k, .slice A' m d] 56)).alloc (Obj.cells #[.int .i64 x.kind, .int .i64 x.job, .int .i64 x.every, .int .i64 x.time, .int .i64 x.client] 24)).frozen? ⟨w.heap.size, 4, none⟩ = false := by simp [go_sem]
  have c5 : ((w.alloc (Obj.cells #[.int .i64 ep, .int .i64 0, .int .i64 0, .int .i64 0, .int .i64 0, .int .i64 0, .int .i64 0, .int .i64 0, .int .i64 0, .int .i64 pl, .slice A n k, .slice A' m d] 56)).alloc (Obj.cells #[.int .i64 x.kind, .int .i64 x.job, .int .i64 x.every, .int .i64 x.time, .int .i64 x.client] 24)).cell? ⟨w.heap.size, 5, none⟩ = some (.int .i64 0) := by simp [go_sem]
  have fc5 : ((w.alloc (Obj.cells #[.int .i64 ep, .int .i64 0, .int .i64 0, .int .i64 0, .int .i64 0, .int .i64 0, .int .i64 0, .int .i64 0, .int .i64 0, .int .i64 pl, .slice A n k, .slice A' m d] 56)).alloc (Obj.cells #[.int .i64 x.kind, .int .i64 x.job, .int .i64 x.every, .int .i64 x.time, .int .i64 x.client] 24)).frozen? ⟨w.heap.size, 5, none⟩ = false := by simp [go_sem]
  have c6 : ((w.alloc (Obj.cells #[.int .i64 ep, .int .i64 0, .int .i64 0, .int .i64 0, .int .i64 0, .int .i64 0, .int .i64 0, .int .i64 0, .int .i64 0, .int .i64 pl, .slice A n k, .slice A' m d] 56)).alloc (Obj.cells #[.int .i64 x.kind, .int .i64 x.job, .int .i64 x.every, .int .i64 x.time, .int .i64 x.client] 24)).cell? ⟨w.heap.size, 6, none⟩ = some (.int .i64 0) := by simp [go_sem]
  have fc6 : ((w.alloc (Obj.cells #[.int .i64 ep, .int .i64 0, .int .i64 0, .int .i64 0, .int .i64 0, .int .i64 0, .int .i64 0, .int .i64 0, .int .i64 0, .int .i64 pl, .slice A n k, .slice A' m d] 56)).alloc (Obj.cells #[.int .i64 x.kind, .int .i64 x.job, .int .i64 x.every, .int .i64 x.time, .int .i64 x.client] 24)).frozen? ⟨w.heap.size, 6, none⟩ = false := by simp [go_sem]
  have c7 : ((w.alloc (Obj.cells #[.int .i64 ep, .int .i64 0, .int .i64 0, .int .i64 0, .int .i64 0, .int .i64 0, .int .i64 0, .int .i64 0, .int .i64 0, .int .i64 pl, .slice A n k, .slice A' m d] 56)).alloc (Obj.cells #[.int .i64 x.kind, .int .i64 x.job, .int .i64 x.every, .int .i64 x.time, .int .i64 x.client] 24)).cell? ⟨w.heap.size, 7, none⟩ = some (.int .i64 0) := by simp [go_sem]
  have fc7 : ((w.alloc (Obj.cells #[.int .i64 ep, .int .i64 0, .int .i64 0, .int .i64 0, .int .i64 0, .int .i64 0, .int .i64 0, .int .i64 0, .int .i64 0, .int .i64 pl, .slice A n k, .slice A' m d] 56)).alloc (Obj.cells #[.int .i64 x.kind, .int .i64 x.job, .int .i64 x.every, .int .i64 x.time, .int .i64 x.client] 24)).frozen? ⟨w.heap.size, 7, none⟩ = false := by simp [go_sem]
  have c8 : ((w.alloc (Obj.cells #[.int .i64 ep, .int .i64 0, .int .i64 0, .int .i64 0, .int .i64 0, .int .i64 0, .int .i64 0, .int .i64 0, .int .i64 0, .int .i64 pl, .slice A n k, .slice A' m d] 56)).alloc (Obj.cells #[.int .i64 x.kind, .int .i64 x.job, .int .i64 x.every, .int .i64 x.time, .int .i64 x.client] 24)).cell? ⟨w.heap.size, 8, none⟩ = some (.int .i64 0) := by simp [go_sem]
  have fc8 : ((w.alloc (Obj.cells #[.int .i64 ep, .int .i64 0, .int .i64 0, .int .i64 0, .int .i64 0, .int .i64 0, .int .i64 0, .int .i64 0, .int .i64 0, .int .i64 pl, .slice A n k, .slice A' m d] 56)).alloc (Obj.cells #[.int .i64 x.kind, .int .i64 x.job, .int .i64 x.every, .int .i64 x.time, .int .i64 x.client] 24)).frozen? ⟨w.heap.size, 8, none⟩ = false := by simp [go_sem]
  have c9 : ((w.alloc (Obj.cells #[.int .i64 ep, .int .i64 0, .int .i64 0, .int .i64 0, .int .i64 0, .int .i64 0, .int .i64 0, .int .i64 0, .int .i64 0, .int .i64 pl, .slice A n k, .slice A' m d] 56)).alloc (Obj.cells #[.int .i64 x.kind, .int .i64 x.job, .int .i64 x.every, .int .i64 x.time, .int .i64 x.client] 24)).cell? ⟨w.heap.size, 9, none⟩ = some (.int .i64 pl) := by simp [go_sem]
  have fc9 : ((w.alloc (Obj.cells #[.int .i64 ep, .int .i64 0, .int .i64 0, .int .i64 0, .int .i64 0, .int .i64 0, .int .i64 0, .int .i64 0, .int .i64 0, .int .i64 pl, .slice A n k, .slice A' m d] 56)).alloc (Obj.cells #[.int .i64 x.kind, .int .i64 x.job, .int .i64 x.every, .int .i64 x.time, .int .i64 x.client] 24)).frozen? ⟨w.heap.size, 9, none⟩ = false := by simp [go_sem]
  have c10 : ((w.alloc (Obj.cells #[.int .i64 ep, .int .i64 0, .int .i64 0, .int .i64 0, .int .i64 0, .int .i64 0, .int .i64 0, .int .i64 0, .int .i64 0, .int .i64 pl, .slice A n k, .slice A' m d] 56)).alloc (Obj.cells #[.int .i64 x.kind, .int .i64 x.job, .int .i64 x.every, .int .i64 x.time, .int .i64 x.client] 24)).cell? ⟨w.heap.size, 10, none⟩ = some (.slice A n k) := by simp [go_sem]
  have fc10 : ((w.alloc (Obj.cells #[.int .i64 ep, .int .i64 0, .int .i64 0, .int .i64 0, .int .i64 0, .int .i64 0, .int .i64 0, .int .i64 0, .int .i64 0, .int .i64 pl, .slice A n k, .slice A' m d] 56)).alloc (Obj.cells #[.int .i64 x.kind, .int .i64 x.job, .int .i64 x.every, .int .i64 x.time, .int .i64 x.client] 24)).frozen? ⟨w.heap.size, 10, none⟩ = false := by simp [go_sem]
  have c11 : ((w.alloc (Obj.cells #[.int .i64 ep, .int .i64 0, .int .i64 0, .int .i64 0, .int .i64 0, .int .i64 0, .int .i64 0, .int .i64 0, .int .i64 0, .int .i64 pl, .slice A n k, .slice A' m d] 56)).alloc (Obj.cells #[.int .i64 x.kind, .int .i64 x.job, .int .i64 x.every, .int .i64 x.time, .int .i64 x.client] 24)).cell? ⟨w.heap.size, 11, none⟩ = some (.slice A' m d) := by simp [go_sem]
  have fc11 : ((w.alloc (Obj.cells #[.int .i64 ep, .int .i64 0, .int .i64 0, .int .i64 0, .int .i64 0, .int .i64 0, .int .i64 0, .int .i64 0, .int .i64 0, .int .i64 pl, .slice A n k, .slice A' m d] 56)).alloc (Obj.cells #[.int .i64 x.kind, .int .i64 x.job, .int .i64 x.every, .int .i64 x.time, .int .i64 x.client] 24)).frozen? ⟨w.heap.size, 11, none⟩ = false := by simp [go_sem]
  have e0 : ((w.alloc (Obj.cells #[.int .i64 ep, .int .i64 0, .int .i64 0, .int .i64 0, .int .i64 0, .int .i64 0, .int .i64 0, .int .i64 0, .int .i64 0, .int .i64 pl, .slice A n k, .slice A' m d] 56)).alloc (Obj.cells #[.int .i64 x.kind, .int .i64 x.job, .int .i64 x.every, .int .i64 x.time, .int .i64 x.client] 24)).cell? ⟨w.heap.size + 1, 0, none⟩ = some (.int .i64 x.kind) := by simp [go_sem]
  have e1 : ((w.alloc (Obj.cells #[.int .i64 ep, .int .i64 0, .int .i64 0, .int .i64 0, .int .i64 0, .int .i64 0, .int .i64 0, .int .i64 0, .int .i64 0, .int .i64 pl, .slice A n k, .slice A' m d] 56)).alloc (Obj.cells #[.int .i64 x.kind, .int .i64 x.job, .int .i64 x.every, .int .i64 x.time, .int .i64 x.client] 24)).cell? ⟨w.heap.size + 1, 1, none⟩ = some (.int .i64 x.job) := by simp [go_sem]
  have e2 : ((w.alloc (Obj.cells #[.int .i64 ep, .int .i64 0, .int .i64 0, .int .i64 0, .int .i64 0, .int .i64 0, .int .i64 0, .int .i64 0, .int .i64 0, .int .i64 pl, .slice A n k, .slice A' m d] 56)).alloc (Obj.cells #[.int .i64 x.kind, .int .i64 x.job, .int .i64 x.every, .int .i64 x.time, .int .i64 x.client] 24)).cell? ⟨w.heap.size + 1, 2, none⟩ = some (.int .i64 x.every) := by simp [go_sem]
  have e3 : ((w.alloc (Obj.cells #[.int .i64 ep, .int .i64 0, .int .i64 0, .int .i64 0, .int .i64 0, .int .i64 0, .int .i64 0, .int .i64 0, .int .i64 0, .int .i64 pl, .slice A n k, .slice A' m d] 56)).alloc (Obj.cells #[.int .i64 x.kind, .int .i64 x.job, .int .i64 x.every, .int .i64 x.time, .int .i64 x.client] 24)).cell? ⟨w.heap.size + 1, 3, none⟩ = some (.int .i64 x.time) := by simp [go_sem]
  have e4 : ((w.alloc (Obj.cells #[.int .i64 ep, .int .i64 0, .int .i64 0, .int .i64 0, .int .i64 0, .int .i64 0, .int .i64 0, .int .i64 0, .int .i64 0, .int .i64 pl, .slice A n k, .slice A' m d] 56)).alloc (Obj.cells #[.int .i64 x.kind, .int .i64 x.job, .int .i64 x.every, .int .i64 x.time, .int .i64 x.client] 24)).cell? ⟨w.heap.size + 1, 4, none⟩ = some (.int .i64 x.client) := by simp [go_sem]
  change Code.wp _ _ _ _ ((w.alloc (Obj.cells #[.int .i64 ep, .int .i64 0, .int .i64 0, .int .i64 0, .int .i64 0, .int .i64 0, .int .i64 0, .int .i64 0, .int .i64 0, .int .i64 pl, .slice A n k, .slice A' m d] 56)).alloc (Obj.cells #[.int .i64 x.kind, .int .i64 x.job, .int .i64 x.every, .int .i64 x.time, .int .i64 x.client] 24))
  generalize ((w.alloc (Obj.cells #[.int .i64 ep, .int .i64 0, .int .i64 0, .int .i64 0, .int .i64 0, .int .i64 0, .int .i64 0, .int .i64 0, .int .i64 0, .int .i64 pl, .slice A n k, .slice A' m d] 56)).alloc (Obj.cells #[.int .i64 x.kind, .int .i64 x.job, .int .i64 x.every, .int .i64 x.time, .int .i64 x.client] 24)) = w0 at *
  go_wp2_with fail
  refine Calls.mono (at_calls place 60 _ (by omega) (by omega)) ?_
  rintro e w1 ⟨rfl, rfl⟩
  generalize place % 60 = pv at *
  go_wp2_with fail
  refine Calls.mono (heard_calls _) ?_
  rintro e w2 ⟨rfl, hb⟩
  replace fc0 := frozB hb c0 fc0; replace c0 := cellB hb c0
  replace fc1 := frozB hb c1 fc1; replace c1 := cellB hb c1
  replace fc2 := frozB hb c2 fc2; replace c2 := cellB hb c2
  replace fc3 := frozB hb c3 fc3; replace c3 := cellB hb c3
  replace fc4 := frozB hb c4 fc4; replace c4 := cellB hb c4
  replace fc5 := frozB hb c5 fc5; replace c5 := cellB hb c5
  replace fc6 := frozB hb c6 fc6; replace c6 := cellB hb c6
  replace fc7 := frozB hb c7 fc7; replace c7 := cellB hb c7
  replace fc8 := frozB hb c8 fc8; replace c8 := cellB hb c8
  replace fc9 := frozB hb c9 fc9; replace c9 := cellB hb c9
  replace fc10 := frozB hb c10 fc10; replace c10 := cellB hb c10
  replace fc11 := frozB hb c11 fc11; replace c11 := cellB hb c11
  replace e0 := cellB hb e0
  replace e1 := cellB hb e1
  replace e2 := cellB hb e2
  replace e3 := cellB hb e3
  replace e4 := cellB hb e4
  replace sA := S.onto sA hb
  replace sB := S.onto sB hb
  replace hon := Onto.to hon hb
  clear hb
  go_wp2_with fail
  refine Calls.mono (ClCheck_calls ep 0 0 0 pl ⟨0, 0, 0, 0, 0⟩ A A' n k m d b _ sA sB) ?_
  rw [HQ.out]
  rintro e w3 ⟨rfl, hb⟩
  replace fc0 := frozB hb c0 fc0; replace c0 := cellB hb c0
  replace fc1 := frozB hb c1 fc1; replace c1 := cellB hb c1
  replace fc2 := frozB hb c2 fc2; replace c2 := cellB hb c2
  replace fc3 := frozB hb c3 fc3; replace c3 := cellB hb c3
  replace fc4 := frozB hb c4 fc4; replace c4 := cellB hb c4
  replace fc5 := frozB hb c5 fc5; replace c5 := cellB hb c5
  replace fc6 := frozB hb c6 fc6; replace c6 := cellB hb c6
  replace fc7 := frozB hb c7 fc7; replace c7 := cellB hb c7
  replace fc8 := frozB hb c8 fc8; replace c8 := cellB hb c8
  replace fc9 := frozB hb c9 fc9; replace c9 := cellB hb c9
  replace fc10 := frozB hb c10 fc10; replace c10 := cellB hb c10
  replace fc11 := frozB hb c11 fc11; replace c11 := cellB hb c11
  replace e0 := cellB hb e0
  replace e1 := cellB hb e1
  replace e2 := cellB hb e2
  replace e3 := cellB hb e3
  replace e4 := cellB hb e4
  replace sA := S.onto sA hb
  replace sB := S.onto sB hb
  replace hon := Onto.to hon hb
  clear hb
  go_wp2_with fail
  obtain ⟨r, hr⟩ : ∃ r, r = playCl ⟨ep, 0, ⟨0, 0, 0, 0, 0⟩, 0, 0, pl, b⟩ x := ⟨_, rfl⟩
  have HR := Lib.hid hr
  clear hr
  refine Calls.mono (ClPlay_calls ep 0 0 0 pl ⟨0, 0, 0, 0, 0⟩ x A A' n k m d b _ sA sB) ?_
  rw [← HR.out]
  rintro e w4 ⟨A1, n1, k1, A2, m1, d1, rfl, s1, s2, hb, _, _, _, _⟩
  replace fc0 := frozB hb c0 fc0; replace c0 := cellB hb c0
  replace fc1 := frozB hb c1 fc1; replace c1 := cellB hb c1
  replace fc2 := frozB hb c2 fc2; replace c2 := cellB hb c2
  replace fc3 := frozB hb c3 fc3; replace c3 := cellB hb c3
  replace fc4 := frozB hb c4 fc4; replace c4 := cellB hb c4
  replace fc5 := frozB hb c5 fc5; replace c5 := cellB hb c5
  replace fc6 := frozB hb c6 fc6; replace c6 := cellB hb c6
  replace fc7 := frozB hb c7 fc7; replace c7 := cellB hb c7
  replace fc8 := frozB hb c8 fc8; replace c8 := cellB hb c8
  replace fc9 := frozB hb c9 fc9; replace c9 := cellB hb c9
  replace fc10 := frozB hb c10 fc10; replace c10 := cellB hb c10
  replace fc11 := frozB hb c11 fc11; replace c11 := cellB hb c11
  replace e0 := cellB hb e0
  replace e1 := cellB hb e1
  replace e2 := cellB hb e2
  replace e3 := cellB hb e3
  replace e4 := cellB hb e4
  replace sA := S.onto sA hb
  replace sB := S.onto sB hb
  replace hon := Onto.to hon hb
  clear hb
  go_upto_region 5 with fail
  have hpw : w.heap.size ≤ w4.heap.size := hon.size
  have hcp : w.heap.size < w4.heap.size := World.block_lt_of_cell? _ _ c0
  have hep : w.heap.size + 1 < w4.heap.size := World.block_lt_of_cell? _ _ e0
  have hbx : Onto w4 (w4.alloc (Obj.cells #[.int .i64 r.1.epoch, .int .i64 r.1.doing, .int .i64 r.1.e.kind, .int .i64 r.1.e.job, .int .i64 r.1.e.every, .int .i64 r.1.e.time, .int .i64 r.1.e.client, .int .i64 r.1.at_, .int .i64 r.1.link, .int .i64 r.1.played, .slice A1 n1 k1, .slice A2 m1 d1] 56)) := (Below.refl _ _).alloc (Nat.le_refl _) _
  replace fc0 := frozB hbx c0 fc0; replace c0 := cellB hbx c0
  replace fc1 := frozB hbx c1 fc1; replace c1 := cellB hbx c1
  replace fc2 := frozB hbx c2 fc2; replace c2 := cellB hbx c2
  replace fc3 := frozB hbx c3 fc3; replace c3 := cellB hbx c3
  replace fc4 := frozB hbx c4 fc4; replace c4 := cellB hbx c4
  replace fc5 := frozB hbx c5 fc5; replace c5 := cellB hbx c5
  replace fc6 := frozB hbx c6 fc6; replace c6 := cellB hbx c6
  replace fc7 := frozB hbx c7 fc7; replace c7 := cellB hbx c7
  replace fc8 := frozB hbx c8 fc8; replace c8 := cellB hbx c8
  replace fc9 := frozB hbx c9 fc9; replace c9 := cellB hbx c9
  replace fc10 := frozB hbx c10 fc10; replace c10 := cellB hbx c10
  replace fc11 := frozB hbx c11 fc11; replace c11 := cellB hbx c11
  replace e0 := cellB hbx e0
  replace e1 := cellB hbx e1
  replace e2 := cellB hbx e2
  replace e3 := cellB hbx e3
  replace e4 := cellB hbx e4
  replace sA := S.onto sA hbx
  replace sB := S.onto sB hbx
  replace s1 := S.onto s1 hbx
  replace s2 := S.onto s2 hbx
  replace hon := Onto.to hon hbx
  have p0 : (w4.alloc (Obj.cells #[.int .i64 r.1.epoch, .int .i64 r.1.doing, .int .i64 r.1.e.kind, .int .i64 r.1.e.job, .int .i64 r.1.e.every, .int .i64 r.1.e.time, .int .i64 r.1.e.client, .int .i64 r.1.at_, .int .i64 r.1.link, .int .i64 r.1.played, .slice A1 n1 k1, .slice A2 m1 d1] 56)).cell? ⟨w4.heap.size, 0, none⟩ = some (.int .i64 r.1.epoch) := by simp [go_sem]
  have fp0 : (w4.alloc (Obj.cells #[.int .i64 r.1.epoch, .int .i64 r.1.doing, .int .i64 r.1.e.kind, .int .i64 r.1.e.job, .int .i64 r.1.e.every, .int .i64 r.1.e.time, .int .i64 r.1.e.client, .int .i64 r.1.at_, .int .i64 r.1.link, .int .i64 r.1.played, .slice A1 n1 k1, .slice A2 m1 d1] 56)).frozen? ⟨w4.heap.size, 0, none⟩ = false := by simp [go_sem]
  have p1 : (w4.alloc (Obj.cells #[.int .i64 r.1.epoch, .int .i64 r.1.doing, .int .i64 r.1.e.kind, .int .i64 r.1.e.job, .int .i64 r.1.e.every, .int .i64 r.1.e.time, .int .i64 r.1.e.client, .int .i64 r.1.at_, .int .i64 r.1.link, .int .i64 r.1.played, .slice A1 n1 k1, .slice A2 m1 d1] 56)).cell? ⟨w4.heap.size, 1, none⟩ = some (.int .i64 r.1.doing) := by simp [go_sem]
  have fp1 : (w4.alloc (Obj.cells #[.int .i64 r.1.epoch, .int .i64 r.1.doing, .int .i64 r.1.e.kind, .int .i64 r.1.e.job, .int .i64 r.1.e.every, .int .i64 r.1.e.time, .int .i64 r.1.e.client, .int .i64 r.1.at_, .int .i64 r.1.link, .int .i64 r.1.played, .slice A1 n1 k1, .slice A2 m1 d1] 56)).frozen? ⟨w4.heap.size, 1, none⟩ = false := by simp [go_sem]
  have p2 : (w4.alloc (Obj.cells #[.int .i64 r.1.epoch, .int .i64 r.1.doing, .int .i64 r.1.e.kind, .int .i64 r.1.e.job, .int .i64 r.1.e.every, .int .i64 r.1.e.time, .int .i64 r.1.e.client, .int .i64 r.1.at_, .int .i64 r.1.link, .int .i64 r.1.played, .slice A1 n1 k1, .slice A2 m1 d1] 56)).cell? ⟨w4.heap.size, 2, none⟩ = some (.int .i64 r.1.e.kind) := by simp [go_sem]
  have fp2 : (w4.alloc (Obj.cells #[.int .i64 r.1.epoch, .int .i64 r.1.doing, .int .i64 r.1.e.kind, .int .i64 r.1.e.job, .int .i64 r.1.e.every, .int .i64 r.1.e.time, .int .i64 r.1.e.client, .int .i64 r.1.at_, .int .i64 r.1.link, .int .i64 r.1.played, .slice A1 n1 k1, .slice A2 m1 d1] 56)).frozen? ⟨w4.heap.size, 2, none⟩ = false := by simp [go_sem]
  have p3 : (w4.alloc (Obj.cells #[.int .i64 r.1.epoch, .int .i64 r.1.doing, .int .i64 r.1.e.kind, .int .i64 r.1.e.job, .int .i64 r.1.e.every, .int .i64 r.1.e.time, .int .i64 r.1.e.client, .int .i64 r.1.at_, .int .i64 r.1.link, .int .i64 r.1.played, .slice A1 n1 k1, .slice A2 m1 d1] 56)).cell? ⟨w4.heap.size, 3, none⟩ = some (.int .i64 r.1.e.job) := by simp [go_sem]
  have fp3 : (w4.alloc (Obj.cells #[.int .i64 r.1.epoch, .int .i64 r.1.doing, .int .i64 r.1.e.kind, .int .i64 r.1.e.job, .int .i64 r.1.e.every, .int .i64 r.1.e.time, .int .i64 r.1.e.client, .int .i64 r.1.at_, .int .i64 r.1.link, .int .i64 r.1.played, .slice A1 n1 k1, .slice A2 m1 d1] 56)).frozen? ⟨w4.heap.size, 3, none⟩ = false := by simp [go_sem]
  have p4 : (w4.alloc (Obj.cells #[.int .i64 r.1.epoch, .int .i64 r.1.doing, .int .i64 r.1.e.kind, .int .i64 r.1.e.job, .int .i64 r.1.e.every, .int .i64 r.1.e.time, .int .i64 r.1.e.client, .int .i64 r.1.at_, .int .i64 r.1.link, .int .i64 r.1.played, .slice A1 n1 k1, .slice A2 m1 d1] 56)).cell? ⟨w4.heap.size, 4, none⟩ = some (.int .i64 r.1.e.every) := by simp [go_sem]
  have fp4 : (w4.alloc (Obj.cells #[.int .i64 r.1.epoch, .int .i64 r.1.doing, .int .i64 r.1.e.kind, .int .i64 r.1.e.job, .int .i64 r.1.e.every, .int .i64 r.1.e.time, .int .i64 r.1.e.client, .int .i64 r.1.at_, .int .i64 r.1.link, .int .i64 r.1.played, .slice A1 n1 k1, .slice A2 m1 d1] 56)).frozen? ⟨w4.heap.size, 4, none⟩ = false := by simp [go_sem]
  have p5 : (w4.alloc (Obj.cells #[.int .i64 r.1.epoch, .int .i64 r.1.doing, .int .i64 r.1.e.kind, .int .i64 r.1.e.job, .int .i64 r.1.e.every, .int .i64 r.1.e.time, .int .i64 r.1.e.client, .int .i64 r.1.at_, .int .i64 r.1.link, .int .i64 r.1.played, .slice A1 n1 k1, .slice A2 m1 d1] 56)).cell? ⟨w4.heap.size, 5, none⟩ = some (.int .i64 r.1.e.time) := by simp [go_sem]
  have fp5 : (w4.alloc (Obj.cells #[.int .i64 r.1.epoch, .int .i64 r.1.doing, .int .i64 r.1.e.kind, .int .i64 r.1.e.job, .int .i64 r.1.e.every, .int .i64 r.1.e.time, .int .i64 r.1.e.client, .int .i64 r.1.at_, .int .i64 r.1.link, .int .i64 r.1.played, .slice A1 n1 k1, .slice A2 m1 d1] 56)).frozen? ⟨w4.heap.size, 5, none⟩ = false := by simp [go_sem]
  have p6 : (w4.alloc (Obj.cells #[.int .i64 r.1.epoch, .int .i64 r.1.doing, .int .i64 r.1.e.kind, .int .i64 r.1.e.job, .int .i64 r.1.e.every, .int .i64 r.1.e.time, .int .i64 r.1.e.client, .int .i64 r.1.at_, .int .i64 r.1.link, .int .i64 r.1.played, .slice A1 n1 k1, .slice A2 m1 d1] 56)).cell? ⟨w4.heap.size, 6, none⟩ = some (.int .i64 r.1.e.client) := by simp [go_sem]
  have fp6 : (w4.alloc (Obj.cells #[.int .i64 r.1.epoch, .int .i64 r.1.doing, .int .i64 r.1.e.kind, .int .i64 r.1.e.job, .int .i64 r.1.e.every, .int .i64 r.1.e.time, .int .i64 r.1.e.client, .int .i64 r.1.at_, .int .i64 r.1.link, .int .i64 r.1.played, .slice A1 n1 k1, .slice A2 m1 d1] 56)).frozen? ⟨w4.heap.size, 6, none⟩ = false := by simp [go_sem]
  have p7 : (w4.alloc (Obj.cells #[.int .i64 r.1.epoch, .int .i64 r.1.doing, .int .i64 r.1.e.kind, .int .i64 r.1.e.job, .int .i64 r.1.e.every, .int .i64 r.1.e.time, .int .i64 r.1.e.client, .int .i64 r.1.at_, .int .i64 r.1.link, .int .i64 r.1.played, .slice A1 n1 k1, .slice A2 m1 d1] 56)).cell? ⟨w4.heap.size, 7, none⟩ = some (.int .i64 r.1.at_) := by simp [go_sem]
  have fp7 : (w4.alloc (Obj.cells #[.int .i64 r.1.epoch, .int .i64 r.1.doing, .int .i64 r.1.e.kind, .int .i64 r.1.e.job, .int .i64 r.1.e.every, .int .i64 r.1.e.time, .int .i64 r.1.e.client, .int .i64 r.1.at_, .int .i64 r.1.link, .int .i64 r.1.played, .slice A1 n1 k1, .slice A2 m1 d1] 56)).frozen? ⟨w4.heap.size, 7, none⟩ = false := by simp [go_sem]
  have p8 : (w4.alloc (Obj.cells #[.int .i64 r.1.epoch, .int .i64 r.1.doing, .int .i64 r.1.e.kind, .int .i64 r.1.e.job, .int .i64 r.1.e.every, .int .i64 r.1.e.time, .int .i64 r.1.e.client, .int .i64 r.1.at_, .int .i64 r.1.link, .int .i64 r.1.played, .slice A1 n1 k1, .slice A2 m1 d1] 56)).cell? ⟨w4.heap.size, 8, none⟩ = some (.int .i64 r.1.link) := by simp [go_sem]
  have fp8 : (w4.alloc (Obj.cells #[.int .i64 r.1.epoch, .int .i64 r.1.doing, .int .i64 r.1.e.kind, .int .i64 r.1.e.job, .int .i64 r.1.e.every, .int .i64 r.1.e.time, .int .i64 r.1.e.client, .int .i64 r.1.at_, .int .i64 r.1.link, .int .i64 r.1.played, .slice A1 n1 k1, .slice A2 m1 d1] 56)).frozen? ⟨w4.heap.size, 8, none⟩ = false := by simp [go_sem]
  have p9 : (w4.alloc (Obj.cells #[.int .i64 r.1.epoch, .int .i64 r.1.doing, .int .i64 r.1.e.kind, .int .i64 r.1.e.job, .int .i64 r.1.e.every, .int .i64 r.1.e.time, .int .i64 r.1.e.client, .int .i64 r.1.at_, .int .i64 r.1.link, .int .i64 r.1.played, .slice A1 n1 k1, .slice A2 m1 d1] 56)).cell? ⟨w4.heap.size, 9, none⟩ = some (.int .i64 r.1.played) := by simp [go_sem]
  have fp9 : (w4.alloc (Obj.cells #[.int .i64 r.1.epoch, .int .i64 r.1.doing, .int .i64 r.1.e.kind, .int .i64 r.1.e.job, .int .i64 r.1.e.every, .int .i64 r.1.e.time, .int .i64 r.1.e.client, .int .i64 r.1.at_, .int .i64 r.1.link, .int .i64 r.1.played, .slice A1 n1 k1, .slice A2 m1 d1] 56)).frozen? ⟨w4.heap.size, 9, none⟩ = false := by simp [go_sem]
  have p10 : (w4.alloc (Obj.cells #[.int .i64 r.1.epoch, .int .i64 r.1.doing, .int .i64 r.1.e.kind, .int .i64 r.1.e.job, .int .i64 r.1.e.every, .int .i64 r.1.e.time, .int .i64 r.1.e.client, .int .i64 r.1.at_, .int .i64 r.1.link, .int .i64 r.1.played, .slice A1 n1 k1, .slice A2 m1 d1] 56)).cell? ⟨w4.heap.size, 10, none⟩ = some (.slice A1 n1 k1) := by simp [go_sem]
  have fp10 : (w4.alloc (Obj.cells #[.int .i64 r.1.epoch, .int .i64 r.1.doing, .int .i64 r.1.e.kind, .int .i64 r.1.e.job, .int .i64 r.1.e.every, .int .i64 r.1.e.time, .int .i64 r.1.e.client, .int .i64 r.1.at_, .int .i64 r.1.link, .int .i64 r.1.played, .slice A1 n1 k1, .slice A2 m1 d1] 56)).frozen? ⟨w4.heap.size, 10, none⟩ = false := by simp [go_sem]
  have p11 : (w4.alloc (Obj.cells #[.int .i64 r.1.epoch, .int .i64 r.1.doing, .int .i64 r.1.e.kind, .int .i64 r.1.e.job, .int .i64 r.1.e.every, .int .i64 r.1.e.time, .int .i64 r.1.e.client, .int .i64 r.1.at_, .int .i64 r.1.link, .int .i64 r.1.played, .slice A1 n1 k1, .slice A2 m1 d1] 56)).cell? ⟨w4.heap.size, 11, none⟩ = some (.slice A2 m1 d1) := by simp [go_sem]
  have fp11 : (w4.alloc (Obj.cells #[.int .i64 r.1.epoch, .int .i64 r.1.doing, .int .i64 r.1.e.kind, .int .i64 r.1.e.job, .int .i64 r.1.e.every, .int .i64 r.1.e.time, .int .i64 r.1.e.client, .int .i64 r.1.at_, .int .i64 r.1.link, .int .i64 r.1.played, .slice A1 n1 k1, .slice A2 m1 d1] 56)).frozen? ⟨w4.heap.size, 11, none⟩ = false := by simp [go_sem]
  change Code.wp _ _ _ _ (w4.alloc (Obj.cells #[.int .i64 r.1.epoch, .int .i64 r.1.doing, .int .i64 r.1.e.kind, .int .i64 r.1.e.job, .int .i64 r.1.e.every, .int .i64 r.1.e.time, .int .i64 r.1.e.client, .int .i64 r.1.at_, .int .i64 r.1.link, .int .i64 r.1.played, .slice A1 n1 k1, .slice A2 m1 d1] 56))
  clear hbx
  generalize (w4.alloc (Obj.cells #[.int .i64 r.1.epoch, .int .i64 r.1.doing, .int .i64 r.1.e.kind, .int .i64 r.1.e.job, .int .i64 r.1.e.every, .int .i64 r.1.e.time, .int .i64 r.1.e.client, .int .i64 r.1.at_, .int .i64 r.1.link, .int .i64 r.1.played, .slice A1 n1 k1, .slice A2 m1 d1] 56)) = w5 at *
  generalize w4.heap.size = Bp at *
  go_cut [70] (fun s70 wx => s70 = .bool false ∧ Onto w5 wx)
  case first =>
    by_cases hq : r.2 = 0
    · have hk := playCl_keeps (by rw [← HR.out]; exact hq)
      have hwl : IntKind.i64.wrap (pl + 1) = pl + 1 := by have := checkCl_played hk.1; dsimp only at this; have := hk.2.1; dsimp only at this; rw [IntKind.wrap_i64]; omega
      have hr2 := HR.out.trans hk.2.2.2.1
      have HCK := Lib.hid hk.2.2.2.2
      clear hk hq
      subst hr2
      have hne := neqE
      dsimp only at p0 p1 p2 p3 p4 p5 p6 p7 p8 p9 p10 p11 s1 s2
      go_wp2_with fail
      refine Calls.mono (ClCheck_calls ep 0 0 0 (pl + 1) ⟨0, 0, 0, 0, 0⟩ A1 A2 n1 k1 m1 d1 (applyB b x).1 _ s1 s2) ?_
      rw [HCK.out]
      rintro e w6 ⟨rfl, hb⟩
      replace fc0 := frozB hb c0 fc0; replace c0 := cellB hb c0
      replace fc1 := frozB hb c1 fc1; replace c1 := cellB hb c1
      replace fc2 := frozB hb c2 fc2; replace c2 := cellB hb c2
      replace fc3 := frozB hb c3 fc3; replace c3 := cellB hb c3
      replace fc4 := frozB hb c4 fc4; replace c4 := cellB hb c4
      replace fc5 := frozB hb c5 fc5; replace c5 := cellB hb c5
      replace fc6 := frozB hb c6 fc6; replace c6 := cellB hb c6
      replace fc7 := frozB hb c7 fc7; replace c7 := cellB hb c7
      replace fc8 := frozB hb c8 fc8; replace c8 := cellB hb c8
      replace fc9 := frozB hb c9 fc9; replace c9 := cellB hb c9
      replace fc10 := frozB hb c10 fc10; replace c10 := cellB hb c10
      replace fc11 := frozB hb c11 fc11; replace c11 := cellB hb c11
      replace e0 := cellB hb e0
      replace e1 := cellB hb e1
      replace e2 := cellB hb e2
      replace e3 := cellB hb e3
      replace e4 := cellB hb e4
      replace fp0 := frozB hb p0 fp0; replace p0 := cellB hb p0
      replace fp1 := frozB hb p1 fp1; replace p1 := cellB hb p1
      replace fp2 := frozB hb p2 fp2; replace p2 := cellB hb p2
      replace fp3 := frozB hb p3 fp3; replace p3 := cellB hb p3
      replace fp4 := frozB hb p4 fp4; replace p4 := cellB hb p4
      replace fp5 := frozB hb p5 fp5; replace p5 := cellB hb p5
      replace fp6 := frozB hb p6 fp6; replace p6 := cellB hb p6
      replace fp7 := frozB hb p7 fp7; replace p7 := cellB hb p7
      replace fp8 := frozB hb p8 fp8; replace p8 := cellB hb p8
      replace fp9 := frozB hb p9 fp9; replace p9 := cellB hb p9
      replace fp10 := frozB hb p10 fp10; replace p10 := cellB hb p10
      replace fp11 := frozB hb p11 fp11; replace p11 := cellB hb p11
      replace sA := S.onto sA hb
      replace sB := S.onto sB hb
      replace s1 := S.onto s1 hb
      replace s2 := S.onto s2 hb
      replace hon := Onto.to hon hb
      go_wp2_with fail
      go_meet
      exact ⟨rfl, hb⟩
    · have hd : (r.2 == 0) = false := by simpa using hq
      clear hq
      go_wp2_with fail
      go_meet
      exact ⟨rfl, Onto.rfl' _⟩
  case rest =>
  obtain ⟨rfl, hb⟩ := hcut
  clear p0 fp0 p1 fp1 p2 fp2 p3 fp3 p4 fp4 p5 fp5 p6 fp6 p7 fp7 p8 fp8 p9 fp9 p10 fp10 p11 fp11
  clear s1 s2
  replace fc0 := frozB hb c0 fc0; replace c0 := cellB hb c0
  replace fc1 := frozB hb c1 fc1; replace c1 := cellB hb c1
  replace fc2 := frozB hb c2 fc2; replace c2 := cellB hb c2
  replace fc3 := frozB hb c3 fc3; replace c3 := cellB hb c3
  replace fc4 := frozB hb c4 fc4; replace c4 := cellB hb c4
  replace fc5 := frozB hb c5 fc5; replace c5 := cellB hb c5
  replace fc6 := frozB hb c6 fc6; replace c6 := cellB hb c6
  replace fc7 := frozB hb c7 fc7; replace c7 := cellB hb c7
  replace fc8 := frozB hb c8 fc8; replace c8 := cellB hb c8
  replace fc9 := frozB hb c9 fc9; replace c9 := cellB hb c9
  replace fc10 := frozB hb c10 fc10; replace c10 := cellB hb c10
  replace fc11 := frozB hb c11 fc11; replace c11 := cellB hb c11
  replace e0 := cellB hb e0
  replace e1 := cellB hb e1
  replace e2 := cellB hb e2
  replace e3 := cellB hb e3
  replace e4 := cellB hb e4
  replace sA := S.onto sA hb
  replace sB := S.onto sB hb
  replace hon := Onto.to hon hb
  clear hb
  go_wp2_with fail
  refine Calls.mono (ClFill_calls ep 0 0 0 pl ⟨0, 0, 0, 0, 0⟩ A A' n k m d b pv _ sA sB) ?_
  rw [(fillCl_rests HQ.out rfl hp0 hp1).2.2.2]
  rintro e w8 ⟨A3, n3, k3, A4, n4, k4, rfl, s3, s4, hb, _, _, _, _⟩
  replace fc0 := frozB hb c0 fc0; replace c0 := cellB hb c0
  replace fc1 := frozB hb c1 fc1; replace c1 := cellB hb c1
  replace fc2 := frozB hb c2 fc2; replace c2 := cellB hb c2
  replace fc3 := frozB hb c3 fc3; replace c3 := cellB hb c3
  replace fc4 := frozB hb c4 fc4; replace c4 := cellB hb c4
  replace fc5 := frozB hb c5 fc5; replace c5 := cellB hb c5
  replace fc6 := frozB hb c6 fc6; replace c6 := cellB hb c6
  replace fc7 := frozB hb c7 fc7; replace c7 := cellB hb c7
  replace fc8 := frozB hb c8 fc8; replace c8 := cellB hb c8
  replace fc9 := frozB hb c9 fc9; replace c9 := cellB hb c9
  replace fc10 := frozB hb c10 fc10; replace c10 := cellB hb c10
  replace fc11 := frozB hb c11 fc11; replace c11 := cellB hb c11
  replace e0 := cellB hb e0
  replace e1 := cellB hb e1
  replace e2 := cellB hb e2
  replace e3 := cellB hb e3
  replace e4 := cellB hb e4
  replace sA := S.onto sA hb
  replace sB := S.onto sB hb
  replace hon := Onto.to hon hb
  clear hb
  go_upto_region 8 with fail
  have hgw : w.heap.size ≤ w8.heap.size := hon.size
  have hcg : w.heap.size < w8.heap.size := World.block_lt_of_cell? _ _ c0
  have heg : w.heap.size + 1 < w8.heap.size := World.block_lt_of_cell? _ _ e0
  have hbx : Onto w8 (w8.alloc (Obj.cells #[.int .i64 ep, .int .i64 2, .int .i64 0, .int .i64 0, .int .i64 0, .int .i64 0, .int .i64 0, .int .i64 pv, .int .i64 0, .int .i64 pl, .slice A3 n3 k3, .slice A4 n4 k4] 56)) := (Below.refl _ _).alloc (Nat.le_refl _) _
  replace fc0 := frozB hbx c0 fc0; replace c0 := cellB hbx c0
  replace fc1 := frozB hbx c1 fc1; replace c1 := cellB hbx c1
  replace fc2 := frozB hbx c2 fc2; replace c2 := cellB hbx c2
  replace fc3 := frozB hbx c3 fc3; replace c3 := cellB hbx c3
  replace fc4 := frozB hbx c4 fc4; replace c4 := cellB hbx c4
  replace fc5 := frozB hbx c5 fc5; replace c5 := cellB hbx c5
  replace fc6 := frozB hbx c6 fc6; replace c6 := cellB hbx c6
  replace fc7 := frozB hbx c7 fc7; replace c7 := cellB hbx c7
  replace fc8 := frozB hbx c8 fc8; replace c8 := cellB hbx c8
  replace fc9 := frozB hbx c9 fc9; replace c9 := cellB hbx c9
  replace fc10 := frozB hbx c10 fc10; replace c10 := cellB hbx c10
  replace fc11 := frozB hbx c11 fc11; replace c11 := cellB hbx c11
  replace e0 := cellB hbx e0
  replace e1 := cellB hbx e1
  replace e2 := cellB hbx e2
  replace e3 := cellB hbx e3
  replace e4 := cellB hbx e4
  replace sA := S.onto sA hbx
  replace sB := S.onto sB hbx
  replace s3 := S.onto s3 hbx
  replace s4 := S.onto s4 hbx
  replace hon := Onto.to hon hbx
  have g0 : (w8.alloc (Obj.cells #[.int .i64 ep, .int .i64 2, .int .i64 0, .int .i64 0, .int .i64 0, .int .i64 0, .int .i64 0, .int .i64 pv, .int .i64 0, .int .i64 pl, .slice A3 n3 k3, .slice A4 n4 k4] 56)).cell? ⟨w8.heap.size, 0, none⟩ = some (.int .i64 ep) := by simp [go_sem]
  have fg0 : (w8.alloc (Obj.cells #[.int .i64 ep, .int .i64 2, .int .i64 0, .int .i64 0, .int .i64 0, .int .i64 0, .int .i64 0, .int .i64 pv, .int .i64 0, .int .i64 pl, .slice A3 n3 k3, .slice A4 n4 k4] 56)).frozen? ⟨w8.heap.size, 0, none⟩ = false := by simp [go_sem]
  have g1 : (w8.alloc (Obj.cells #[.int .i64 ep, .int .i64 2, .int .i64 0, .int .i64 0, .int .i64 0, .int .i64 0, .int .i64 0, .int .i64 pv, .int .i64 0, .int .i64 pl, .slice A3 n3 k3, .slice A4 n4 k4] 56)).cell? ⟨w8.heap.size, 1, none⟩ = some (.int .i64 2) := by simp [go_sem]
  have fg1 : (w8.alloc (Obj.cells #[.int .i64 ep, .int .i64 2, .int .i64 0, .int .i64 0, .int .i64 0, .int .i64 0, .int .i64 0, .int .i64 pv, .int .i64 0, .int .i64 pl, .slice A3 n3 k3, .slice A4 n4 k4] 56)).frozen? ⟨w8.heap.size, 1, none⟩ = false := by simp [go_sem]
  have g2 : (w8.alloc (Obj.cells #[.int .i64 ep, .int .i64 2, .int .i64 0, .int .i64 0, .int .i64 0, .int .i64 0, .int .i64 0, .int .i64 pv, .int .i64 0, .int .i64 pl, .slice A3 n3 k3, .slice A4 n4 k4] 56)).cell? ⟨w8.heap.size, 2, none⟩ = some (.int .i64 0) := by simp [go_sem]
  have fg2 : (w8.alloc (Obj.cells #[.int .i64 ep, .int .i64 2, .int .i64 0, .int .i64 0, .int .i64 0, .int .i64 0, .int .i64 0, .int .i64 pv, .int .i64 0, .int .i64 pl, .slice A3 n3 k3, .slice A4 n4 k4] 56)).frozen? ⟨w8.heap.size, 2, none⟩ = false := by simp [go_sem]
  have g3 : (w8.alloc (Obj.cells #[.int .i64 ep, .int .i64 2, .int .i64 0, .int .i64 0, .int .i64 0, .int .i64 0, .int .i64 0, .int .i64 pv, .int .i64 0, .int .i64 pl, .slice A3 n3 k3, .slice A4 n4 k4] 56)).cell? ⟨w8.heap.size, 3, none⟩ = some (.int .i64 0) := by simp [go_sem]
  have fg3 : (w8.alloc (Obj.cells #[.int .i64 ep, .int .i64 2, .int .i64 0, .int .i64 0, .int .i64 0, .int .i64 0, .int .i64 0, .int .i64 pv, .int .i64 0, .int .i64 pl, .slice A3 n3 k3, .slice A4 n4 k4] 56)).frozen? ⟨w8.heap.size, 3, none⟩ = false := by simp [go_sem]
  have g4 : (w8.alloc (Obj.cells #[.int .i64 ep, .int .i64 2, .int .i64 0, .int .i64 0, .int .i64 0, .int .i64 0, .int .i64 0, .int .i64 pv, .int .i64 0, .int .i64 pl, .slice A3 n3 k3, .slice A4 n4 k4] 56)).cell? ⟨w8.heap.size, 4, none⟩ = some (.int .i64 0) := by simp [go_sem]
  have fg4 : (w8.alloc (Obj.cells #[.int .i64 ep, .int .i64 2, .int .i64 0, .int .i64 0, .int .i64 0, .int .i64 0, .int .i64 0, .int .i64 pv, .int .i64 0, .int .i64 pl, .slice A3 n3 k3, .slice A4 n4 k4] 56)).frozen? ⟨w8.heap.size, 4, none⟩ = false := by simp [go_sem]
  have g5 : (w8.alloc (Obj.cells #[.int .i64 ep, .int .i64 2, .int .i64 0, .int .i64 0, .int .i64 0, .int .i64 0, .int .i64 0, .int .i64 pv, .int .i64 0, .int .i64 pl, .slice A3 n3 k3, .slice A4 n4 k4] 56)).cell? ⟨w8.heap.size, 5, none⟩ = some (.int .i64 0) := by simp [go_sem]
  have fg5 : (w8.alloc (Obj.cells #[.int .i64 ep, .int .i64 2, .int .i64 0, .int .i64 0, .int .i64 0, .int .i64 0, .int .i64 0, .int .i64 pv, .int .i64 0, .int .i64 pl, .slice A3 n3 k3, .slice A4 n4 k4] 56)).frozen? ⟨w8.heap.size, 5, none⟩ = false := by simp [go_sem]
  have g6 : (w8.alloc (Obj.cells #[.int .i64 ep, .int .i64 2, .int .i64 0, .int .i64 0, .int .i64 0, .int .i64 0, .int .i64 0, .int .i64 pv, .int .i64 0, .int .i64 pl, .slice A3 n3 k3, .slice A4 n4 k4] 56)).cell? ⟨w8.heap.size, 6, none⟩ = some (.int .i64 0) := by simp [go_sem]
  have fg6 : (w8.alloc (Obj.cells #[.int .i64 ep, .int .i64 2, .int .i64 0, .int .i64 0, .int .i64 0, .int .i64 0, .int .i64 0, .int .i64 pv, .int .i64 0, .int .i64 pl, .slice A3 n3 k3, .slice A4 n4 k4] 56)).frozen? ⟨w8.heap.size, 6, none⟩ = false := by simp [go_sem]
  have g7 : (w8.alloc (Obj.cells #[.int .i64 ep, .int .i64 2, .int .i64 0, .int .i64 0, .int .i64 0, .int .i64 0, .int .i64 0, .int .i64 pv, .int .i64 0, .int .i64 pl, .slice A3 n3 k3, .slice A4 n4 k4] 56)).cell? ⟨w8.heap.size, 7, none⟩ = some (.int .i64 pv) := by simp [go_sem]
  have fg7 : (w8.alloc (Obj.cells #[.int .i64 ep, .int .i64 2, .int .i64 0, .int .i64 0, .int .i64 0, .int .i64 0, .int .i64 0, .int .i64 pv, .int .i64 0, .int .i64 pl, .slice A3 n3 k3, .slice A4 n4 k4] 56)).frozen? ⟨w8.heap.size, 7, none⟩ = false := by simp [go_sem]
  have g8 : (w8.alloc (Obj.cells #[.int .i64 ep, .int .i64 2, .int .i64 0, .int .i64 0, .int .i64 0, .int .i64 0, .int .i64 0, .int .i64 pv, .int .i64 0, .int .i64 pl, .slice A3 n3 k3, .slice A4 n4 k4] 56)).cell? ⟨w8.heap.size, 8, none⟩ = some (.int .i64 0) := by simp [go_sem]
  have fg8 : (w8.alloc (Obj.cells #[.int .i64 ep, .int .i64 2, .int .i64 0, .int .i64 0, .int .i64 0, .int .i64 0, .int .i64 0, .int .i64 pv, .int .i64 0, .int .i64 pl, .slice A3 n3 k3, .slice A4 n4 k4] 56)).frozen? ⟨w8.heap.size, 8, none⟩ = false := by simp [go_sem]
  have g9 : (w8.alloc (Obj.cells #[.int .i64 ep, .int .i64 2, .int .i64 0, .int .i64 0, .int .i64 0, .int .i64 0, .int .i64 0, .int .i64 pv, .int .i64 0, .int .i64 pl, .slice A3 n3 k3, .slice A4 n4 k4] 56)).cell? ⟨w8.heap.size, 9, none⟩ = some (.int .i64 pl) := by simp [go_sem]
  have fg9 : (w8.alloc (Obj.cells #[.int .i64 ep, .int .i64 2, .int .i64 0, .int .i64 0, .int .i64 0, .int .i64 0, .int .i64 0, .int .i64 pv, .int .i64 0, .int .i64 pl, .slice A3 n3 k3, .slice A4 n4 k4] 56)).frozen? ⟨w8.heap.size, 9, none⟩ = false := by simp [go_sem]
  have g10 : (w8.alloc (Obj.cells #[.int .i64 ep, .int .i64 2, .int .i64 0, .int .i64 0, .int .i64 0, .int .i64 0, .int .i64 0, .int .i64 pv, .int .i64 0, .int .i64 pl, .slice A3 n3 k3, .slice A4 n4 k4] 56)).cell? ⟨w8.heap.size, 10, none⟩ = some (.slice A3 n3 k3) := by simp [go_sem]
  have fg10 : (w8.alloc (Obj.cells #[.int .i64 ep, .int .i64 2, .int .i64 0, .int .i64 0, .int .i64 0, .int .i64 0, .int .i64 0, .int .i64 pv, .int .i64 0, .int .i64 pl, .slice A3 n3 k3, .slice A4 n4 k4] 56)).frozen? ⟨w8.heap.size, 10, none⟩ = false := by simp [go_sem]
  have g11 : (w8.alloc (Obj.cells #[.int .i64 ep, .int .i64 2, .int .i64 0, .int .i64 0, .int .i64 0, .int .i64 0, .int .i64 0, .int .i64 pv, .int .i64 0, .int .i64 pl, .slice A3 n3 k3, .slice A4 n4 k4] 56)).cell? ⟨w8.heap.size, 11, none⟩ = some (.slice A4 n4 k4) := by simp [go_sem]
  have fg11 : (w8.alloc (Obj.cells #[.int .i64 ep, .int .i64 2, .int .i64 0, .int .i64 0, .int .i64 0, .int .i64 0, .int .i64 0, .int .i64 pv, .int .i64 0, .int .i64 pl, .slice A3 n3 k3, .slice A4 n4 k4] 56)).frozen? ⟨w8.heap.size, 11, none⟩ = false := by simp [go_sem]
  change Code.wp _ _ _ _ (w8.alloc (Obj.cells #[.int .i64 ep, .int .i64 2, .int .i64 0, .int .i64 0, .int .i64 0, .int .i64 0, .int .i64 0, .int .i64 pv, .int .i64 0, .int .i64 pl, .slice A3 n3 k3, .slice A4 n4 k4] 56))
  clear hbx
  generalize (w8.alloc (Obj.cells #[.int .i64 ep, .int .i64 2, .int .i64 0, .int .i64 0, .int .i64 0, .int .i64 0, .int .i64 0, .int .i64 pv, .int .i64 0, .int .i64 pl, .slice A3 n3 k3, .slice A4 n4 k4] 56)) = w9 at *
  generalize w8.heap.size = Bg at *
  have hg : checkCl ⟨ep, 2, ⟨0, 0, 0, 0, 0⟩, pv, 0, pl, b⟩ = 0 := writes_ok _ 0 HQ.out (by decide) hp0 hp1 (by omega) (by omega)
  have hh := heardCl_first (x := x) hg
  have HG := Lib.hid hh
  clear hg hh
  go_wp2_with fail
  refine Calls.mono (ClHeard_calls ep 2 pv 0 pl ⟨0, 0, 0, 0, 0⟩ x A3 A4 n3 k3 n4 k4 b _ s3 s4) ?_
  rw [show heardCl ⟨ep, 2, ⟨0, 0, 0, 0, 0⟩, pv, 0, pl, b⟩ x = _ from HG.out, if_neg (by simp [HX.out])]
  rintro e w10 ⟨A5, n5, k5, A6, n6, k6, rfl, s5, s6, hb, _, _, f5, f6⟩
  clear s3 s4
  clear g0 fg0 g1 fg1 g2 fg2 g3 fg3 g4 fg4 g5 fg5 g6 fg6 g7 fg7 g8 fg8 g9 fg9 g10 fg10 g11 fg11
  replace fc0 := frozB hb c0 fc0; replace c0 := cellB hb c0
  replace fc1 := frozB hb c1 fc1; replace c1 := cellB hb c1
  replace fc2 := frozB hb c2 fc2; replace c2 := cellB hb c2
  replace fc3 := frozB hb c3 fc3; replace c3 := cellB hb c3
  replace fc4 := frozB hb c4 fc4; replace c4 := cellB hb c4
  replace fc5 := frozB hb c5 fc5; replace c5 := cellB hb c5
  replace fc6 := frozB hb c6 fc6; replace c6 := cellB hb c6
  replace fc7 := frozB hb c7 fc7; replace c7 := cellB hb c7
  replace fc8 := frozB hb c8 fc8; replace c8 := cellB hb c8
  replace fc9 := frozB hb c9 fc9; replace c9 := cellB hb c9
  replace fc10 := frozB hb c10 fc10; replace c10 := cellB hb c10
  replace fc11 := frozB hb c11 fc11; replace c11 := cellB hb c11
  replace e0 := cellB hb e0
  replace e1 := cellB hb e1
  replace e2 := cellB hb e2
  replace e3 := cellB hb e3
  replace e4 := cellB hb e4
  replace sA := S.onto sA hb
  replace sB := S.onto sB hb
  replace hon := Onto.to hon hb
  clear hb
  go_upto_region 13 with fail
  have hzw : w.heap.size ≤ w10.heap.size := hon.size
  have hcz : w.heap.size < w10.heap.size := World.block_lt_of_cell? _ _ c0
  have hez : w.heap.size + 1 < w10.heap.size := World.block_lt_of_cell? _ _ e0
  have hbx : Onto w10 (w10.alloc (Obj.cells #[.int .i64 ep, .int .i64 2, .int .i64 x.kind, .int .i64 x.job, .int .i64 x.every, .int .i64 x.time, .int .i64 x.client, .int .i64 pv, .int .i64 1, .int .i64 pl, .slice A5 n5 k5, .slice A6 n6 k6] 56)) := (Below.refl _ _).alloc (Nat.le_refl _) _
  replace fc0 := frozB hbx c0 fc0; replace c0 := cellB hbx c0
  replace fc1 := frozB hbx c1 fc1; replace c1 := cellB hbx c1
  replace fc2 := frozB hbx c2 fc2; replace c2 := cellB hbx c2
  replace fc3 := frozB hbx c3 fc3; replace c3 := cellB hbx c3
  replace fc4 := frozB hbx c4 fc4; replace c4 := cellB hbx c4
  replace fc5 := frozB hbx c5 fc5; replace c5 := cellB hbx c5
  replace fc6 := frozB hbx c6 fc6; replace c6 := cellB hbx c6
  replace fc7 := frozB hbx c7 fc7; replace c7 := cellB hbx c7
  replace fc8 := frozB hbx c8 fc8; replace c8 := cellB hbx c8
  replace fc9 := frozB hbx c9 fc9; replace c9 := cellB hbx c9
  replace fc10 := frozB hbx c10 fc10; replace c10 := cellB hbx c10
  replace fc11 := frozB hbx c11 fc11; replace c11 := cellB hbx c11
  replace e0 := cellB hbx e0
  replace e1 := cellB hbx e1
  replace e2 := cellB hbx e2
  replace e3 := cellB hbx e3
  replace e4 := cellB hbx e4
  replace sA := S.onto sA hbx
  replace sB := S.onto sB hbx
  replace s5 := S.onto s5 hbx
  replace s6 := S.onto s6 hbx
  replace hon := Onto.to hon hbx
  have z0 : (w10.alloc (Obj.cells #[.int .i64 ep, .int .i64 2, .int .i64 x.kind, .int .i64 x.job, .int .i64 x.every, .int .i64 x.time, .int .i64 x.client, .int .i64 pv, .int .i64 1, .int .i64 pl, .slice A5 n5 k5, .slice A6 n6 k6] 56)).cell? ⟨w10.heap.size, 0, none⟩ = some (.int .i64 ep) := by simp [go_sem]
  have fz0 : (w10.alloc (Obj.cells #[.int .i64 ep, .int .i64 2, .int .i64 x.kind, .int .i64 x.job, .int .i64 x.every, .int .i64 x.time, .int .i64 x.client, .int .i64 pv, .int .i64 1, .int .i64 pl, .slice A5 n5 k5, .slice A6 n6 k6] 56)).frozen? ⟨w10.heap.size, 0, none⟩ = false := by simp [go_sem]
  have z1 : (w10.alloc (Obj.cells #[.int .i64 ep, .int .i64 2, .int .i64 x.kind, .int .i64 x.job, .int .i64 x.every, .int .i64 x.time, .int .i64 x.client, .int .i64 pv, .int .i64 1, .int .i64 pl, .slice A5 n5 k5, .slice A6 n6 k6] 56)).cell? ⟨w10.heap.size, 1, none⟩ = some (.int .i64 2) := by simp [go_sem]
  have fz1 : (w10.alloc (Obj.cells #[.int .i64 ep, .int .i64 2, .int .i64 x.kind, .int .i64 x.job, .int .i64 x.every, .int .i64 x.time, .int .i64 x.client, .int .i64 pv, .int .i64 1, .int .i64 pl, .slice A5 n5 k5, .slice A6 n6 k6] 56)).frozen? ⟨w10.heap.size, 1, none⟩ = false := by simp [go_sem]
  have z2 : (w10.alloc (Obj.cells #[.int .i64 ep, .int .i64 2, .int .i64 x.kind, .int .i64 x.job, .int .i64 x.every, .int .i64 x.time, .int .i64 x.client, .int .i64 pv, .int .i64 1, .int .i64 pl, .slice A5 n5 k5, .slice A6 n6 k6] 56)).cell? ⟨w10.heap.size, 2, none⟩ = some (.int .i64 x.kind) := by simp [go_sem]
  have fz2 : (w10.alloc (Obj.cells #[.int .i64 ep, .int .i64 2, .int .i64 x.kind, .int .i64 x.job, .int .i64 x.every, .int .i64 x.time, .int .i64 x.client, .int .i64 pv, .int .i64 1, .int .i64 pl, .slice A5 n5 k5, .slice A6 n6 k6] 56)).frozen? ⟨w10.heap.size, 2, none⟩ = false := by simp [go_sem]
  have z3 : (w10.alloc (Obj.cells #[.int .i64 ep, .int .i64 2, .int .i64 x.kind, .int .i64 x.job, .int .i64 x.every, .int .i64 x.time, .int .i64 x.client, .int .i64 pv, .int .i64 1, .int .i64 pl, .slice A5 n5 k5, .slice A6 n6 k6] 56)).cell? ⟨w10.heap.size, 3, none⟩ = some (.int .i64 x.job) := by simp [go_sem]
  have fz3 : (w10.alloc (Obj.cells #[.int .i64 ep, .int .i64 2, .int .i64 x.kind, .int .i64 x.job, .int .i64 x.every, .int .i64 x.time, .int .i64 x.client, .int .i64 pv, .int .i64 1, .int .i64 pl, .slice A5 n5 k5, .slice A6 n6 k6] 56)).frozen? ⟨w10.heap.size, 3, none⟩ = false := by simp [go_sem]
  have z4 : (w10.alloc (Obj.cells #[.int .i64 ep, .int .i64 2, .int .i64 x.kind, .int .i64 x.job, .int .i64 x.every, .int .i64 x.time, .int .i64 x.client, .int .i64 pv, .int .i64 1, .int .i64 pl, .slice A5 n5 k5, .slice A6 n6 k6] 56)).cell? ⟨w10.heap.size, 4, none⟩ = some (.int .i64 x.every) := by simp [go_sem]
  have fz4 : (w10.alloc (Obj.cells #[.int .i64 ep, .int .i64 2, .int .i64 x.kind, .int .i64 x.job, .int .i64 x.every, .int .i64 x.time, .int .i64 x.client, .int .i64 pv, .int .i64 1, .int .i64 pl, .slice A5 n5 k5, .slice A6 n6 k6] 56)).frozen? ⟨w10.heap.size, 4, none⟩ = false := by simp [go_sem]
  have z5 : (w10.alloc (Obj.cells #[.int .i64 ep, .int .i64 2, .int .i64 x.kind, .int .i64 x.job, .int .i64 x.every, .int .i64 x.time, .int .i64 x.client, .int .i64 pv, .int .i64 1, .int .i64 pl, .slice A5 n5 k5, .slice A6 n6 k6] 56)).cell? ⟨w10.heap.size, 5, none⟩ = some (.int .i64 x.time) := by simp [go_sem]
  have fz5 : (w10.alloc (Obj.cells #[.int .i64 ep, .int .i64 2, .int .i64 x.kind, .int .i64 x.job, .int .i64 x.every, .int .i64 x.time, .int .i64 x.client, .int .i64 pv, .int .i64 1, .int .i64 pl, .slice A5 n5 k5, .slice A6 n6 k6] 56)).frozen? ⟨w10.heap.size, 5, none⟩ = false := by simp [go_sem]
  have z6 : (w10.alloc (Obj.cells #[.int .i64 ep, .int .i64 2, .int .i64 x.kind, .int .i64 x.job, .int .i64 x.every, .int .i64 x.time, .int .i64 x.client, .int .i64 pv, .int .i64 1, .int .i64 pl, .slice A5 n5 k5, .slice A6 n6 k6] 56)).cell? ⟨w10.heap.size, 6, none⟩ = some (.int .i64 x.client) := by simp [go_sem]
  have fz6 : (w10.alloc (Obj.cells #[.int .i64 ep, .int .i64 2, .int .i64 x.kind, .int .i64 x.job, .int .i64 x.every, .int .i64 x.time, .int .i64 x.client, .int .i64 pv, .int .i64 1, .int .i64 pl, .slice A5 n5 k5, .slice A6 n6 k6] 56)).frozen? ⟨w10.heap.size, 6, none⟩ = false := by simp [go_sem]
  have z7 : (w10.alloc (Obj.cells #[.int .i64 ep, .int .i64 2, .int .i64 x.kind, .int .i64 x.job, .int .i64 x.every, .int .i64 x.time, .int .i64 x.client, .int .i64 pv, .int .i64 1, .int .i64 pl, .slice A5 n5 k5, .slice A6 n6 k6] 56)).cell? ⟨w10.heap.size, 7, none⟩ = some (.int .i64 pv) := by simp [go_sem]
  have fz7 : (w10.alloc (Obj.cells #[.int .i64 ep, .int .i64 2, .int .i64 x.kind, .int .i64 x.job, .int .i64 x.every, .int .i64 x.time, .int .i64 x.client, .int .i64 pv, .int .i64 1, .int .i64 pl, .slice A5 n5 k5, .slice A6 n6 k6] 56)).frozen? ⟨w10.heap.size, 7, none⟩ = false := by simp [go_sem]
  have z8 : (w10.alloc (Obj.cells #[.int .i64 ep, .int .i64 2, .int .i64 x.kind, .int .i64 x.job, .int .i64 x.every, .int .i64 x.time, .int .i64 x.client, .int .i64 pv, .int .i64 1, .int .i64 pl, .slice A5 n5 k5, .slice A6 n6 k6] 56)).cell? ⟨w10.heap.size, 8, none⟩ = some (.int .i64 1) := by simp [go_sem]
  have fz8 : (w10.alloc (Obj.cells #[.int .i64 ep, .int .i64 2, .int .i64 x.kind, .int .i64 x.job, .int .i64 x.every, .int .i64 x.time, .int .i64 x.client, .int .i64 pv, .int .i64 1, .int .i64 pl, .slice A5 n5 k5, .slice A6 n6 k6] 56)).frozen? ⟨w10.heap.size, 8, none⟩ = false := by simp [go_sem]
  have z9 : (w10.alloc (Obj.cells #[.int .i64 ep, .int .i64 2, .int .i64 x.kind, .int .i64 x.job, .int .i64 x.every, .int .i64 x.time, .int .i64 x.client, .int .i64 pv, .int .i64 1, .int .i64 pl, .slice A5 n5 k5, .slice A6 n6 k6] 56)).cell? ⟨w10.heap.size, 9, none⟩ = some (.int .i64 pl) := by simp [go_sem]
  have fz9 : (w10.alloc (Obj.cells #[.int .i64 ep, .int .i64 2, .int .i64 x.kind, .int .i64 x.job, .int .i64 x.every, .int .i64 x.time, .int .i64 x.client, .int .i64 pv, .int .i64 1, .int .i64 pl, .slice A5 n5 k5, .slice A6 n6 k6] 56)).frozen? ⟨w10.heap.size, 9, none⟩ = false := by simp [go_sem]
  have z10 : (w10.alloc (Obj.cells #[.int .i64 ep, .int .i64 2, .int .i64 x.kind, .int .i64 x.job, .int .i64 x.every, .int .i64 x.time, .int .i64 x.client, .int .i64 pv, .int .i64 1, .int .i64 pl, .slice A5 n5 k5, .slice A6 n6 k6] 56)).cell? ⟨w10.heap.size, 10, none⟩ = some (.slice A5 n5 k5) := by simp [go_sem]
  have fz10 : (w10.alloc (Obj.cells #[.int .i64 ep, .int .i64 2, .int .i64 x.kind, .int .i64 x.job, .int .i64 x.every, .int .i64 x.time, .int .i64 x.client, .int .i64 pv, .int .i64 1, .int .i64 pl, .slice A5 n5 k5, .slice A6 n6 k6] 56)).frozen? ⟨w10.heap.size, 10, none⟩ = false := by simp [go_sem]
  have z11 : (w10.alloc (Obj.cells #[.int .i64 ep, .int .i64 2, .int .i64 x.kind, .int .i64 x.job, .int .i64 x.every, .int .i64 x.time, .int .i64 x.client, .int .i64 pv, .int .i64 1, .int .i64 pl, .slice A5 n5 k5, .slice A6 n6 k6] 56)).cell? ⟨w10.heap.size, 11, none⟩ = some (.slice A6 n6 k6) := by simp [go_sem]
  have fz11 : (w10.alloc (Obj.cells #[.int .i64 ep, .int .i64 2, .int .i64 x.kind, .int .i64 x.job, .int .i64 x.every, .int .i64 x.time, .int .i64 x.client, .int .i64 pv, .int .i64 1, .int .i64 pl, .slice A5 n5 k5, .slice A6 n6 k6] 56)).frozen? ⟨w10.heap.size, 11, none⟩ = false := by simp [go_sem]
  change Code.wp _ _ _ _ (w10.alloc (Obj.cells #[.int .i64 ep, .int .i64 2, .int .i64 x.kind, .int .i64 x.job, .int .i64 x.every, .int .i64 x.time, .int .i64 x.client, .int .i64 pv, .int .i64 1, .int .i64 pl, .slice A5 n5 k5, .slice A6 n6 k6] 56))
  clear hbx
  generalize (w10.alloc (Obj.cells #[.int .i64 ep, .int .i64 2, .int .i64 x.kind, .int .i64 x.job, .int .i64 x.every, .int .i64 x.time, .int .i64 x.client, .int .i64 pv, .int .i64 1, .int .i64 pl, .slice A5 n5 k5, .slice A6 n6 k6] 56)) = w11 at *
  generalize w10.heap.size = Bz at *
  obtain ⟨Fc, hF⟩ : ∃ Fc : Nat → Cli, Fc = keepF ep pl pv x b := ⟨_, rfl⟩
  have hF0 : Fc 0 = ⟨ep, 2, x, pv, 1, pl, b⟩ := by rw [hF]; rfl
  have hF3 : Fc 3 = ⟨ep, 0, ⟨0, 0, 0, 0, 0⟩, 0, 0, pl, b⟩ := by rw [hF]; rfl
  have HF3 := Lib.hid hF3; have HF0 := Lib.hid hF0
  have hFc : ∀ k, checkCl (Fc k) = 0 := fun k => by rw [hF]; exact keepF_ok HQ.out HX.out hp0 hp1 k
  have hFn : ∀ k, k < 2 → heardCl (Fc k) x = (Fc (k + 1), 0) := fun k hk => by rw [hF]; exact keepF_next HQ.out HX.out hp0 hp1 hk
  have hFb : ∀ k, (Fc k).b = b := fun k => by rw [hF]; exact keepF_b k
  have hFd : ∀ k, k < 3 → ((Fc k).doing == 0) = decide (k = 2) := fun k hk => by rw [hF]; exact keepF_d hk
  have hF2 : Fc 2 = Fc 3 := by rw [hF]; rfl
  have HFC := Lib.hid hFc; have HFN := Lib.hid hFn; have HFB := Lib.hid hFb; have HFD := Lib.hid hFd; have HF2 := Lib.hid hF2
  clear hFc hFn hFb hFd hF2 hF hF0 hF3
  go_wp2_with fail
  go_loopw [8, 91] (fun s8 s wr => ∃ (kk : Nat) (A5 : Option Addr) (n5 k5 : Nat) (A6 : Option Addr) (n6 k6 : Nat), kk ≤ 3 ∧ s8 = .int .i64 0 ∧ s = .int .i64 kk ∧ wr.cell? ⟨w.heap.size, 0, none⟩ = some (.int .i64 ep) ∧ wr.frozen? ⟨w.heap.size, 0, none⟩ = false ∧ wr.cell? ⟨w.heap.size, 1, none⟩ = some (.int .i64 0) ∧ wr.frozen? ⟨w.heap.size, 1, none⟩ = false ∧ wr.cell? ⟨w.heap.size, 2, none⟩ = some (.int .i64 0) ∧ wr.frozen? ⟨w.heap.size, 2, none⟩ = false ∧ wr.cell? ⟨w.heap.size, 3, none⟩ = some (.int .i64 0) ∧ wr.frozen? ⟨w.heap.size, 3, none⟩ = false ∧ wr.cell? ⟨w.heap.size, 4, none⟩ = some (.int .i64 0) ∧ wr.frozen? ⟨w.heap.size, 4, none⟩ = false ∧ wr.cell? ⟨w.heap.size, 5, none⟩ = some (.int .i64 0) ∧ wr.frozen? ⟨w.heap.size, 5, none⟩ = false ∧ wr.cell? ⟨w.heap.size, 6, none⟩ = some (.int .i64 0) ∧ wr.frozen? ⟨w.heap.size, 6, none⟩ = false ∧ wr.cell? ⟨w.heap.size, 7, none⟩ = some (.int .i64 0) ∧ wr.frozen? ⟨w.heap.size, 7, none⟩ = false ∧ wr.cell? ⟨w.heap.size, 8, none⟩ = some (.int .i64 0) ∧ wr.frozen? ⟨w.heap.size, 8, none⟩ = false ∧ wr.cell? ⟨w.heap.size, 9, none⟩ = some (.int .i64 pl) ∧ wr.frozen? ⟨w.heap.size, 9, none⟩ = false ∧ wr.cell? ⟨w.heap.size, 10, none⟩ = some (.slice A n k) ∧ wr.frozen? ⟨w.heap.size, 10, none⟩ = false ∧ wr.cell? ⟨w.heap.size, 11, none⟩ = some (.slice A' m d) ∧ wr.frozen? ⟨w.heap.size, 11, none⟩ = false ∧ wr.cell? ⟨w.heap.size + 1, 0, none⟩ = some (.int .i64 x.kind) ∧ wr.cell? ⟨w.heap.size + 1, 1, none⟩ = some (.int .i64 x.job) ∧ wr.cell? ⟨w.heap.size + 1, 2, none⟩ = some (.int .i64 x.every) ∧ wr.cell? ⟨w.heap.size + 1, 3, none⟩ = some (.int .i64 x.time) ∧ wr.cell? ⟨w.heap.size + 1, 4, none⟩ = some (.int .i64 x.client) ∧ wr.cell? ⟨Bz, 0, none⟩ = some (.int .i64 (Fc kk).epoch) ∧ wr.frozen? ⟨Bz, 0, none⟩ = false ∧ wr.cell? ⟨Bz, 1, none⟩ = some (.int .i64 (Fc kk).doing) ∧ wr.frozen? ⟨Bz, 1, none⟩ = false ∧ wr.cell? ⟨Bz, 2, none⟩ = some (.int .i64 (Fc kk).e.kind) ∧ wr.frozen? ⟨Bz, 2, none⟩ = false ∧ wr.cell? ⟨Bz, 3, none⟩ = some (.int .i64 (Fc kk).e.job) ∧ wr.frozen? ⟨Bz, 3, none⟩ = false ∧ wr.cell? ⟨Bz, 4, none⟩ = some (.int .i64 (Fc kk).e.every) ∧ wr.frozen? ⟨Bz, 4, none⟩ = false ∧ wr.cell? ⟨Bz, 5, none⟩ = some (.int .i64 (Fc kk).e.time) ∧ wr.frozen? ⟨Bz, 5, none⟩ = false ∧ wr.cell? ⟨Bz, 6, none⟩ = some (.int .i64 (Fc kk).e.client) ∧ wr.frozen? ⟨Bz, 6, none⟩ = false ∧ wr.cell? ⟨Bz, 7, none⟩ = some (.int .i64 (Fc kk).at_) ∧ wr.frozen? ⟨Bz, 7, none⟩ = false ∧ wr.cell? ⟨Bz, 8, none⟩ = some (.int .i64 (Fc kk).link) ∧ wr.frozen? ⟨Bz, 8, none⟩ = false ∧ wr.cell? ⟨Bz, 9, none⟩ = some (.int .i64 (Fc kk).played) ∧ wr.frozen? ⟨Bz, 9, none⟩ = false ∧ wr.cell? ⟨Bz, 10, none⟩ = some (.slice A5 n5 k5) ∧ wr.frozen? ⟨Bz, 10, none⟩ = false ∧ wr.cell? ⟨Bz, 11, none⟩ = some (.slice A6 n6 k6) ∧ wr.frozen? ⟨Bz, 11, none⟩ = false ∧
      S wr 3 A n (b.jobs.map encJ) ∧ S wr 3 A' m (b.rung.map encR) ∧ S wr 3 A5 n5 (b.jobs.map encJ) ∧ S wr 3 A6 n6 (b.rung.map encR) ∧ Onto w wr) (fun _ s _ => 3 - (intOf s).toNat)
  case atStart =>
    refine ⟨0, A5, n5, k5, A6, n6, k6, by omega, rfl, rfl, c0, fc0, c1, fc1, c2, fc2, c3, fc3, c4, fc4, c5, fc5, c6, fc6, c7, fc7, c8, fc8, c9, fc9, c10, fc10, c11, fc11, e0, e1, e2, e3, e4, ?_⟩
    rw [HF0.out]
    exact ⟨z0, fz0, z1, fz1, z2, fz2, z3, fz3, z4, fz4, z5, fz5, z6, fz6, z7, fz7, z8, fz8, z9, fz9, z10, fz10, z11, fz11, sA, sB, s5, s6, hon⟩
  case round =>
  clear c0 fc0 c1 fc1 c2 fc2 c3 fc3 c4 fc4 c5 fc5 c6 fc6 c7 fc7 c8 fc8 c9 fc9 c10 fc10 c11 fc11 e0 e1 e2 e3 e4 z0 fz0 z1 fz1 z2 fz2 z3 fz3 z4 fz4 z5 fz5 z6 fz6 z7 fz7 z8 fz8 z9 fz9 z10 fz10 z11 fz11 sA sB s5 s6 hon f5 f6
  obtain ⟨kk, A5, n5, k5, A6, n6, k6, hk, rfl, rfl, c0, fc0, c1, fc1, c2, fc2, c3, fc3, c4, fc4, c5, fc5, c6, fc6, c7, fc7, c8, fc8, c9, fc9, c10, fc10, c11, fc11, e0, e1, e2, e3, e4, z0, fz0, z1, fz1, z2, fz2, z3, fz3, z4, fz4, z5, fz5, z6, fz6, z7, fz7, z8, fz8, z9, fz9, z10, fz10, z11, fz11, sA, sB, s5, s6, hon⟩ := hrel
  have hln : n ≤ 9223372036854775807 := HLN.out
  have hlm : m ≤ 9223372036854775807 := HLM.out
  by_cases hlt : kk < 3
  · have hki : (kk : Int) < 3 := by omega
    have hch := HFC.out kk
    have HCH := Lib.hid hch
    have hdg := HFD.out kk hlt
    obtain ⟨dd, hdd⟩ : ∃ dd, dd = decide (kk = 2) := ⟨_, rfl⟩
    have hk2 : ((kk : Int) == 2) = dd := by rw [hdd, Bool.eq_iff_iff]; simp; omega
    rw [← hdd] at hdg
    have HDD := Lib.hid hdd
    clear hch hk hdd
    have HFBk := Lib.hid (HFB.out kk)
    have HLT := Lib.hid hlt
    clear hlt
    go_wp2_with fail
    refine Calls.mono (ClCheck_calls (Fc kk).epoch (Fc kk).doing (Fc kk).at_ (Fc kk).link (Fc kk).played (Fc kk).e A5 A6 n5 k5 n6 k6 b _ s5 s6) ?_
    rw [show (⟨(Fc kk).epoch, (Fc kk).doing, (Fc kk).e, (Fc kk).at_, (Fc kk).link, (Fc kk).played, b⟩ : Cli) = Fc kk from by rw [← HFBk.out], HCH.out]
    rintro e w12 ⟨rfl, hb⟩
    replace fc0 := frozB hb c0 fc0; replace c0 := cellB hb c0
    replace fc1 := frozB hb c1 fc1; replace c1 := cellB hb c1
    replace fc2 := frozB hb c2 fc2; replace c2 := cellB hb c2
    replace fc3 := frozB hb c3 fc3; replace c3 := cellB hb c3
    replace fc4 := frozB hb c4 fc4; replace c4 := cellB hb c4
    replace fc5 := frozB hb c5 fc5; replace c5 := cellB hb c5
    replace fc6 := frozB hb c6 fc6; replace c6 := cellB hb c6
    replace fc7 := frozB hb c7 fc7; replace c7 := cellB hb c7
    replace fc8 := frozB hb c8 fc8; replace c8 := cellB hb c8
    replace fc9 := frozB hb c9 fc9; replace c9 := cellB hb c9
    replace fc10 := frozB hb c10 fc10; replace c10 := cellB hb c10
    replace fc11 := frozB hb c11 fc11; replace c11 := cellB hb c11
    replace e0 := cellB hb e0
    replace e1 := cellB hb e1
    replace e2 := cellB hb e2
    replace e3 := cellB hb e3
    replace e4 := cellB hb e4
    replace fz0 := frozB hb z0 fz0; replace z0 := cellB hb z0
    replace fz1 := frozB hb z1 fz1; replace z1 := cellB hb z1
    replace fz2 := frozB hb z2 fz2; replace z2 := cellB hb z2
    replace fz3 := frozB hb z3 fz3; replace z3 := cellB hb z3
    replace fz4 := frozB hb z4 fz4; replace z4 := cellB hb z4
    replace fz5 := frozB hb z5 fz5; replace z5 := cellB hb z5
    replace fz6 := frozB hb z6 fz6; replace z6 := cellB hb z6
    replace fz7 := frozB hb z7 fz7; replace z7 := cellB hb z7
    replace fz8 := frozB hb z8 fz8; replace z8 := cellB hb z8
    replace fz9 := frozB hb z9 fz9; replace z9 := cellB hb z9
    replace fz10 := frozB hb z10 fz10; replace z10 := cellB hb z10
    replace fz11 := frozB hb z11 fz11; replace z11 := cellB hb z11
    replace sA := S.onto sA hb
    replace sB := S.onto sB hb
    replace s5 := S.onto s5 hb
    replace s6 := S.onto s6 hb
    replace hon := Onto.to hon hb
    clear hb
    go_wp2_with fail
    refine Calls.mono (BSame_calls A5 A6 A A' n5 k5 n6 k6 n k m d _ b.jobs b.jobs b.rung b.rung _ s5 s6 sA sB (Nat.le_refl _) (by have h1 := s5.len; have h2 := sA.len; omega) (by have h1 := s6.len; have h2 := sB.len; omega)) ?_
    rintro e w13 ⟨rfl, hb⟩
    replace fc0 := frozB hb c0 fc0; replace c0 := cellB hb c0
    replace fc1 := frozB hb c1 fc1; replace c1 := cellB hb c1
    replace fc2 := frozB hb c2 fc2; replace c2 := cellB hb c2
    replace fc3 := frozB hb c3 fc3; replace c3 := cellB hb c3
    replace fc4 := frozB hb c4 fc4; replace c4 := cellB hb c4
    replace fc5 := frozB hb c5 fc5; replace c5 := cellB hb c5
    replace fc6 := frozB hb c6 fc6; replace c6 := cellB hb c6
    replace fc7 := frozB hb c7 fc7; replace c7 := cellB hb c7
    replace fc8 := frozB hb c8 fc8; replace c8 := cellB hb c8
    replace fc9 := frozB hb c9 fc9; replace c9 := cellB hb c9
    replace fc10 := frozB hb c10 fc10; replace c10 := cellB hb c10
    replace fc11 := frozB hb c11 fc11; replace c11 := cellB hb c11
    replace e0 := cellB hb e0
    replace e1 := cellB hb e1
    replace e2 := cellB hb e2
    replace e3 := cellB hb e3
    replace e4 := cellB hb e4
    replace fz0 := frozB hb z0 fz0; replace z0 := cellB hb z0
    replace fz1 := frozB hb z1 fz1; replace z1 := cellB hb z1
    replace fz2 := frozB hb z2 fz2; replace z2 := cellB hb z2
    replace fz3 := frozB hb z3 fz3; replace z3 := cellB hb z3
    replace fz4 := frozB hb z4 fz4; replace z4 := cellB hb z4
    replace fz5 := frozB hb z5 fz5; replace z5 := cellB hb z5
    replace fz6 := frozB hb z6 fz6; replace z6 := cellB hb z6
    replace fz7 := frozB hb z7 fz7; replace z7 := cellB hb z7
    replace fz8 := frozB hb z8 fz8; replace z8 := cellB hb z8
    replace fz9 := frozB hb z9 fz9; replace z9 := cellB hb z9
    replace fz10 := frozB hb z10 fz10; replace z10 := cellB hb z10
    replace fz11 := frozB hb z11 fz11; replace z11 := cellB hb z11
    replace sA := S.onto sA hb
    replace sB := S.onto sB hb
    replace s5 := S.onto s5 hb
    replace s6 := S.onto s6 hb
    replace hon := Onto.to hon hb
    clear hb
    by_cases hl2 : kk < 2
    · have hk1 : decide ((kk : Int) < 2) = true := by simp; omega
      have hk1' : (kk : Int) < 2 := by omega
      have HL2 := Lib.hid hl2
      clear hl2
      go_wp2_with fail
      refine Calls.mono (ClHeard_calls (Fc kk).epoch (Fc kk).doing (Fc kk).at_ (Fc kk).link (Fc kk).played (Fc kk).e x A5 A6 n5 k5 n6 k6 b _ s5 s6) ?_
      rw [show (⟨(Fc kk).epoch, (Fc kk).doing, (Fc kk).e, (Fc kk).at_, (Fc kk).link, (Fc kk).played, b⟩ : Cli) = Fc kk from by rw [← HFBk.out], HFN.out kk HL2.out]
      have HF1 := Lib.hid (HFB.out (kk + 1))
      rintro e w14 ⟨A7, n7, k7, A8, n8, k8, rfl, s7, s8, hb, _, _, f7, f8⟩
      dsimp only at s7 s8
      rw [HF1.out] at s7 s8
      have o7 : OffN n7 Bz A7 := f7.offN (lt_cell z0)
      have o8 : OffN n8 Bz A8 := f8.offN (lt_cell z0)
      have o5 := OA.out Bz hzw; have o6 := OB.out Bz hzw
      replace fc0 := frozB hb c0 fc0; replace c0 := cellB hb c0
      replace fc1 := frozB hb c1 fc1; replace c1 := cellB hb c1
      replace fc2 := frozB hb c2 fc2; replace c2 := cellB hb c2
      replace fc3 := frozB hb c3 fc3; replace c3 := cellB hb c3
      replace fc4 := frozB hb c4 fc4; replace c4 := cellB hb c4
      replace fc5 := frozB hb c5 fc5; replace c5 := cellB hb c5
      replace fc6 := frozB hb c6 fc6; replace c6 := cellB hb c6
      replace fc7 := frozB hb c7 fc7; replace c7 := cellB hb c7
      replace fc8 := frozB hb c8 fc8; replace c8 := cellB hb c8
      replace fc9 := frozB hb c9 fc9; replace c9 := cellB hb c9
      replace fc10 := frozB hb c10 fc10; replace c10 := cellB hb c10
      replace fc11 := frozB hb c11 fc11; replace c11 := cellB hb c11
      replace e0 := cellB hb e0
      replace e1 := cellB hb e1
      replace e2 := cellB hb e2
      replace e3 := cellB hb e3
      replace e4 := cellB hb e4
      replace fz0 := frozB hb z0 fz0; replace z0 := cellB hb z0
      replace fz1 := frozB hb z1 fz1; replace z1 := cellB hb z1
      replace fz2 := frozB hb z2 fz2; replace z2 := cellB hb z2
      replace fz3 := frozB hb z3 fz3; replace z3 := cellB hb z3
      replace fz4 := frozB hb z4 fz4; replace z4 := cellB hb z4
      replace fz5 := frozB hb z5 fz5; replace z5 := cellB hb z5
      replace fz6 := frozB hb z6 fz6; replace z6 := cellB hb z6
      replace fz7 := frozB hb z7 fz7; replace z7 := cellB hb z7
      replace fz8 := frozB hb z8 fz8; replace z8 := cellB hb z8
      replace fz9 := frozB hb z9 fz9; replace z9 := cellB hb z9
      replace fz10 := frozB hb z10 fz10; replace z10 := cellB hb z10
      replace fz11 := frozB hb z11 fz11; replace z11 := cellB hb z11
      replace sA := S.onto sA hb
      replace sB := S.onto sB hb
      replace s5 := S.onto s5 hb
      replace s6 := S.onto s6 hb
      replace hon := Onto.to hon hb
      clear hb s5 s6 f7 f8
      go_upto_region 22 with fail
      rw [show ((((((((((((w14.setCell ⟨Bz, 0, none⟩ (.int .i64 (Fc (kk + 1)).epoch)).setCell ⟨Bz, 1, none⟩ (.int .i64 (Fc (kk + 1)).doing)).setCell ⟨Bz, 2, none⟩ (.int .i64 (Fc (kk + 1)).e.kind)).setCell ⟨Bz, 3, none⟩ (.int .i64 (Fc (kk + 1)).e.job)).setCell ⟨Bz, 4, none⟩ (.int .i64 (Fc (kk + 1)).e.every)).setCell ⟨Bz, 5, none⟩ (.int .i64 (Fc (kk + 1)).e.time)).setCell ⟨Bz, 6, none⟩ (.int .i64 (Fc (kk + 1)).e.client)).setCell ⟨Bz, 7, none⟩ (.int .i64 (Fc (kk + 1)).at_)).setCell ⟨Bz, 8, none⟩ (.int .i64 (Fc (kk + 1)).link)).setCell ⟨Bz, 9, none⟩ (.int .i64 (Fc (kk + 1)).played)).setCell ⟨Bz, 10, none⟩ (.slice A7 n7 k7)).setCell ⟨Bz, 11, none⟩ (.slice A8 n8 k8)) = (w14.setCells Bz 0 [.int .i64 (Fc (kk + 1)).epoch, .int .i64 (Fc (kk + 1)).doing, .int .i64 (Fc (kk + 1)).e.kind, .int .i64 (Fc (kk + 1)).e.job, .int .i64 (Fc (kk + 1)).e.every, .int .i64 (Fc (kk + 1)).e.time, .int .i64 (Fc (kk + 1)).e.client, .int .i64 (Fc (kk + 1)).at_, .int .i64 (Fc (kk + 1)).link, .int .i64 (Fc (kk + 1)).played, .slice A7 n7 k7, .slice A8 n8 k8]) from rfl]
      have F0 : ∀ (j : Nat) vv, ([.int .i64 (Fc (kk + 1)).epoch, .int .i64 (Fc (kk + 1)).doing, .int .i64 (Fc (kk + 1)).e.kind, .int .i64 (Fc (kk + 1)).e.job, .int .i64 (Fc (kk + 1)).e.every, .int .i64 (Fc (kk + 1)).e.time, .int .i64 (Fc (kk + 1)).e.client, .int .i64 (Fc (kk + 1)).at_, .int .i64 (Fc (kk + 1)).link, .int .i64 (Fc (kk + 1)).played, .slice A7 n7 k7, .slice A8 n8 k8] : List Value)[j]? = some vv → (w14.setCells Bz 0 [.int .i64 (Fc (kk + 1)).epoch, .int .i64 (Fc (kk + 1)).doing, .int .i64 (Fc (kk + 1)).e.kind, .int .i64 (Fc (kk + 1)).e.job, .int .i64 (Fc (kk + 1)).e.every, .int .i64 (Fc (kk + 1)).e.time, .int .i64 (Fc (kk + 1)).e.client, .int .i64 (Fc (kk + 1)).at_, .int .i64 (Fc (kk + 1)).link, .int .i64 (Fc (kk + 1)).played, .slice A7 n7 k7, .slice A8 n8 k8]).cell? ⟨Bz, j, none⟩ = some vv := fun j vv hv => put_in (w := w14) (b := Bz) (vs := [.int .i64 (Fc (kk + 1)).epoch, .int .i64 (Fc (kk + 1)).doing, .int .i64 (Fc (kk + 1)).e.kind, .int .i64 (Fc (kk + 1)).e.job, .int .i64 (Fc (kk + 1)).e.every, .int .i64 (Fc (kk + 1)).e.time, .int .i64 (Fc (kk + 1)).e.client, .int .i64 (Fc (kk + 1)).at_, .int .i64 (Fc (kk + 1)).link, .int .i64 (Fc (kk + 1)).played, .slice A7 n7 k7, .slice A8 n8 k8]) (there12 z0 z1 z2 z3 z4 z5 z6 z7 z8 z9 z10 z11) hv
      replace hon : Onto w (w14.setCells Bz 0 [.int .i64 (Fc (kk + 1)).epoch, .int .i64 (Fc (kk + 1)).doing, .int .i64 (Fc (kk + 1)).e.kind, .int .i64 (Fc (kk + 1)).e.job, .int .i64 (Fc (kk + 1)).e.every, .int .i64 (Fc (kk + 1)).e.time, .int .i64 (Fc (kk + 1)).e.client, .int .i64 (Fc (kk + 1)).at_, .int .i64 (Fc (kk + 1)).link, .int .i64 (Fc (kk + 1)).played, .slice A7 n7 k7, .slice A8 n8 k8]) := put_onto (by omega) hon
      replace fc0 : (w14.setCells Bz 0 [.int .i64 (Fc (kk + 1)).epoch, .int .i64 (Fc (kk + 1)).doing, .int .i64 (Fc (kk + 1)).e.kind, .int .i64 (Fc (kk + 1)).e.job, .int .i64 (Fc (kk + 1)).e.every, .int .i64 (Fc (kk + 1)).e.time, .int .i64 (Fc (kk + 1)).e.client, .int .i64 (Fc (kk + 1)).at_, .int .i64 (Fc (kk + 1)).link, .int .i64 (Fc (kk + 1)).played, .slice A7 n7 k7, .slice A8 n8 k8]).frozen? ⟨w.heap.size, 0, none⟩ = false := (World.frozen?_setCells _ _ _ _ _).trans fc0
      replace c0 : (w14.setCells Bz 0 [.int .i64 (Fc (kk + 1)).epoch, .int .i64 (Fc (kk + 1)).doing, .int .i64 (Fc (kk + 1)).e.kind, .int .i64 (Fc (kk + 1)).e.job, .int .i64 (Fc (kk + 1)).e.every, .int .i64 (Fc (kk + 1)).e.time, .int .i64 (Fc (kk + 1)).e.client, .int .i64 (Fc (kk + 1)).at_, .int .i64 (Fc (kk + 1)).link, .int .i64 (Fc (kk + 1)).played, .slice A7 n7 k7, .slice A8 n8 k8]).cell? ⟨w.heap.size, 0, none⟩ = some (.int .i64 ep) := (put_out (by simp only; omega)).trans c0
      replace fc1 : (w14.setCells Bz 0 [.int .i64 (Fc (kk + 1)).epoch, .int .i64 (Fc (kk + 1)).doing, .int .i64 (Fc (kk + 1)).e.kind, .int .i64 (Fc (kk + 1)).e.job, .int .i64 (Fc (kk + 1)).e.every, .int .i64 (Fc (kk + 1)).e.time, .int .i64 (Fc (kk + 1)).e.client, .int .i64 (Fc (kk + 1)).at_, .int .i64 (Fc (kk + 1)).link, .int .i64 (Fc (kk + 1)).played, .slice A7 n7 k7, .slice A8 n8 k8]).frozen? ⟨w.heap.size, 1, none⟩ = false := (World.frozen?_setCells _ _ _ _ _).trans fc1
      replace c1 : (w14.setCells Bz 0 [.int .i64 (Fc (kk + 1)).epoch, .int .i64 (Fc (kk + 1)).doing, .int .i64 (Fc (kk + 1)).e.kind, .int .i64 (Fc (kk + 1)).e.job, .int .i64 (Fc (kk + 1)).e.every, .int .i64 (Fc (kk + 1)).e.time, .int .i64 (Fc (kk + 1)).e.client, .int .i64 (Fc (kk + 1)).at_, .int .i64 (Fc (kk + 1)).link, .int .i64 (Fc (kk + 1)).played, .slice A7 n7 k7, .slice A8 n8 k8]).cell? ⟨w.heap.size, 1, none⟩ = some (.int .i64 0) := (put_out (by simp only; omega)).trans c1
      replace fc2 : (w14.setCells Bz 0 [.int .i64 (Fc (kk + 1)).epoch, .int .i64 (Fc (kk + 1)).doing, .int .i64 (Fc (kk + 1)).e.kind, .int .i64 (Fc (kk + 1)).e.job, .int .i64 (Fc (kk + 1)).e.every, .int .i64 (Fc (kk + 1)).e.time, .int .i64 (Fc (kk + 1)).e.client, .int .i64 (Fc (kk + 1)).at_, .int .i64 (Fc (kk + 1)).link, .int .i64 (Fc (kk + 1)).played, .slice A7 n7 k7, .slice A8 n8 k8]).frozen? ⟨w.heap.size, 2, none⟩ = false := (World.frozen?_setCells _ _ _ _ _).trans fc2
      replace c2 : (w14.setCells Bz 0 [.int .i64 (Fc (kk + 1)).epoch, .int .i64 (Fc (kk + 1)).doing, .int .i64 (Fc (kk + 1)).e.kind, .int .i64 (Fc (kk + 1)).e.job, .int .i64 (Fc (kk + 1)).e.every, .int .i64 (Fc (kk + 1)).e.time, .int .i64 (Fc (kk + 1)).e.client, .int .i64 (Fc (kk + 1)).at_, .int .i64 (Fc (kk + 1)).link, .int .i64 (Fc (kk + 1)).played, .slice A7 n7 k7, .slice A8 n8 k8]).cell? ⟨w.heap.size, 2, none⟩ = some (.int .i64 0) := (put_out (by simp only; omega)).trans c2
      replace fc3 : (w14.setCells Bz 0 [.int .i64 (Fc (kk + 1)).epoch, .int .i64 (Fc (kk + 1)).doing, .int .i64 (Fc (kk + 1)).e.kind, .int .i64 (Fc (kk + 1)).e.job, .int .i64 (Fc (kk + 1)).e.every, .int .i64 (Fc (kk + 1)).e.time, .int .i64 (Fc (kk + 1)).e.client, .int .i64 (Fc (kk + 1)).at_, .int .i64 (Fc (kk + 1)).link, .int .i64 (Fc (kk + 1)).played, .slice A7 n7 k7, .slice A8 n8 k8]).frozen? ⟨w.heap.size, 3, none⟩ = false := (World.frozen?_setCells _ _ _ _ _).trans fc3
      replace c3 : (w14.setCells Bz 0 [.int .i64 (Fc (kk + 1)).epoch, .int .i64 (Fc (kk + 1)).doing, .int .i64 (Fc (kk + 1)).e.kind, .int .i64 (Fc (kk + 1)).e.job, .int .i64 (Fc (kk + 1)).e.every, .int .i64 (Fc (kk + 1)).e.time, .int .i64 (Fc (kk + 1)).e.client, .int .i64 (Fc (kk + 1)).at_, .int .i64 (Fc (kk + 1)).link, .int .i64 (Fc (kk + 1)).played, .slice A7 n7 k7, .slice A8 n8 k8]).cell? ⟨w.heap.size, 3, none⟩ = some (.int .i64 0) := (put_out (by simp only; omega)).trans c3
      replace fc4 : (w14.setCells Bz 0 [.int .i64 (Fc (kk + 1)).epoch, .int .i64 (Fc (kk + 1)).doing, .int .i64 (Fc (kk + 1)).e.kind, .int .i64 (Fc (kk + 1)).e.job, .int .i64 (Fc (kk + 1)).e.every, .int .i64 (Fc (kk + 1)).e.time, .int .i64 (Fc (kk + 1)).e.client, .int .i64 (Fc (kk + 1)).at_, .int .i64 (Fc (kk + 1)).link, .int .i64 (Fc (kk + 1)).played, .slice A7 n7 k7, .slice A8 n8 k8]).frozen? ⟨w.heap.size, 4, none⟩ = false := (World.frozen?_setCells _ _ _ _ _).trans fc4
      replace c4 : (w14.setCells Bz 0 [.int .i64 (Fc (kk + 1)).epoch, .int .i64 (Fc (kk + 1)).doing, .int .i64 (Fc (kk + 1)).e.kind, .int .i64 (Fc (kk + 1)).e.job, .int .i64 (Fc (kk + 1)).e.every, .int .i64 (Fc (kk + 1)).e.time, .int .i64 (Fc (kk + 1)).e.client, .int .i64 (Fc (kk + 1)).at_, .int .i64 (Fc (kk + 1)).link, .int .i64 (Fc (kk + 1)).played, .slice A7 n7 k7, .slice A8 n8 k8]).cell? ⟨w.heap.size, 4, none⟩ = some (.int .i64 0) := (put_out (by simp only; omega)).trans c4
      replace fc5 : (w14.setCells Bz 0 [.int .i64 (Fc (kk + 1)).epoch, .int .i64 (Fc (kk + 1)).doing, .int .i64 (Fc (kk + 1)).e.kind, .int .i64 (Fc (kk + 1)).e.job, .int .i64 (Fc (kk + 1)).e.every, .int .i64 (Fc (kk + 1)).e.time, .int .i64 (Fc (kk + 1)).e.client, .int .i64 (Fc (kk + 1)).at_, .int .i64 (Fc (kk + 1)).link, .int .i64 (Fc (kk + 1)).played, .slice A7 n7 k7, .slice A8 n8 k8]).frozen? ⟨w.heap.size, 5, none⟩ = false := (World.frozen?_setCells _ _ _ _ _).trans fc5
      replace c5 : (w14.setCells Bz 0 [.int .i64 (Fc (kk + 1)).epoch, .int .i64 (Fc (kk + 1)).doing, .int .i64 (Fc (kk + 1)).e.kind, .int .i64 (Fc (kk + 1)).e.job, .int .i64 (Fc (kk + 1)).e.every, .int .i64 (Fc (kk + 1)).e.time, .int .i64 (Fc (kk + 1)).e.client, .int .i64 (Fc (kk + 1)).at_, .int .i64 (Fc (kk + 1)).link, .int .i64 (Fc (kk + 1)).played, .slice A7 n7 k7, .slice A8 n8 k8]).cell? ⟨w.heap.size, 5, none⟩ = some (.int .i64 0) := (put_out (by simp only; omega)).trans c5
      replace fc6 : (w14.setCells Bz 0 [.int .i64 (Fc (kk + 1)).epoch, .int .i64 (Fc (kk + 1)).doing, .int .i64 (Fc (kk + 1)).e.kind, .int .i64 (Fc (kk + 1)).e.job, .int .i64 (Fc (kk + 1)).e.every, .int .i64 (Fc (kk + 1)).e.time, .int .i64 (Fc (kk + 1)).e.client, .int .i64 (Fc (kk + 1)).at_, .int .i64 (Fc (kk + 1)).link, .int .i64 (Fc (kk + 1)).played, .slice A7 n7 k7, .slice A8 n8 k8]).frozen? ⟨w.heap.size, 6, none⟩ = false := (World.frozen?_setCells _ _ _ _ _).trans fc6
      replace c6 : (w14.setCells Bz 0 [.int .i64 (Fc (kk + 1)).epoch, .int .i64 (Fc (kk + 1)).doing, .int .i64 (Fc (kk + 1)).e.kind, .int .i64 (Fc (kk + 1)).e.job, .int .i64 (Fc (kk + 1)).e.every, .int .i64 (Fc (kk + 1)).e.time, .int .i64 (Fc (kk + 1)).e.client, .int .i64 (Fc (kk + 1)).at_, .int .i64 (Fc (kk + 1)).link, .int .i64 (Fc (kk + 1)).played, .slice A7 n7 k7, .slice A8 n8 k8]).cell? ⟨w.heap.size, 6, none⟩ = some (.int .i64 0) := (put_out (by simp only; omega)).trans c6
      replace fc7 : (w14.setCells Bz 0 [.int .i64 (Fc (kk + 1)).epoch, .int .i64 (Fc (kk + 1)).doing, .int .i64 (Fc (kk + 1)).e.kind, .int .i64 (Fc (kk + 1)).e.job, .int .i64 (Fc (kk + 1)).e.every, .int .i64 (Fc (kk + 1)).e.time, .int .i64 (Fc (kk + 1)).e.client, .int .i64 (Fc (kk + 1)).at_, .int .i64 (Fc (kk + 1)).link, .int .i64 (Fc (kk + 1)).played, .slice A7 n7 k7, .slice A8 n8 k8]).frozen? ⟨w.heap.size, 7, none⟩ = false := (World.frozen?_setCells _ _ _ _ _).trans fc7
      replace c7 : (w14.setCells Bz 0 [.int .i64 (Fc (kk + 1)).epoch, .int .i64 (Fc (kk + 1)).doing, .int .i64 (Fc (kk + 1)).e.kind, .int .i64 (Fc (kk + 1)).e.job, .int .i64 (Fc (kk + 1)).e.every, .int .i64 (Fc (kk + 1)).e.time, .int .i64 (Fc (kk + 1)).e.client, .int .i64 (Fc (kk + 1)).at_, .int .i64 (Fc (kk + 1)).link, .int .i64 (Fc (kk + 1)).played, .slice A7 n7 k7, .slice A8 n8 k8]).cell? ⟨w.heap.size, 7, none⟩ = some (.int .i64 0) := (put_out (by simp only; omega)).trans c7
      replace fc8 : (w14.setCells Bz 0 [.int .i64 (Fc (kk + 1)).epoch, .int .i64 (Fc (kk + 1)).doing, .int .i64 (Fc (kk + 1)).e.kind, .int .i64 (Fc (kk + 1)).e.job, .int .i64 (Fc (kk + 1)).e.every, .int .i64 (Fc (kk + 1)).e.time, .int .i64 (Fc (kk + 1)).e.client, .int .i64 (Fc (kk + 1)).at_, .int .i64 (Fc (kk + 1)).link, .int .i64 (Fc (kk + 1)).played, .slice A7 n7 k7, .slice A8 n8 k8]).frozen? ⟨w.heap.size, 8, none⟩ = false := (World.frozen?_setCells _ _ _ _ _).trans fc8
      replace c8 : (w14.setCells Bz 0 [.int .i64 (Fc (kk + 1)).epoch, .int .i64 (Fc (kk + 1)).doing, .int .i64 (Fc (kk + 1)).e.kind, .int .i64 (Fc (kk + 1)).e.job, .int .i64 (Fc (kk + 1)).e.every, .int .i64 (Fc (kk + 1)).e.time, .int .i64 (Fc (kk + 1)).e.client, .int .i64 (Fc (kk + 1)).at_, .int .i64 (Fc (kk + 1)).link, .int .i64 (Fc (kk + 1)).played, .slice A7 n7 k7, .slice A8 n8 k8]).cell? ⟨w.heap.size, 8, none⟩ = some (.int .i64 0) := (put_out (by simp only; omega)).trans c8
      replace fc9 : (w14.setCells Bz 0 [.int .i64 (Fc (kk + 1)).epoch, .int .i64 (Fc (kk + 1)).doing, .int .i64 (Fc (kk + 1)).e.kind, .int .i64 (Fc (kk + 1)).e.job, .int .i64 (Fc (kk + 1)).e.every, .int .i64 (Fc (kk + 1)).e.time, .int .i64 (Fc (kk + 1)).e.client, .int .i64 (Fc (kk + 1)).at_, .int .i64 (Fc (kk + 1)).link, .int .i64 (Fc (kk + 1)).played, .slice A7 n7 k7, .slice A8 n8 k8]).frozen? ⟨w.heap.size, 9, none⟩ = false := (World.frozen?_setCells _ _ _ _ _).trans fc9
      replace c9 : (w14.setCells Bz 0 [.int .i64 (Fc (kk + 1)).epoch, .int .i64 (Fc (kk + 1)).doing, .int .i64 (Fc (kk + 1)).e.kind, .int .i64 (Fc (kk + 1)).e.job, .int .i64 (Fc (kk + 1)).e.every, .int .i64 (Fc (kk + 1)).e.time, .int .i64 (Fc (kk + 1)).e.client, .int .i64 (Fc (kk + 1)).at_, .int .i64 (Fc (kk + 1)).link, .int .i64 (Fc (kk + 1)).played, .slice A7 n7 k7, .slice A8 n8 k8]).cell? ⟨w.heap.size, 9, none⟩ = some (.int .i64 pl) := (put_out (by simp only; omega)).trans c9
      replace fc10 : (w14.setCells Bz 0 [.int .i64 (Fc (kk + 1)).epoch, .int .i64 (Fc (kk + 1)).doing, .int .i64 (Fc (kk + 1)).e.kind, .int .i64 (Fc (kk + 1)).e.job, .int .i64 (Fc (kk + 1)).e.every, .int .i64 (Fc (kk + 1)).e.time, .int .i64 (Fc (kk + 1)).e.client, .int .i64 (Fc (kk + 1)).at_, .int .i64 (Fc (kk + 1)).link, .int .i64 (Fc (kk + 1)).played, .slice A7 n7 k7, .slice A8 n8 k8]).frozen? ⟨w.heap.size, 10, none⟩ = false := (World.frozen?_setCells _ _ _ _ _).trans fc10
      replace c10 : (w14.setCells Bz 0 [.int .i64 (Fc (kk + 1)).epoch, .int .i64 (Fc (kk + 1)).doing, .int .i64 (Fc (kk + 1)).e.kind, .int .i64 (Fc (kk + 1)).e.job, .int .i64 (Fc (kk + 1)).e.every, .int .i64 (Fc (kk + 1)).e.time, .int .i64 (Fc (kk + 1)).e.client, .int .i64 (Fc (kk + 1)).at_, .int .i64 (Fc (kk + 1)).link, .int .i64 (Fc (kk + 1)).played, .slice A7 n7 k7, .slice A8 n8 k8]).cell? ⟨w.heap.size, 10, none⟩ = some (.slice A n k) := (put_out (by simp only; omega)).trans c10
      replace fc11 : (w14.setCells Bz 0 [.int .i64 (Fc (kk + 1)).epoch, .int .i64 (Fc (kk + 1)).doing, .int .i64 (Fc (kk + 1)).e.kind, .int .i64 (Fc (kk + 1)).e.job, .int .i64 (Fc (kk + 1)).e.every, .int .i64 (Fc (kk + 1)).e.time, .int .i64 (Fc (kk + 1)).e.client, .int .i64 (Fc (kk + 1)).at_, .int .i64 (Fc (kk + 1)).link, .int .i64 (Fc (kk + 1)).played, .slice A7 n7 k7, .slice A8 n8 k8]).frozen? ⟨w.heap.size, 11, none⟩ = false := (World.frozen?_setCells _ _ _ _ _).trans fc11
      replace c11 : (w14.setCells Bz 0 [.int .i64 (Fc (kk + 1)).epoch, .int .i64 (Fc (kk + 1)).doing, .int .i64 (Fc (kk + 1)).e.kind, .int .i64 (Fc (kk + 1)).e.job, .int .i64 (Fc (kk + 1)).e.every, .int .i64 (Fc (kk + 1)).e.time, .int .i64 (Fc (kk + 1)).e.client, .int .i64 (Fc (kk + 1)).at_, .int .i64 (Fc (kk + 1)).link, .int .i64 (Fc (kk + 1)).played, .slice A7 n7 k7, .slice A8 n8 k8]).cell? ⟨w.heap.size, 11, none⟩ = some (.slice A' m d) := (put_out (by simp only; omega)).trans c11
      replace e0 : (w14.setCells Bz 0 [.int .i64 (Fc (kk + 1)).epoch, .int .i64 (Fc (kk + 1)).doing, .int .i64 (Fc (kk + 1)).e.kind, .int .i64 (Fc (kk + 1)).e.job, .int .i64 (Fc (kk + 1)).e.every, .int .i64 (Fc (kk + 1)).e.time, .int .i64 (Fc (kk + 1)).e.client, .int .i64 (Fc (kk + 1)).at_, .int .i64 (Fc (kk + 1)).link, .int .i64 (Fc (kk + 1)).played, .slice A7 n7 k7, .slice A8 n8 k8]).cell? ⟨w.heap.size + 1, 0, none⟩ = some (.int .i64 x.kind) := (put_out (by simp only; omega)).trans e0
      replace e1 : (w14.setCells Bz 0 [.int .i64 (Fc (kk + 1)).epoch, .int .i64 (Fc (kk + 1)).doing, .int .i64 (Fc (kk + 1)).e.kind, .int .i64 (Fc (kk + 1)).e.job, .int .i64 (Fc (kk + 1)).e.every, .int .i64 (Fc (kk + 1)).e.time, .int .i64 (Fc (kk + 1)).e.client, .int .i64 (Fc (kk + 1)).at_, .int .i64 (Fc (kk + 1)).link, .int .i64 (Fc (kk + 1)).played, .slice A7 n7 k7, .slice A8 n8 k8]).cell? ⟨w.heap.size + 1, 1, none⟩ = some (.int .i64 x.job) := (put_out (by simp only; omega)).trans e1
      replace e2 : (w14.setCells Bz 0 [.int .i64 (Fc (kk + 1)).epoch, .int .i64 (Fc (kk + 1)).doing, .int .i64 (Fc (kk + 1)).e.kind, .int .i64 (Fc (kk + 1)).e.job, .int .i64 (Fc (kk + 1)).e.every, .int .i64 (Fc (kk + 1)).e.time, .int .i64 (Fc (kk + 1)).e.client, .int .i64 (Fc (kk + 1)).at_, .int .i64 (Fc (kk + 1)).link, .int .i64 (Fc (kk + 1)).played, .slice A7 n7 k7, .slice A8 n8 k8]).cell? ⟨w.heap.size + 1, 2, none⟩ = some (.int .i64 x.every) := (put_out (by simp only; omega)).trans e2
      replace e3 : (w14.setCells Bz 0 [.int .i64 (Fc (kk + 1)).epoch, .int .i64 (Fc (kk + 1)).doing, .int .i64 (Fc (kk + 1)).e.kind, .int .i64 (Fc (kk + 1)).e.job, .int .i64 (Fc (kk + 1)).e.every, .int .i64 (Fc (kk + 1)).e.time, .int .i64 (Fc (kk + 1)).e.client, .int .i64 (Fc (kk + 1)).at_, .int .i64 (Fc (kk + 1)).link, .int .i64 (Fc (kk + 1)).played, .slice A7 n7 k7, .slice A8 n8 k8]).cell? ⟨w.heap.size + 1, 3, none⟩ = some (.int .i64 x.time) := (put_out (by simp only; omega)).trans e3
      replace e4 : (w14.setCells Bz 0 [.int .i64 (Fc (kk + 1)).epoch, .int .i64 (Fc (kk + 1)).doing, .int .i64 (Fc (kk + 1)).e.kind, .int .i64 (Fc (kk + 1)).e.job, .int .i64 (Fc (kk + 1)).e.every, .int .i64 (Fc (kk + 1)).e.time, .int .i64 (Fc (kk + 1)).e.client, .int .i64 (Fc (kk + 1)).at_, .int .i64 (Fc (kk + 1)).link, .int .i64 (Fc (kk + 1)).played, .slice A7 n7 k7, .slice A8 n8 k8]).cell? ⟨w.heap.size + 1, 4, none⟩ = some (.int .i64 x.client) := (put_out (by simp only; omega)).trans e4
      replace fz0 : (w14.setCells Bz 0 [.int .i64 (Fc (kk + 1)).epoch, .int .i64 (Fc (kk + 1)).doing, .int .i64 (Fc (kk + 1)).e.kind, .int .i64 (Fc (kk + 1)).e.job, .int .i64 (Fc (kk + 1)).e.every, .int .i64 (Fc (kk + 1)).e.time, .int .i64 (Fc (kk + 1)).e.client, .int .i64 (Fc (kk + 1)).at_, .int .i64 (Fc (kk + 1)).link, .int .i64 (Fc (kk + 1)).played, .slice A7 n7 k7, .slice A8 n8 k8]).frozen? ⟨Bz, 0, none⟩ = false := (World.frozen?_setCells _ _ _ _ _).trans fz0
      replace fz1 : (w14.setCells Bz 0 [.int .i64 (Fc (kk + 1)).epoch, .int .i64 (Fc (kk + 1)).doing, .int .i64 (Fc (kk + 1)).e.kind, .int .i64 (Fc (kk + 1)).e.job, .int .i64 (Fc (kk + 1)).e.every, .int .i64 (Fc (kk + 1)).e.time, .int .i64 (Fc (kk + 1)).e.client, .int .i64 (Fc (kk + 1)).at_, .int .i64 (Fc (kk + 1)).link, .int .i64 (Fc (kk + 1)).played, .slice A7 n7 k7, .slice A8 n8 k8]).frozen? ⟨Bz, 1, none⟩ = false := (World.frozen?_setCells _ _ _ _ _).trans fz1
      replace fz2 : (w14.setCells Bz 0 [.int .i64 (Fc (kk + 1)).epoch, .int .i64 (Fc (kk + 1)).doing, .int .i64 (Fc (kk + 1)).e.kind, .int .i64 (Fc (kk + 1)).e.job, .int .i64 (Fc (kk + 1)).e.every, .int .i64 (Fc (kk + 1)).e.time, .int .i64 (Fc (kk + 1)).e.client, .int .i64 (Fc (kk + 1)).at_, .int .i64 (Fc (kk + 1)).link, .int .i64 (Fc (kk + 1)).played, .slice A7 n7 k7, .slice A8 n8 k8]).frozen? ⟨Bz, 2, none⟩ = false := (World.frozen?_setCells _ _ _ _ _).trans fz2
      replace fz3 : (w14.setCells Bz 0 [.int .i64 (Fc (kk + 1)).epoch, .int .i64 (Fc (kk + 1)).doing, .int .i64 (Fc (kk + 1)).e.kind, .int .i64 (Fc (kk + 1)).e.job, .int .i64 (Fc (kk + 1)).e.every, .int .i64 (Fc (kk + 1)).e.time, .int .i64 (Fc (kk + 1)).e.client, .int .i64 (Fc (kk + 1)).at_, .int .i64 (Fc (kk + 1)).link, .int .i64 (Fc (kk + 1)).played, .slice A7 n7 k7, .slice A8 n8 k8]).frozen? ⟨Bz, 3, none⟩ = false := (World.frozen?_setCells _ _ _ _ _).trans fz3
      replace fz4 : (w14.setCells Bz 0 [.int .i64 (Fc (kk + 1)).epoch, .int .i64 (Fc (kk + 1)).doing, .int .i64 (Fc (kk + 1)).e.kind, .int .i64 (Fc (kk + 1)).e.job, .int .i64 (Fc (kk + 1)).e.every, .int .i64 (Fc (kk + 1)).e.time, .int .i64 (Fc (kk + 1)).e.client, .int .i64 (Fc (kk + 1)).at_, .int .i64 (Fc (kk + 1)).link, .int .i64 (Fc (kk + 1)).played, .slice A7 n7 k7, .slice A8 n8 k8]).frozen? ⟨Bz, 4, none⟩ = false := (World.frozen?_setCells _ _ _ _ _).trans fz4
      replace fz5 : (w14.setCells Bz 0 [.int .i64 (Fc (kk + 1)).epoch, .int .i64 (Fc (kk + 1)).doing, .int .i64 (Fc (kk + 1)).e.kind, .int .i64 (Fc (kk + 1)).e.job, .int .i64 (Fc (kk + 1)).e.every, .int .i64 (Fc (kk + 1)).e.time, .int .i64 (Fc (kk + 1)).e.client, .int .i64 (Fc (kk + 1)).at_, .int .i64 (Fc (kk + 1)).link, .int .i64 (Fc (kk + 1)).played, .slice A7 n7 k7, .slice A8 n8 k8]).frozen? ⟨Bz, 5, none⟩ = false := (World.frozen?_setCells _ _ _ _ _).trans fz5
      replace fz6 : (w14.setCells Bz 0 [.int .i64 (Fc (kk + 1)).epoch, .int .i64 (Fc (kk + 1)).doing, .int .i64 (Fc (kk + 1)).e.kind, .int .i64 (Fc (kk + 1)).e.job, .int .i64 (Fc (kk + 1)).e.every, .int .i64 (Fc (kk + 1)).e.time, .int .i64 (Fc (kk + 1)).e.client, .int .i64 (Fc (kk + 1)).at_, .int .i64 (Fc (kk + 1)).link, .int .i64 (Fc (kk + 1)).played, .slice A7 n7 k7, .slice A8 n8 k8]).frozen? ⟨Bz, 6, none⟩ = false := (World.frozen?_setCells _ _ _ _ _).trans fz6
      replace fz7 : (w14.setCells Bz 0 [.int .i64 (Fc (kk + 1)).epoch, .int .i64 (Fc (kk + 1)).doing, .int .i64 (Fc (kk + 1)).e.kind, .int .i64 (Fc (kk + 1)).e.job, .int .i64 (Fc (kk + 1)).e.every, .int .i64 (Fc (kk + 1)).e.time, .int .i64 (Fc (kk + 1)).e.client, .int .i64 (Fc (kk + 1)).at_, .int .i64 (Fc (kk + 1)).link, .int .i64 (Fc (kk + 1)).played, .slice A7 n7 k7, .slice A8 n8 k8]).frozen? ⟨Bz, 7, none⟩ = false := (World.frozen?_setCells _ _ _ _ _).trans fz7
      replace fz8 : (w14.setCells Bz 0 [.int .i64 (Fc (kk + 1)).epoch, .int .i64 (Fc (kk + 1)).doing, .int .i64 (Fc (kk + 1)).e.kind, .int .i64 (Fc (kk + 1)).e.job, .int .i64 (Fc (kk + 1)).e.every, .int .i64 (Fc (kk + 1)).e.time, .int .i64 (Fc (kk + 1)).e.client, .int .i64 (Fc (kk + 1)).at_, .int .i64 (Fc (kk + 1)).link, .int .i64 (Fc (kk + 1)).played, .slice A7 n7 k7, .slice A8 n8 k8]).frozen? ⟨Bz, 8, none⟩ = false := (World.frozen?_setCells _ _ _ _ _).trans fz8
      replace fz9 : (w14.setCells Bz 0 [.int .i64 (Fc (kk + 1)).epoch, .int .i64 (Fc (kk + 1)).doing, .int .i64 (Fc (kk + 1)).e.kind, .int .i64 (Fc (kk + 1)).e.job, .int .i64 (Fc (kk + 1)).e.every, .int .i64 (Fc (kk + 1)).e.time, .int .i64 (Fc (kk + 1)).e.client, .int .i64 (Fc (kk + 1)).at_, .int .i64 (Fc (kk + 1)).link, .int .i64 (Fc (kk + 1)).played, .slice A7 n7 k7, .slice A8 n8 k8]).frozen? ⟨Bz, 9, none⟩ = false := (World.frozen?_setCells _ _ _ _ _).trans fz9
      replace fz10 : (w14.setCells Bz 0 [.int .i64 (Fc (kk + 1)).epoch, .int .i64 (Fc (kk + 1)).doing, .int .i64 (Fc (kk + 1)).e.kind, .int .i64 (Fc (kk + 1)).e.job, .int .i64 (Fc (kk + 1)).e.every, .int .i64 (Fc (kk + 1)).e.time, .int .i64 (Fc (kk + 1)).e.client, .int .i64 (Fc (kk + 1)).at_, .int .i64 (Fc (kk + 1)).link, .int .i64 (Fc (kk + 1)).played, .slice A7 n7 k7, .slice A8 n8 k8]).frozen? ⟨Bz, 10, none⟩ = false := (World.frozen?_setCells _ _ _ _ _).trans fz10
      replace fz11 : (w14.setCells Bz 0 [.int .i64 (Fc (kk + 1)).epoch, .int .i64 (Fc (kk + 1)).doing, .int .i64 (Fc (kk + 1)).e.kind, .int .i64 (Fc (kk + 1)).e.job, .int .i64 (Fc (kk + 1)).e.every, .int .i64 (Fc (kk + 1)).e.time, .int .i64 (Fc (kk + 1)).e.client, .int .i64 (Fc (kk + 1)).at_, .int .i64 (Fc (kk + 1)).link, .int .i64 (Fc (kk + 1)).played, .slice A7 n7 k7, .slice A8 n8 k8]).frozen? ⟨Bz, 11, none⟩ = false := (World.frozen?_setCells _ _ _ _ _).trans fz11
      replace sA := put_S (vs := [.int .i64 (Fc (kk + 1)).epoch, .int .i64 (Fc (kk + 1)).doing, .int .i64 (Fc (kk + 1)).e.kind, .int .i64 (Fc (kk + 1)).e.job, .int .i64 (Fc (kk + 1)).e.every, .int .i64 (Fc (kk + 1)).e.time, .int .i64 (Fc (kk + 1)).e.client, .int .i64 (Fc (kk + 1)).at_, .int .i64 (Fc (kk + 1)).link, .int .i64 (Fc (kk + 1)).played, .slice A7 n7 k7, .slice A8 n8 k8]) (b := Bz) (o := 0) (w := w14) o5 sA
      replace sB := put_S (vs := [.int .i64 (Fc (kk + 1)).epoch, .int .i64 (Fc (kk + 1)).doing, .int .i64 (Fc (kk + 1)).e.kind, .int .i64 (Fc (kk + 1)).e.job, .int .i64 (Fc (kk + 1)).e.every, .int .i64 (Fc (kk + 1)).e.time, .int .i64 (Fc (kk + 1)).e.client, .int .i64 (Fc (kk + 1)).at_, .int .i64 (Fc (kk + 1)).link, .int .i64 (Fc (kk + 1)).played, .slice A7 n7 k7, .slice A8 n8 k8]) (b := Bz) (o := 0) (w := w14) o6 sB
      replace s7 := put_S (vs := [.int .i64 (Fc (kk + 1)).epoch, .int .i64 (Fc (kk + 1)).doing, .int .i64 (Fc (kk + 1)).e.kind, .int .i64 (Fc (kk + 1)).e.job, .int .i64 (Fc (kk + 1)).e.every, .int .i64 (Fc (kk + 1)).e.time, .int .i64 (Fc (kk + 1)).e.client, .int .i64 (Fc (kk + 1)).at_, .int .i64 (Fc (kk + 1)).link, .int .i64 (Fc (kk + 1)).played, .slice A7 n7 k7, .slice A8 n8 k8]) (b := Bz) (o := 0) (w := w14) o7 s7
      replace s8 := put_S (vs := [.int .i64 (Fc (kk + 1)).epoch, .int .i64 (Fc (kk + 1)).doing, .int .i64 (Fc (kk + 1)).e.kind, .int .i64 (Fc (kk + 1)).e.job, .int .i64 (Fc (kk + 1)).e.every, .int .i64 (Fc (kk + 1)).e.time, .int .i64 (Fc (kk + 1)).e.client, .int .i64 (Fc (kk + 1)).at_, .int .i64 (Fc (kk + 1)).link, .int .i64 (Fc (kk + 1)).played, .slice A7 n7 k7, .slice A8 n8 k8]) (b := Bz) (o := 0) (w := w14) o8 s8
      clear z0 z1 z2 z3 z4 z5 z6 z7 z8 z9 z10 z11
      generalize (w14.setCells Bz 0 [.int .i64 (Fc (kk + 1)).epoch, .int .i64 (Fc (kk + 1)).doing, .int .i64 (Fc (kk + 1)).e.kind, .int .i64 (Fc (kk + 1)).e.job, .int .i64 (Fc (kk + 1)).e.every, .int .i64 (Fc (kk + 1)).e.time, .int .i64 (Fc (kk + 1)).e.client, .int .i64 (Fc (kk + 1)).at_, .int .i64 (Fc (kk + 1)).link, .int .i64 (Fc (kk + 1)).played, .slice A7 n7 k7, .slice A8 n8 k8]) = w15 at *
      have z0 := F0 0 _ rfl
      have z1 := F0 1 _ rfl
      have z2 := F0 2 _ rfl
      have z3 := F0 3 _ rfl
      have z4 := F0 4 _ rfl
      have z5 := F0 5 _ rfl
      have z6 := F0 6 _ rfl
      have z7 := F0 7 _ rfl
      have z8 := F0 8 _ rfl
      have z9 := F0 9 _ rfl
      have z10 := F0 10 _ rfl
      have z11 := F0 11 _ rfl
      clear F0
      clear o5 o6 o7 o8
      go_wp2_with fail
      go_roundw
      case measure => simp [intOf] <;> omega
      case rel =>
        have hk9 := HLT.out
        exact ⟨kk + 1, A7, n7, k7, A8, n8, k8, by omega, rfl, by go_num, c0, fc0, c1, fc1, c2, fc2, c3, fc3, c4, fc4, c5, fc5, c6, fc6, c7, fc7, c8, fc8, c9, fc9, c10, fc10, c11, fc11, e0, e1, e2, e3, e4, z0, fz0, z1, fz1, z2, fz2, z3, fz3, z4, fz4, z5, fz5, z6, fz6, z7, fz7, z8, fz8, z9, fz9, z10, fz10, z11, fz11, sA, sB, s7, s8, hon⟩
    · have hk1 : decide ((kk : Int) < 2) = false := by simp; omega
      have hk1' : ¬ (kk : Int) < 2 := by omega
      have hk9 := HLT.out
      have hkk : kk = 2 := by omega
      have HL2 := Lib.hid hkk
      clear hl2 hkk hk9
      go_wp2_with fail
      go_roundw
      case measure => simp [intOf] <;> omega
      case rel =>
        refine ⟨3, A5, n5, k5, A6, n6, k6, by omega, rfl, by rw [HL2.out]; go_num, c0, fc0, c1, fc1, c2, fc2, c3, fc3, c4, fc4, c5, fc5, c6, fc6, c7, fc7, c8, fc8, c9, fc9, c10, fc10, c11, fc11, e0, e1, e2, e3, e4, ?_⟩
        have hz2 : Fc kk = Fc 3 := by rw [HL2.out, HF2.out]
        rw [← hz2]
        exact ⟨z0, fz0, z1, fz1, z2, fz2, z3, fz3, z4, fz4, z5, fz5, z6, fz6, z7, fz7, z8, fz8, z9, fz9, z10, fz10, z11, fz11, sA, sB, s5, s6, hon⟩
  · obtain rfl : kk = 3 := by omega
    clear hlt hk
    rw [HF3.out] at z0 z1 z2 z3 z4 z5 z6 z7 z8 z9
    dsimp only at z0 z1 z2 z3 z4 z5 z6 z7 z8 z9
    go_wp2_with fail
    refine Calls.mono (ClSame_calls ep 0 0 0 pl ep 0 0 0 pl ⟨0, 0, 0, 0, 0⟩ ⟨0, 0, 0, 0, 0⟩ A5 A6 A A' n5 k5 n6 k6 n k m d b b _ s5 s6 sA sB (by have h1 := s5.len; have h2 := sA.len; omega) (by have h1 := s6.len; have h2 := sB.len; omega)) ?_
    rintro e w12 ⟨rfl, hb⟩
    replace hon := Onto.to hon hb
    clear hb
    go_wp2_with fail
    go_ret
    exact ⟨by simp, hon⟩
end Go.Proofs.Ytbipmoehcmighaa
