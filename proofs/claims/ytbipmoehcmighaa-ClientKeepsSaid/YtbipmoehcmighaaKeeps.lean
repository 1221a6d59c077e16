/- The walk of the law ClientKeeps. -/
import Derived.Test.YtbipmoehcmighaaHeard
import Derived.Test.YtbipmoehcmighaaClient3
namespace Go.Proofs.Ytbipmoehcmighaa
set_option linter.unusedSimpArgs false
set_option linter.unusedVariables false
open Go.RowKit

theorem lt_cell {w : World} {b o : Nat} {v : Value} (h : w.cell? ⟨b, o, none⟩ = some v) : b < w.heap.size := World.block_lt_of_cell? w _ h
/-- What the client that fills is behind k + 1 units. -/
def keepF (ep pl pv : Int) (x : Entry) (b : Book) (k : Nat) : Cli := if k < 2 then ⟨ep, 2, x, pv, (k : Int) + 1, pl, b⟩ else ⟨ep, 0, ⟨0, 0, 0, 0, 0⟩, 0, 0, pl, b⟩
theorem keepF_ok {ep pl pv : Int} {x : Entry} {b : Book} (h : checkCl ⟨ep, 0, ⟨0, 0, 0, 0, 0⟩, 0, 0, pl, b⟩ = 0) (hx : checkE x = 0) (h0 : 0 ≤ pv) (h1 : pv < 60) (k : Nat) : checkCl (keepF ep pl pv x b k) = 0 := by
  unfold keepF
  split
  · exact writes_ok x _ h hx h0 h1 (by omega) (by omega)
  · exact h
theorem keepF_next {ep pl pv : Int} {x : Entry} {b : Book} (h : checkCl ⟨ep, 0, ⟨0, 0, 0, 0, 0⟩, 0, 0, pl, b⟩ = 0) (hx : checkE x = 0) (h0 : 0 ≤ pv) (h1 : pv < 60) {k : Nat} (hk : k < 2) : heardCl (keepF ep pl pv x b k) x = (keepF ep pl pv x b (k + 1), 0) := by
  have hc := keepF_ok h hx h0 h1 k
  unfold keepF at hc ⊢
  rw [if_pos hk] at hc ⊢
  rw [heardCl_next hc]
  by_cases hk1 : k + 1 < 2
  · rw [if_neg (by omega), if_pos hk1]; rfl
  · rw [if_pos (by omega), if_neg hk1]; rfl
theorem keepF_b {ep pl pv : Int} {x : Entry} {b : Book} (k : Nat) : (keepF ep pl pv x b k).b = b := by unfold keepF; split <;> rfl
theorem keepF_d {ep pl pv : Int} {x : Entry} {b : Book} {k : Nat} (hk : k < 3) : ((keepF ep pl pv x b k).doing == 0) = decide (k = 2) := by
  unfold keepF
  split
  · simp; omega
  · simp; omega

set_option maxHeartbeats 8000000 in
set_option maxRecDepth 100000 in
theorem Keeps_bad (ep dg at_ ln pl : Int) (y : Entry) (A A' : Option Addr) (n k m d : Nat) (b : Book) (place : Int) (x : Entry) (w : World) (sA : S w 3 A n (b.jobs.map encJ)) (sB : S w 3 A' m (b.rung.map encR)) (hck : checkCl ⟨ep, dg, ⟨y.kind, y.job, y.every, y.time, y.client⟩, at_, ln, pl, b⟩ ≠ 0) (hln : n ≤ 9223372036854775807) (hlm : m ≤ 9223372036854775807) :
    Calls Try.prog 8 #[.agg #[.int .i64 ep, .int .i64 dg, .int .i64 y.kind, .int .i64 y.job, .int .i64 y.every, .int .i64 y.time, .int .i64 y.client, .int .i64 at_, .int .i64 ln, .int .i64 pl, .slice A n k, .slice A' m d], .int .i64 place, .agg #[.int .i64 x.kind, .int .i64 x.job, .int .i64 x.every, .int .i64 x.time, .int .i64 x.client]] w fun e w' => e = .returned (.bool true) ∧ Onto w w' := by
  have HLN := Lib.hid hln; have HLM := Lib.hid hlm
  clear hln hlm
  obtain ⟨q, hq⟩ : ∃ q, q = checkCl ⟨ep, dg, ⟨y.kind, y.job, y.every, y.time, y.client⟩, at_, ln, pl, b⟩ := ⟨_, rfl⟩
  rw [← hq] at hck
  have hd : (q != 0) = true := by simpa using hck
  have HQ := Lib.hid hq.symm
  clear hq hck
  have oA : ∀ z, w.heap.size ≤ z → OffN n z A := fun z hz => sA.offN hz
  have oB : ∀ z, w.heap.size ≤ z → OffN m z A' := fun z hz => sB.offN hz
  have OA := Lib.hid oA; have OB := Lib.hid oB
  clear oA oB
  have hp0 : 0 ≤ place % 60 := Int.emod_nonneg _ (by omega)
  have hp1 : place % 60 < 60 := Int.emod_lt_of_pos _ (by omega)
  go_enter Try.func8, Try.ntmps8
  go_upto_region 1 with fail
  have hon : Onto w ((w.alloc (Obj.cells #[.int .i64 ep, .int .i64 dg, .int .i64 y.kind, .int .i64 y.job, .int .i64 y.every, .int .i64 y.time, .int .i64 y.client, .int .i64 at_, .int .i64 ln, .int .i64 pl, .slice A n k, .slice A' m d] 56)).alloc (Obj.cells #[.int .i64 x.kind, .int .i64 x.job, .int .i64 x.every, .int .i64 x.time, .int .i64 x.client] 24)) := ((Onto.rfl' w).new _).new _
  replace sA := (sA.new (Obj.cells #[.int .i64 ep, .int .i64 dg, .int .i64 y.kind, .int .i64 y.job, .int .i64 y.every, .int .i64 y.time, .int .i64 y.client, .int .i64 at_, .int .i64 ln, .int .i64 pl, .slice A n k, .slice A' m d] 56)).new (Obj.cells #[.int .i64 x.kind, .int .i64 x.job, .int .i64 x.every, .int .i64 x.time, .int .i64 x.client] 24)
  replace sB := (sB.new (Obj.cells #[.int .i64 ep, .int .i64 dg, .int .i64 y.kind, .int .i64 y.job, .int .i64 y.every, .int .i64 y.time, .int .i64 y.client, .int .i64 at_, .int .i64 ln, .int .i64 pl, .slice A n k, .slice A' m d] 56)).new (Obj.cells #[.int .i64 x.kind, .int .i64 x.job, .int .i64 x.every, .int .i64 x.time, .int .i64 x.client] 24)
  have c0 : ((w.alloc (Obj.cells #[.int .i64 ep, .int .i64 dg, .int .i64 y.kind, .int .i64 y.job, .int .i64 y.every, .int .i64 y.time, .int .i64 y.client, .int .i64 at_, .int .i64 ln, .int .i64 pl, .slice A n k, .slice A' m d] 56)).alloc (Obj.cells #[.int .i64 x.kind, .int .i64 x.job, .int .i64 x.every, .int .i64 x.time, .int .i64 x.client] 24)).cell? ⟨w.heap.size, 0, none⟩ = some (.int .i64 ep) := by simp [go_sem]
  have fc0 : ((w.alloc (Obj.cells #[.int .i64 ep, .int .i64 dg, .int .i64 y.kind, .int .i64 y.job, .int .i64 y.every, .int .i64 y.time, .int .i64 y.client, .int .i64 at_, .int .i64 ln, .int .i64 pl, .slice A n k, .slice A' m d] 56)).alloc (Obj.cells #[.int .i64 x.kind, .int .i64 x.job, .int .i64 x.every, .int .i64 x.time, .int .i64 x.client] 24)).frozen? ⟨w.heap.size, 0, none⟩ = false := by simp [go_sem]
  have c1 : ((w.alloc (Obj.cells #[.int .i64 ep, .int .i64 dg, .int .i64 y.kind, .int .i64 y.job, .int .i64 y.every, .int .i64 y.time, .int .i64 y.client, .int .i64 at_, .int .i64 ln, .int .i64 pl, .slice A n k, .slice A' m d] 56)).alloc (Obj.cells #[.int .i64 x.kind, .int .i64 x.job, .int .i64 x.every, .int .i64 x.time, .int .i64 x.client] 24)).cell? ⟨w.heap.size, 1, none⟩ = some (.int .i64 dg) := by simp [go_sem]
  have fc1 : ((w.alloc (Obj.cells #[.int .i64 ep, .int .i64 dg, .int .i64 y.kind, .int .i64 y.job, .int .i64 y.every, .int .i64 y.time, .int .i64 y.client, .int .i64 at_, .int .i64 ln, .int .i64 pl, .slice A n k, .slice A' m d] 56)).alloc (Obj.cells #[.int .i64 x.kind, .int .i64 x.job, .int .i64 x.every, .int .i64 x.time, .int .i64 x.client] 24)).frozen? ⟨w.heap.size, 1, none⟩ = false := by simp [go_sem]
  have c2 : ((w.alloc (Obj.cells #[.int .i64 ep, .int .i64 dg, .int .i64 y.kind, .int .i64 y.job, .int .i64 y.every, .int .i64 y.time, .int .i64 y.client, .int .i64 at_, .int .i64 ln, .int .i64 pl, .slice A n k, .slice A' m d] 56)).alloc (Obj.cells #[.int .i64 x.kind, .int .i64 x.job, .int .i64 x.every, .int .i64 x.time, .int .i64 x.client] 24)).cell? ⟨w.heap.size, 2, none⟩ = some (.int .i64 y.kind) := by simp [go_sem]
  have fc2 : ((w.alloc (Obj.cells #[.int .i64 ep, .int .i64 dg, .int .i64 y.kind, .int .i64 y.job, .int .i64 y.every, .int .i64 y.time, .int .i64 y.client, .int .i64 at_, .int .i64 ln, .int .i64 pl, .slice A n k, .slice A' m d] 56)).alloc (Obj.cells #[.int .i64 x.kind, .int .i64 x.job, .int .i64 x.every, .int .i64 x.time, .int .i64 x.client] 24)).frozen? ⟨w.heap.size, 2, none⟩ = false := by simp [go_sem]
  have c3 : ((w.alloc (Obj.cells #[.int .i64 ep, .int .i64 dg, .int .i64 y.kind, .int .i64 y.job, .int .i64 y.every, .int .i64 y.time, .int .i64 y.client, .int .i64 at_, .int .i64 ln, .int .i64 pl, .slice A n k, .slice A' m d] 56)).alloc (Obj.cells #[.int .i64 x.kind, .int .i64 x.job, .int .i64 x.every, .int .i64 x.time, .int .i64 x.client] 24)).cell? ⟨w.heap.size, 3, none⟩ = some (.int .i64 y.job) := by simp [go_sem]
  have fc3 : ((w.alloc (Obj.cells #[.int .i64 ep, .int .i64 dg, .int .i64 y.kind, .int .i64 y.job, .int .i64 y.every, .int .i64 y.time, .int .i64 y.client, .int .i64 at_, .int .i64 ln, .int .i64 pl, .slice A n k, .slice A' m d] 56)).alloc (Obj.cells #[.int .i64 x.kind, .int .i64 x.job, .int .i64 x.every, .int .i64 x.time, .int .i64 x.client] 24)).frozen? ⟨w.heap.size, 3, none⟩ = false := by simp [go_sem]
  have c4 : ((w.alloc (Obj.cells #[.int .i64 ep, .int .i64 dg, .int .i64 y.kind, .int .i64 y.job, .int .i64 y.every, .int .i64 y.time, .int .i64 y.client, .int .i64 at_, .int .i64 ln, .int .i64 pl, .slice A n k, .slice A' m d] 56)).alloc (Obj.cells #[.int .i64 x.kind, .int .i64 x.job, .int .i64 x.every, .int .i64 x.time, .int .i64 x.client] 24)).cell? ⟨w.heap.size, 4, none⟩ = some (.int .i64 y.every) := by simp [go_sem]
  have fc4 : ((w.alloc (Obj.cells #[.int .i64 ep, .int .i64 dg, .int .i64 y.kind, .int .i64 y.job, .int .i64 y.every, .int .i64 y.time, .int .i64 y.client, .int .i64 at_, .int .i64 ln, .int .i64 pl, .slice A n k, .slice A' m d] 56)).alloc (Obj.cells #[.int .i64 x.kind, .int .i64 x.job, .int .i64 x.every, .int .i64 x.time, .int .i64 x.client] 24)).frozen? ⟨w.heap.size, 4, none⟩ = false := by simp [go_sem]
  have c5 : ((w.alloc (Obj.cells #[.int .i64 ep, .int .i64 dg, .int .i64 y.kind, .int .i64 y.job, .int .i64 y.every, .int .i64 y.time, .int .i64 y.client, .int .i64 at_, .int .i64 ln, .int .i64 pl, .slice A n k, .slice A' m d] 56)).alloc (Obj.cells #[.int .i64 x.kind, .int .i64 x.job, .int .i64 x.every, .int .i64 x.time, .int .i64 x.client] 24)).cell? ⟨w.heap.size, 5, none⟩ = some (.int .i64 y.time) := by simp [go_sem]
  have fc5 : ((w.alloc (Obj.cells #[.int .i64 ep, .int .i64 dg, .int .i64 y.kind, .int .i64 y.job, .int .i64 y.every, .int .i64 y.time, .int .i64 y.client, .int .i64 at_, .int .i64 ln, .int .i64 pl, .slice A n k, .slice A' m d] 56)).alloc (Obj.cells #[.int .i64 x.kind, .int .i64 x.job, .int .i64 x.every, .int .i64 x.time, .int .i64 x.client] 24)).frozen? ⟨w.heap.size, 5, none⟩ = false := by simp [go_sem]
  have c6 : ((w.alloc (Obj.cells #[.int .i64 ep, .int .i64 dg, .int .i64 y.kind, .int .i64 y.job, .int .i64 y.every, .int .i64 y.time, .int .i64 y.client, .int .i64 at_, .int .i64 ln, .int .i64 pl, .slice A n k, .slice A' m d] 56)).alloc (Obj.cells #[.int .i64 x.kind, .int .i64 x.job, .int .i64 x.every, .int .i64 x.time, .int .i64 x.client] 24)).cell? ⟨w.heap.size, 6, none⟩ = some (.int .i64 y.client) := by simp [go_sem]
  have fc6 : ((w.alloc (Obj.cells #[.int .i64 ep, .int .i64 dg, .int .i64 y.kind, .int .i64 y.job, .int .i64 y.every, .int .i64 y.time, .int .i64 y.client, .int .i64 at_, .int .i64 ln, .int .i64 pl, .slice A n k, .slice A' m d] 56)).alloc (Obj.cells #[.int .i64 x.kind, .int .i64 x.job, .int .i64 x.every, .int .i64 x.time, .int .i64 x.client] 24)).frozen? ⟨w.heap.size, 6, none⟩ = false := by simp [go_sem]
  have c7 : ((w.alloc (Obj.cells #[.int .i64 ep, .int .i64 dg, .int .i64 y.kind, .int .i64 y.job, .int .i64 y.every, .int .i64 y.time, .int .i64 y.client, .int .i64 at_, .int .i64 ln, .int .i64 pl, .slice A n k, .slice A' m d] 56)).alloc (Obj.cells #[.int .i64 x.kind, .int .i64 x.job, .int .i64 x.every, .int .i64 x.time, .int .i64 x.client] 24)).cell? ⟨w.heap.size, 7, none⟩ = some (.int .i64 at_) := by simp [go_sem]
  have fc7 : ((w.alloc (Obj.cells #[.int .i64 ep, .int .i64 dg, .int .i64 y.kind, .int .i64 y.job, .int .i64 y.every, .int .i64 y.time, .int .i64 y.client, .int .i64 at_, .int .i64 ln, .int .i64 pl, .slice A n k, .slice A' m d] 56)).alloc (Obj.cells #[.int .i64 x.kind, .int .i64 x.job, .int .i64 x.every, .int .i64 x.time, .int .i64 x.client] 24)).frozen? ⟨w.heap.size, 7, none⟩ = false := by simp [go_sem]
  have c8 : ((w.alloc (Obj.cells #[.int .i64 ep, .int .i64 dg, .int .i64 y.kind, .int .i64 y.job, .int .i64 y.every, .int .i64 y.time, .int .i64 y.client, .int .i64 at_, .int .i64 ln, .int .i64 pl, .slice A n k, .slice A' m d] 56)).alloc (Obj.cells #[.int .i64 x.kind, .int .i64 x.job, .int .i64 x.every, .int .i64 x.time, .int .i64 x.client] 24)).cell? ⟨w.heap.size, 8, none⟩ = some (.int .i64 ln) := by simp [go_sem]
  have fc8 : ((w.alloc (Obj.cells #[.int .i64 ep, .int .i64 dg, .int .i64 y.kind, .int .i64 y.job, .int .i64 y.every, .int .i64 y.time, .int .i64 y.client, .int .i64 at_, .int .i64 ln, .int .i64 pl, .slice A n k, .slice A' m d] 56)).alloc (Obj.cells #[.int .i64 x.kind, .int .i64 x.job, .int .i64 x.every, .int .i64 x.time, .int .i64 x.client] 24)).frozen? ⟨w.heap.size, 8, none⟩ = false := by simp [go_sem]
  have c9 : ((w.alloc (Obj.cells #[.int .i64 ep, .int .i64 dg, .int .i64 y.kind, .int .i64 y.job, .int .i64 y.every, .int .i64 y.time, .int .i64 y.client, .int .i64 at_, .int .i64 ln, .int .i64 pl, .slice A n k, .slice A' m d] 56)).alloc (Obj.cells #[.int .i64 x.kind, .int .i64 x.job, .int .i64 x.every, .int .i64 x.time, .int .i64 x.client] 24)).cell? ⟨w.heap.size, 9, none⟩ = some (.int .i64 pl) := by simp [go_sem]
  have fc9 : ((w.alloc (Obj.cells #[.int .i64 ep, .int .i64 dg, .int .i64 y.kind, .int .i64 y.job, .int .i64 y.every, .int .i64 y.time, .int .i64 y.client, .int .i64 at_, .int .i64 ln, .int .i64 pl, .slice A n k, .slice A' m d] 56)).alloc (Obj.cells #[.int .i64 x.kind, .int .i64 x.job, .int .i64 x.every, .int .i64 x.time, .int .i64 x.client] 24)).frozen? ⟨w.heap.size, 9, none⟩ = false := by simp [go_sem]
  have c10 : ((w.alloc (Obj.cells #[.int .i64 ep, .int .i64 dg, .int .i64 y.kind, .int .i64 y.job, .int .i64 y.every, .int .i64 y.time, .int .i64 y.client, .int .i64 at_, .int .i64 ln, .int .i64 pl, .slice A n k, .slice A' m d] 56)).alloc (Obj.cells #[.int .i64 x.kind, .int .i64 x.job, .int .i64 x.every, .int .i64 x.time, .int .i64 x.client] 24)).cell? ⟨w.heap.size, 10, none⟩ = some (.slice A n k) := by simp [go_sem]
  have fc10 : ((w.alloc (Obj.cells #[.int .i64 ep, .int .i64 dg, .int .i64 y.kind, .int .i64 y.job, .int .i64 y.every, .int .i64 y.time, .int .i64 y.client, .int .i64 at_, .int .i64 ln, .int .i64 pl, .slice A n k, .slice A' m d] 56)).alloc (Obj.cells #[.int .i64 x.kind, .int .i64 x.job, .int .i64 x.every, .int .i64 x.time, .int .i64 x.client] 24)).frozen? ⟨w.heap.size, 10, none⟩ = false := by simp [go_sem]
  have c11 : ((w.alloc (Obj.cells #[.int .i64 ep, .int .i64 dg, .int .i64 y.kind, .int .i64 y.job, .int .i64 y.every, .int .i64 y.time, .int .i64 y.client, .int .i64 at_, .int .i64 ln, .int .i64 pl, .slice A n k, .slice A' m d] 56)).alloc (Obj.cells #[.int .i64 x.kind, .int .i64 x.job, .int .i64 x.every, .int .i64 x.time, .int .i64 x.client] 24)).cell? ⟨w.heap.size, 11, none⟩ = some (.slice A' m d) := by simp [go_sem]
  have fc11 : ((w.alloc (Obj.cells #[.int .i64 ep, .int .i64 dg, .int .i64 y.kind, .int .i64 y.job, .int .i64 y.every, .int .i64 y.time, .int .i64 y.client, .int .i64 at_, .int .i64 ln, .int .i64 pl, .slice A n k, .slice A' m d] 56)).alloc (Obj.cells #[.int .i64 x.kind, .int .i64 x.job, .int .i64 x.every, .int .i64 x.time, .int .i64 x.client] 24)).frozen? ⟨w.heap.size, 11, none⟩ = false := by simp [go_sem]
  have e0 : ((w.alloc (Obj.cells #[.int .i64 ep, .int .i64 dg, .int .i64 y.kind, .int .i64 y.job, .int .i64 y.every, .int .i64 y.time, .int .i64 y.client, .int .i64 at_, .int .i64 ln, .int .i64 pl, .slice A n k, .slice A' m d] 56)).alloc (Obj.cells #[.int .i64 x.kind, .int .i64 x.job, .int .i64 x.every, .int .i64 x.time, .int .i64 x.client] 24)).cell? ⟨w.heap.size + 1, 0, none⟩ = some (.int .i64 x.kind) := by simp [go_sem]
  have e1 : ((w.alloc (Obj.cells #[.int .i64 ep, .int .i64 dg, .int .i64 y.kind, .int .i64 y.job, .int .i64 y.every, .int .i64 y.time, .int .i64 y.client, .int .i64 at_, .int .i64 ln, .int .i64 pl, .slice A n k, .slice A' m d] 56)).alloc (Obj.cells #[.int .i64 x.kind, .int .i64 x.job, .int .i64 x.every, .int .i64 x.time, .int .i64 x.client] 24)).cell? ⟨w.heap.size + 1, 1, none⟩ = some (.int .i64 x.job) := by simp [go_sem]
  have e2 : ((w.alloc (Obj.cells #[.int .i64 ep, .int .i64 dg, .int .i64 y.kind, .int .i64 y.job, .int .i64 y.every, .int .i64 y.time, .int .i64 y.client, .int .i64 at_, .int .i64 ln, .int .i64 pl, .slice A n k, .slice A' m d] 56)).alloc (Obj.cells #[.int .i64 x.kind, .int .i64 x.job, .int .i64 x.every, .int .i64 x.time, .int .i64 x.client] 24)).cell? ⟨w.heap.size + 1, 2, none⟩ = some (.int .i64 x.every) := by simp [go_sem]
  have e3 : ((w.alloc (Obj.cells #[.int .i64 ep, .int .i64 dg, .int .i64 y.kind, .int .i64 y.job, .int .i64 y.every, .int .i64 y.time, .int .i64 y.client, .int .i64 at_, .int .i64 ln, .int .i64 pl, .slice A n k, .slice A' m d] 56)).alloc (Obj.cells #[.int .i64 x.kind, .int .i64 x.job, .int .i64 x.every, .int .i64 x.time, .int .i64 x.client] 24)).cell? ⟨w.heap.size + 1, 3, none⟩ = some (.int .i64 x.time) := by simp [go_sem]
  have e4 : ((w.alloc (Obj.cells #[.int .i64 ep, .int .i64 dg, .int .i64 y.kind, .int .i64 y.job, .int .i64 y.every, .int .i64 y.time, .int .i64 y.client, .int .i64 at_, .int .i64 ln, .int .i64 pl, .slice A n k, .slice A' m d] 56)).alloc (Obj.cells #[.int .i64 x.kind, .int .i64 x.job, .int .i64 x.every, .int .i64 x.time, .int .i64 x.client] 24)).cell? ⟨w.heap.size + 1, 4, none⟩ = some (.int .i64 x.client) := by simp [go_sem]
  change Code.wp _ _ _ _ ((w.alloc (Obj.cells #[.int .i64 ep, .int .i64 dg, .int .i64 y.kind, .int .i64 y.job, .int .i64 y.every, .int .i64 y.time, .int .i64 y.client, .int .i64 at_, .int .i64 ln, .int .i64 pl, .slice A n k, .slice A' m d] 56)).alloc (Obj.cells #[.int .i64 x.kind, .int .i64 x.job, .int .i64 x.every, .int .i64 x.time, .int .i64 x.client] 24))
  generalize ((w.alloc (Obj.cells #[.int .i64 ep, .int .i64 dg, .int .i64 y.kind, .int .i64 y.job, .int .i64 y.every, .int .i64 y.time, .int .i64 y.client, .int .i64 at_, .int .i64 ln, .int .i64 pl, .slice A n k, .slice A' m d] 56)).alloc (Obj.cells #[.int .i64 x.kind, .int .i64 x.job, .int .i64 x.every, .int .i64 x.time, .int .i64 x.client] 24)) = w0 at *
  go_wp2_with fail
  refine Calls.mono (at_calls place 60 _ (by omega) (by omega)) ?_
  rintro e w1 ⟨rfl, rfl⟩
  generalize place % 60 = pv at *
  go_wp2_with fail
  refine Calls.mono (heard_calls _) ?_
  rintro e w2 ⟨rfl, hb⟩
  replace fc0 := frozB hb c0 fc0; replace c0 := cellB hb c0
  replace fc1 := frozB hb c1 fc1; replace c1 := cellB hb c1
  replace fc2 := frozB hb c2 fc2; replace c2 := cellB hb c2
  replace fc3 := frozB hb c3 fc3; replace c3 := cellB hb c3
  replace fc4 := frozB hb c4 fc4; replace c4 := cellB hb c4
  replace fc5 := frozB hb c5 fc5; replace c5 := cellB hb c5
  replace fc6 := frozB hb c6 fc6; replace c6 := cellB hb c6
  replace fc7 := frozB hb c7 fc7; replace c7 := cellB hb c7
  replace fc8 := frozB hb c8 fc8; replace c8 := cellB hb c8
  replace fc9 := frozB hb c9 fc9; replace c9 := cellB hb c9
  replace fc10 := frozB hb c10 fc10; replace c10 := cellB hb c10
  replace fc11 := frozB hb c11 fc11; replace c11 := cellB hb c11
  replace e0 := cellB hb e0
  replace e1 := cellB hb e1
  replace e2 := cellB hb e2
  replace e3 := cellB hb e3
  replace e4 := cellB hb e4
  replace sA := S.onto sA hb
  replace sB := S.onto sB hb
  replace hon := Onto.to hon hb
  clear hb
  go_wp2_with fail
  refine Calls.mono (ClCheck_calls ep dg at_ ln pl ⟨y.kind, y.job, y.every, y.time, y.client⟩ A A' n k m d b _ sA sB) ?_
  rw [HQ.out]
  rintro e w3 ⟨rfl, hb⟩
  replace fc0 := frozB hb c0 fc0; replace c0 := cellB hb c0
  replace fc1 := frozB hb c1 fc1; replace c1 := cellB hb c1
  replace fc2 := frozB hb c2 fc2; replace c2 := cellB hb c2
  replace fc3 := frozB hb c3 fc3; replace c3 := cellB hb c3
  replace fc4 := frozB hb c4 fc4; replace c4 := cellB hb c4
  replace fc5 := frozB hb c5 fc5; replace c5 := cellB hb c5
  replace fc6 := frozB hb c6 fc6; replace c6 := cellB hb c6
  replace fc7 := frozB hb c7 fc7; replace c7 := cellB hb c7
  replace fc8 := frozB hb c8 fc8; replace c8 := cellB hb c8
  replace fc9 := frozB hb c9 fc9; replace c9 := cellB hb c9
  replace fc10 := frozB hb c10 fc10; replace c10 := cellB hb c10
  replace fc11 := frozB hb c11 fc11; replace c11 := cellB hb c11
  replace e0 := cellB hb e0
  replace e1 := cellB hb e1
  replace e2 := cellB hb e2
  replace e3 := cellB hb e3
  replace e4 := cellB hb e4
  replace sA := S.onto sA hb
  replace sB := S.onto sB hb
  replace hon := Onto.to hon hb
  clear hb
  go_wp2_with fail
  refine Calls.mono (heard_calls _) ?_
  rintro e w4 ⟨rfl, hb⟩
  replace hon := Onto.to hon hb
  clear hb sA sB c0 fc0 c1 fc1 c2 fc2 c3 fc3 c4 fc4 c5 fc5 c6 fc6 c7 fc7 c8 fc8 c9 fc9 c10 fc10 c11 fc11 e0 e1 e2 e3 e4
  go_wp2_with fail
  go_ret
  exact ⟨rfl, hon⟩

set_option maxHeartbeats 8000000 in
set_option maxRecDepth 100000 in
theorem Keeps_busy (ep dg at_ ln pl : Int) (hdg : dg ≠ 0) (y : Entry) (A A' : Option Addr) (n k m d : Nat) (b : Book) (place : Int) (x : Entry) (w : World) (sA : S w 3 A n (b.jobs.map encJ)) (sB : S w 3 A' m (b.rung.map encR)) (hck : checkCl ⟨ep, dg, ⟨y.kind, y.job, y.every, y.time, y.client⟩, at_, ln, pl, b⟩ = 0) (hln : n ≤ 9223372036854775807) (hlm : m ≤ 9223372036854775807) :
    Calls Try.prog 8 #[.agg #[.int .i64 ep, .int .i64 dg, .int .i64 y.kind, .int .i64 y.job, .int .i64 y.every, .int .i64 y.time, .int .i64 y.client, .int .i64 at_, .int .i64 ln, .int .i64 pl, .slice A n k, .slice A' m d], .int .i64 place, .agg #[.int .i64 x.kind, .int .i64 x.job, .int .i64 x.every, .int .i64 x.time, .int .i64 x.client]] w fun e w' => e = .returned (.bool true) ∧ Onto w w' := by
  have HLN := Lib.hid hln; have HLM := Lib.hid hlm
  clear hln hlm
  have hdd : (dg == 0) = false := by simpa using hdg
  have HDG := Lib.hid hdg
  clear hdg
  have HQ := Lib.hid hck
  clear hck
  have oA : ∀ z, w.heap.size ≤ z → OffN n z A := fun z hz => sA.offN hz
  have oB : ∀ z, w.heap.size ≤ z → OffN m z A' := fun z hz => sB.offN hz
  have OA := Lib.hid oA; have OB := Lib.hid oB
  clear oA oB
  have hp0 : 0 ≤ place % 60 := Int.emod_nonneg _ (by omega)
  have hp1 : place % 60 < 60 := Int.emod_lt_of_pos _ (by omega)
  go_enter Try.func8, Try.ntmps8
  go_upto_region 1 with fail
  have hon : Onto w ((w.alloc (Obj.cells #[.int .i64 ep, .int .i64 dg, .int .i64 y.kind, .int .i64 y.job, .int .i64 y.every, .int .i64 y.time, .int .i64 y.client, .int .i64 at_, .int .i64 ln, .int .i64 pl, .slice A n k, .slice A' m d] 56)).alloc (Obj.cells #[.int .i64 x.kind, .int .i64 x.job, .int .i64 x.every, .int .i64 x.time, .int .i64 x.client] 24)) := ((Onto.rfl' w).new _).new _
  replace sA := (sA.new (Obj.cells #[.int .i64 ep, .int .i64 dg, .int .i64 y.kind, .int .i64 y.job, .int .i64 y.every, .int .i64 y.time, .int .i64 y.client, .int .i64 at_, .int .i64 ln, .int .i64 pl, .slice A n k, .slice A' m d] 56)).new (Obj.cells #[.int .i64 x.kind, .int .i64 x.job, .int .i64 x.every, .int .i64 x.time, .int .i64 x.client] 24)
  replace sB := (sB.new (Obj.cells #[.int .i64 ep, .int .i64 dg, .int .i64 y.kind, .int .i64 y.job, .int .i64 y.every, .int .i64 y.time, .int .i64 y.client, .int .i64 at_, .int .i64 ln, .int .i64 pl, .slice A n k, .slice A' m d] 56)).new (Obj.cells #[.int .i64 x.kind, .int .i64 x.job, .int .i64 x.every, .int .i64 x.time, .int .i64 x.client] 24)
  have c0 : ((w.alloc (Obj.cells #[.int .i64 ep, .int .i64 dg, .int .i64 y.kind, .int .i64 y.job, .int .i64 y.every, .int .i64 y.time, .int .i64 y.client, .int .i64 at_, .int .i64 ln, .int .i64 pl, .slice A n k, .slice A' m d] 56)).alloc (Obj.cells #[.int .i64 x.kind, .int .i64 x.job, .int .i64 x.every, .int .i64 x.time, .int .i64 x.client] 24)).cell? ⟨w.heap.size, 0, none⟩ = some (.int .i64 ep) := by simp [go_sem]
  have fc0 : ((w.alloc (Obj.cells #[.int .i64 ep, .int .i64 dg, .int .i64 y.kind, .int .i64 y.job, .int .i64 y.every, .int .i64 y.time, .int .i64 y.client, .int .i64 at_, .int .i64 ln, .int .i64 pl, .slice A n k, .slice A' m d] 56)).alloc (Obj.cells #[.int .i64 x.kind, .int .i64 x.job, .int .i64 x.every, .int .i64 x.time, .int .i64 x.client] 24)).frozen? ⟨w.heap.size, 0, none⟩ = false := by simp [go_sem]
  have c1 : ((w.alloc (Obj.cells #[.int .i64 ep, .int .i64 dg, .int .i64 y.kind, .int .i64 y.job, .int .i64 y.every, .int .i64 y.time, .int .i64 y.client, .int .i64 at_, .int .i64 ln, .int .i64 pl, .slice A n k, .slice A' m d] 56)).alloc (Obj.cells #[.int .i64 x.kind, .int .i64 x.job, .int .i64 x.every, .int .i64 x.time, .int .i64 x.client] 24)).cell? ⟨w.heap.size, 1, none⟩ = some (.int .i64 dg) := by simp [go_sem]
  have fc1 : ((w.alloc (Obj.cells #[.int .i64 ep, .int .i64 dg, .int .i64 y.kind, .int .i64 y.job, .int .i64 y.every, .int .i64 y.time, .int .i64 y.client, .int .i64 at_, .int .i64 ln, .int .i64 pl, .slice A n k, .slice A' m d] 56)).alloc (Obj.cells #[.int .i64 x.kind, .int .i64 x.job, .int .i64 x.every, .int .i64 x.time, .int .i64 x.client] 24)).frozen? ⟨w.heap.size, 1, none⟩ = false := by simp [go_sem]
  have c2 : ((w.alloc (Obj.cells #[.int .i64 ep, .int .i64 dg, .int .i64 y.kind, .int .i64 y.job, .int .i64 y.every, .int .i64 y.time, .int .i64 y.client, .int .i64 at_, .int .i64 ln, .int .i64 pl, .slice A n k, .slice A' m d] 56)).alloc (Obj.cells #[.int .i64 x.kind, .int .i64 x.job, .int .i64 x.every, .int .i64 x.time, .int .i64 x.client] 24)).cell? ⟨w.heap.size, 2, none⟩ = some (.int .i64 y.kind) := by simp [go_sem]
  have fc2 : ((w.alloc (Obj.cells #[.int .i64 ep, .int .i64 dg, .int .i64 y.kind, .int .i64 y.job, .int .i64 y.every, .int .i64 y.time, .int .i64 y.client, .int .i64 at_, .int .i64 ln, .int .i64 pl, .slice A n k, .slice A' m d] 56)).alloc (Obj.cells #[.int .i64 x.kind, .int .i64 x.job, .int .i64 x.every, .int .i64 x.time, .int .i64 x.client] 24)).frozen? ⟨w.heap.size, 2, none⟩ = false := by simp [go_sem]
  have c3 : ((w.alloc (Obj.cells #[.int .i64 ep, .int .i64 dg, .int .i64 y.kind, .int .i64 y.job, .int .i64 y.every, .int .i64 y.time, .int .i64 y.client, .int .i64 at_, .int .i64 ln, .int .i64 pl, .slice A n k, .slice A' m d] 56)).alloc (Obj.cells #[.int .i64 x.kind, .int .i64 x.job, .int .i64 x.every, .int .i64 x.time, .int .i64 x.client] 24)).cell? ⟨w.heap.size, 3, none⟩ = some (.int .i64 y.job) := by simp [go_sem]
  have fc3 : ((w.alloc (Obj.cells #[.int .i64 ep, .int .i64 dg, .int .i64 y.kind, .int .i64 y.job, .int .i64 y.every, .int .i64 y.time, .int .i64 y.client, .int .i64 at_, .int .i64 ln, .int .i64 pl, .slice A n k, .slice A' m d] 56)).alloc (Obj.cells #[.int .i64 x.kind, .int .i64 x.job, .int .i64 x.every, .int .i64 x.time, .int .i64 x.client] 24)).frozen? ⟨w.heap.size, 3, none⟩ = false := by simp [go_sem]
  have c4 : ((w.alloc (Obj.cells #[.int .i64 ep, .int .i64 dg, .int .i64 y.kind, .int .i64 y.job, .int .i64 y.every, .int .i64 y.time, .int .i64 y.client, .int .i64 at_, .int .i64 ln, .int .i64 pl, .slice A n k, .slice A' m d] 56)).alloc (Obj.cells #[.int .i64 x.kind, .int .i64 x.job, .int .i64 x.every, .int .i64 x.time, .int .i64 x.client] 24)).cell? ⟨w.heap.size, 4, none⟩ = some (.int .i64 y.every) := by simp [go_sem]
  have fc4 : ((w.alloc (Obj.cells #[.int .i64 ep, .int .i64 dg, .int .i64 y.kind, .int .i64 y.job, .int .i64 y.every, .int .i64 y.time, .int .i64 y.client, .int .i64 at_, .int .i64 ln, .int .i64 pl, .slice A n k, .slice A' m d] 56)).alloc (Obj.cells #[.int .i64 x.kind, .int .i64 x.job, .int .i64 x.every, .int .i64 x.time, .int .i64 x.client] 24)).frozen? ⟨w.heap.size, 4, none⟩ = false := by simp [go_sem]
  have c5 : ((w.alloc (Obj.cells #[.int .i64 ep, .int .i64 dg, .int .i64 y.kind, .int .i64 y.job, .int .i64 y.every, .int .i64 y.time, .int .i64 y.client, .int .i64 at_, .int .i64 ln, .int .i64 pl, .slice A n k, .slice A' m d] 56)).alloc (Obj.cells #[.int .i64 x.kind, .int .i64 x.job, .int .i64 x.every, .int .i64 x.time, .int .i64 x.client] 24)).cell? ⟨w.heap.size, 5, none⟩ = some (.int .i64 y.time) := by simp [go_sem]
  have fc5 : ((w.alloc (Obj.cells #[.int .i64 ep, .int .i64 dg, .int .i64 y.kind, .int .i64 y.job, .int .i64 y.every, .int .i64 y.time, .int .i64 y.client, .int .i64 at_, .int .i64 ln, .int .i64 pl, .slice A n k, .slice A' m d] 56)).alloc (Obj.cells #[.int .i64 x.kind, .int .i64 x.job, .int .i64 x.every, .int .i64 x.time, .int .i64 x.client] 24)).frozen? ⟨w.heap.size, 5, none⟩ = false := by simp [go_sem]
  have c6 : ((w.alloc (Obj.cells #[.int .i64 ep, .int .i64 dg, .int .i64 y.kind, .int .i64 y.job, .int .i64 y.every, .int .i64 y.time, .int .i64 y.client, .int .i64 at_, .int .i64 ln, .int .i64 pl, .slice A n k, .slice A' m d] 56)).alloc (Obj.cells #[.int .i64 x.kind, .int .i64 x.job, .int .i64 x.every, .int .i64 x.time, .int .i64 x.client] 24)).cell? ⟨w.heap.size, 6, none⟩ = some (.int .i64 y.client) := by simp [go_sem]
  have fc6 : ((w.alloc (Obj.cells #[.int .i64 ep, .int .i64 dg, .int .i64 y.kind, .int .i64 y.job, .int .i64 y.every, .int .i64 y.time, .int .i64 y.client, .int .i64 at_, .int .i64 ln, .int .i64 pl, .slice A n k, .slice A' m d] 56)).alloc (Obj.cells #[.int .i64 x.kind, .int .i64 x.job, .int .i64 x.every, .int .i64 x.time, .int .i64 x.client] 24)).frozen? ⟨w.heap.size, 6, none⟩ = false := by simp [go_sem]
  have c7 : ((w.alloc (Obj.cells #[.int .i64 ep, .int .i64 dg, .int .i64 y.kind, .int .i64 y.job, .int .i64 y.every, .int .i64 y.time, .int .i64 y.client, .int .i64 at_, .int .i64 ln, .int .i64 pl, .slice A n k, .slice A' m d] 56)).alloc (Obj.cells #[.int .i64 x.kind, .int .i64 x.job, .int .i64 x.every, .int .i64 x.time, .int .i64 x.client] 24)).cell? ⟨w.heap.size, 7, none⟩ = some (.int .i64 at_) := by simp [go_sem]
  have fc7 : ((w.alloc (Obj.cells #[.int .i64 ep, .int .i64 dg, .int .i64 y.kind, .int .i64 y.job, .int .i64 y.every, .int .i64 y.time, .int .i64 y.client, .int .i64 at_, .int .i64 ln, .int .i64 pl, .slice A n k, .slice A' m d] 56)).alloc (Obj.cells #[.int .i64 x.kind, .int .i64 x.job, .int .i64 x.every, .int .i64 x.time, .int .i64 x.client] 24)).frozen? ⟨w.heap.size, 7, none⟩ = false := by simp [go_sem]
  have c8 : ((w.alloc (Obj.cells #[.int .i64 ep, .int .i64 dg, .int .i64 y.kind, .int .i64 y.job, .int .i64 y.every, .int .i64 y.time, .int .i64 y.client, .int .i64 at_, .int .i64 ln, .int .i64 pl, .slice A n k, .slice A' m d] 56)).alloc (Obj.cells #[.int .i64 x.kind, .int .i64 x.job, .int .i64 x.every, .int .i64 x.time, .int .i64 x.client] 24)).cell? ⟨w.heap.size, 8, none⟩ = some (.int .i64 ln) := by simp [go_sem]
  have fc8 : ((w.alloc (Obj.cells #[.int .i64 ep, .int .i64 dg, .int .i64 y.kind, .int .i64 y.job, .int .i64 y.every, .int .i64 y.time, .int .i64 y.client, .int .i64 at_, .int .i64 ln, .int .i64 pl, .slice A n k, .slice A' m d] 56)).alloc (Obj.cells #[.int .i64 x.kind, .int .i64 x.job, .int .i64 x.every, .int .i64 x.time, .int .i64 x.client] 24)).frozen? ⟨w.heap.size, 8, none⟩ = false := by simp [go_sem]
  have c9 : ((w.alloc (Obj.cells #[.int .i64 ep, .int .i64 dg, .int .i64 y.kind, .int .i64 y.job, .int .i64 y.every, .int .i64 y.time, .int .i64 y.client, .int .i64 at_, .int .i64 ln, .int .i64 pl, .slice A n k, .slice A' m d] 56)).alloc (Obj.cells #[.int .i64 x.kind, .int .i64 x.job, .int .i64 x.every, .int .i64 x.time, .int .i64 x.client] 24)).cell? ⟨w.heap.size, 9, none⟩ = some (.int .i64 pl) := by simp [go_sem]
  have fc9 : ((w.alloc (Obj.cells #[.int .i64 ep, .int .i64 dg, .int .i64 y.kind, .int .i64 y.job, .int .i64 y.every, .int .i64 y.time, .int .i64 y.client, .int .i64 at_, .int .i64 ln, .int .i64 pl, .slice A n k, .slice A' m d] 56)).alloc (Obj.cells #[.int .i64 x.kind, .int .i64 x.job, .int .i64 x.every, .int .i64 x.time, .int .i64 x.client] 24)).frozen? ⟨w.heap.size, 9, none⟩ = false := by simp [go_sem]
  have c10 : ((w.alloc (Obj.cells #[.int .i64 ep, .int .i64 dg, .int .i64 y.kind, .int .i64 y.job, .int .i64 y.every, .int .i64 y.time, .int .i64 y.client, .int .i64 at_, .int .i64 ln, .int .i64 pl, .slice A n k, .slice A' m d] 56)).alloc (Obj.cells #[.int .i64 x.kind, .int .i64 x.job, .int .i64 x.every, .int .i64 x.time, .int .i64 x.client] 24)).cell? ⟨w.heap.size, 10, none⟩ = some (.slice A n k) := by simp [go_sem]
  have fc10 : ((w.alloc (Obj.cells #[.int .i64 ep, .int .i64 dg, .int .i64 y.kind, .int .i64 y.job, .int .i64 y.every, .int .i64 y.time, .int .i64 y.client, .int .i64 at_, .int .i64 ln, .int .i64 pl, .slice A n k, .slice A' m d] 56)).alloc (Obj.cells #[.int .i64 x.kind, .int .i64 x.job, .int .i64 x.every, .int .i64 x.time, .int .i64 x.client] 24)).frozen? ⟨w.heap.size, 10, none⟩ = false := by simp [go_sem]
  have c11 : ((w.alloc (Obj.cells #[.int .i64 ep, .int .i64 dg, .int .i64 y.kind, .int .i64 y.job, .int .i64 y.every, .int .i64 y.time, .int .i64 y.client, .int .i64 at_, .int .i64 ln, .int .i64 pl, .slice A n k, .slice A' m d] 56)).alloc (Obj.cells #[.int .i64 x.kind, .int .i64 x.job, .int .i64 x.every, .int .i64 x.time, .int .i64 x.client] 24)).cell? ⟨w.heap.size, 11, none⟩ = some (.slice A' m d) := by simp [go_sem]
  have fc11 : ((w.alloc (Obj.cells #[.int .i64 ep, .int .i64 dg, .int .i64 y.kind, .int .i64 y.job, .int .i64 y.every, .int .i64 y.time, .int .i64 y.client, .int .i64 at_, .int .i64 ln, .int .i64 pl, .slice A n k, .slice A' m d] 56)).alloc (Obj.cells #[.int .i64 x.kind, .int .i64 x.job, .int .i64 x.every, .int .i64 x.time, .int .i64 x.client] 24)).frozen? ⟨w.heap.size, 11, none⟩ = false := by simp [go_sem]
  have e0 : ((w.alloc (Obj.cells #[.int .i64 ep, .int .i64 dg, .int .i64 y.kind, .int .i64 y.job, .int .i64 y.every, .int .i64 y.time, .int .i64 y.client, .int .i64 at_, .int .i64 ln, .int .i64 pl, .slice A n k, .slice A' m d] 56)).alloc (Obj.cells #[.int .i64 x.kind, .int .i64 x.job, .int .i64 x.every, .int .i64 x.time, .int .i64 x.client] 24)).cell? ⟨w.heap.size + 1, 0, none⟩ = some (.int .i64 x.kind) := by simp [go_sem]
  have e1 : ((w.alloc (Obj.cells #[.int .i64 ep, .int .i64 dg, .int .i64 y.kind, .int .i64 y.job, .int .i64 y.every, .int .i64 y.time, .int .i64 y.client, .int .i64 at_, .int .i64 ln, .int .i64 pl, .slice A n k, .slice A' m d] 56)).alloc (Obj.cells #[.int .i64 x.kind, .int .i64 x.job, .int .i64 x.every, .int .i64 x.time, .int .i64 x.client] 24)).cell? ⟨w.heap.size + 1, 1, none⟩ = some (.int .i64 x.job) := by simp [go_sem]
  have e2 : ((w.alloc (Obj.cells #[.int .i64 ep, .int .i64 dg, .int .i64 y.kind, .int .i64 y.job, .int .i64 y.every, .int .i64 y.time, .int .i64 y.client, .int .i64 at_, .int .i64 ln, .int .i64 pl, .slice A n k, .slice A' m d] 56)).alloc (Obj.cells #[.int .i64 x.kind, .int .i64 x.job, .int .i64 x.every, .int .i64 x.time, .int .i64 x.client] 24)).cell? ⟨w.heap.size + 1, 2, none⟩ = some (.int .i64 x.every) := by simp [go_sem]
  have e3 : ((w.alloc (Obj.cells #[.int .i64 ep, .int .i64 dg, .int .i64 y.kind, .int .i64 y.job, .int .i64 y.every, .int .i64 y.time, .int .i64 y.client, .int .i64 at_, .int .i64 ln, .int .i64 pl, .slice A n k, .slice A' m d] 56)).alloc (Obj.cells #[.int .i64 x.kind, .int .i64 x.job, .int .i64 x.every, .int .i64 x.time, .int .i64 x.client] 24)).cell? ⟨w.heap.size + 1, 3, none⟩ = some (.int .i64 x.time) := by simp [go_sem]
  have e4 : ((w.alloc (Obj.cells #[.int .i64 ep, .int .i64 dg, .int .i64 y.kind, .int .i64 y.job, .int .i64 y.every, .int .i64 y.time, .int .i64 y.client, .int .i64 at_, .int .i64 ln, .int .i64 pl, .slice A n k, .slice A' m d] 56)).alloc (Obj.cells #[.int .i64 x.kind, .int .i64 x.job, .int .i64 x.every, .int .i64 x.time, .int .i64 x.client] 24)).cell? ⟨w.heap.size + 1, 4, none⟩ = some (.int .i64 x.client) := by simp [go_sem]
  change Code.wp _ _ _ _ ((w.alloc (Obj.cells #[.int .i64 ep, .int .i64 dg, .int .i64 y.kind, .int .i64 y.job, .int .i64 y.every, .int .i64 y.time, .int .i64 y.client, .int .i64 at_, .int .i64 ln, .int .i64 pl, .slice A n k, .slice A' m d] 56)).alloc (Obj.cells #[.int .i64 x.kind, .int .i64 x.job, .int .i64 x.every, .int .i64 x.time, .int .i64 x.client] 24))
  generalize ((w.alloc (Obj.cells #[.int .i64 ep, .int .i64 dg, .int .i64 y.kind, .int .i64 y.job, .int .i64 y.every, .int .i64 y.time, .int .i64 y.client, .int .i64 at_, .int .i64 ln, .int .i64 pl, .slice A n k, .slice A' m d] 56)).alloc (Obj.cells #[.int .i64 x.kind, .int .i64 x.job, .int .i64 x.every, .int .i64 x.time, .int .i64 x.client] 24)) = w0 at *
  go_wp2_with fail
  refine Calls.mono (at_calls place 60 _ (by omega) (by omega)) ?_
  rintro e w1 ⟨rfl, rfl⟩
  generalize place % 60 = pv at *
  go_wp2_with fail
  refine Calls.mono (heard_calls _) ?_
  rintro e w2 ⟨rfl, hb⟩
  replace fc0 := frozB hb c0 fc0; replace c0 := cellB hb c0
  replace fc1 := frozB hb c1 fc1; replace c1 := cellB hb c1
  replace fc2 := frozB hb c2 fc2; replace c2 := cellB hb c2
  replace fc3 := frozB hb c3 fc3; replace c3 := cellB hb c3
  replace fc4 := frozB hb c4 fc4; replace c4 := cellB hb c4
  replace fc5 := frozB hb c5 fc5; replace c5 := cellB hb c5
  replace fc6 := frozB hb c6 fc6; replace c6 := cellB hb c6
  replace fc7 := frozB hb c7 fc7; replace c7 := cellB hb c7
  replace fc8 := frozB hb c8 fc8; replace c8 := cellB hb c8
  replace fc9 := frozB hb c9 fc9; replace c9 := cellB hb c9
  replace fc10 := frozB hb c10 fc10; replace c10 := cellB hb c10
  replace fc11 := frozB hb c11 fc11; replace c11 := cellB hb c11
  replace e0 := cellB hb e0
  replace e1 := cellB hb e1
  replace e2 := cellB hb e2
  replace e3 := cellB hb e3
  replace e4 := cellB hb e4
  replace sA := S.onto sA hb
  replace sB := S.onto sB hb
  replace hon := Onto.to hon hb
  clear hb
  go_wp2_with fail
  refine Calls.mono (ClCheck_calls ep dg at_ ln pl ⟨y.kind, y.job, y.every, y.time, y.client⟩ A A' n k m d b _ sA sB) ?_
  rw [HQ.out]
  rintro e w3 ⟨rfl, hb⟩
  replace fc0 := frozB hb c0 fc0; replace c0 := cellB hb c0
  replace fc1 := frozB hb c1 fc1; replace c1 := cellB hb c1
  replace fc2 := frozB hb c2 fc2; replace c2 := cellB hb c2
  replace fc3 := frozB hb c3 fc3; replace c3 := cellB hb c3
  replace fc4 := frozB hb c4 fc4; replace c4 := cellB hb c4
  replace fc5 := frozB hb c5 fc5; replace c5 := cellB hb c5
  replace fc6 := frozB hb c6 fc6; replace c6 := cellB hb c6
  replace fc7 := frozB hb c7 fc7; replace c7 := cellB hb c7
  replace fc8 := frozB hb c8 fc8; replace c8 := cellB hb c8
  replace fc9 := frozB hb c9 fc9; replace c9 := cellB hb c9
  replace fc10 := frozB hb c10 fc10; replace c10 := cellB hb c10
  replace fc11 := frozB hb c11 fc11; replace c11 := cellB hb c11
  replace e0 := cellB hb e0
  replace e1 := cellB hb e1
  replace e2 := cellB hb e2
  replace e3 := cellB hb e3
  replace e4 := cellB hb e4
  replace sA := S.onto sA hb
  replace sB := S.onto sB hb
  replace hon := Onto.to hon hb
  clear hb
  go_wp2_with fail
  obtain ⟨r, hr⟩ : ∃ r, r = playCl ⟨ep, dg, ⟨y.kind, y.job, y.every, y.time, y.client⟩, at_, ln, pl, b⟩ x := ⟨_, rfl⟩
  have HR := Lib.hid hr
  clear hr
  refine Calls.mono (ClPlay_calls ep dg at_ ln pl ⟨y.kind, y.job, y.every, y.time, y.client⟩ x A A' n k m d b _ sA sB) ?_
  rw [← HR.out]
  rintro e w4 ⟨A1, n1, k1, A2, m1, d1, rfl, s1, s2, hb, _, _, _, _⟩
  replace fc0 := frozB hb c0 fc0; replace c0 := cellB hb c0
  replace fc1 := frozB hb c1 fc1; replace c1 := cellB hb c1
  replace fc2 := frozB hb c2 fc2; replace c2 := cellB hb c2
  replace fc3 := frozB hb c3 fc3; replace c3 := cellB hb c3
  replace fc4 := frozB hb c4 fc4; replace c4 := cellB hb c4
  replace fc5 := frozB hb c5 fc5; replace c5 := cellB hb c5
  replace fc6 := frozB hb c6 fc6; replace c6 := cellB hb c6
  replace fc7 := frozB hb c7 fc7; replace c7 := cellB hb c7
  replace fc8 := frozB hb c8 fc8; replace c8 := cellB hb c8
  replace fc9 := frozB hb c9 fc9; replace c9 := cellB hb c9
  replace fc10 := frozB hb c10 fc10; replace c10 := cellB hb c10
  replace fc11 := frozB hb c11 fc11; replace c11 := cellB hb c11
  replace e0 := cellB hb e0
  replace e1 := cellB hb e1
  replace e2 := cellB hb e2
  replace e3 := cellB hb e3
  replace e4 := cellB hb e4
  replace sA := S.onto sA hb
  replace sB := S.onto sB hb
  replace hon := Onto.to hon hb
  clear hb
  go_upto_region 5 with fail
  have hpw : w.heap.size ≤ w4.heap.size := hon.size
  have hcp : w.heap.size < w4.heap.size := World.block_lt_of_cell? _ _ c0
  have hep : w.heap.size + 1 < w4.heap.size := World.block_lt_of_cell? _ _ e0
  have hbx : Onto w4 (w4.alloc (Obj.cells #[.int .i64 r.1.epoch, .int .i64 r.1.doing, .int .i64 r.1.e.kind, .int .i64 r.1.e.job, .int .i64 r.1.e.every, .int .i64 r.1.e.time, .int .i64 r.1.e.client, .int .i64 r.1.at_, .int .i64 r.1.link, .int .i64 r.1.played, .slice A1 n1 k1, .slice A2 m1 d1] 56)) := (Below.refl _ _).alloc (Nat.le_refl _) _
  replace fc0 := frozB hbx c0 fc0; replace c0 := cellB hbx c0
  replace fc1 := frozB hbx c1 fc1; replace c1 := cellB hbx c1
  replace fc2 := frozB hbx c2 fc2; replace c2 := cellB hbx c2
  replace fc3 := frozB hbx c3 fc3; replace c3 := cellB hbx c3
  replace fc4 := frozB hbx c4 fc4; replace c4 := cellB hbx c4
  replace fc5 := frozB hbx c5 fc5; replace c5 := cellB hbx c5
  replace fc6 := frozB hbx c6 fc6; replace c6 := cellB hbx c6
  replace fc7 := frozB hbx c7 fc7; replace c7 := cellB hbx c7
  replace fc8 := frozB hbx c8 fc8; replace c8 := cellB hbx c8
  replace fc9 := frozB hbx c9 fc9; replace c9 := cellB hbx c9
  replace fc10 := frozB hbx c10 fc10; replace c10 := cellB hbx c10
  replace fc11 := frozB hbx c11 fc11; replace c11 := cellB hbx c11
  replace e0 := cellB hbx e0
  replace e1 := cellB hbx e1
  replace e2 := cellB hbx e2
  replace e3 := cellB hbx e3
  replace e4 := cellB hbx e4
  replace sA := S.onto sA hbx
  replace sB := S.onto sB hbx
  replace s1 := S.onto s1 hbx
  replace s2 := S.onto s2 hbx
  replace hon := Onto.to hon hbx
  have p0 : (w4.alloc (Obj.cells #[.int .i64 r.1.epoch, .int .i64 r.1.doing, .int .i64 r.1.e.kind, .int .i64 r.1.e.job, .int .i64 r.1.e.every, .int .i64 r.1.e.time, .int .i64 r.1.e.client, .int .i64 r.1.at_, .int .i64 r.1.link, .int .i64 r.1.played, .slice A1 n1 k1, .slice A2 m1 d1] 56)).cell? ⟨w4.heap.size, 0, none⟩ = some (.int .i64 r.1.epoch) := by simp [go_sem]
  have fp0 : (w4.alloc (Obj.cells #[.int .i64 r.1.epoch, .int .i64 r.1.doing, .int .i64 r.1.e.kind, .int .i64 r.1.e.job, .int .i64 r.1.e.every, .int .i64 r.1.e.time, .int .i64 r.1.e.client, .int .i64 r.1.at_, .int .i64 r.1.link, .int .i64 r.1.played, .slice A1 n1 k1, .slice A2 m1 d1] 56)).frozen? ⟨w4.heap.size, 0, none⟩ = false := by simp [go_sem]
  have p1 : (w4.alloc (Obj.cells #[.int .i64 r.1.epoch, .int .i64 r.1.doing, .int .i64 r.1.e.kind, .int .i64 r.1.e.job, .int .i64 r.1.e.every, .int .i64 r.1.e.time, .int .i64 r.1.e.client, .int .i64 r.1.at_, .int .i64 r.1.link, .int .i64 r.1.played, .slice A1 n1 k1, .slice A2 m1 d1] 56)).cell? ⟨w4.heap.size, 1, none⟩ = some (.int .i64 r.1.doing) := by simp [go_sem]
  have fp1 : (w4.alloc (Obj.cells #[.int .i64 r.1.epoch, .int .i64 r.1.doing, .int .i64 r.1.e.kind, .int .i64 r.1.e.job, .int .i64 r.1.e.every, .int .i64 r.1.e.time, .int .i64 r.1.e.client, .int .i64 r.1.at_, .int .i64 r.1.link, .int .i64 r.1.played, .slice A1 n1 k1, .slice A2 m1 d1] 56)).frozen? ⟨w4.heap.size, 1, none⟩ = false := by simp [go_sem]
  have p2 : (w4.alloc (Obj.cells #[.int .i64 r.1.epoch, .int .i64 r.1.doing, .int .i64 r.1.e.kind, .int .i64 r.1.e.job, .int .i64 r.1.e.every, .int .i64 r.1.e.time, .int .i64 r.1.e.client, .int .i64 r.1.at_, .int .i64 r.1.link, .int .i64 r.1.played, .slice A1 n1 k1, .slice A2 m1 d1] 56)).cell? ⟨w4.heap.size, 2, none⟩ = some (.int .i64 r.1.e.kind) := by simp [go_sem]
  have fp2 : (w4.alloc (Obj.cells #[.int .i64 r.1.epoch, .int .i64 r.1.doing, .int .i64 r.1.e.kind, .int .i64 r.1.e.job, .int .i64 r.1.e.every, .int .i64 r.1.e.time, .int .i64 r.1.e.client, .int .i64 r.1.at_, .int .i64 r.1.link, .int .i64 r.1.played, .slice A1 n1 k1, .slice A2 m1 d1] 56)).frozen? ⟨w4.heap.size, 2, none⟩ = false := by simp [go_sem]
  have p3 : (w4.alloc (Obj.cells #[.int .i64 r.1.epoch, .int .i64 r.1.doing, .int .i64 r.1.e.kind, .int .i64 r.1.e.job, .int .i64 r.1.e.every, .int .i64 r.1.e.time, .int .i64 r.1.e.client, .int .i64 r.1.at_, .int .i64 r.1.link, .int .i64 r.1.played, .slice A1 n1 k1, .slice A2 m1 d1] 56)).cell? ⟨w4.heap.size, 3, none⟩ = some (.int .i64 r.1.e.job) := by simp [go_sem]
  have fp3 : (w4.alloc (Obj.cells #[.int .i64 r.1.epoch, .int .i64 r.1.doing, .int .i64 r.1.e.kind, .int .i64 r.1.e.job, .int .i64 r.1.e.every, .int .i64 r.1.e.time, .int .i64 r.1.e.client, .int .i64 r.1.at_, .int .i64 r.1.link, .int .i64 r.1.played, .slice A1 n1 k1, .slice A2 m1 d1] 56)).frozen? ⟨w4.heap.size, 3, none⟩ = false := by simp [go_sem]
  have p4 : (w4.alloc (Obj.cells #[.int .i64 r.1.epoch, .int .i64 r.1.doing, .int .i64 r.1.e.kind, .int .i64 r.1.e.job, .int .i64 r.1.e.every, .int .i64 r.1.e.time, .int .i64 r.1.e.client, .int .i64 r.1.at_, .int .i64 r.1.link, .int .i64 r.1.played, .slice A1 n1 k1, .slice A2 m1 d1] 56)).cell? ⟨w4.heap.size, 4, none⟩ = some (.int .i64 r.1.e.every) := by simp [go_sem]
  have fp4 : (w4.alloc (Obj.cells #[.int .i64 r.1.epoch, .int .i64 r.1.doing, .int .i64 r.1.e.kind, .int .i64 r.1.e.job, .int .i64 r.1.e.every, .int .i64 r.1.e.time, .int .i64 r.1.e.client, .int .i64 r.1.at_, .int .i64 r.1.link, .int .i64 r.1.played, .slice A1 n1 k1, .slice A2 m1 d1] 56)).frozen? ⟨w4.heap.size, 4, none⟩ = false := by simp [go_sem]
  have p5 : (w4.alloc (Obj.cells #[.int .i64 r.1.epoch, .int .i64 r.1.doing, .int .i64 r.1.e.kind, .int .i64 r.1.e.job, .int .i64 r.1.e.every, .int .i64 r.1.e.time, .int .i64 r.1.e.client, .int .i64 r.1.at_, .int .i64 r.1.link, .int .i64 r.1.played, .slice A1 n1 k1, .slice A2 m1 d1] 56)).cell? ⟨w4.heap.size, 5, none⟩ = some (.int .i64 r.1.e.time) := by simp [go_sem]
  have fp5 : (w4.alloc (Obj.cells #[.int .i64 r.1.epoch, .int .i64 r.1.doing, .int .i64 r.1.e.kind, .int .i64 r.1.e.job, .int .i64 r.1.e.every, .int .i64 r.1.e.time, .int .i64 r.1.e.client, .int .i64 r.1.at_, .int .i64 r.1.link, .int .i64 r.1.played, .slice A1 n1 k1, .slice A2 m1 d1] 56)).frozen? ⟨w4.heap.size, 5, none⟩ = false := by simp [go_sem]
  have p6 : (w4.alloc (Obj.cells #[.int .i64 r.1.epoch, .int .i64 r.1.doing, .int .i64 r.1.e.kind, .int .i64 r.1.e.job, .int .i64 r.1.e.every, .int .i64 r.1.e.time, .int .i64 r.1.e.client, .int .i64 r.1.at_, .int .i64 r.1.link, .int .i64 r.1.played, .slice A1 n1 k1, .slice A2 m1 d1] 56)).cell? ⟨w4.heap.size, 6, none⟩ = some (.int .i64 r.1.e.client) := by simp [go_sem]
  have fp6 : (w4.alloc (Obj.cells #[.int .i64 r.1.epoch, .int .i64 r.1.doing, .int .i64 r.1.e.kind, .int .i64 r.1.e.job, .int .i64 r.1.e.every, .int .i64 r.1.e.time, .int .i64 r.1.e.client, .int .i64 r.1.at_, .int .i64 r.1.link, .int .i64 r.1.played, .slice A1 n1 k1, .slice A2 m1 d1] 56)).frozen? ⟨w4.heap.size, 6, none⟩ = false := by simp [go_sem]
  have p7 : (w4.alloc (Obj.cells #[.int .i64 r.1.epoch, .int .i64 r.1.doing, .int .i64 r.1.e.kind, .int .i64 r.1.e.job, .int .i64 r.1.e.every, .int .i64 r.1.e.time, .int .i64 r.1.e.client, .int .i64 r.1.at_, .int .i64 r.1.link, .int .i64 r.1.played, .slice A1 n1 k1, .slice A2 m1 d1] 56)).cell? ⟨w4.heap.size, 7, none⟩ = some (.int .i64 r.1.at_) := by simp [go_sem]
  have fp7 : (w4.alloc (Obj.cells #[.int .i64 r.1.epoch, .int .i64 r.1.doing, .int .i64 r.1.e.kind, .int .i64 r.1.e.job, .int .i64 r.1.e.every, .int .i64 r.1.e.time, .int .i64 r.1.e.client, .int .i64 r.1.at_, .int .i64 r.1.link, .int .i64 r.1.played, .slice A1 n1 k1, .slice A2 m1 d1] 56)).frozen? ⟨w4.heap.size, 7, none⟩ = false := by simp [go_sem]
  have p8 : (w4.alloc (Obj.cells #[.int .i64 r.1.epoch, .int .i64 r.1.doing, .int .i64 r.1.e.kind, .int .i64 r.1.e.job, .int .i64 r.1.e.every, .int .i64 r.1.e.time, .int .i64 r.1.e.client, .int .i64 r.1.at_, .int .i64 r.1.link, .int .i64 r.1.played, .slice A1 n1 k1, .slice A2 m1 d1] 56)).cell? ⟨w4.heap.size, 8, none⟩ = some (.int .i64 r.1.link) := by simp [go_sem]
  have fp8 : (w4.alloc (Obj.cells #[.int .i64 r.1.epoch, .int .i64 r.1.doing, .int .i64 r.1.e.kind, .int .i64 r.1.e.job, .int .i64 r.1.e.every, .int .i64 r.1.e.time, .int .i64 r.1.e.client, .int .i64 r.1.at_, .int .i64 r.1.link, .int .i64 r.1.played, .slice A1 n1 k1, .slice A2 m1 d1] 56)).frozen? ⟨w4.heap.size, 8, none⟩ = false := by simp [go_sem]
  have p9 : (w4.alloc (Obj.cells #[.int .i64 r.1.epoch, .int .i64 r.1.doing, .int .i64 r.1.e.kind, .int .i64 r.1.e.job, .int .i64 r.1.e.every, .int .i64 r.1.e.time, .int .i64 r.1.e.client, .int .i64 r.1.at_, .int .i64 r.1.link, .int .i64 r.1.played, .slice A1 n1 k1, .slice A2 m1 d1] 56)).cell? ⟨w4.heap.size, 9, none⟩ = some (.int .i64 r.1.played) := by simp [go_sem]
  have fp9 : (w4.alloc (Obj.cells #[.int .i64 r.1.epoch, .int .i64 r.1.doing, .int .i64 r.1.e.kind, .int .i64 r.1.e.job, .int .i64 r.1.e.every, .int .i64 r.1.e.time, .int .i64 r.1.e.client, .int .i64 r.1.at_, .int .i64 r.1.link, .int .i64 r.1.played, .slice A1 n1 k1, .slice A2 m1 d1] 56)).frozen? ⟨w4.heap.size, 9, none⟩ = false := by simp [go_sem]
  have p10 : (w4.alloc (Obj.cells #[.int .i64 r.1.epoch, .int .i64 r.1.doing, .int .i64 r.1.e.kind, .int .i64 r.1.e.job, .int .i64 r.1.e.every, .int .i64 r.1.e.time, .int .i64 r.1.e.client, .int .i64 r.1.at_, .int .i64 r.1.link, .int .i64 r.1.played, .slice A1 n1 k1, .slice A2 m1 d1] 56)).cell? ⟨w4.heap.size, 10, none⟩ = some (.slice A1 n1 k1) := by simp [go_sem]
  have fp10 : (w4.alloc (Obj.cells #[.int .i64 r.1.epoch, .int .i64 r.1.doing, .int .i64 r.1.e.kind, .int .i64 r.1.e.job, .int .i64 r.1.e.every, .int .i64 r.1.e.time, .int .i64 r.1.e.client, .int .i64 r.1.at_, .int .i64 r.1.link, .int .i64 r.1.played, .slice A1 n1 k1, .slice A2 m1 d1] 56)).frozen? ⟨w4.heap.size, 10, none⟩ = false := by simp [go_sem]
  have p11 : (w4.alloc (Obj.cells #[.int .i64 r.1.epoch, .int .i64 r.1.doing, .int .i64 r.1.e.kind, .int .i64 r.1.e.job, .int .i64 r.1.e.every, .int .i64 r.1.e.time, .int .i64 r.1.e.client, .int .i64 r.1.at_, .int .i64 r.1.link, .int .i64 r.1.played, .slice A1 n1 k1, .slice A2 m1 d1] 56)).cell? ⟨w4.heap.size, 11, none⟩ = some (.slice A2 m1 d1) := by simp [go_sem]
  have fp11 : (w4.alloc (Obj.cells #[.int .i64 r.1.epoch, .int .i64 r.1.doing, .int .i64 r.1.e.kind, .int .i64 r.1.e.job, .int .i64 r.1.e.every, .int .i64 r.1.e.time, .int .i64 r.1.e.client, .int .i64 r.1.at_, .int .i64 r.1.link, .int .i64 r.1.played, .slice A1 n1 k1, .slice A2 m1 d1] 56)).frozen? ⟨w4.heap.size, 11, none⟩ = false := by simp [go_sem]
  change Code.wp _ _ _ _ (w4.alloc (Obj.cells #[.int .i64 r.1.epoch, .int .i64 r.1.doing, .int .i64 r.1.e.kind, .int .i64 r.1.e.job, .int .i64 r.1.e.every, .int .i64 r.1.e.time, .int .i64 r.1.e.client, .int .i64 r.1.at_, .int .i64 r.1.link, .int .i64 r.1.played, .slice A1 n1 k1, .slice A2 m1 d1] 56))
  clear hbx
  generalize (w4.alloc (Obj.cells #[.int .i64 r.1.epoch, .int .i64 r.1.doing, .int .i64 r.1.e.kind, .int .i64 r.1.e.job, .int .i64 r.1.e.every, .int .i64 r.1.e.time, .int .i64 r.1.e.client, .int .i64 r.1.at_, .int .i64 r.1.link, .int .i64 r.1.played, .slice A1 n1 k1, .slice A2 m1 d1] 56)) = w5 at *
  generalize w4.heap.size = Bp at *
  go_cut [70] (fun s70 wx => s70 = .bool false ∧ Onto w5 wx)
  case first =>
    by_cases hq : r.2 = 0
    · have hk := playCl_keeps (by rw [← HR.out]; exact hq)
      have hwl : IntKind.i64.wrap (pl + 1) = pl + 1 := by have := checkCl_played hk.1; dsimp only at this; have := hk.2.1; dsimp only at this; rw [IntKind.wrap_i64]; omega
      have hr2 := HR.out.trans hk.2.2.2.1
      have HCK := Lib.hid hk.2.2.2.2
      clear hk hq
      subst hr2
      have hne := neqE
      dsimp only at p0 p1 p2 p3 p4 p5 p6 p7 p8 p9 p10 p11 s1 s2
      go_wp2_with fail
      refine Calls.mono (ClCheck_calls ep dg at_ ln (pl + 1) ⟨y.kind, y.job, y.every, y.time, y.client⟩ A1 A2 n1 k1 m1 d1 (applyB b x).1 _ s1 s2) ?_
      rw [HCK.out]
      rintro e w6 ⟨rfl, hb⟩
      replace fc0 := frozB hb c0 fc0; replace c0 := cellB hb c0
      replace fc1 := frozB hb c1 fc1; replace c1 := cellB hb c1
      replace fc2 := frozB hb c2 fc2; replace c2 := cellB hb c2
      replace fc3 := frozB hb c3 fc3; replace c3 := cellB hb c3
      replace fc4 := frozB hb c4 fc4; replace c4 := cellB hb c4
      replace fc5 := frozB hb c5 fc5; replace c5 := cellB hb c5
      replace fc6 := frozB hb c6 fc6; replace c6 := cellB hb c6
      replace fc7 := frozB hb c7 fc7; replace c7 := cellB hb c7
      replace fc8 := frozB hb c8 fc8; replace c8 := cellB hb c8
      replace fc9 := frozB hb c9 fc9; replace c9 := cellB hb c9
      replace fc10 := frozB hb c10 fc10; replace c10 := cellB hb c10
      replace fc11 := frozB hb c11 fc11; replace c11 := cellB hb c11
      replace e0 := cellB hb e0
      replace e1 := cellB hb e1
      replace e2 := cellB hb e2
      replace e3 := cellB hb e3
      replace e4 := cellB hb e4
      replace fp0 := frozB hb p0 fp0; replace p0 := cellB hb p0
      replace fp1 := frozB hb p1 fp1; replace p1 := cellB hb p1
      replace fp2 := frozB hb p2 fp2; replace p2 := cellB hb p2
      replace fp3 := frozB hb p3 fp3; replace p3 := cellB hb p3
      replace fp4 := frozB hb p4 fp4; replace p4 := cellB hb p4
      replace fp5 := frozB hb p5 fp5; replace p5 := cellB hb p5
      replace fp6 := frozB hb p6 fp6; replace p6 := cellB hb p6
      replace fp7 := frozB hb p7 fp7; replace p7 := cellB hb p7
      replace fp8 := frozB hb p8 fp8; replace p8 := cellB hb p8
      replace fp9 := frozB hb p9 fp9; replace p9 := cellB hb p9
      replace fp10 := frozB hb p10 fp10; replace p10 := cellB hb p10
      replace fp11 := frozB hb p11 fp11; replace p11 := cellB hb p11
      replace sA := S.onto sA hb
      replace sB := S.onto sB hb
      replace s1 := S.onto s1 hb
      replace s2 := S.onto s2 hb
      replace hon := Onto.to hon hb
      go_wp2_with fail
      go_meet
      exact ⟨rfl, hb⟩
    · have hd : (r.2 == 0) = false := by simpa using hq
      clear hq
      go_wp2_with fail
      go_meet
      exact ⟨rfl, Onto.rfl' _⟩
  case rest =>
  obtain ⟨rfl, hb⟩ := hcut
  clear p0 fp0 p1 fp1 p2 fp2 p3 fp3 p4 fp4 p5 fp5 p6 fp6 p7 fp7 p8 fp8 p9 fp9 p10 fp10 p11 fp11
  clear s1 s2
  replace fc0 := frozB hb c0 fc0; replace c0 := cellB hb c0
  replace fc1 := frozB hb c1 fc1; replace c1 := cellB hb c1
  replace fc2 := frozB hb c2 fc2; replace c2 := cellB hb c2
  replace fc3 := frozB hb c3 fc3; replace c3 := cellB hb c3
  replace fc4 := frozB hb c4 fc4; replace c4 := cellB hb c4
  replace fc5 := frozB hb c5 fc5; replace c5 := cellB hb c5
  replace fc6 := frozB hb c6 fc6; replace c6 := cellB hb c6
  replace fc7 := frozB hb c7 fc7; replace c7 := cellB hb c7
  replace fc8 := frozB hb c8 fc8; replace c8 := cellB hb c8
  replace fc9 := frozB hb c9 fc9; replace c9 := cellB hb c9
  replace fc10 := frozB hb c10 fc10; replace c10 := cellB hb c10
  replace fc11 := frozB hb c11 fc11; replace c11 := cellB hb c11
  replace e0 := cellB hb e0
  replace e1 := cellB hb e1
  replace e2 := cellB hb e2
  replace e3 := cellB hb e3
  replace e4 := cellB hb e4
  replace sA := S.onto sA hb
  replace sB := S.onto sB hb
  replace hon := Onto.to hon hb
  clear hb
  go_wp2_with fail
  refine Calls.mono (ClFill_calls ep dg at_ ln pl ⟨y.kind, y.job, y.every, y.time, y.client⟩ A A' n k m d b pv _ sA sB) ?_
  rw [fillCl_not HQ.out HDG.out]
  rintro e w8 ⟨A3, n3, k3, A4, n4, k4, rfl, s3, s4, hb, _, _, _, _⟩
  replace fc0 := frozB hb c0 fc0; replace c0 := cellB hb c0
  replace fc1 := frozB hb c1 fc1; replace c1 := cellB hb c1
  replace fc2 := frozB hb c2 fc2; replace c2 := cellB hb c2
  replace fc3 := frozB hb c3 fc3; replace c3 := cellB hb c3
  replace fc4 := frozB hb c4 fc4; replace c4 := cellB hb c4
  replace fc5 := frozB hb c5 fc5; replace c5 := cellB hb c5
  replace fc6 := frozB hb c6 fc6; replace c6 := cellB hb c6
  replace fc7 := frozB hb c7 fc7; replace c7 := cellB hb c7
  replace fc8 := frozB hb c8 fc8; replace c8 := cellB hb c8
  replace fc9 := frozB hb c9 fc9; replace c9 := cellB hb c9
  replace fc10 := frozB hb c10 fc10; replace c10 := cellB hb c10
  replace fc11 := frozB hb c11 fc11; replace c11 := cellB hb c11
  replace e0 := cellB hb e0
  replace e1 := cellB hb e1
  replace e2 := cellB hb e2
  replace e3 := cellB hb e3
  replace e4 := cellB hb e4
  replace sA := S.onto sA hb
  replace sB := S.onto sB hb
  replace hon := Onto.to hon hb
  clear hb s3 s4
  go_upto_region 8 with fail
  have hgw : w.heap.size ≤ w8.heap.size := hon.size
  have hcg : w.heap.size < w8.heap.size := World.block_lt_of_cell? _ _ c0
  have heg : w.heap.size + 1 < w8.heap.size := World.block_lt_of_cell? _ _ e0
  have hbx : Onto w8 (w8.alloc (Obj.cells #[.int .i64 zeroCl.epoch, .int .i64 zeroCl.doing, .int .i64 zeroCl.e.kind, .int .i64 zeroCl.e.job, .int .i64 zeroCl.e.every, .int .i64 zeroCl.e.time, .int .i64 zeroCl.e.client, .int .i64 zeroCl.at_, .int .i64 zeroCl.link, .int .i64 zeroCl.played, .slice A3 n3 k3, .slice A4 n4 k4] 56)) := (Below.refl _ _).alloc (Nat.le_refl _) _
  replace fc0 := frozB hbx c0 fc0; replace c0 := cellB hbx c0
  replace fc1 := frozB hbx c1 fc1; replace c1 := cellB hbx c1
  replace fc2 := frozB hbx c2 fc2; replace c2 := cellB hbx c2
  replace fc3 := frozB hbx c3 fc3; replace c3 := cellB hbx c3
  replace fc4 := frozB hbx c4 fc4; replace c4 := cellB hbx c4
  replace fc5 := frozB hbx c5 fc5; replace c5 := cellB hbx c5
  replace fc6 := frozB hbx c6 fc6; replace c6 := cellB hbx c6
  replace fc7 := frozB hbx c7 fc7; replace c7 := cellB hbx c7
  replace fc8 := frozB hbx c8 fc8; replace c8 := cellB hbx c8
  replace fc9 := frozB hbx c9 fc9; replace c9 := cellB hbx c9
  replace fc10 := frozB hbx c10 fc10; replace c10 := cellB hbx c10
  replace fc11 := frozB hbx c11 fc11; replace c11 := cellB hbx c11
  replace e0 := cellB hbx e0
  replace e1 := cellB hbx e1
  replace e2 := cellB hbx e2
  replace e3 := cellB hbx e3
  replace e4 := cellB hbx e4
  replace sA := S.onto sA hbx
  replace sB := S.onto sB hbx
  replace hon := Onto.to hon hbx
  have g0 : (w8.alloc (Obj.cells #[.int .i64 zeroCl.epoch, .int .i64 zeroCl.doing, .int .i64 zeroCl.e.kind, .int .i64 zeroCl.e.job, .int .i64 zeroCl.e.every, .int .i64 zeroCl.e.time, .int .i64 zeroCl.e.client, .int .i64 zeroCl.at_, .int .i64 zeroCl.link, .int .i64 zeroCl.played, .slice A3 n3 k3, .slice A4 n4 k4] 56)).cell? ⟨w8.heap.size, 0, none⟩ = some (.int .i64 zeroCl.epoch) := by simp [go_sem]
  have fg0 : (w8.alloc (Obj.cells #[.int .i64 zeroCl.epoch, .int .i64 zeroCl.doing, .int .i64 zeroCl.e.kind, .int .i64 zeroCl.e.job, .int .i64 zeroCl.e.every, .int .i64 zeroCl.e.time, .int .i64 zeroCl.e.client, .int .i64 zeroCl.at_, .int .i64 zeroCl.link, .int .i64 zeroCl.played, .slice A3 n3 k3, .slice A4 n4 k4] 56)).frozen? ⟨w8.heap.size, 0, none⟩ = false := by simp [go_sem]
  have g1 : (w8.alloc (Obj.cells #[.int .i64 zeroCl.epoch, .int .i64 zeroCl.doing, .int .i64 zeroCl.e.kind, .int .i64 zeroCl.e.job, .int .i64 zeroCl.e.every, .int .i64 zeroCl.e.time, .int .i64 zeroCl.e.client, .int .i64 zeroCl.at_, .int .i64 zeroCl.link, .int .i64 zeroCl.played, .slice A3 n3 k3, .slice A4 n4 k4] 56)).cell? ⟨w8.heap.size, 1, none⟩ = some (.int .i64 zeroCl.doing) := by simp [go_sem]
  have fg1 : (w8.alloc (Obj.cells #[.int .i64 zeroCl.epoch, .int .i64 zeroCl.doing, .int .i64 zeroCl.e.kind, .int .i64 zeroCl.e.job, .int .i64 zeroCl.e.every, .int .i64 zeroCl.e.time, .int .i64 zeroCl.e.client, .int .i64 zeroCl.at_, .int .i64 zeroCl.link, .int .i64 zeroCl.played, .slice A3 n3 k3, .slice A4 n4 k4] 56)).frozen? ⟨w8.heap.size, 1, none⟩ = false := by simp [go_sem]
  have g2 : (w8.alloc (Obj.cells #[.int .i64 zeroCl.epoch, .int .i64 zeroCl.doing, .int .i64 zeroCl.e.kind, .int .i64 zeroCl.e.job, .int .i64 zeroCl.e.every, .int .i64 zeroCl.e.time, .int .i64 zeroCl.e.client, .int .i64 zeroCl.at_, .int .i64 zeroCl.link, .int .i64 zeroCl.played, .slice A3 n3 k3, .slice A4 n4 k4] 56)).cell? ⟨w8.heap.size, 2, none⟩ = some (.int .i64 zeroCl.e.kind) := by simp [go_sem]
  have fg2 : (w8.alloc (Obj.cells #[.int .i64 zeroCl.epoch, .int .i64 zeroCl.doing, .int .i64 zeroCl.e.kind, .int .i64 zeroCl.e.job, .int .i64 zeroCl.e.every, .int .i64 zeroCl.e.time, .int .i64 zeroCl.e.client, .int .i64 zeroCl.at_, .int .i64 zeroCl.link, .int .i64 zeroCl.played, .slice A3 n3 k3, .slice A4 n4 k4] 56)).frozen? ⟨w8.heap.size, 2, none⟩ = false := by simp [go_sem]
  have g3 : (w8.alloc (Obj.cells #[.int .i64 zeroCl.epoch, .int .i64 zeroCl.doing, .int .i64 zeroCl.e.kind, .int .i64 zeroCl.e.job, .int .i64 zeroCl.e.every, .int .i64 zeroCl.e.time, .int .i64 zeroCl.e.client, .int .i64 zeroCl.at_, .int .i64 zeroCl.link, .int .i64 zeroCl.played, .slice A3 n3 k3, .slice A4 n4 k4] 56)).cell? ⟨w8.heap.size, 3, none⟩ = some (.int .i64 zeroCl.e.job) := by simp [go_sem]
  have fg3 : (w8.alloc (Obj.cells #[.int .i64 zeroCl.epoch, .int .i64 zeroCl.doing, .int .i64 zeroCl.e.kind, .int .i64 zeroCl.e.job, .int .i64 zeroCl.e.every, .int .i64 zeroCl.e.time, .int .i64 zeroCl.e.client, .int .i64 zeroCl.at_, .int .i64 zeroCl.link, .int .i64 zeroCl.played, .slice A3 n3 k3, .slice A4 n4 k4] 56)).frozen? ⟨w8.heap.size, 3, none⟩ = false := by simp [go_sem]
  have g4 : (w8.alloc (Obj.cells #[.int .i64 zeroCl.epoch, .int .i64 zeroCl.doing, .int .i64 zeroCl.e.kind, .int .i64 zeroCl.e.job, .int .i64 zeroCl.e.every, .int .i64 zeroCl.e.time, .int .i64 zeroCl.e.client, .int .i64 zeroCl.at_, .int .i64 zeroCl.link, .int .i64 zeroCl.played, .slice A3 n3 k3, .slice A4 n4 k4] 56)).cell? ⟨w8.heap.size, 4, none⟩ = some (.int .i64 zeroCl.e.every) := by simp [go_sem]
  have fg4 : (w8.alloc (Obj.cells #[.int .i64 zeroCl.epoch, .int .i64 zeroCl.doing, .int .i64 zeroCl.e.kind, .int .i64 zeroCl.e.job, .int .i64 zeroCl.e.every, .int .i64 zeroCl.e.time, .int .i64 zeroCl.e.client, .int .i64 zeroCl.at_, .int .i64 zeroCl.link, .int .i64 zeroCl.played, .slice A3 n3 k3, .slice A4 n4 k4] 56)).frozen? ⟨w8.heap.size, 4, none⟩ = false := by simp [go_sem]
  have g5 : (w8.alloc (Obj.cells #[.int .i64 zeroCl.epoch, .int .i64 zeroCl.doing, .int .i64 zeroCl.e.kind, .int .i64 zeroCl.e.job, .int .i64 zeroCl.e.every, .int .i64 zeroCl.e.time, .int .i64 zeroCl.e.client, .int .i64 zeroCl.at_, .int .i64 zeroCl.link, .int .i64 zeroCl.played, .slice A3 n3 k3, .slice A4 n4 k4] 56)).cell? ⟨w8.heap.size, 5, none⟩ = some (.int .i64 zeroCl.e.time) := by simp [go_sem]
  have fg5 : (w8.alloc (Obj.cells #[.int .i64 zeroCl.epoch, .int .i64 zeroCl.doing, .int .i64 zeroCl.e.kind, .int .i64 zeroCl.e.job, .int .i64 zeroCl.e.every, .int .i64 zeroCl.e.time, .int .i64 zeroCl.e.client, .int .i64 zeroCl.at_, .int .i64 zeroCl.link, .int .i64 zeroCl.played, .slice A3 n3 k3, .slice A4 n4 k4] 56)).frozen? ⟨w8.heap.size, 5, none⟩ = false := by simp [go_sem]
  have g6 : (w8.alloc (Obj.cells #[.int .i64 zeroCl.epoch, .int .i64 zeroCl.doing, .int .i64 zeroCl.e.kind, .int .i64 zeroCl.e.job, .int .i64 zeroCl.e.every, .int .i64 zeroCl.e.time, .int .i64 zeroCl.e.client, .int .i64 zeroCl.at_, .int .i64 zeroCl.link, .int .i64 zeroCl.played, .slice A3 n3 k3, .slice A4 n4 k4] 56)).cell? ⟨w8.heap.size, 6, none⟩ = some (.int .i64 zeroCl.e.client) := by simp [go_sem]
  have fg6 : (w8.alloc (Obj.cells #[.int .i64 zeroCl.epoch, .int .i64 zeroCl.doing, .int .i64 zeroCl.e.kind, .int .i64 zeroCl.e.job, .int .i64 zeroCl.e.every, .int .i64 zeroCl.e.time, .int .i64 zeroCl.e.client, .int .i64 zeroCl.at_, .int .i64 zeroCl.link, .int .i64 zeroCl.played, .slice A3 n3 k3, .slice A4 n4 k4] 56)).frozen? ⟨w8.heap.size, 6, none⟩ = false := by simp [go_sem]
  have g7 : (w8.alloc (Obj.cells #[.int .i64 zeroCl.epoch, .int .i64 zeroCl.doing, .int .i64 zeroCl.e.kind, .int .i64 zeroCl.e.job, .int .i64 zeroCl.e.every, .int .i64 zeroCl.e.time, .int .i64 zeroCl.e.client, .int .i64 zeroCl.at_, .int .i64 zeroCl.link, .int .i64 zeroCl.played, .slice A3 n3 k3, .slice A4 n4 k4] 56)).cell? ⟨w8.heap.size, 7, none⟩ = some (.int .i64 zeroCl.at_) := by simp [go_sem]
  have fg7 : (w8.alloc (Obj.cells #[.int .i64 zeroCl.epoch, .int .i64 zeroCl.doing, .int .i64 zeroCl.e.kind, .int .i64 zeroCl.e.job, .int .i64 zeroCl.e.every, .int .i64 zeroCl.e.time, .int .i64 zeroCl.e.client, .int .i64 zeroCl.at_, .int .i64 zeroCl.link, .int .i64 zeroCl.played, .slice A3 n3 k3, .slice A4 n4 k4] 56)).frozen? ⟨w8.heap.size, 7, none⟩ = false := by simp [go_sem]
  have g8 : (w8.alloc (Obj.cells #[.int .i64 zeroCl.epoch, .int .i64 zeroCl.doing, .int .i64 zeroCl.e.kind, .int .i64 zeroCl.e.job, .int .i64 zeroCl.e.every, .int .i64 zeroCl.e.time, .int .i64 zeroCl.e.client, .int .i64 zeroCl.at_, .int .i64 zeroCl.link, .int .i64 zeroCl.played, .slice A3 n3 k3, .slice A4 n4 k4] 56)).cell? ⟨w8.heap.size, 8, none⟩ = some (.int .i64 zeroCl.link) := by simp [go_sem]
  have fg8 : (w8.alloc (Obj.cells #[.int .i64 zeroCl.epoch, .int .i64 zeroCl.doing, .int .i64 zeroCl.e.kind, .int .i64 zeroCl.e.job, .int .i64 zeroCl.e.every, .int .i64 zeroCl.e.time, .int .i64 zeroCl.e.client, .int .i64 zeroCl.at_, .int .i64 zeroCl.link, .int .i64 zeroCl.played, .slice A3 n3 k3, .slice A4 n4 k4] 56)).frozen? ⟨w8.heap.size, 8, none⟩ = false := by simp [go_sem]
  have g9 : (w8.alloc (Obj.cells #[.int .i64 zeroCl.epoch, .int .i64 zeroCl.doing, .int .i64 zeroCl.e.kind, .int .i64 zeroCl.e.job, .int .i64 zeroCl.e.every, .int .i64 zeroCl.e.time, .int .i64 zeroCl.e.client, .int .i64 zeroCl.at_, .int .i64 zeroCl.link, .int .i64 zeroCl.played, .slice A3 n3 k3, .slice A4 n4 k4] 56)).cell? ⟨w8.heap.size, 9, none⟩ = some (.int .i64 zeroCl.played) := by simp [go_sem]
  have fg9 : (w8.alloc (Obj.cells #[.int .i64 zeroCl.epoch, .int .i64 zeroCl.doing, .int .i64 zeroCl.e.kind, .int .i64 zeroCl.e.job, .int .i64 zeroCl.e.every, .int .i64 zeroCl.e.time, .int .i64 zeroCl.e.client, .int .i64 zeroCl.at_, .int .i64 zeroCl.link, .int .i64 zeroCl.played, .slice A3 n3 k3, .slice A4 n4 k4] 56)).frozen? ⟨w8.heap.size, 9, none⟩ = false := by simp [go_sem]
  have g10 : (w8.alloc (Obj.cells #[.int .i64 zeroCl.epoch, .int .i64 zeroCl.doing, .int .i64 zeroCl.e.kind, .int .i64 zeroCl.e.job, .int .i64 zeroCl.e.every, .int .i64 zeroCl.e.time, .int .i64 zeroCl.e.client, .int .i64 zeroCl.at_, .int .i64 zeroCl.link, .int .i64 zeroCl.played, .slice A3 n3 k3, .slice A4 n4 k4] 56)).cell? ⟨w8.heap.size, 10, none⟩ = some (.slice A3 n3 k3) := by simp [go_sem]
  have fg10 : (w8.alloc (Obj.cells #[.int .i64 zeroCl.epoch, .int .i64 zeroCl.doing, .int .i64 zeroCl.e.kind, .int .i64 zeroCl.e.job, .int .i64 zeroCl.e.every, .int .i64 zeroCl.e.time, .int .i64 zeroCl.e.client, .int .i64 zeroCl.at_, .int .i64 zeroCl.link, .int .i64 zeroCl.played, .slice A3 n3 k3, .slice A4 n4 k4] 56)).frozen? ⟨w8.heap.size, 10, none⟩ = false := by simp [go_sem]
  have g11 : (w8.alloc (Obj.cells #[.int .i64 zeroCl.epoch, .int .i64 zeroCl.doing, .int .i64 zeroCl.e.kind, .int .i64 zeroCl.e.job, .int .i64 zeroCl.e.every, .int .i64 zeroCl.e.time, .int .i64 zeroCl.e.client, .int .i64 zeroCl.at_, .int .i64 zeroCl.link, .int .i64 zeroCl.played, .slice A3 n3 k3, .slice A4 n4 k4] 56)).cell? ⟨w8.heap.size, 11, none⟩ = some (.slice A4 n4 k4) := by simp [go_sem]
  have fg11 : (w8.alloc (Obj.cells #[.int .i64 zeroCl.epoch, .int .i64 zeroCl.doing, .int .i64 zeroCl.e.kind, .int .i64 zeroCl.e.job, .int .i64 zeroCl.e.every, .int .i64 zeroCl.e.time, .int .i64 zeroCl.e.client, .int .i64 zeroCl.at_, .int .i64 zeroCl.link, .int .i64 zeroCl.played, .slice A3 n3 k3, .slice A4 n4 k4] 56)).frozen? ⟨w8.heap.size, 11, none⟩ = false := by simp [go_sem]
  change Code.wp _ _ _ _ (w8.alloc (Obj.cells #[.int .i64 zeroCl.epoch, .int .i64 zeroCl.doing, .int .i64 zeroCl.e.kind, .int .i64 zeroCl.e.job, .int .i64 zeroCl.e.every, .int .i64 zeroCl.e.time, .int .i64 zeroCl.e.client, .int .i64 zeroCl.at_, .int .i64 zeroCl.link, .int .i64 zeroCl.played, .slice A3 n3 k3, .slice A4 n4 k4] 56))
  clear hbx
  generalize (w8.alloc (Obj.cells #[.int .i64 zeroCl.epoch, .int .i64 zeroCl.doing, .int .i64 zeroCl.e.kind, .int .i64 zeroCl.e.job, .int .i64 zeroCl.e.every, .int .i64 zeroCl.e.time, .int .i64 zeroCl.e.client, .int .i64 zeroCl.at_, .int .i64 zeroCl.link, .int .i64 zeroCl.played, .slice A3 n3 k3, .slice A4 n4 k4] 56)) = w9 at *
  generalize w8.heap.size = Bg at *
  go_wp2_with fail
  go_ret
  exact ⟨rfl, hon⟩
end Go.Proofs.Ytbipmoehcmighaa
