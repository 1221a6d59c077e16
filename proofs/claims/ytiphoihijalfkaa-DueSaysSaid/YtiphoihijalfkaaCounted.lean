/- The closed fact 'counted': it holds. -/
import Derived.Test.YtiphoihijalfkaaCount
import Derived.Test.YtiphoihijalfkaaWhen
import Derived.Test.YtiphoihijalfkaaLawD
import Derived.Test.YtiphoihijalfkaaRung
namespace Go.Proofs.Ytiphoihijalfkaa
set_option linter.unusedSimpArgs false
set_option linter.unusedVariables false
open Go.RowKit

def countedB : Book := ⟨[⟨1, 7, 3⟩, ⟨2, 5, 2⟩, ⟨4, 1, 12⟩], []⟩
theorem counted_c : checkD countedB 11 = 0 := by kernel_rfl
theorem counted_l : dueL countedB.jobs 11 = [⟨2, 5, 2⟩, ⟨1, 7, 3⟩] := by kernel_rfl
theorem counted_n : countL countedB.jobs 11 = 4 := by kernel_rfl
theorem counted_w : checkB countedB = 0 ∧ whenL (-1) countedB.jobs = 2 := ⟨by kernel_rfl, by kernel_rfl⟩
theorem counted_v : checkB ⟨[], []⟩ = 0 ∧ whenL (-1) [] = -1 := ⟨by kernel_rfl, by kernel_rfl⟩
set_option maxHeartbeats 4000000 in
set_option maxRecDepth 100000 in
theorem counted_calls (w : World) : Calls Try.prog 22 #[] w fun e w' => e = .returned (.bool true) ∧ Onto w w' := by
  go_enter Try.func22, Try.ntmps22
  go_wp2_with fail
  have hS : ∀ o, S ((w.alloc (Obj.cells #[.int .i64 1, .int .i64 7, .int .i64 3, .int .i64 2, .int .i64 5, .int .i64 2, .int .i64 4, .int .i64 1, .int .i64 12] 46)).alloc o) 3 (some ⟨w.heap.size, 0, none⟩) 3 (countedB.jobs.map encJ) := fun o =>
    (S.new (Sl.block (countedB.jobs.map encJ) (hNew rfl) (by simp [countedB, encJ]) (by rfl)) o)
  have hS' : ∀ W, S W 3 none 0 (countedB.rung.map encR) := fun W => Sl.nil
  refine Calls.mono (Due_calls (some ⟨w.heap.size, 0, none⟩) none 3 3 0 0 countedB 11 _ (hS _) (hS' _)) ?_
  rw [counted_c, if_pos rfl, counted_l]
  rintro e w1 ⟨A1, n1, c1, rfl, hs1, hb1, _, _, _⟩
  have hn1 : 2 = n1 := by have := hs1.len; simpa using this
  subst hn1
  have h1 := (hS (Obj.cells #[.slice (some ⟨w.heap.size, 0, none⟩) 3 3, .slice none 0 0] 38)).onto hb1
  have q0 : w1.cell? ⟨w.heap.size + 1, 0, none⟩ = some (.slice (some ⟨w.heap.size, 0, none⟩) 3 3) := cellB hb1 (by simp [go_sem])
  have q1 : w1.cell? ⟨w.heap.size + 1, 1, none⟩ = some (.slice none 0 0) := cellB hb1 (by simp [go_sem])
  have h01 : Onto w w1 := (((Below.refl _ _).alloc (Nat.le_refl _) _).alloc (by simp) _).trans (hb1.mono (by simp; omega))
  clear hb1 hS
  go_wp2_with fail
  refine Calls.mono (Count_calls (some ⟨w.heap.size, 0, none⟩) none 3 3 0 0 countedB 11 _ h1 (hS' _)) ?_
  rw [counted_c, if_pos rfl, counted_n]
  rintro e w2 ⟨rfl, hb2⟩
  have q0' := cellB hb2 q0; have q1' := cellB hb2 q1
  have h2 := h1.onto hb2; have hs2 := hs1.onto hb2; have h02 := Onto.to h01 hb2
  clear q0 q1 hb2 h1 hs1 h01
  go_wp2_with fail
  refine Calls.mono (When_calls (some ⟨w.heap.size, 0, none⟩) none 3 3 0 0 countedB _ h2 (hS' _)) ?_
  rw [counted_w.1, if_pos rfl, counted_w.2]
  rintro e w3 ⟨rfl, hb3⟩
  have hs3 := hs2.onto hb3; have h03 := Onto.to h02 hb3
  clear q0' q1' hb3 h2 hs2 h02
  go_wp2_with fail
  refine Calls.mono (When_calls none none 0 0 0 0 ⟨[], []⟩ _ Sl.nil Sl.nil) ?_
  rw [counted_v.1, if_pos rfl, counted_v.2]
  rintro e w4 ⟨rfl, hb4⟩
  have hs4 := hs3.onto hb4; have h04 := Onto.to h03 hb4
  obtain ⟨b, off, x, rfl, hb, hx, c0, _, _⟩ := hs4.atJ (i := 0) (by omega)
  obtain ⟨b', off', y, e', _, hy, d0, _, _⟩ := hs4.atJ (i := 1) (by omega)
  injection e' with e'; injection e' with e1 e2 _
  subst e1; subst e2
  simp at hx hy
  subst hx; subst hy
  simp only [Nat.zero_mul, Nat.add_zero, Nat.one_mul] at c0 d0
  clear hb4 hs3 hs4 h03
  go_wp2_with fail
  go_ret
  exact ⟨rfl, by first | exact h04 | exact Onto.draws h04 _⟩
end Go.Proofs.Ytiphoihijalfkaa
