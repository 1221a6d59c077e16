/- client.Check. -/
import Derived.Test.YtbipmoehcmighaaSpecU
import Derived.Test.YtbipmoehcmighaaEqE
import Derived.Test.YtbipmoehcmighaaSee
import Derived.Test.YtbipmoehcmighaaBook
namespace Go.Proofs.Ytbipmoehcmighaa
set_option linter.unusedSimpArgs false
set_option linter.unusedVariables false
open Go.RowKit

structure Cli where
  epoch : Int
  doing : Int
  e : Entry
  at_ : Int
  link : Int
  played : Int
  b : Book
  deriving DecidableEq
/-- client.Check. -/
def checkCl (c : Cli) : Int :=
  if c.epoch < 1 ∨ 20 < c.epoch ∨ c.doing < 0 ∨ 2 < c.doing ∨ c.at_ < 0 ∨ 60 ≤ c.at_ ∨ c.link < 0 ∨ 3 ≤ c.link ∨ c.played < 0 ∨ 60 < c.played then 3
  else if checkE c.e ≠ 0 then checkE c.e
  else if (c.doing ≠ 2 ∧ c.at_ + c.link ≠ 0) ∨ (c.doing = 0 ∧ c.e ≠ zeroE) ∨ (c.doing = 1 ∧ c.e.kind = 0) then 4
  else checkB c.b

set_option maxHeartbeats 8000000 in
set_option maxRecDepth 100000 in
theorem ClCheck_calls (ep dg at_ ln pl : Int) (x : Entry) (A A' : Option Addr) (n c m d : Nat) (b : Book) (w : World) (h : S w 3 A n (b.jobs.map encJ)) (h' : S w 3 A' m (b.rung.map encR)) :
    Calls Try.prog 35 #[.agg #[.int .i64 ep, .int .i64 dg, .int .i64 x.kind, .int .i64 x.job, .int .i64 x.every, .int .i64 x.time, .int .i64 x.client, .int .i64 at_, .int .i64 ln, .int .i64 pl, .slice A n c, .slice A' m d]] w fun e w' => e = .returned (.int .i64 (checkCl ⟨ep, dg, x, at_, ln, pl, b⟩)) ∧ Onto w w' := by
  obtain ⟨r, hr⟩ : ∃ r, r = checkCl ⟨ep, dg, x, at_, ln, pl, b⟩ := ⟨_, rfl⟩
  rw [← hr]
  unfold checkCl at hr
  simp only [ne_eq, entry_eq_iff, zeroE] at hr
  obtain ⟨q, hq⟩ : ∃ q, q = checkE x := ⟨_, rfl⟩
  obtain ⟨qb, hqb⟩ : ∃ q, q = checkB b := ⟨_, rfl⟩
  rw [← hq, ← hqb] at hr
  have HQ := Lib.hid hq; have HQB := Lib.hid hqb
  go_enter Try.func35, Try.ntmps35
  have hne := neqE
  have HR := Lib.hid hr
  have HS := Lib.hid h; have HS' := Lib.hid h'
  clear hr hq hqb h h'
  go_wp2_with (first
    | (go_at_call 58; refine Calls.mono (Check_calls x.kind x.job x.every x.time x.client _) ?_; rw [show checkE ⟨x.kind, x.job, x.every, x.time, x.client⟩ = q from HQ.out.symm]; rintro e w2 ⟨rfl, hb2⟩; have b0 : w2.cell? ⟨w.heap.size, 0, none⟩ = some (.int .i64 ep) := cellB hb2 (by simp [go_sem]); have b1 : w2.cell? ⟨w.heap.size, 1, none⟩ = some (.int .i64 dg) := cellB hb2 (by simp [go_sem]); have b2 : w2.cell? ⟨w.heap.size, 2, none⟩ = some (.int .i64 x.kind) := cellB hb2 (by simp [go_sem]); have b3 : w2.cell? ⟨w.heap.size, 3, none⟩ = some (.int .i64 x.job) := cellB hb2 (by simp [go_sem]); have b4 : w2.cell? ⟨w.heap.size, 4, none⟩ = some (.int .i64 x.every) := cellB hb2 (by simp [go_sem]); have b5 : w2.cell? ⟨w.heap.size, 5, none⟩ = some (.int .i64 x.time) := cellB hb2 (by simp [go_sem]); have b6 : w2.cell? ⟨w.heap.size, 6, none⟩ = some (.int .i64 x.client) := cellB hb2 (by simp [go_sem]); have b7 : w2.cell? ⟨w.heap.size, 7, none⟩ = some (.int .i64 at_) := cellB hb2 (by simp [go_sem]); have b8 : w2.cell? ⟨w.heap.size, 8, none⟩ = some (.int .i64 ln) := cellB hb2 (by simp [go_sem]); have b9 : w2.cell? ⟨w.heap.size, 9, none⟩ = some (.int .i64 pl) := cellB hb2 (by simp [go_sem]); have b10 : w2.cell? ⟨w.heap.size, 10, none⟩ = some (.slice A n c) := cellB hb2 (by simp [go_sem]); have b11 : w2.cell? ⟨w.heap.size, 11, none⟩ = some (.slice A' m d) := cellB hb2 (by simp [go_sem]); have h02 : Onto w w2 := Onto.to (Onto.new (Onto.rfl' w) (Obj.cells #[.int .i64 ep, .int .i64 dg, .int .i64 x.kind, .int .i64 x.job, .int .i64 x.every, .int .i64 x.time, .int .i64 x.client, .int .i64 at_, .int .i64 ln, .int .i64 pl, .slice A n c, .slice A' m d] 56)) hb2; clear hb2)
    | (go_at_call 71; refine Calls.mono (BCheck_calls A A' n c m d _ b.jobs b.rung _ (S.onto HS.out h02) (S.onto HS'.out h02) (Nat.le_refl _)) ?_; rw [show checkB ⟨b.jobs, b.rung⟩ = qb from HQB.out.symm]; rintro e w3 ⟨rfl, hb3⟩; have h03 := Onto.to h02 hb3; clear hb3 b0 b1 b2 b3 b4 b5 b6 b7 b8 b9 b10 b11))
  all_goals
    go_ret
    refine ⟨ret_int ?_, ?_⟩
    · rw [HR.out]
      clear HR hne HS HS' HQ HQB
      (try simp only [beq_iff_eq, beq_eq_false_iff_ne, bne_iff_ne, bne_eq_false_iff_eq, ne_eq, Bool.and_eq_true, Bool.and_eq_false_iff, Bool.not_eq_true', Bool.not_eq_false', Bool.or_eq_true, Bool.or_eq_false_iff, decide_eq_true_eq, decide_eq_false_iff_not] at *)
      (try unfold wrap64 at *)
      (repeat' split) <;> first | rfl | omega
    · first | exact h03 | exact h02 | exact (Below.refl _ _).alloc (Nat.le_refl _) _
end Go.Proofs.Ytbipmoehcmighaa
