/- The document's CheckClient, SameClient. -/
import Derived.Test.YtbipmoehcmighaaRBSame
import Derived.Test.YtbipmoehcmighaaREnt
import Derived.Test.YtbipmoehcmighaaClient3
namespace Go.Proofs.Ytbipmoehcmighaa
set_option linter.unusedSimpArgs false
set_option linter.unusedVariables false
open Go.RowKit

set_option maxHeartbeats 8000000 in
set_option maxRecDepth 100000 in
theorem RClCheck_calls (ep dg at_ ln pl : Int) (x : Entry) (A A' : Option Addr) (n c m d : Nat) (b : Book) (w : World) (h : S w 3 A n (b.jobs.map encJ)) (h' : S w 3 A' m (b.rung.map encR)) :
    Calls Try.prog 52 #[.agg #[.int .i64 ep, .int .i64 dg, .int .i64 x.kind, .int .i64 x.job, .int .i64 x.every, .int .i64 x.time, .int .i64 x.client, .int .i64 at_, .int .i64 ln, .int .i64 pl, .slice A n c, .slice A' m d]] w fun e w' => e = .returned (.int .i64 (checkCl ⟨ep, dg, x, at_, ln, pl, b⟩)) ∧ Onto w w' := by
  obtain ⟨r, hr⟩ : ∃ r, r = checkCl ⟨ep, dg, x, at_, ln, pl, b⟩ := ⟨_, rfl⟩
  rw [← hr]
  unfold checkCl at hr
  simp only [ne_eq, entry_eq_iff, zeroE] at hr
  obtain ⟨q, hq⟩ : ∃ q, q = checkE x := ⟨_, rfl⟩
  obtain ⟨qb, hqb⟩ : ∃ q, q = checkB b := ⟨_, rfl⟩
  rw [← hq, ← hqb] at hr
  have HQ := Lib.hid hq; have HQB := Lib.hid hqb
  go_enter Try.func52, Try.ntmps52
  have hne := neqE
  have HR := Lib.hid hr
  have HS := Lib.hid h; have HS' := Lib.hid h'
  clear hr hq hqb h h'
  go_wp2_with (first
    | (go_at_call 64; refine Calls.mono (in_calls _ _ _ _) ?_; rintro e w' ⟨rfl, rfl⟩)
    | (go_at_call 65; refine Calls.mono (RCE_calls x.kind x.job x.every x.time x.client _) ?_; rw [show checkE ⟨x.kind, x.job, x.every, x.time, x.client⟩ = q from HQ.out.symm]; rintro e w2 ⟨rfl, hb2⟩; have b0 : w2.cell? ⟨w.heap.size, 0, none⟩ = some (.int .i64 ep) := cellB hb2 (by simp [go_sem]); have b1 : w2.cell? ⟨w.heap.size, 1, none⟩ = some (.int .i64 dg) := cellB hb2 (by simp [go_sem]); have b2 : w2.cell? ⟨w.heap.size, 2, none⟩ = some (.int .i64 x.kind) := cellB hb2 (by simp [go_sem]); have b3 : w2.cell? ⟨w.heap.size, 3, none⟩ = some (.int .i64 x.job) := cellB hb2 (by simp [go_sem]); have b4 : w2.cell? ⟨w.heap.size, 4, none⟩ = some (.int .i64 x.every) := cellB hb2 (by simp [go_sem]); have b5 : w2.cell? ⟨w.heap.size, 5, none⟩ = some (.int .i64 x.time) := cellB hb2 (by simp [go_sem]); have b6 : w2.cell? ⟨w.heap.size, 6, none⟩ = some (.int .i64 x.client) := cellB hb2 (by simp [go_sem]); have b7 : w2.cell? ⟨w.heap.size, 7, none⟩ = some (.int .i64 at_) := cellB hb2 (by simp [go_sem]); have b8 : w2.cell? ⟨w.heap.size, 8, none⟩ = some (.int .i64 ln) := cellB hb2 (by simp [go_sem]); have b9 : w2.cell? ⟨w.heap.size, 9, none⟩ = some (.int .i64 pl) := cellB hb2 (by simp [go_sem]); have b10 : w2.cell? ⟨w.heap.size, 10, none⟩ = some (.slice A n c) := cellB hb2 (by simp [go_sem]); have b11 : w2.cell? ⟨w.heap.size, 11, none⟩ = some (.slice A' m d) := cellB hb2 (by simp [go_sem]); have h02 : Onto w w2 := Onto.to (Onto.new (Onto.rfl' w) (Obj.cells #[.int .i64 ep, .int .i64 dg, .int .i64 x.kind, .int .i64 x.job, .int .i64 x.every, .int .i64 x.time, .int .i64 x.client, .int .i64 at_, .int .i64 ln, .int .i64 pl, .slice A n c, .slice A' m d] 56)) hb2; clear hb2)
    | (go_at_call 80; refine Calls.mono (RBCheck_calls A A' n c m d b.jobs b.rung _ (S.onto HS.out h02) (S.onto HS'.out h02)) ?_; rw [show checkB ⟨b.jobs, b.rung⟩ = qb from HQB.out.symm]; rintro e w3 ⟨rfl, hb3⟩; have h03 := Onto.to h02 hb3; clear hb3 b0 b1 b2 b3 b4 b5 b6 b7 b8 b9 b10 b11))
  all_goals
    go_ret
    refine ⟨ret_int ?_, ?_⟩
    · rw [HR.out]
      clear HR hne HS HS' HQ HQB
      (try simp only [beq_iff_eq, beq_eq_false_iff_ne, bne_iff_ne, bne_eq_false_iff_eq, ne_eq, Bool.and_eq_true, Bool.and_eq_false_iff, Bool.not_eq_true', Bool.not_eq_false', Bool.or_eq_true, Bool.or_eq_false_iff, decide_eq_true_eq, decide_eq_false_iff_not] at *)
      (try unfold wrap64 at *)
      (repeat' split) <;> first | rfl | omega
    · first | exact h03 | exact h02 | exact (Below.refl _ _).alloc (Nat.le_refl _) _

set_option maxHeartbeats 4000000 in
set_option maxRecDepth 100000 in
theorem RClSame_calls (ep dg at_ ln pl ep2 dg2 at2_ ln2 pl2 : Int) (x x2 : Entry) (A A' D D' : Option Addr) (n c m d n' c' m' d' : Nat) (b b2 : Book) (w : World) (h : S w 3 A n (b.jobs.map encJ)) (h' : S w 3 A' m (b.rung.map encR))
    (g : S w 3 D n' (b2.jobs.map encJ)) (g' : S w 3 D' m' (b2.rung.map encR)) (hn : n ≤ 9223372036854775807) (hm : m ≤ 9223372036854775807) :
    Calls Try.prog 45 #[.agg #[.int .i64 ep, .int .i64 dg, .int .i64 x.kind, .int .i64 x.job, .int .i64 x.every, .int .i64 x.time, .int .i64 x.client, .int .i64 at_, .int .i64 ln, .int .i64 pl, .slice A n c, .slice A' m d], .agg #[.int .i64 ep2, .int .i64 dg2, .int .i64 x2.kind, .int .i64 x2.job, .int .i64 x2.every, .int .i64 x2.time, .int .i64 x2.client, .int .i64 at2_, .int .i64 ln2, .int .i64 pl2, .slice D n' c', .slice D' m' d']] w fun e w' => e = .returned (.bool (decide ((⟨ep, dg, x, at_, ln, pl, b⟩ : Cli) = ⟨ep2, dg2, x2, at2_, ln2, pl2, b2⟩))) ∧ Onto w w' := by
  obtain ⟨r, hr⟩ : ∃ r, r = decide ((⟨ep, dg, x, at_, ln, pl, b⟩ : Cli) = ⟨ep2, dg2, x2, at2_, ln2, pl2, b2⟩) := ⟨_, rfl⟩
  rw [← hr]
  obtain ⟨qb, hqb⟩ : ∃ q, q = decide (b = b2) := ⟨_, rfl⟩
  have hr2 : r = (ep == ep2 && dg == dg2 && (x.kind == x2.kind && x.job == x2.job && x.every == x2.every && x.time == x2.time && x.client == x2.client) && at_ == at2_ && ln == ln2 && pl == pl2 && qb) := by
    rw [hr, hqb, Bool.eq_iff_iff]
    simp only [decide_eq_true_eq, Cli.mk.injEq, entry_eq_iff, Bool.and_eq_true, beq_iff_eq]
    constructor
    · rintro ⟨h1, h2, h3, h4, h5, h6, h7⟩
      exact ⟨⟨⟨⟨⟨⟨h1, h2⟩, ⟨⟨⟨h3.1, h3.2.1⟩, h3.2.2.1⟩, h3.2.2.2.1⟩, h3.2.2.2.2⟩, h4⟩, h5⟩, h6⟩, h7⟩
    · rintro ⟨⟨⟨⟨⟨⟨h1, h2⟩, ⟨⟨⟨h3, h4⟩, h5⟩, h6⟩, h7⟩, h8⟩, h9⟩, h10⟩, h11⟩
      exact ⟨h1, h2, ⟨h3, h4, h5, h6, h7⟩, h8, h9, h10, h11⟩
  have HR := Lib.hid hr2; have HQB := Lib.hid hqb
  have HS := Lib.hid h; have HS' := Lib.hid h'; have HG := Lib.hid g; have HG' := Lib.hid g'; have HN := Lib.hid hn; have HM := Lib.hid hm
  clear hr hr2 hqb h h' g g' hn hm
  go_enter Try.func45, Try.ntmps45
  have heq := eqlE
  go_wp2_with (go_at_call 78; refine Calls.mono (RBSame_calls A A' D D' n c m d n' c' m' d' _ b.jobs b2.jobs b.rung b2.rung _ ((HS.out.new _).new _) ((HS'.out.new _).new _) ((HG.out.new _).new _) ((HG'.out.new _).new _) (Nat.le_refl _) HN.out HM.out) ?_; rw [show decide ((⟨b.jobs, b.rung⟩ : Book) = ⟨b2.jobs, b2.rung⟩) = qb from HQB.out.symm]; rintro e w2 ⟨rfl, hb2⟩; have h02 : Onto w w2 := Onto.to (((Below.refl _ _).alloc (Nat.le_refl _) _).alloc (by simp) _) hb2; clear hb2)
  all_goals
    go_ret
    refine ⟨ret_bool ?_, ?_⟩
    · rw [HR.out]
      clear HR HS HS' HG HG' HN HM HQB heq
      simp_all
    · first | exact h02 | exact ((Below.refl _ _).alloc (Nat.le_refl _) _).alloc (by simp) _
end Go.Proofs.Ytbipmoehcmighaa
