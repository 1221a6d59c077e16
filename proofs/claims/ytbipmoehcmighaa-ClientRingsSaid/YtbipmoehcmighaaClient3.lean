/- client.Same. -/
import Derived.Test.YtbipmoehcmighaaClient2
namespace Go.Proofs.Ytbipmoehcmighaa
set_option linter.unusedSimpArgs false
set_option linter.unusedVariables false
open Go.RowKit

set_option maxHeartbeats 4000000 in
set_option maxRecDepth 100000 in
theorem ClSame_calls (ep dg at_ ln pl ep2 dg2 at2_ ln2 pl2 : Int) (x x2 : Entry) (A A' D D' : Option Addr) (n c m d n' c' m' d' : Nat) (b b2 : Book) (w : World) (h : S w 3 A n (b.jobs.map encJ)) (h' : S w 3 A' m (b.rung.map encR))
    (g : S w 3 D n' (b2.jobs.map encJ)) (g' : S w 3 D' m' (b2.rung.map encR)) (hn : n ≤ 9223372036854775807) (hm : m ≤ 9223372036854775807) :
    Calls Try.prog 40 #[.agg #[.int .i64 ep, .int .i64 dg, .int .i64 x.kind, .int .i64 x.job, .int .i64 x.every, .int .i64 x.time, .int .i64 x.client, .int .i64 at_, .int .i64 ln, .int .i64 pl, .slice A n c, .slice A' m d], .agg #[.int .i64 ep2, .int .i64 dg2, .int .i64 x2.kind, .int .i64 x2.job, .int .i64 x2.every, .int .i64 x2.time, .int .i64 x2.client, .int .i64 at2_, .int .i64 ln2, .int .i64 pl2, .slice D n' c', .slice D' m' d']] w fun e w' => e = .returned (.bool (decide ((⟨ep, dg, x, at_, ln, pl, b⟩ : Cli) = ⟨ep2, dg2, x2, at2_, ln2, pl2, b2⟩))) ∧ Onto w w' := by
  obtain ⟨r, hr⟩ : ∃ r, r = decide ((⟨ep, dg, x, at_, ln, pl, b⟩ : Cli) = ⟨ep2, dg2, x2, at2_, ln2, pl2, b2⟩) := ⟨_, rfl⟩
  rw [← hr]
  obtain ⟨qb, hqb⟩ : ∃ q, q = decide (b = b2) := ⟨_, rfl⟩
  have hr2 : r = (ep == ep2 && dg == dg2 && (x.kind == x2.kind && x.job == x2.job && x.every == x2.every && x.time == x2.time && x.client == x2.client) && at_ == at2_ && ln == ln2 && pl == pl2 && qb) := by
    rw [hr, hqb, Bool.eq_iff_iff]
    simp only [decide_eq_true_eq, Cli.mk.injEq, entry_eq_iff, Bool.and_eq_true, beq_iff_eq]
    constructor
    · rintro ⟨h1, h2, h3, h4, h5, h6, h7⟩
      exact ⟨⟨⟨⟨⟨⟨h1, h2⟩, ⟨⟨⟨h3.1, h3.2.1⟩, h3.2.2.1⟩, h3.2.2.2.1⟩, h3.2.2.2.2⟩, h4⟩, h5⟩, h6⟩, h7⟩
    · rintro ⟨⟨⟨⟨⟨⟨h1, h2⟩, ⟨⟨⟨h3, h4⟩, h5⟩, h6⟩, h7⟩, h8⟩, h9⟩, h10⟩, h11⟩
      exact ⟨h1, h2, ⟨h3, h4, h5, h6, h7⟩, h8, h9, h10, h11⟩
  have HR := Lib.hid hr2; have HQB := Lib.hid hqb
  have HS := Lib.hid h; have HS' := Lib.hid h'; have HG := Lib.hid g; have HG' := Lib.hid g'; have HN := Lib.hid hn; have HM := Lib.hid hm
  clear hr hr2 hqb h h' g g' hn hm
  go_enter Try.func40, Try.ntmps40
  have heq := eqlE
  go_wp2_with (go_at_call 39; refine Calls.mono (BSame_calls A A' D D' n c m d n' c' m' d' _ b.jobs b2.jobs b.rung b2.rung _ ((HS.out.new _).new _) ((HS'.out.new _).new _) ((HG.out.new _).new _) ((HG'.out.new _).new _) (Nat.le_refl _) HN.out HM.out) ?_; rw [show decide ((⟨b.jobs, b.rung⟩ : Book) = ⟨b2.jobs, b2.rung⟩) = qb from HQB.out.symm]; rintro e w2 ⟨rfl, hb2⟩; have h02 : Onto w w2 := Onto.to (((Below.refl _ _).alloc (Nat.le_refl _) _).alloc (by simp) _) hb2; clear hb2)
  all_goals
    go_ret
    refine ⟨ret_bool ?_, ?_⟩
    · rw [HR.out]
      clear HR HS HS' HG HG' HN HM HQB heq
      simp_all
    · first | exact h02 | exact ((Below.refl _ _).alloc (Nat.le_refl _) _).alloc (by simp) _
end Go.Proofs.Ytbipmoehcmighaa
