/- The document's CheckRec. -/
import Derived.Test.YtdcegdonppfbkaaDoorREnt
import Derived.Test.YtdcegdonppfbkaaDoorUnit
namespace Go.Proofs.YtdcegdonppfbkaaDoor
set_option linter.unusedSimpArgs false
set_option linter.unusedVariables false
open Go.RowKit

set_option maxHeartbeats 4000000 in
theorem RCR_calls (k a ep : Int) (x : Entry) (w : World) :
    Calls Tryd.prog 68 #[.agg #[.int .i64 k, .int .i64 a, .int .i64 ep, .int .i64 x.kind, .int .i64 x.job, .int .i64 x.every, .int .i64 x.time, .int .i64 x.client]] w fun e w' => e = .returned (.int .i64 (checkR ⟨k, a, ep, x⟩)) ∧ Onto w w' := by
  obtain ⟨r, hr⟩ : ∃ r, r = checkR ⟨k, a, ep, x⟩ := ⟨_, rfl⟩
  rw [← hr]
  unfold checkR at hr
  simp only [ne_eq, entry_eq_iff, zeroE] at hr
  go_enter Tryd.func68, Tryd.ntmps68
  have hne := neqE
  have HR := Lib.hid hr
  clear hr
  go_wp2_with (first
    | (go_at_call 58; refine Calls.mono (in_calls _ _ _ _) ?_; rintro e w' ⟨rfl, rfl⟩)
    | (go_at_call 15; refine Calls.mono (RCE_calls x.kind x.job x.every x.time x.client _) ?_; rintro e w2 ⟨rfl, hb2⟩))
  all_goals
    go_ret
    refine ⟨ret_int ?_, ?_⟩
    · rw [HR.out]
      clear HR hne
      (try simp only [beq_iff_eq, beq_eq_false_iff_ne, bne_iff_ne, bne_eq_false_iff_eq, ne_eq, Bool.and_eq_true, Bool.and_eq_false_iff, Bool.not_eq_true', Bool.not_eq_false', Bool.or_eq_true, Bool.or_eq_false_iff, decide_eq_true_eq, decide_eq_false_iff_not] at *)
      (repeat' split) <;> first | rfl | omega
    · repeat (first | exact Below.refl _ _ | exact Onto.to (by repeat (first | exact Below.refl _ _ | refine Below.alloc ?_ (by simp <;> omega) _)) hb2 | refine below_drewN ?_ _ | refine Below.alloc ?_ (by simp <;> omega) _)
end Go.Proofs.YtdcegdonppfbkaaDoor
