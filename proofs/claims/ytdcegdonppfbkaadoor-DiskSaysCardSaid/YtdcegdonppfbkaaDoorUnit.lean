/- note.Check, unit.Check, unit.Copy. -/
import Derived.Test.YtdcegdonppfbkaaDoorSpecU
import Derived.Test.YtdcegdonppfbkaaDoorEnt
import Derived.Test.YtdcegdonppfbkaaDoorSee
import Derived.Test.YtdcegdonppfbkaaDoorEqE
import Derived.Test.YtdcegdonppfbkaaDoorCloneE
import Derived.Test.YtdcegdonppfbkaaDoorMut
namespace Go.Proofs.YtdcegdonppfbkaaDoor
set_option linter.unusedSimpArgs false
set_option linter.unusedVariables false
open Go.RowKit

abbrev recV (r : Rec) : Value := .agg #[.int .i64 r.kind, .int .i64 r.at_, .int .i64 r.epoch, .int .i64 r.e.kind, .int .i64 r.e.job, .int .i64 r.e.every, .int .i64 r.e.time, .int .i64 r.e.client]
abbrev entV (x : Entry) : Value := .agg #[.int .i64 x.kind, .int .i64 x.job, .int .i64 x.every, .int .i64 x.time, .int .i64 x.client]
theorem encE_one (l : List Entry) : ∀ r ∈ l.map encE, ∀ u ∈ r, u.oneCell' = true := by
  intro r hr u hu
  obtain ⟨x, _, rfl⟩ := List.mem_map.1 hr
  simp [encE] at hu
  rcases hu with rfl | rfl | rfl | rfl | rfl <;> rfl

set_option maxHeartbeats 4000000 in
theorem NCheck_calls (k a ep : Int) (x : Entry) (w : World) :
    Calls Tryd.prog 29 #[.agg #[.int .i64 k, .int .i64 a, .int .i64 ep, .int .i64 x.kind, .int .i64 x.job, .int .i64 x.every, .int .i64 x.time, .int .i64 x.client]] w fun e w' => e = .returned (.int .i64 (checkR ⟨k, a, ep, x⟩)) ∧ Onto w w' := by
  obtain ⟨r, hr⟩ : ∃ r, r = checkR ⟨k, a, ep, x⟩ := ⟨_, rfl⟩
  rw [← hr]
  unfold checkR at hr
  simp only [ne_eq, entry_eq_iff, zeroE] at hr
  go_enter Tryd.func29, Tryd.ntmps29
  have hne := neqE
  have HR := Lib.hid hr
  clear hr
  go_wp2_with (go_at_call 17; refine Calls.mono (Check_calls x.kind x.job x.every x.time x.client _) ?_; rintro e w2 ⟨rfl, hb2⟩)
  all_goals
    go_ret
    refine ⟨ret_int ?_, ?_⟩
    · rw [HR.out]
      clear HR hne
      (try simp only [beq_iff_eq, beq_eq_false_iff_ne, bne_iff_ne, bne_eq_false_iff_eq, ne_eq, Bool.and_eq_true, Bool.and_eq_false_iff, Bool.not_eq_true', Bool.not_eq_false', Bool.or_eq_true, Bool.or_eq_false_iff, decide_eq_true_eq, decide_eq_false_iff_not] at *)
      (repeat' split) <;> first | rfl | omega
    · repeat (first | exact Below.refl _ _ | exact Onto.to (by repeat (first | exact Below.refl _ _ | refine Below.alloc ?_ (by simp <;> omega) _)) hb2 | refine below_drewN ?_ _ | refine Below.alloc ?_ (by simp <;> omega) _)
set_option maxHeartbeats 4000000 in
set_option maxRecDepth 100000 in
theorem UCheck_calls (ep : Int) (A : Option Addr) (n c : Nat) (cs : List Entry) (w : World) (h : S w 5 A n (cs.map encE)) :
    Calls Tryd.prog 51 #[.agg #[.int .i64 ep, .slice A n c]] w fun e w' => e = .returned (.int .i64 (checkU ep cs)) ∧ Onto w w' := by
  have hl : cs.length = n := by have := h.len; simpa using this
  obtain ⟨r, hr⟩ : ∃ r, r = checkU ep cs := ⟨_, rfl⟩
  rw [← hr]
  unfold checkU at hr
  by_cases h1 : ep < 1 ∨ 20 < ep
  · rw [if_pos h1] at hr
    subst hr
    clear h hl
    by_cases h2 : ep < 1
    all_goals
      go_enter Tryd.func51, Tryd.ntmps51
      go_wp2_with fail
      any_goals
        go_ret
        exact ⟨rfl, by first | exact (Below.refl _ _).alloc (Nat.le_refl _) _ | exact Onto.draws ((Below.refl _ _).alloc (Nat.le_refl _) _) _⟩
    all_goals (exfalso; omega)
  · rw [if_neg h1] at hr
    by_cases h60 : n = 60
    · rw [if_neg (by omega)] at hr
      have hd1 : decide (ep < 1) = false := by simp; omega
      have hd2 : decide (20 < ep) = false := by simp; omega
      have hn1 : ¬ ep < 1 := by omega
      have hn2 : ¬ 20 < ep := by omega
      have HR := Lib.hid hr; have HL := Lib.hid hl
      subst h60
      clear hr h1 hl
      go_enter Tryd.func51, Tryd.ntmps51
      have heq := eqlE
      go_wp2_with fail
      go_loopw [21] (fun s wr => ∃ k : Nat, k ≤ 60 ∧ s = .int .i64 k ∧ Onto w wr ∧ Hid (checkCs cs = checkCs (cs.drop k))) (fun s _ => 60 - (intOf s).toNat)
      case atStart => exact ⟨0, by omega, rfl, (Below.refl _ _).alloc (Nat.le_refl _) _, by simp [Hid]⟩
      case round =>
        obtain ⟨k, hk, rfl, hbr, HK⟩ := hrel
        by_cases hlt : k < 60
        · obtain ⟨b, off, x, rfl, hb, hx, c0, c1, c2, c3, c4⟩ := (h.onto hbr).atE hlt
          have HC := Lib.hid (checkCs_at hx)
          have hal : Onto wr (wr.alloc (Obj.cells #[.int .i64 x.kind, .int .i64 x.job, .int .i64 x.every, .int .i64 x.time, .int .i64 x.client] 23)) := (Below.refl _ _).alloc (Nat.le_refl _) _
          clear hx
          by_cases hbl : x = blank
          · have hcs := HC.out
            rw [if_pos hbl] at hcs
            have HCS := Lib.hid hcs
            clear hcs HC
            have hd : (x.kind == 4 && x.job == 0 && x.every == 0 && x.time == 0 && x.client == 0) = true := by subst hbl; rfl
            clear hbl
            go_wp2_with fail
            go_roundw
            case measure => simp [intOf] <;> omega
            case rel => exact ⟨k + 1, by omega, by go_num, Onto.to hbr hal, by show _ = _; rw [HK.out, HCS.out]⟩
          · have hcs := HC.out
            rw [if_neg hbl] at hcs
            have HCS := Lib.hid hcs
            have hd : (x.kind == 4 && x.job == 0 && x.every == 0 && x.time == 0 && x.client == 0) = false := by
              refine Bool.eq_false_iff.2 fun h => hbl ?_
              simp at h
              rw [entry_eq_iff]
              simp [blank]
              omega
            clear hbl hcs HC
            go_wp2_with fail
            refine Calls.mono (Check_calls x.kind x.job x.every x.time x.client _) ?_
            rintro e w2 ⟨rfl, hb2⟩
            obtain ⟨q, hq⟩ : ∃ q, q = checkE ⟨x.kind, x.job, x.every, x.time, x.client⟩ := ⟨_, rfl⟩
            have hq' : checkE x = q := hq.symm
            rw [← hq]
            have hcs := HCS.out
            rw [hq'] at hcs
            have HCS' := Lib.hid hcs
            clear hcs HCS hq hq'
            have h2 := (Onto.to hbr hal).to hb2
            by_cases hq0 : q = 0
            · subst hq0
              go_wp2_with fail
              go_roundw
              case measure => simp [intOf] <;> omega
              case rel => exact ⟨k + 1, by omega, by go_num, h2, by show _ = _; rw [HK.out, HCS'.out]; rfl⟩
            · have hq1 : (q != 0) = true := by simpa using hq0
              go_wp2_with fail
              go_ret
              exact ⟨ret_int (by rw [HR.out, HK.out, HCS'.out, if_pos hq0]), h2⟩
        · obtain rfl : k = 60 := by omega
          have hfin : (0 : Int) = r := by rw [HR.out, HK.out, List.drop_eq_nil_of_le (by have := HL.out; omega)]; rfl
          have HF := Lib.hid hfin
          clear hfin
          go_wp2_with fail
          go_ret
          exact ⟨ret_int HF.out, hbr⟩
    · have hd1 : decide (ep < 1) = false := by simp; omega
      have hd2 : decide (20 < ep) = false := by simp; omega
      have hn1 : ¬ ep < 1 := by omega
      have hn2 : ¬ 20 < ep := by omega
      have hnn : ((n : Int) != 60) = true := by simp; omega
      have hnn' : ¬ ((n : Int) = 60) := by omega
      rw [if_pos (by omega)] at hr
      subst hr
      clear h h1 hl h60
      go_enter Tryd.func51, Tryd.ntmps51
      go_wp2_with fail
      go_ret
      exact ⟨rfl, by first | exact (Below.refl _ _).alloc (Nat.le_refl _) _ | exact Onto.draws ((Below.refl _ _).alloc (Nat.le_refl _) _) _⟩
end Go.Proofs.YtdcegdonppfbkaaDoor
