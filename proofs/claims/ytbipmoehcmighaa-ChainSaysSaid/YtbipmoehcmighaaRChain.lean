/- The document's CheckChain. -/
import Derived.Test.YtbipmoehcmighaaRUnit
namespace Go.Proofs.Ytbipmoehcmighaa
set_option linter.unusedSimpArgs false
set_option linter.unusedVariables false
open Go.RowKit

set_option maxHeartbeats 4000000 in
set_option maxRecDepth 100000 in
theorem RCC_calls (A : Option Addr) (n c : Nat) (l : List UV) (w : World) (h : Us w A n l) :
    Calls Try.prog 21 #[.slice A n c] w fun e w' => e = .returned (.int .i64 (checkC (unis l))) ∧ Onto w w' := by
  have hl := h.len
  obtain ⟨r, hr⟩ : ∃ r, r = checkC (unis l) := ⟨_, rfl⟩
  rw [← hr]
  unfold checkC at hr
  by_cases h3 : n = 3
  · subst h3
    rw [if_neg (by simp [hl])] at hr
    have HR := Lib.hid hr; have HL := Lib.hid hl
    clear hr hl
    go_enter Try.func21, Try.ntmps21
    go_wp2_with fail
    go_loopw [11] (fun s wr => ∃ k : Nat, k ≤ 3 ∧ s = .int .i64 k ∧ Onto w wr ∧ Hid (r = chainL (aheadU (unis l) k) ((unis l).drop k)) ∧ Hid (∀ j v, j < k → l[j]? = some v → v.n = 60)) (fun s _ => 3 - (intOf s).toNat)
    case atStart => exact ⟨0, by omega, rfl, Below.refl _ _, by show _ = _; rw [HR.out]; rfl, fun j v hj => absurd hj (Nat.not_lt_zero _)⟩
    case round =>
      obtain ⟨i, hi, rfl, hbr, HK, HN⟩ := hrel
      by_cases hlt : i < 3
      · obtain ⟨b, off, u, rfl, hb, hu, e0, e1, hs, hul⟩ := (h.onto hbr).atU hlt
        have p0 : 0 < i → ∃ v, l[i - 1]? = some v ∧ wr.cell? ⟨b, off + (i - 1) * 2, none⟩ = some (.int .i64 v.ep) ∧ wr.cell? ⟨b, off + (i - 1) * 2 + 1, none⟩ = some (.slice v.A v.n v.c) ∧ S wr 5 v.A v.n (v.cells.map encE) ∧ v.n = 60 := by
          intro hp
          obtain ⟨b', off', v, e', _, hv, e0', e1', hs', _⟩ := (h.onto hbr).atU (i := i - 1) (by omega)
          injection e' with e'; injection e' with e1 e2 _; subst e1; subst e2
          exact ⟨v, hv, e0', e1', hs', HN.out _ v (by omega) hv⟩
        have HU := Lib.hid (unis_at hu); have HU0 := Lib.hid hu
        have hk := HK.out
        rw [chainL_at HU.out] at hk
        have HKK := Lib.hid hk
        have hal : Onto wr (wr.alloc (Obj.cells #[.int .i64 u.ep, .slice u.A u.n u.c] 34)) := (Below.refl _ _).alloc (Nat.le_refl _) _
        clear hk hu
        go_wp2_with fail
        refine Calls.mono (RCU_calls u.ep u.A u.n u.c u.cells _ (hs.new _)) ?_
        rintro e w1 ⟨rfl, hb1⟩
        obtain ⟨q, hq⟩ : ∃ q, q = checkU u.ep u.cells := ⟨_, rfl⟩
        rw [← hq]
        have hk := HKK.out
        rw [show checkU u.u.ep u.u.cells = q from hq.symm] at hk
        have HKQ := Lib.hid hk
        have HQ := Lib.hid hq
        have q0 : w1.cell? ⟨wr.heap.size, 0, none⟩ = some (.int .i64 u.ep) := cellB hb1 (by simp [go_sem])
        have q1 : w1.cell? ⟨wr.heap.size, 1, none⟩ = some (.slice u.A u.n u.c) := cellB hb1 (by simp [go_sem])
        have h01 := (Onto.to hbr hal).to hb1
        have h11 := hal.to hb1
        clear hk hq HKK
        by_cases hq0 : q = 0
        · subst hq0
          have hg := checkU_iff.1 HQ.out.symm
          have hun : u.n = 60 := by rw [← hul]; exact hg.len
          have hk := HKQ.out
          rw [if_neg (by simp)] at hk
          rcases Nat.eq_zero_or_pos i with rfl | hpos
          · clear p0
            have HK1 := Lib.hid hk
            clear hk HKQ
            have k0 := onto_cell q0; have k1 := onto_cell q1
            go_wp2_with fail
            refine wp_region_onto (by kernel_rfl) (by kernel_rfl) ?_
            repeat (go_big_quiet_step (fail))
            refine wpQuiet_nil ?_
            intro w3 hb3
            have h03 := Onto.to h01 hb3
            clear k0 k1 hb3 q0 q1 e0 e1
            go_wp2_with fail
            go_roundw
            case measure => simp [intOf] <;> omega
            case rel =>
              refine ⟨1, by omega, rfl, h03, ?_, ?_⟩
              · show _ = _
                rw [HK1.out]
                simp [aheadU, HU.out]
              · show ∀ j v, _
                intro j v hj hv
                obtain rfl : j = 0 := by omega
                rw [HU0.out] at hv
                injection hv with hv
                rw [← hv]; exact hun
          · obtain ⟨v, hv, ev0, ev, hsv, hv60⟩ := p0 hpos
            have ha : aheadU (unis l) i = some v.u := by
              obtain ⟨i', rfl⟩ : ∃ i', i = i' + 1 := ⟨i - 1, by omega⟩
              simp only [Nat.add_sub_cancel] at hv
              exact unis_at hv
            rw [ha] at hk
            dsimp only at hk
            have HK1 := Lib.hid hk; have HV := Lib.hid hv
            have ev1 := cellB h11 ev; have ev2 := cellB h11 ev0
            have hsv1 := hsv.onto h11; have hs1 := hs.onto h11
            have hzb : b < w1.heap.size := by have := h11.size; omega
            have HOKU := Lib.hid hg.ok
            clear hk HKQ p0 ha hv ev hsv hs e0 e1 ev0 hg
            have hi0 : ¬ ((i : Int) = 0) := by omega
            have hpos' : (0 : Int) < (i : Int) := by omega
            have hpd : decide ((0 : Int) < (i : Int)) = true := by simpa using hpos'
            have hw : IntKind.i64.wrap ((i : Int) - 1) = (i : Int) - 1 := by rw [IntKind.wrap_i64]; omega
            rw [hun] at hs1 q1 ⊢
            rw [hv60] at hsv1 ev1
            have k0 := onto_cell q0; have k1 := onto_cell q1; have k2 := onto_cell ev2; have k3 := onto_cell ev1
            have k4 := onto_size hzb
            obtain ⟨ft, hft⟩ : ∃ ft, ft = decide (fitC v.cells u.cells) := ⟨_, rfl⟩
            have HFT := Lib.hid hft
            clear hft
            go_wp2_with fail
            cases ft with
            | true =>
              refine wp_region_onto (by kernel_rfl) (by kernel_rfl) ?_
              repeat (go_big_quiet_step ((first | (go_at_call 67; exact calls_onto' (u := .bool true) (Within_calls u.ep v.ep u.A v.A u.c v.c u.cells v.cells _ (hs1.ontoX _) (hsv1.ontoX _) HOKU.out) (by rw [← HFT.out])))))
              refine wpQuiet_nil ?_
              intro w3 hb3
              have h03 := Onto.to h01 hb3
              have hfit : fitC v.u.cells u.u.cells := of_decide_eq_true HFT.out.symm
              have hk := HK1.out
              rw [if_pos hfit] at hk
              have HK2 := Lib.hid hk
              clear k0 k1 k2 k3 k4 hb3 q0 q1 ev1 ev2 hk hfit
              go_wp2_with fail
              go_roundw
              case measure => simp [intOf] <;> omega
              case rel =>
                refine ⟨i + 1, by omega, by go_num, h03, ?_, ?_⟩
                · show _ = _
                  rw [HK2.out]
                  simp [aheadU, HU.out]
                · show ∀ j v, _
                  intro j v' hj hv'
                  by_cases hji : j = i
                  · subst hji
                    rw [HU0.out] at hv'
                    injection hv' with hv'
                    rw [← hv']; exact hun
                  · exact HN.out j v' (by omega) hv'
            | false =>
              refine wp_region_onto (by kernel_rfl) (by kernel_rfl) ?_
              repeat (go_big_quiet_step ((first | (go_at_call 67; exact calls_onto' (u := .bool false) (Within_calls u.ep v.ep u.A v.A u.c v.c u.cells v.cells _ (hs1.ontoX _) (hsv1.ontoX _) HOKU.out) (by rw [← HFT.out])))))
              refine wpQuiet_nil ?_
              intro w3 hb3
              have h03 := Onto.to h01 hb3
              have hfit : ¬ fitC v.u.cells u.u.cells := of_decide_eq_false HFT.out.symm
              have hfin : (4 : Int) = r := by rw [HK1.out, if_neg hfit]
              have HF := Lib.hid hfin
              clear k0 k1 k2 k3 k4 hb3 q0 q1 ev1 ev2 hfit hfin
              go_wp2_with fail
              go_ret
              exact ⟨ret_int HF.out, h03⟩
        · have hq1 : (q != 0) = true := by simpa using hq0
          have hfin : q = r := by rw [HKQ.out, if_pos hq0]
          have HF := Lib.hid hfin
          clear hfin
          go_wp2_with fail
          go_ret
          exact ⟨ret_int HF.out, h01⟩
      · obtain rfl : i = 3 := by omega
        have hfin : (0 : Int) = r := by rw [HK.out, List.drop_eq_nil_of_le (by simp [HL.out])]; rfl
        have HF := Lib.hid hfin
        clear hfin
        go_wp2_with fail
        go_ret
        exact ⟨ret_int HF.out, hbr⟩
  · rw [if_pos (by simp [hl]; omega)] at hr
    subst hr
    have hnn : ((n : Int) != 3) = true := by simp; omega
    have hnn' : ¬ ((n : Int) = 3) := by omega
    clear h hl h3
    go_enter Try.func21, Try.ntmps21
    go_wp2_with fail
    go_ret
    exact ⟨rfl, Below.refl _ _⟩
end Go.Proofs.Ytbipmoehcmighaa
