/- The document's blank, CheckUnit, Within. -/
import Derived.Test.YtbipmoehcmighaaREnt
import Derived.Test.YtbipmoehcmighaaChain
namespace Go.Proofs.Ytbipmoehcmighaa
set_option linter.unusedSimpArgs false
set_option linter.unusedVariables false
open Go.RowKit

theorem blank_calls (w : World) : Calls Try.prog 66 #[] w fun e w' => e = .returned (.agg #[.int .i64 4, .int .i64 0, .int .i64 0, .int .i64 0, .int .i64 0]) ∧ Onto w w' := by
  go_enter Try.func66, Try.ntmps66
  go_wp2
  refine bodyPost_ret (v := .agg #[.int .i64 4, .int .i64 0, .int .i64 0, .int .i64 0, .int .i64 0]) (by simp [results, Try.results66, go_sem]) rfl ⟨rfl, ?_⟩
  repeat (first | exact Below.refl _ _ | refine Below.alloc ?_ (by simp <;> omega) _ | refine Below.setCell ?_ (by simp) _)
/-- Whether two entries are unlike, as the comparison tells it. -/
theorem ne_false {x y : Entry} (h : x = y) : (!(x.kind == y.kind && x.job == y.job && x.every == y.every && x.time == y.time && x.client == y.client)) = false := by simp [h]
theorem ne_true {x y : Entry} (h : x ≠ y) : (!(x.kind == y.kind && x.job == y.job && x.every == y.every && x.time == y.time && x.client == y.client)) = true := by
  rw [Ne, entry_eq_iff] at h
  simp only [Bool.not_eq_true', Bool.and_eq_false_iff, beq_eq_false_iff_ne]
  omega

set_option maxHeartbeats 4000000 in
set_option maxRecDepth 100000 in
theorem RCU_calls (ep : Int) (A : Option Addr) (n c : Nat) (cs : List Entry) (w : World) (h : S w 5 A n (cs.map encE)) :
    Calls Try.prog 28 #[.agg #[.int .i64 ep, .slice A n c]] w fun e w' => e = .returned (.int .i64 (checkU ep cs)) ∧ Onto w w' := by
  have hl : cs.length = n := by have := h.len; simpa using this
  obtain ⟨r, hr⟩ : ∃ r, r = checkU ep cs := ⟨_, rfl⟩
  rw [← hr]
  unfold checkU at hr
  by_cases h1 : ep < 1 ∨ 20 < ep
  · rw [if_pos h1] at hr
    subst hr
    have hd : (decide (1 ≤ ep) && decide (ep ≤ 20)) = false := by simp; omega
    clear h hl h1
    go_enter Try.func28, Try.ntmps28
    go_wp2_with (go_at_call 64; refine Calls.mono (in_calls _ _ _ _) ?_; rintro e w' ⟨rfl, rfl⟩; rw [hd])
    go_ret
    exact ⟨rfl, (Below.refl _ _).alloc (Nat.le_refl _) _⟩
  · rw [if_neg h1] at hr
    have hd : (decide (1 ≤ ep) && decide (ep ≤ 20)) = true := by simp; omega
    by_cases h60 : n = 60
    · rw [if_neg (by omega)] at hr
      have HR := Lib.hid hr; have HL := Lib.hid hl
      subst h60
      clear hr h1 hl
      go_enter Try.func28, Try.ntmps28
      have hne := neqE
      go_wp2_with (go_at_call 64; refine Calls.mono (in_calls _ _ _ _) ?_; rintro e w' ⟨rfl, rfl⟩; rw [hd])
      go_loopw [17] (fun s wr => ∃ k : Nat, k ≤ 60 ∧ s = .int .i64 k ∧ Onto w wr ∧ Hid (checkCs cs = checkCs (cs.drop k))) (fun s _ => 60 - (intOf s).toNat)
      case atStart => exact ⟨0, by omega, rfl, (Below.refl _ _).alloc (Nat.le_refl _) _, by simp [Hid]⟩
      case round =>
        obtain ⟨k, hk, rfl, hbr, HK⟩ := hrel
        by_cases hlt : k < 60
        · obtain ⟨b, off, x, rfl, hb, hx, c0, c1, c2, c3, c4⟩ := (h.onto hbr).atE hlt
          have HC := Lib.hid (checkCs_at hx)
          have hal : Onto wr (wr.alloc (Obj.cells #[.int .i64 x.kind, .int .i64 x.job, .int .i64 x.every, .int .i64 x.time, .int .i64 x.client] 24)) := (Below.refl _ _).alloc (Nat.le_refl _) _
          clear hx
          go_wp2_with fail
          refine Calls.mono (RCE_calls x.kind x.job x.every x.time x.client _) ?_
          rintro e w2 ⟨rfl, hb2⟩
          have b0 : w2.cell? ⟨wr.heap.size, 0, none⟩ = some (.int .i64 x.kind) := cellB hb2 (by simp [go_sem])
          have b1 : w2.cell? ⟨wr.heap.size, 1, none⟩ = some (.int .i64 x.job) := cellB hb2 (by simp [go_sem])
          have b2 : w2.cell? ⟨wr.heap.size, 2, none⟩ = some (.int .i64 x.every) := cellB hb2 (by simp [go_sem])
          have b3 : w2.cell? ⟨wr.heap.size, 3, none⟩ = some (.int .i64 x.time) := cellB hb2 (by simp [go_sem])
          have b4 : w2.cell? ⟨wr.heap.size, 4, none⟩ = some (.int .i64 x.client) := cellB hb2 (by simp [go_sem])
          obtain ⟨q, hq⟩ : ∃ q, q = checkE ⟨x.kind, x.job, x.every, x.time, x.client⟩ := ⟨_, rfl⟩
          rw [← hq]
          have HQ : Hid (checkE x = q) := hq.symm
          have h2 := (Onto.to hbr hal).to hb2
          have k0 := onto_cell b0; have k1 := onto_cell b1; have k2 := onto_cell b2; have k3 := onto_cell b3; have k4 := onto_cell b4
          clear hq hb2 hal b0 b1 b2 b3 b4 c0 c1 c2 c3 c4
          go_wp2_with fail
          by_cases hq0 : q = 0
          · have hq1 : (q != 0) = false := by simp [hq0]
            have hstep : checkCs (cs.drop k) = checkCs (cs.drop (k + 1)) := by
              rw [HC.out]
              by_cases hbl : x = blank
              · rw [if_pos hbl]
              · rw [if_neg hbl, if_neg (by rw [HQ.out]; simp [hq0])]
            have HST := Lib.hid hstep
            clear hstep hq0
            refine wp_region_onto (by kernel_rfl) (by kernel_rfl) ?_
            repeat (go_big_quiet_step ((first | (go_at_call 66; exact calls_onto (blank_calls _)))))
            refine wpQuiet_nil ?_
            intro w3 hb3
            have h3 := Onto.to h2 hb3
            clear k0 k1 k2 k3 k4 h2 hb3
            go_wp2_with fail
            go_roundw
            case measure => simp [intOf] <;> omega
            case rel => exact ⟨k + 1, by omega, by go_num, h3, by show _ = _; rw [HK.out, HST.out]⟩
          · have hq1 : (q != 0) = true := by simpa using hq0
            by_cases hbl : x = blank
            · have hd2 : (!(x.kind == 4 && x.job == 0 && x.every == 0 && x.time == 0 && x.client == 0)) = false := ne_false hbl
              have hstep : checkCs (cs.drop k) = checkCs (cs.drop (k + 1)) := by rw [HC.out, if_pos hbl]
              have HST := Lib.hid hstep
              clear hstep hq0 hbl
              refine wp_region_onto (by kernel_rfl) (by kernel_rfl) ?_
              repeat (go_big_quiet_step ((first | (go_at_call 66; exact calls_onto (blank_calls _)))))
              refine wpQuiet_nil ?_
              intro w3 hb3
              have h3 := Onto.to h2 hb3
              clear k0 k1 k2 k3 k4 h2 hb3
              go_wp2_with fail
              go_roundw
              case measure => simp [intOf] <;> omega
              case rel => exact ⟨k + 1, by omega, by go_num, h3, by show _ = _; rw [HK.out, HST.out]⟩
            · have hd2 : (!(x.kind == 4 && x.job == 0 && x.every == 0 && x.time == 0 && x.client == 0)) = true := ne_true hbl
              have hfin : q = r := by rw [HR.out, HK.out, HC.out, if_neg hbl, if_pos (by rw [HQ.out]; exact hq0), HQ.out]
              have HF := Lib.hid hfin
              clear hfin hq0 hbl
              refine wp_region_onto (by kernel_rfl) (by kernel_rfl) ?_
              repeat (go_big_quiet_step ((first | (go_at_call 66; exact calls_onto (blank_calls _)))))
              refine wpQuiet_nil ?_
              intro w3 hb3
              have h3 := Onto.to h2 hb3
              clear k0 k1 k2 k3 k4 h2 hb3
              go_wp2_with fail
              go_ret
              exact ⟨ret_int HF.out, h3⟩
        · obtain rfl : k = 60 := by omega
          have hfin : (0 : Int) = r := by rw [HR.out, HK.out, List.drop_eq_nil_of_le (by have := HL.out; omega)]; rfl
          have HF := Lib.hid hfin
          clear hfin
          go_wp2_with fail
          go_ret
          exact ⟨ret_int HF.out, hbr⟩
    · have hnn : ((n : Int) != 60) = true := by simp; omega
      have hnn' : ¬ ((n : Int) = 60) := by omega
      rw [if_pos (by omega)] at hr
      subst hr
      clear h h1 hl h60
      go_enter Try.func28, Try.ntmps28
      go_wp2_with (go_at_call 64; refine Calls.mono (in_calls _ _ _ _) ?_; rintro e w' ⟨rfl, rfl⟩; rw [hd])
      go_ret
      exact ⟨rfl, (Below.refl _ _).alloc (Nat.le_refl _) _⟩

set_option maxHeartbeats 4000000 in
set_option maxRecDepth 100000 in
theorem Within_calls (ep ep' : Int) (A A' : Option Addr) (c c' : Nat) (cs cs' : List Entry) (w : World) (h : S w 5 A 60 (cs.map encE)) (h' : S w 5 A' 60 (cs'.map encE)) (hok : ∀ x ∈ cs, okC x) :
    Calls Try.prog 67 #[.agg #[.int .i64 ep, .slice A 60 c], .agg #[.int .i64 ep', .slice A' 60 c']] w fun e w' => e = .returned (.bool (decide (fitC cs' cs))) ∧ Onto w w' := by
  have HOK := Lib.hid hok
  clear hok
  go_enter Try.func67, Try.ntmps67
  have hne := neqE
  go_wp2_with fail
  have q1 : ((w.alloc (Obj.cells #[.int .i64 ep, .slice A 60 c] 34)).alloc (Obj.cells #[.int .i64 ep', .slice A' 60 c'] 34)).cell? ⟨w.heap.size + 1, 1, none⟩ = some (.slice A' 60 c') := by simp [go_sem]
  have h1 := (h.new (Obj.cells #[.int .i64 ep, .slice A 60 c] 34)).new (Obj.cells #[.int .i64 ep', .slice A' 60 c'] 34)
  have h1' := (h'.new (Obj.cells #[.int .i64 ep, .slice A 60 c] 34)).new (Obj.cells #[.int .i64 ep', .slice A' 60 c'] 34)
  have h01 : Onto w ((w.alloc (Obj.cells #[.int .i64 ep, .slice A 60 c] 34)).alloc (Obj.cells #[.int .i64 ep', .slice A' 60 c'] 34)) := ((Below.refl _ _).alloc (Nat.le_refl _) _).alloc (by simp) _
  go_loopw [10] (fun s wr => ∃ k : Nat, k ≤ 60 ∧ s = .int .i64 k ∧ Onto ((w.alloc (Obj.cells #[.int .i64 ep, .slice A 60 c] 34)).alloc (Obj.cells #[.int .i64 ep', .slice A' 60 c'] 34)) wr ∧ Hid (∀ j, j < k → (cellAt cs j).kind = 4 ∨ cellAt cs' j = cellAt cs j)) (fun s _ => 60 - (intOf s).toNat)
  case atStart => exact ⟨0, by omega, rfl, Below.refl _ _, fun j hj => absurd hj (Nat.not_lt_zero _)⟩
  case round =>
    obtain ⟨k, hk, rfl, hbr, HJ⟩ := hrel
    have h02 := Onto.to h01 hbr
    by_cases hlt : k < 60
    · obtain ⟨b1, off1, x, rfl, hz1, hx, c0, c1, c2, c3, c4⟩ := (S.onto h1 hbr).atE hlt
      obtain ⟨b2, off2, y, rfl, hz2, hy, d0, d1, d2, d3, d4⟩ := (S.onto h1' hbr).atE hlt
      have q2 := cellB hbr q1
      have hkk : (k : Int) < 60 := by omega
      have hxm := List.mem_of_getElem? hx
      have hox := okC_kind (HOK.out x hxm)
      have HX := Lib.hid (cellAt_eq hx); have HY := Lib.hid (cellAt_eq hy)
      have hbA : Onto wr (wr.alloc (Obj.cells #[.int .i64 x.kind, .int .i64 x.job, .int .i64 x.every, .int .i64 x.time, .int .i64 x.client] 24)) := (Below.refl _ _).alloc (Nat.le_refl _) _
      have e0 : (wr.alloc (Obj.cells #[.int .i64 x.kind, .int .i64 x.job, .int .i64 x.every, .int .i64 x.time, .int .i64 x.client] 24)).cell? ⟨wr.heap.size, 0, none⟩ = some (.int .i64 x.kind) := by simp [go_sem]
      have e1 : (wr.alloc (Obj.cells #[.int .i64 x.kind, .int .i64 x.job, .int .i64 x.every, .int .i64 x.time, .int .i64 x.client] 24)).cell? ⟨wr.heap.size, 1, none⟩ = some (.int .i64 x.job) := by simp [go_sem]
      have e2 : (wr.alloc (Obj.cells #[.int .i64 x.kind, .int .i64 x.job, .int .i64 x.every, .int .i64 x.time, .int .i64 x.client] 24)).cell? ⟨wr.heap.size, 2, none⟩ = some (.int .i64 x.every) := by simp [go_sem]
      have e3 : (wr.alloc (Obj.cells #[.int .i64 x.kind, .int .i64 x.job, .int .i64 x.every, .int .i64 x.time, .int .i64 x.client] 24)).cell? ⟨wr.heap.size, 3, none⟩ = some (.int .i64 x.time) := by simp [go_sem]
      have e4 : (wr.alloc (Obj.cells #[.int .i64 x.kind, .int .i64 x.job, .int .i64 x.every, .int .i64 x.time, .int .i64 x.client] 24)).cell? ⟨wr.heap.size, 4, none⟩ = some (.int .i64 x.client) := by simp [go_sem]
      have k0 := onto_cell e0; have k1 := onto_cell e1; have k2 := onto_cell e2; have k3 := onto_cell e3; have k4 := onto_cell e4
      have k5 := onto_cell (cellB hbA d0); have k6 := onto_cell (cellB hbA d1); have k7 := onto_cell (cellB hbA d2); have k8 := onto_cell (cellB hbA d3); have k9 := onto_cell (cellB hbA d4)
      have k10 := onto_cell (cellB hbA q2)
      clear hx hy hxm
      go_upto_region 4 with fail
      generalize wr.alloc (Obj.cells #[.int .i64 x.kind, .int .i64 x.job, .int .i64 x.every, .int .i64 x.time, .int .i64 x.client] 24) = w4 at *
      by_cases hbl : x = blank
      · have hd : (!(x.kind == 4 && x.job == 0 && x.every == 0 && x.time == 0 && x.client == 0)) = false := ne_false hbl
        have HB := Lib.hid (hox.2.2.2 hbl)
        clear hox hbl
        refine wp_region_onto (by kernel_rfl) (by kernel_rfl) ?_
        repeat (go_big_quiet_step ((first | (go_at_call 66; exact calls_onto (blank_calls _)))))
        refine wpQuiet_nil ?_
        intro w3 hb3
        have h3 := Onto.to (Onto.to hbr hbA) hb3
        clear k0 k1 k2 k3 k4 k5 k6 k7 k8 k9 k10 hb3 e0 e1 e2 e3 e4 d0 d1 d2 d3 d4 c0 c1 c2 c3 c4 q2 hbA
        go_wp2_with fail
        go_roundw
        case measure => simp [intOf] <;> omega
        case rel =>
          refine ⟨k + 1, by omega, by go_num, h3, ?_⟩
          show ∀ j, _
          intro j hj
          by_cases hjk : j = k
          · subst hjk; rw [HX.out]; exact .inl HB.out
          · exact HJ.out j (by omega)
      · have hd : (!(x.kind == 4 && x.job == 0 && x.every == 0 && x.time == 0 && x.client == 0)) = true := ne_true hbl
        have HB := Lib.hid (fun h4 => hbl (hox.2.2.1 h4))
        by_cases hxy : x = y
        · have hd2 : (!(x.kind == y.kind && x.job == y.job && x.every == y.every && x.time == y.time && x.client == y.client)) = false := ne_false hxy
          have HXY := Lib.hid hxy
          clear hox hbl hxy
          refine wp_region_onto (by kernel_rfl) (by kernel_rfl) ?_
          repeat (go_big_quiet_step ((first | (go_at_call 66; exact calls_onto (blank_calls _)))))
          refine wpQuiet_nil ?_
          intro w3 hb3
          have h3 := Onto.to (Onto.to hbr hbA) hb3
          clear k0 k1 k2 k3 k4 k5 k6 k7 k8 k9 k10 hb3 e0 e1 e2 e3 e4 d0 d1 d2 d3 d4 c0 c1 c2 c3 c4 q2 hbA
          go_wp2_with fail
          go_roundw
          case measure => simp [intOf] <;> omega
          case rel =>
            refine ⟨k + 1, by omega, by go_num, h3, ?_⟩
            show ∀ j, _
            intro j hj
            by_cases hjk : j = k
            · subst hjk; rw [HX.out, HY.out]; exact .inr HXY.out.symm
            · exact HJ.out j (by omega)
        · have hd2 : (!(x.kind == y.kind && x.job == y.job && x.every == y.every && x.time == y.time && x.client == y.client)) = true := ne_true hxy
          have hfin : decide (fitC cs' cs) = false := by
            refine decide_eq_false fun hf => ?_
            have := hf k hlt
            rw [HX.out, HY.out] at this
            rcases this with e | e
            · exact HB.out e
            · exact hxy e.symm
          have HF := Lib.hid hfin
          clear hox hbl hxy hfin
          refine wp_region_onto (by kernel_rfl) (by kernel_rfl) ?_
          repeat (go_big_quiet_step ((first | (go_at_call 66; exact calls_onto (blank_calls _)))))
          refine wpQuiet_nil ?_
          intro w3 hb3
          have h3 := Onto.to h01 (Onto.to (Onto.to hbr hbA) hb3)
          clear k0 k1 k2 k3 k4 k5 k6 k7 k8 k9 k10 hb3 e0 e1 e2 e3 e4 d0 d1 d2 d3 d4 c0 c1 c2 c3 c4 q2 hbA
          go_wp2_with fail
          go_ret
          exact ⟨ret_bool HF.out.symm, h3⟩
    · obtain rfl : k = 60 := by omega
      have hfin : decide (fitC cs' cs) = true := decide_eq_true HJ.out
      have HF := Lib.hid hfin
      clear hfin
      go_wp2_with fail
      go_ret
      exact ⟨ret_bool HF.out.symm, h02⟩
end Go.Proofs.Ytbipmoehcmighaa
