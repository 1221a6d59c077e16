/- The document's LivesOf. -/
import Derived.Test.YtiphoihijalfkaaLawM
import Derived.Test.YtiphoihijalfkaaLives
import Derived.Test.YtiphoihijalfkaaREnt
import Derived.Maps.OwnOps
namespace Go.Proofs.Ytiphoihijalfkaa
set_option linter.unusedSimpArgs false
set_option linter.unusedVariables false
open Go.RowKit Go.Maps

theorem keyedI : Keyed Try.prog 3 := int_keyed Try.underlying3
theorem zeroI (w : World) : (zeroValue 3).run Try.prog w = .ok (.int .i64 0) w := by kernel_rfl
abbrev TabI (w : World) (b n : Nat) (D : DataW Unit) : Prop := w.ownsMap Try.prog 3 (plainElem Try.prog 3) b n D
theorem keyI {j : Int} (h : -9223372036854775808 ≤ j ∧ j ≤ 9223372036854775807) : keyOf Try.prog 3 (.int .i64 j) = some (kI j) := keyOf_int_mk Try.underlying3 (WalkArith.wf_i64 h)
theorem elemI {j : Int} (h : -9223372036854775808 ≤ j ∧ j ≤ 9223372036854775807) : plainElem (H := Unit) Try.prog 3 (.int .i64 j) = some (.lit (.int .i64 j), []) := plainElem_int Try.underlying3 (WalkArith.wf_i64 h)
/-- 'v, ok := m[k]' where the answer is known ahead. -/
theorem wpList_look_known {w : World} {ops : Array Oper} {rest : List Oper} {o : Oper} {a : Act} {Q : Exit → Act → World → Prop} (hg : o.guard = none) (m x : Operand) (hop : o.op = Op.lookup 61 m x true)
    (b n : Nat) (D : DataW Unit) (hm : a.eval m = .map (some b)) (hown : TabI w b n D) (j : Int) (hx : a.eval x = .int .i64 j) (hj : -9223372036854775808 ≤ j ∧ j ≤ 9223372036854775807) (c : Int) (ok : Bool)
    (hc : D.atKey (kI j) (.lit (.int .i64 0)) = .lit (.int .i64 c)) (hok : Maps.has D (kI j) = ok) (hK : wpList Try.prog ops Q rest (a.put o.dst (.tuple #[.int .i64 c, .bool ok])) w) :
    wpList Try.prog ops Q (o :: rest) a w :=
  wpList_lookup_own_ok_int w hg m x 61 hop 3 3 .i64 keyedI Try.underlying61 Try.underlying3 (zeroI w) b n D hm hown _ _ hx (keyI hj) (fun c' hat _ => by
    rw [hc] at hat
    injection hat with hat
    injection hat with _ hat
    subst hat
    rw [hok]
    exact hK)
theorem MI.look0 {D : DataW Unit} {l : List Life} (h : MI D l) {j : Int} (hn : idxI (openL j) l < 0) : D.atKey (kI j) (.lit (.int .i64 0)) = .lit (.int .i64 0) ∧ Maps.has D (kI j) = false := by
  have h1 : Maps.has D (kI j) = false := by rw [h.has_]; simp; omega
  exact ⟨atKey_of_not_has h1 _, h1⟩
theorem MI.look1 {D : DataW Unit} {l : List Life} (h : MI D l) {j : Int} {i : Nat} (hi : idxI (openL j) l = i) : D.atKey (kI j) (.lit (.int .i64 0)) = .lit (.int .i64 (i : Int)) ∧ Maps.has D (kI j) = true :=
  ⟨by rw [h.at_ j (by omega), hi], by rw [h.has_, hi]; simp⟩

set_option maxHeartbeats 8000000 in
set_option maxRecDepth 100000 in
theorem RLives_good (A : Option Addr) (n c : Nat) (l : List Entry) (w : World) (h : S w 5 A n (l.map encE)) (hn60 : n ≤ 60) :
    Calls Try.prog 16 #[.slice A n c] w (RowsPost 5 encL w (livesL l).1 (livesL l).2) := by
  have hl : l.length = n := by have := h.len; simpa using this
  have hs : livesL l = livesGo ([], 0) l := by unfold livesL; rw [if_neg (by omega)]
  have HS := Lib.hid hs; have HL := Lib.hid hl
  clear hs hl
  have hmm := @run_makeMap Try.prog
  go_enter Try.func16, Try.ntmps16
  go_wp2_with fail
  clear hmm
  go_loopw [4, 6, 18] (fun s4 s5 s wr => ∃ (k : Nat) (A1 : Option Addr) (n1 c1 : Nat) (st : List Life × Int) (D : DataW Unit), k ≤ n ∧ n1 ≤ k ∧ s4 = .slice A1 n1 c1 ∧ s5 = .int .i64 st.2 ∧ s = .int .i64 k ∧ Hid (Own wr (w.heap.size + 1) 33 5 (.slice A1 n1 c1) n1 (st.1.map encL)) ∧ Hid (BL st) ∧ Hid (livesGo ([], 0) l = livesGo st (l.drop k)) ∧ Hid (TabI wr w.heap.size k D) ∧ Hid (MI D st.1) ∧ w.heap.size < wr.heap.size ∧ Onto w wr) (fun _ _ s _ => n - (intOf s).toNat)
  case atStart => exact ⟨0, none, 0, 0, ([], 0), .map [], Nat.zero_le _, Nat.le_refl _, rfl, rfl, rfl, Own.nil _ _ _ _, BL.nil, rfl, World.ownsMap_made _ _ _ _, MI.nil, by simp, (Onto.rfl' _).new _⟩
  case round =>
    obtain ⟨k, A1, n1, c1, st, D, hk, hnk, rfl, rfl, rfl, HO, HB, HG, HM, HI, hwz, hbr⟩ := hrel
    by_cases hlt : k < n
    · obtain ⟨bb, off, x, rfl, hb, hx, d0, d1, d2, d3, d4⟩ := (h.onto hbr).atE hlt
      have hat := livesGo_at (s := st) hx
      have HAT := Lib.hid hat
      clear hat hx
      go_upto_region 9 with fail
      have e0 : (wr.alloc (Obj.cells #[.int .i64 x.kind, .int .i64 x.job, .int .i64 x.every, .int .i64 x.time, .int .i64 x.client] 49)).cell? ⟨wr.heap.size, 0, none⟩ = some (.int .i64 x.kind) := by simp [go_sem]
      have e1 : (wr.alloc (Obj.cells #[.int .i64 x.kind, .int .i64 x.job, .int .i64 x.every, .int .i64 x.time, .int .i64 x.client] 49)).cell? ⟨wr.heap.size, 1, none⟩ = some (.int .i64 x.job) := by simp [go_sem]
      have e2 : (wr.alloc (Obj.cells #[.int .i64 x.kind, .int .i64 x.job, .int .i64 x.every, .int .i64 x.time, .int .i64 x.client] 49)).cell? ⟨wr.heap.size, 2, none⟩ = some (.int .i64 x.every) := by simp [go_sem]
      have e3 : (wr.alloc (Obj.cells #[.int .i64 x.kind, .int .i64 x.job, .int .i64 x.every, .int .i64 x.time, .int .i64 x.client] 49)).cell? ⟨wr.heap.size, 3, none⟩ = some (.int .i64 x.time) := by simp [go_sem]
      have e4 : (wr.alloc (Obj.cells #[.int .i64 x.kind, .int .i64 x.job, .int .i64 x.every, .int .i64 x.time, .int .i64 x.client] 49)).cell? ⟨wr.heap.size, 4, none⟩ = some (.int .i64 x.client) := by simp [go_sem]
      have hb1 : Onto w (wr.alloc (Obj.cells #[.int .i64 x.kind, .int .i64 x.job, .int .i64 x.every, .int .i64 x.time, .int .i64 x.client] 49)) := hbr.new _
      have HO1 := Lib.hid (HO.out.alloc (Obj.cells #[.int .i64 x.kind, .int .i64 x.job, .int .i64 x.every, .int .i64 x.time, .int .i64 x.client] 49))
      have HM1 := Lib.hid (HM.out.alloc (Obj.cells #[.int .i64 x.kind, .int .i64 x.job, .int .i64 x.every, .int .i64 x.time, .int .i64 x.client] 49))
      have hbz : wr.heap.size < (wr.alloc (Obj.cells #[.int .i64 x.kind, .int .i64 x.job, .int .i64 x.every, .int .i64 x.time, .int .i64 x.client] 49)).heap.size := by simp
      clear HO HM d0 d1 d2 d3 d4 hb
      change Code.wp _ _ _ _ (wr.alloc (Obj.cells #[.int .i64 x.kind, .int .i64 x.job, .int .i64 x.every, .int .i64 x.time, .int .i64 x.client] 49))
      generalize (wr.alloc (Obj.cells #[.int .i64 x.kind, .int .i64 x.job, .int .i64 x.every, .int .i64 x.time, .int .i64 x.client] 49)) = w1 at *
      generalize wr.heap.size = be at *
      obtain ⟨q, hq⟩ : ∃ q, q = checkE x := ⟨_, rfl⟩
      have HQ := Lib.hid hq
      clear hq hbr
      go_wp2_with fail
      refine Calls.mono (RCE_calls x.kind x.job x.every x.time x.client _) ?_
      rw [show checkE ⟨x.kind, x.job, x.every, x.time, x.client⟩ = q from HQ.out.symm]
      rintro e w2 ⟨rfl, hb⟩
      replace e0 := cellB hb e0; replace e1 := cellB hb e1; replace e2 := cellB hb e2; replace e3 := cellB hb e3; replace e4 := cellB hb e4
      replace hb1 := Onto.to hb1 hb
      have HO3 := Lib.hid (HO1.out.below hb)
      have HM3 := Lib.hid (HM1.out.kept (grownBy_of_below hb none) (by simp))
      have hsz := World.block_lt_of_cell? _ _ e0
      simp only at hsz
      clear hb HO1 HM1 hbz
      by_cases hq0 : q ≠ 0
      · have hd : (q != 0) = true := by simpa using hq0
        have hres : livesL l = ([], q) := by rw [HS.out, HG.out, HAT.out, if_pos (by rw [← HQ.out]; exact hq0), HQ.out]
        have HRES := Lib.hid hres
        clear hq0 hres
        go_wp2_with fail
        refine bodyPost_ret (v := .tuple #[.slice none 0 0, .int .i64 q]) (by simp [results, Try.results16, go_sem]) rfl ?_
        rw [HRES.out]
        exact ⟨none, 0, 0, rfl, Sl.nil, hb1, Fresh.none_ _, Nat.le_refl _, by unfold maxLen; omega⟩
      · have hd : (q != 0) = false := by simpa using hq0
        have hcx : checkE x = 0 := by rw [← HQ.out]; simpa using hq0
        have hgo := HAT.out
        rw [if_neg (by simp [hcx])] at hgo
        have HGO := Lib.hid (HG.out.trans hgo)
        have HB2 := Lib.hid (HB.out.step hcx)
        have hrg := checkE_range hcx
        clear hq0 hcx hgo HAT HG
        obtain ⟨K, hK⟩ : ∃ K, K = idxI (openL x.job) st.1 := ⟨_, rfl⟩
        have HK := Lib.hid hK
        clear hK
        by_cases hneg : K < 0
        · have hlk := HI.out.look0 (j := x.job) (by rw [← HK.out]; exact hneg)
          by_cases h1 : x.kind = 1
          · have hk1 : (x.kind == 1) = true := by simpa using h1
            have HST := Lib.hid (stepL_put h1 (show idxI (openL x.job) st.1 < 0 by rw [← HK.out]; exact hneg))
            have HI2 := Lib.hid (HI.out.put (j := x.job) x.every x.time (by rw [← HK.out]; exact hneg))
            have hln : st.1.length = n1 := by have := HO3.out.2.1; simpa using this
            rw [hln] at HI2
            obtain ⟨i0, hi0, hzz0, hzz1, hzz2⟩ := info_parts infoL
            have HI0 := Lib.hid hi0; have HZ0 := Lib.hid hzz0; have HZ1 := Lib.hid hzz1; have HZ2 := Lib.hid hzz2
            clear h1 hi0 hzz0 hzz1 hzz2 hneg hln
            go_upto_region 17 with (first | (at_lookup; refine wpList_look_known rfl _ _ rfl w.heap.size k D rfl HM3.out x.job rfl (by omega) 0 false hlk.1 hlk.2 ?_) | (at_mapUpdate; refine wpList_mapUpdate_own _ rfl _ _ _ 61 rfl 3 3 keyedI Try.underlying61 _ w.heap.size k D rfl HM3.out (by unfold maxLen; omega) _ _ (kI x.job) rfl rfl (keyI (by omega)) (.lit (.int .i64 (n1 : Nat))) [] (elemI (by omega)) ?_; intro w4 hm4 hg4))
            replace e1 := grow_cell hg4 e1 (by simp; omega); replace e2 := grow_cell hg4 e2 (by simp; omega); replace e3 := grow_cell hg4 e3 (by simp; omega)
            have hb4 : Onto w w4 := below_grown hb1 hb1.size hg4 (fun g hg => by injection hg with hg; omega)
            have HO4 := Lib.hid (HO3.out.kept hg4 (.inr (HO3.out.notBelow (Nat.lt_succ_self _)).symm))
            have HM4 := Lib.hid hm4
            have hz4 := hg4.size
            have HNEW := Lib.hid (Sl.unitL (w := w4) (t := 33) ⟨x.job, x.every, x.time, 0, false⟩)
            have hw4 := hb4.size
            clear hg4 hm4 e0 e4 HO3 HM3 hb1
            go_wp2_with (at_builtin; refine wpList_append_sl _ rfl (.tmp 45) (.tmp 53) 28 rfl (w.heap.size + 1) 33 i0 _ 5 40 Try.underlying28 HI0.out HZ0.out HZ1.out HZ2.out rfl (by decide) (.slice A1 n1 c1) n1 (st.1.map encL) rfl (HO4.out.alloc _) _ (some ⟨w4.heap.size, 0, none⟩) 1 1 [encL ⟨x.job, x.every, x.time, 0, false⟩] rfl (by have := HNEW.out; simpa using this) (by simp [encL, Value.oneCell']) (by unfold maxLen; omega) (by omega) (by simp; omega) ?_)
            intro v8 w8 own8 grow8 hv8
            obtain ⟨A8, c8, rfl, _, _⟩ := own8.slice
            have hB8 : Onto w w8 := below_grown (hb4.new _) (by simp; omega) grow8 (fun g hg => by have := (HO4.out.1.lt g hg).1; omega)
            have HO8 := Lib.hid own8
            have HM8 := Lib.hid ((HM4.out.alloc _).kept grow8 (HO4.out.notBelow (Nat.lt_succ_self _)))
            have hz8 := grow8.size
            simp at hz8
            clear grow8 hv8 own8 HO4 HM4 HI0 HZ0 HZ1 HZ2 HNEW e1 e2 e3 hsz
            go_wp2_with fail
            go_roundw
            case measure => simp [intOf] <;> omega
            case rel =>
              refine ⟨k + 1, A8, n1 + 1, c8, stepL st x, _, by omega, by omega, rfl, by rw [HST.out], by go_num, ?_, HB2, HGO, HM8, ?_, by omega, hB8⟩
              · rw [HST.out]
                show Own _ _ _ _ _ _ _
                rw [List.map_append]
                exact HO8.out
              · rw [HST.out]
                exact HI2
          · have hk1 : (x.kind == 1) = false := by simpa using h1
            have HST := Lib.hid (stepL_none h1 (show idxI (openL x.job) st.1 < 0 by rw [← HK.out]; exact hneg))
            by_cases h2 : x.kind = 2
            · have hk2 : (x.kind == 2) = true := by simpa using h2
              clear h1 h2 hneg
              go_wp2_with (at_lookup; refine wpList_look_known rfl _ _ rfl w.heap.size k D rfl HM3.out x.job rfl (by omega) 0 false hlk.1 hlk.2 ?_)
              go_roundw
              case measure => simp [intOf] <;> omega
              case rel =>
                refine ⟨k + 1, A1, n1, c1, stepL st x, D, by omega, by omega, rfl, by rw [HST.out], by go_num, ?_, HB2, HGO, HM3.out.mono (Nat.le_succ _), ?_, by omega, hb1⟩
                · rw [HST.out]; exact HO3
                · rw [HST.out]; exact HI
            · have hk2 : (x.kind == 2) = false := by simpa using h2
              by_cases h3 : x.kind = 3
              · have hk3 : (x.kind == 3) = true := by simpa using h3
                clear h1 h2 h3 hneg
                go_upto_region 23 with (at_lookup; refine wpList_look_known rfl _ _ rfl w.heap.size k D rfl HM3.out x.job rfl (by omega) 0 false hlk.1 hlk.2 ?_)
                have oe3 := onto_cell e3
                refine wp_region_onto (by kernel_rfl) (by kernel_rfl) ?_
                repeat (go_big_quiet_step (fail))
                refine wpQuiet_nil ?_
                intro w5 hb5
                clear oe3
                have hb6 := Onto.to hb1 hb5
                have HO6 := Lib.hid (HO3.out.below hb5)
                have HM6 := Lib.hid (HM3.out.kept (grownBy_of_below hb5 none) (by simp))
                have hz6 := hb5.size
                clear hb5
                go_wp2_with fail
                go_roundw
                case measure => simp [intOf] <;> omega
                case rel =>
                  refine ⟨k + 1, A1, n1, c1, stepL st x, D, by omega, by omega, rfl, by rw [HST.out], by go_num, ?_, HB2, HGO, HM6.out.mono (Nat.le_succ _), ?_, by omega, hb6⟩
                  · rw [HST.out]; exact HO6
                  · rw [HST.out]; exact HI
              · have hk3 : (x.kind == 3) = false := by simpa using h3
                clear h1 h2 h3 hneg
                go_wp2_with (at_lookup; refine wpList_look_known rfl _ _ rfl w.heap.size k D rfl HM3.out x.job rfl (by omega) 0 false hlk.1 hlk.2 ?_)
                go_roundw
                case measure => simp [intOf] <;> omega
                case rel =>
                  refine ⟨k + 1, A1, n1, c1, stepL st x, D, by omega, by omega, rfl, by rw [HST.out], by go_num, ?_, HB2, HGO, HM3.out.mono (Nat.le_succ _), ?_, by omega, hb1⟩
                  · rw [HST.out]; exact HO3
                  · rw [HST.out]; exact HI
        · obtain ⟨i, y, hi, hy, hpy⟩ := idxI_ge (p := openL x.job) (l := st.1) (by rw [← HK.out]; omega)
          have hlk := HI.out.look1 hi
          have hil : i < n1 := by have h1 := HO3.out.2.1; have h2 := (List.getElem?_eq_some_iff.1 hy).1; simp at h1; omega
          obtain ⟨g, cur, hA1, hg0, hgz, hheap, hnc1, _, _, _⟩ := HO3.out.open_ (by omega)
          obtain ⟨b', off', y', hA2, hb', hy', c0, cc1, c2, c3, c4⟩ := HO3.out.sl.atL hil
          have hyy : y' = y := by rw [hy] at hy'; exact (Option.some.inj hy').symm
          rw [hA1] at hA2
          injection hA2 with hA2
          injection hA2 with e5 e6 _
          subst e5; subst e6; subst hyy
          subst hA1
          simp only [Nat.zero_add] at c0 cc1 c2 c3 c4
          have hunf : Unf w2 g := ⟨_, _, hheap⟩
          have f3 := hunf.frozen (i * 5 + 3); have f4 := hunf.frozen (i * 5 + 4)
          have hye := HB.out.each y' (List.mem_of_getElem? hy)
          have hlo := HB.out.lo; have hhi := HB.out.hi
          have hi0 : ¬ (i : Int) < 0 := by omega
          have hin : (i : Int) < (n1 : Int) := by omega
          have hiz : decide ((i : Int) < 0) = false := by simp
          have hii : (0 : Int) ≤ (i : Int) := by omega
          have HY := Lib.hid hy; have HJ := Lib.hid hi; have HP0 := Lib.hid hpy
          have hmb : 0 ≤ y'.every * y'.rung ∧ y'.every * y'.rung ≤ 6000 := by
            refine ⟨Int.mul_nonneg hye.1 hye.2.2.2.2.1, ?_⟩
            have h1 := Int.mul_le_mul hye.2.1 (show y'.rung ≤ 60 by omega) hye.2.2.2.2.1 (by omega)
            omega
          have hw1 : IntKind.i64.wrap (y'.every * y'.rung) = y'.every * y'.rung := by rw [IntKind.wrap_i64]; omega
          have hw2 : IntKind.i64.wrap (x.time - y'.frm) = x.time - y'.frm := by rw [IntKind.wrap_i64]; omega
          have hw3 : IntKind.i64.wrap (y'.rung + 1) = y'.rung + 1 := by rw [IntKind.wrap_i64]; omega
          have hw4 : IntKind.i64.wrap (st.2 + 1) = st.2 + 1 := by rw [IntKind.wrap_i64]; omega
          clear hheap hy hi hy' hb' hunf hneg hpy
          by_cases h2 : x.kind = 2
          · have HST := Lib.hid (stepL_drop HJ.out HY.out h2)
            have HI2 := Lib.hid (HI.out.del HJ.out HY.out HP0.out)
            have hk1 : (x.kind == 1) = false := by simp; omega
            have hk2 : (x.kind == 2) = true := by simpa using h2
            have hp := HO3.out.put (i := i) (j := 4) (r := encL y') (by rw [List.getElem?_map, HY.out]; rfl) (by omega) (.bool true)
            have HP := Lib.hid hp
            have HM4 := Lib.hid (HM3.out.setCell (a := ⟨g, i * 5 + 4, none⟩) (by simp only; omega) (.bool true))
            clear h2 hp hye hmb
            go_wp2_with (first | (at_lookup; refine wpList_look_known rfl _ _ rfl w.heap.size k D rfl HM3.out x.job rfl (by omega) (i : Int) true hlk.1 hlk.2 ?_) | (at_delete; refine wpList_delete_own _ rfl _ _ 61 3 rfl 3 keyedI Try.underlying61 _ w.heap.size k D rfl HM4.out _ _ rfl (keyI (by omega)) ?_; intro w4 hm4 ht4))
            have hg4 := ht4.grown
            have hb4 : Onto w w4 := below_grown (Onto.put hb1 (by simp only; omega) _) (by simpa using hb1.size) hg4 (fun g hg => by injection hg with hg; omega)
            have HO4 := Lib.hid (Own.kept HP.out hg4 (.inr (HP.out.notBelow (Nat.lt_succ_self _)).symm))
            have hz4 := hg4.size
            simp at hz4
            clear hg4 ht4
            go_roundw
            case measure => simp [intOf] <;> omega
            case rel =>
              refine ⟨k + 1, some ⟨g, 0, none⟩, n1, c1, stepL st x, _, by omega, by omega, rfl, by rw [HST.out], by go_num, ?_, HB2, HGO, hm4.mono (Nat.le_succ _), ?_, by omega, hb4⟩
              · rw [HST.out]
                show Own _ _ _ _ _ _ _
                have h9 := HO4.out
                simpa [List.map_set, encL] using h9
              · rw [HST.out]
                exact HI2
          · have hk2 : (x.kind == 2) = false := by simpa using h2
            by_cases h3 : x.kind = 3 ∧ x.time = y'.frm + y'.every * y'.rung ∧ st.2 < 60
            · have HST := Lib.hid (stepL_ring HJ.out HY.out h3)
              have HI2 := Lib.hid (HI.out.ring (y'.rung + 1) HY.out)
              have hk1 : (x.kind == 1) = false := by simp; omega
              have hk3 : (x.kind == 3) = true := by simp; omega
              have hk4 : (x.time - y'.frm == y'.every * y'.rung) = true := by simp; omega
              have hk5 : decide (st.2 < 60) = true := by simpa using h3.2.2
              clear h2 h3
              go_upto_region 23 with (at_lookup; refine wpList_look_known rfl _ _ rfl w.heap.size k D rfl HM3.out x.job rfl (by omega) (i : Int) true hlk.1 hlk.2 ?_)
              have oe3 := onto_cell e3; have occ1 := onto_cell cc1; have oc2 := onto_cell c2; have oc3 := onto_cell c3
              refine wp_region_onto (by kernel_rfl) (by kernel_rfl) ?_
              repeat (go_big_quiet_step (fail))
              refine wpQuiet_nil ?_
              intro w5 hb5
              clear oe3 occ1 oc2 oc3
              have hb6 := Onto.to hb1 hb5
              have HO6 := Lib.hid (HO3.out.below hb5)
              have HM6 := Lib.hid (HM3.out.kept (grownBy_of_below hb5 none) (by simp))
              have hz6 := hb5.size
              replace f3 := frozB hb5 c3 f3; replace c3 := cellB hb5 c3
              have hp := (HO3.out.below hb5).put (i := i) (j := 3) (r := encL y') (by rw [List.getElem?_map, HY.out]; rfl) (by omega) (.int .i64 (y'.rung + 1))
              have HP := Lib.hid hp
              clear hp hb5 hye hmb
              go_wp2_with fail
              go_roundw
              case measure => simp [intOf] <;> omega
              case rel =>
                refine ⟨k + 1, some ⟨g, 0, none⟩, n1, c1, stepL st x, D, by omega, by omega, rfl, by rw [HST.out], by go_num, ?_, HB2, HGO, ?_, ?_, ?_, Onto.put hb6 (by simp only; omega) _⟩
                · rw [HST.out]
                  show Own _ _ _ _ _ _ _
                  have h9 := HP.out
                  simpa [List.map_set, encL] using h9
                · exact (HM6.out.setCell (by simp only; omega) _).mono (Nat.le_succ _)
                · rw [HST.out]; exact HI2
                · simp; omega
            · have HST := Lib.hid (stepL_stay HJ.out HY.out h2 h3)
              by_cases h4 : x.kind = 3
              · have hk1 : (x.kind == 1) = false := by simp; omega
                have hk3 : (x.kind == 3) = true := by simpa using h4
                by_cases h5 : x.time = y'.frm + y'.every * y'.rung
                · have hk4 : (x.time - y'.frm == y'.every * y'.rung) = true := by simp; omega
                  have hk5 : decide (st.2 < 60) = false := by simp; exact Decidable.byContradiction fun h => h3 ⟨h4, h5, by omega⟩
                  have hk6 : ¬ st.2 < 60 := by simpa using hk5
                  clear h2 h3 h4 h5
                  go_upto_region 23 with (at_lookup; refine wpList_look_known rfl _ _ rfl w.heap.size k D rfl HM3.out x.job rfl (by omega) (i : Int) true hlk.1 hlk.2 ?_)
                  have oe3 := onto_cell e3; have occ1 := onto_cell cc1; have oc2 := onto_cell c2; have oc3 := onto_cell c3
                  refine wp_region_onto (by kernel_rfl) (by kernel_rfl) ?_
                  repeat (go_big_quiet_step (fail))
                  refine wpQuiet_nil ?_
                  intro w5 hb5
                  clear oe3 occ1 oc2 oc3
                  have hb6 := Onto.to hb1 hb5
                  have HO6 := Lib.hid (HO3.out.below hb5)
                  have HM6 := Lib.hid (HM3.out.kept (grownBy_of_below hb5 none) (by simp))
                  have hz6 := hb5.size
                  clear hb5 hye hmb
                  go_wp2_with fail
                  go_roundw
                  case measure => simp [intOf] <;> omega
                  case rel =>
                    refine ⟨k + 1, some ⟨g, 0, none⟩, n1, c1, stepL st x, D, by omega, by omega, rfl, by rw [HST.out], by go_num, ?_, HB2, HGO, HM6.out.mono (Nat.le_succ _), ?_, by omega, hb6⟩
                    · rw [HST.out]; exact HO6
                    · rw [HST.out]; exact HI
                · have hk4 : (x.time - y'.frm == y'.every * y'.rung) = false := by simp; omega
                  clear h2 h3 h4 h5
                  go_upto_region 23 with (at_lookup; refine wpList_look_known rfl _ _ rfl w.heap.size k D rfl HM3.out x.job rfl (by omega) (i : Int) true hlk.1 hlk.2 ?_)
                  have oe3 := onto_cell e3; have occ1 := onto_cell cc1; have oc2 := onto_cell c2; have oc3 := onto_cell c3
                  refine wp_region_onto (by kernel_rfl) (by kernel_rfl) ?_
                  repeat (go_big_quiet_step (fail))
                  refine wpQuiet_nil ?_
                  intro w5 hb5
                  clear oe3 occ1 oc2 oc3
                  have hb6 := Onto.to hb1 hb5
                  have HO6 := Lib.hid (HO3.out.below hb5)
                  have HM6 := Lib.hid (HM3.out.kept (grownBy_of_below hb5 none) (by simp))
                  have hz6 := hb5.size
                  clear hb5 hye hmb
                  go_wp2_with fail
                  go_roundw
                  case measure => simp [intOf] <;> omega
                  case rel =>
                    refine ⟨k + 1, some ⟨g, 0, none⟩, n1, c1, stepL st x, D, by omega, by omega, rfl, by rw [HST.out], by go_num, ?_, HB2, HGO, HM6.out.mono (Nat.le_succ _), ?_, by omega, hb6⟩
                    · rw [HST.out]; exact HO6
                    · rw [HST.out]; exact HI
              · have hk3 : (x.kind == 3) = false := by simpa using h4
                by_cases h5 : x.kind = 1
                · have hk1 : (x.kind == 1) = true := by simpa using h5
                  clear h2 h3 h4 h5
                  go_wp2_with (at_lookup; refine wpList_look_known rfl _ _ rfl w.heap.size k D rfl HM3.out x.job rfl (by omega) (i : Int) true hlk.1 hlk.2 ?_)
                  go_roundw
                  case measure => simp [intOf] <;> omega
                  case rel =>
                    refine ⟨k + 1, some ⟨g, 0, none⟩, n1, c1, stepL st x, D, by omega, by omega, rfl, by rw [HST.out], by go_num, ?_, HB2, HGO, HM3.out.mono (Nat.le_succ _), ?_, by omega, hb1⟩
                    · rw [HST.out]; exact HO3
                    · rw [HST.out]; exact HI
                · have hk1 : (x.kind == 1) = false := by simpa using h5
                  clear h2 h3 h4 h5
                  go_wp2_with (at_lookup; refine wpList_look_known rfl _ _ rfl w.heap.size k D rfl HM3.out x.job rfl (by omega) (i : Int) true hlk.1 hlk.2 ?_)
                  go_roundw
                  case measure => simp [intOf] <;> omega
                  case rel =>
                    refine ⟨k + 1, some ⟨g, 0, none⟩, n1, c1, stepL st x, D, by omega, by omega, rfl, by rw [HST.out], by go_num, ?_, HB2, HGO, HM3.out.mono (Nat.le_succ _), ?_, by omega, hb1⟩
                    · rw [HST.out]; exact HO3
                    · rw [HST.out]; exact HI
    · have hkn : k = n := by omega
      subst hkn
      have hres : livesL l = (st.1, 0) := by
        rw [HS.out, HG.out, List.drop_eq_nil_of_le (by have := HL.out; omega)]
        rfl
      have HRES := Lib.hid hres
      have hown := HO.out
      have h1 := hown.sl; have h2 := hown.fresh (lo := w.heap.size) (Nat.le_succ _); have h3 := hown.le_cap; have h4 := hown.cap_max
      clear hres hown HO
      go_wp2_with fail
      refine bodyPost_ret (v := .tuple #[.slice A1 n1 c1, .int .i64 0]) (by simp [results, Try.results16, go_sem]) rfl ?_
      rw [HRES.out]
      exact ⟨A1, n1, c1, rfl, h1, hbr, h2, h3, h4⟩

theorem RLives_calls (A : Option Addr) (n c : Nat) (l : List Entry) (w : World) (h : S w 5 A n (l.map encE)) :
    Calls Try.prog 16 #[.slice A n c] w (RowsPost 5 encL w (livesL l).1 (livesL l).2) := by
  by_cases hbig : 60 < n
  · have hl : l.length = n := by have := h.len; simpa using this
    have hs : livesL l = ([], 2) := by unfold livesL; rw [if_pos (by omega)]
    have HS := Lib.hid hs
    have hd : decide ((60 : Int) < (n : Int)) = true := by simp; omega
    have hd' : (60 : Int) < (n : Int) := by omega
    clear hs h hl hbig
    go_enter Try.func16, Try.ntmps16
    go_wp2_with fail
    refine bodyPost_ret (v := .tuple #[.slice none 0 0, .int .i64 2]) (by simp [results, Try.results16, go_sem]) rfl ?_
    rw [HS.out]
    exact ⟨none, 0, 0, rfl, Sl.nil, Onto.rfl' _, Fresh.none_ _, Nat.le_refl _, by unfold maxLen; omega⟩
  · exact RLives_good A n c l w h (by omega)
end Go.Proofs.Ytiphoihijalfkaa
