/- fair.Lives. -/
import Derived.Test.YtiphoihijalfkaaLawL
import Derived.Test.YtiphoihijalfkaaEnt
import Derived.Test.YtiphoihijalfkaaSpecD
import Derived.Test.YtiphoihijalfkaaApply
import Derived.Test.YtiphoihijalfkaaDue
namespace Go.Proofs.Ytiphoihijalfkaa
set_option linter.unusedSimpArgs false
set_option linter.unusedVariables false
open Go.RowKit

theorem Sl.unitL {w : World} {t : TypeId} (x : Life) : Sl (w.alloc (Obj.cells #[.int .i64 x.job, .int .i64 x.every, .int .i64 x.frm, .int .i64 x.rung, .bool x.over] t)) (w.heap.size + 1) 5 (some ⟨w.heap.size, 0, none⟩) 1 [encL x] := by
  have := Sl.block (k := 5) (w := w.alloc (Obj.cells #[.int .i64 x.job, .int .i64 x.every, .int .i64 x.frm, .int .i64 x.rung, .bool x.over] t)) [encL x] (hNew rfl) (by simp [encL]) (by rfl)
  simpa using this
theorem infoL : (Try.prog.info? 33).map (fun i => (i.zero, i.size, i.bytes)) = some (some (.agg #[.int .i64 0, .int .i64 0, .int .i64 0, .int .i64 0, .bool false]), 5, 40) := by kernel_rfl

set_option maxHeartbeats 8000000 in
set_option maxRecDepth 100000 in
theorem Lives_good (A : Option Addr) (n c : Nat) (l : List Entry) (w : World) (h : S w 5 A n (l.map encE)) (hn60 : n ≤ 60) :
    Calls Try.prog 15 #[.slice A n c] w (RowsPost 5 encL w (livesL l).1 (livesL l).2) := by
  have hl : l.length = n := by have := h.len; simpa using this
  have hs : livesL l = livesGo ([], 0) l := by unfold livesL; rw [if_neg (by omega)]
  have HS := Lib.hid hs; have HL := Lib.hid hl
  clear hs hl
  go_enter Try.func15, Try.ntmps15
  go_wp2_with fail
  go_loopw [4, 5, 15] (fun s4 s5 s wr => ∃ (k : Nat) (A1 : Option Addr) (n1 c1 : Nat) (st : List Life × Int), k ≤ n ∧ n1 ≤ k ∧ s4 = .slice A1 n1 c1 ∧ s5 = .int .i64 st.2 ∧ s = .int .i64 k ∧ Hid (Own wr w.heap.size 33 5 (.slice A1 n1 c1) n1 (st.1.map encL)) ∧ Hid (BL st) ∧ Hid (livesGo ([], 0) l = livesGo st (l.drop k)) ∧ Onto w wr) (fun _ _ s _ => n - (intOf s).toNat)
  case atStart => exact ⟨0, none, 0, 0, ([], 0), Nat.zero_le _, Nat.le_refl _, rfl, rfl, rfl, Own.nil _ _ _ _, BL.nil, rfl, Onto.rfl' _⟩
  case round =>
    obtain ⟨k, A1, n1, c1, st, hk, hnk, rfl, rfl, rfl, HO, HB, HG, hbr⟩ := hrel
    by_cases hlt : k < n
    · obtain ⟨bb, off, x, rfl, hb, hx, d0, d1, d2, d3, d4⟩ := (h.onto hbr).atE hlt
      have hat := livesGo_at (s := st) hx
      have HAT := Lib.hid hat
      clear hat hx
      go_upto_region 8 with fail
      have e0 : (wr.alloc (Obj.cells #[.int .i64 x.kind, .int .i64 x.job, .int .i64 x.every, .int .i64 x.time, .int .i64 x.client] 49)).cell? ⟨wr.heap.size, 0, none⟩ = some (.int .i64 x.kind) := by simp [go_sem]
      have e1 : (wr.alloc (Obj.cells #[.int .i64 x.kind, .int .i64 x.job, .int .i64 x.every, .int .i64 x.time, .int .i64 x.client] 49)).cell? ⟨wr.heap.size, 1, none⟩ = some (.int .i64 x.job) := by simp [go_sem]
      have e2 : (wr.alloc (Obj.cells #[.int .i64 x.kind, .int .i64 x.job, .int .i64 x.every, .int .i64 x.time, .int .i64 x.client] 49)).cell? ⟨wr.heap.size, 2, none⟩ = some (.int .i64 x.every) := by simp [go_sem]
      have e3 : (wr.alloc (Obj.cells #[.int .i64 x.kind, .int .i64 x.job, .int .i64 x.every, .int .i64 x.time, .int .i64 x.client] 49)).cell? ⟨wr.heap.size, 3, none⟩ = some (.int .i64 x.time) := by simp [go_sem]
      have e4 : (wr.alloc (Obj.cells #[.int .i64 x.kind, .int .i64 x.job, .int .i64 x.every, .int .i64 x.time, .int .i64 x.client] 49)).cell? ⟨wr.heap.size, 4, none⟩ = some (.int .i64 x.client) := by simp [go_sem]
      have hwr := hbr.size
      have hb1 : Onto w (wr.alloc (Obj.cells #[.int .i64 x.kind, .int .i64 x.job, .int .i64 x.every, .int .i64 x.time, .int .i64 x.client] 49)) := hbr.new _
      have HO1 := Lib.hid (HO.out.alloc (Obj.cells #[.int .i64 x.kind, .int .i64 x.job, .int .i64 x.every, .int .i64 x.time, .int .i64 x.client] 49))
      clear HO d0 d1 d2 d3 d4 hb
      change Code.wp _ _ _ _ (wr.alloc (Obj.cells #[.int .i64 x.kind, .int .i64 x.job, .int .i64 x.every, .int .i64 x.time, .int .i64 x.client] 49))
      generalize (wr.alloc (Obj.cells #[.int .i64 x.kind, .int .i64 x.job, .int .i64 x.every, .int .i64 x.time, .int .i64 x.client] 49)) = w1 at *
      generalize wr.heap.size = be at *
      obtain ⟨q, hq⟩ : ∃ q, q = checkE x := ⟨_, rfl⟩
      have HQ := Lib.hid hq
      clear hq
      go_wp2_with fail
      refine Calls.mono (Check_calls x.kind x.job x.every x.time x.client _) ?_
      rw [show checkE ⟨x.kind, x.job, x.every, x.time, x.client⟩ = q from HQ.out.symm]
      rintro e w2 ⟨rfl, hb⟩
      replace e0 := cellB hb e0; replace e1 := cellB hb e1; replace e2 := cellB hb e2; replace e3 := cellB hb e3; replace e4 := cellB hb e4
      replace hb1 := Onto.to hb1 hb
      have HO2 := Lib.hid (HO1.out.below hb)
      clear hb HO1 hbr
      by_cases hq0 : q ≠ 0
      · have hd : (q != 0) = true := by simpa using hq0
        have hres : livesL l = ([], q) := by rw [HS.out, HG.out, HAT.out, if_pos (by rw [← HQ.out]; exact hq0), HQ.out]
        have HRES := Lib.hid hres
        clear hq0 hres
        go_wp2_with fail
        refine bodyPost_ret (v := .tuple #[.slice none 0 0, .int .i64 q]) (by simp [results, Try.results15, go_sem]) rfl ?_
        rw [HRES.out]
        exact ⟨none, 0, 0, rfl, Sl.nil, hb1, Fresh.none_ _, Nat.le_refl _, by unfold maxLen; omega⟩
      · have hd : (q != 0) = false := by simpa using hq0
        have hcx : checkE x = 0 := by rw [← HQ.out]; simpa using hq0
        have hgo := HAT.out
        rw [if_neg (by simp [hcx])] at hgo
        have HGO := Lib.hid (HG.out.trans hgo)
        have HB2 := Lib.hid (HB.out.step hcx)
        have HCX := Lib.hid hcx
        clear hq0 hcx hgo HAT HG
        have hs2 := HO2.out.sl
        go_wp2_with fail
        refine Calls.mono (IndexFuncL_calls A1 n1 c1 _ st.1 42 #[.pointer (some ⟨be, 0, none⟩)] (openL x.job) _ hs2 (Nat.le_refl _) (by omega) (fun _ _ => by kernel_rfl) (fun y w' hw' => LivesF_calls y x be w' (cellB hw' e1))) ?_
        rintro e w3 ⟨rfl, hb⟩
        replace e0 := cellB hb e0; replace e1 := cellB hb e1; replace e2 := cellB hb e2; replace e3 := cellB hb e3; replace e4 := cellB hb e4
        replace hb1 := Onto.to hb1 hb
        have HO3 := Lib.hid (HO2.out.below hb)
        have hsz := World.block_lt_of_cell? _ _ e0
        simp only at hsz
        clear hb HO2 hs2
        obtain ⟨K, hK⟩ : ∃ K, K = idxI (openL x.job) st.1 := ⟨_, rfl⟩
        rw [← hK]
        have HK := Lib.hid hK
        clear hK
        by_cases hneg : K < 0
        · have hd9 : decide (K < 0) = true := by simpa using hneg
          have hd8 : decide (0 ≤ K) = false := by simp; omega
          by_cases h1 : x.kind = 1
          · have hk1 : (x.kind == 1) = true := by simpa using h1
            have hst := stepL_put h1 (show idxI (openL x.job) st.1 < 0 by rw [← HK.out]; exact hneg)
            have HST := Lib.hid hst
            obtain ⟨i0, hi0, hzz0, hzz1, hzz2⟩ := info_parts infoL
            have HI0 := Lib.hid hi0; have HZ0 := Lib.hid hzz0; have HZ1 := Lib.hid hzz1; have HZ2 := Lib.hid hzz2
            have HNEW := Lib.hid (Sl.unitL (w := w3) (t := 33) ⟨x.job, x.every, x.time, 0, false⟩)
            have hw3 := hb1.size
            clear h1 hst hi0 hzz0 hzz1 hzz2 hneg
            go_wp2_with (at_builtin; refine wpList_append_sl _ rfl (.tmp 35) (.tmp 43) 28 rfl w.heap.size 33 i0 _ 5 40 Try.underlying28 HI0.out HZ0.out HZ1.out HZ2.out rfl (by decide) (.slice A1 n1 c1) n1 (st.1.map encL) rfl (HO3.out.alloc _) _ (some ⟨w3.heap.size, 0, none⟩) 1 1 [encL ⟨x.job, x.every, x.time, 0, false⟩] rfl (by have := HNEW.out; simpa using this) (by simp [encL, Value.oneCell']) (by unfold maxLen; omega) (by omega) (by simp; omega) ?_)
            intro v8 w8 own8 grow8 hv8
            obtain ⟨A8, c8, rfl, _, _⟩ := own8.slice
            have hB8 : Onto w w8 := below_grown (hb1.new _) (by simp; omega) grow8 (fun g hg => by have := (HO3.out.1.lt g hg).1; omega)
            have HO8 := Lib.hid own8
            clear grow8 hv8 own8 HO3 HI0 HZ0 HZ1 HZ2 HNEW e0 e1 e2 e3 e4 hsz
            go_wp2_with fail
            go_roundw
            case measure => simp [intOf] <;> omega
            case rel =>
              refine ⟨k + 1, A8, n1 + 1, c8, stepL st x, by omega, by omega, rfl, by rw [HST.out], by go_num, ?_, HB2, HGO, hB8⟩
              rw [HST.out]
              show Own _ _ _ _ _ _ _
              rw [List.map_append]
              exact HO8.out
          · have hk1 : (x.kind == 1) = false := by simpa using h1
            have hst := stepL_none h1 (show idxI (openL x.job) st.1 < 0 by rw [← HK.out]; exact hneg)
            have HST := Lib.hid hst
            by_cases h3 : x.kind = 3
            · have hk2 : (x.kind == 2) = false := by simp; omega
              have hk3 : (x.kind == 3) = true := by simpa using h3
              clear h1 h3 hneg hst
              go_upto_region 16 with fail
              have oe0 := onto_cell e0; have oe3 := onto_cell e3
              refine wp_region_onto (by kernel_rfl) (by kernel_rfl) ?_
              repeat (go_big_quiet_step (fail))
              refine wpQuiet_nil ?_
              intro w5 hb5
              clear oe0 oe3
              have hb6 := Onto.to hb1 hb5
              have HO6 := Lib.hid (HO3.out.below hb5)
              clear hb5
              go_wp2_with fail
              go_roundw
              case measure => simp [intOf] <;> omega
              case rel =>
                refine ⟨k + 1, A1, n1, c1, stepL st x, by omega, by omega, rfl, by rw [HST.out], by go_num, ?_, HB2, HGO, hb6⟩
                rw [HST.out]
                exact HO6
            · have hk3 : (x.kind == 3) = false := by simpa using h3
              by_cases h2 : x.kind = 2
              · have hk2 : (x.kind == 2) = true := by simpa using h2
                clear h1 h2 h3 hneg hst
                go_upto_region 16 with fail
                have oe0 := onto_cell e0; have oe3 := onto_cell e3
                refine wp_region_onto (by kernel_rfl) (by kernel_rfl) ?_
                repeat (go_big_quiet_step (fail))
                refine wpQuiet_nil ?_
                intro w5 hb5
                clear oe0 oe3
                have hb6 := Onto.to hb1 hb5
                have HO6 := Lib.hid (HO3.out.below hb5)
                clear hb5
                go_wp2_with fail
                go_roundw
                case measure => simp [intOf] <;> omega
                case rel =>
                  refine ⟨k + 1, A1, n1, c1, stepL st x, by omega, by omega, rfl, by rw [HST.out], by go_num, ?_, HB2, HGO, hb6⟩
                  rw [HST.out]
                  exact HO6
              · have hk2 : (x.kind == 2) = false := by simpa using h2
                clear h1 h2 h3 hneg hst
                go_upto_region 16 with fail
                have oe0 := onto_cell e0; have oe3 := onto_cell e3
                refine wp_region_onto (by kernel_rfl) (by kernel_rfl) ?_
                repeat (go_big_quiet_step (fail))
                refine wpQuiet_nil ?_
                intro w5 hb5
                clear oe0 oe3
                have hb6 := Onto.to hb1 hb5
                have HO6 := Lib.hid (HO3.out.below hb5)
                clear hb5
                go_wp2_with fail
                go_roundw
                case measure => simp [intOf] <;> omega
                case rel =>
                  refine ⟨k + 1, A1, n1, c1, stepL st x, by omega, by omega, rfl, by rw [HST.out], by go_num, ?_, HB2, HGO, hb6⟩
                  rw [HST.out]
                  exact HO6
        · have hd9 : decide (K < 0) = false := by simp; omega
          have hd8 : decide (0 ≤ K) = true := by simp; omega
          obtain ⟨i, y, hi, hy, _⟩ := idxI_ge (p := openL x.job) (l := st.1) (by rw [← HK.out]; omega)
          have hKi : K = i := by rw [HK.out, hi]
          have hil : i < n1 := by have h1 := HO3.out.2.1; have h2 := (List.getElem?_eq_some_iff.1 hy).1; simp at h1; omega
          obtain ⟨g, cur, hA1, hg0, hgz, hheap, hnc1, _, _, _⟩ := HO3.out.open_ (by omega)
          obtain ⟨b', off', y', hA2, hb', hy', c0, cc1, c2, c3, c4⟩ := HO3.out.sl.atL hil
          have hyy : y' = y := by rw [hy] at hy'; exact (Option.some.inj hy').symm
          rw [hA1] at hA2
          injection hA2 with hA2
          injection hA2 with e5 e6 _
          subst e5; subst e6; subst hyy
          subst hA1
          simp only [Nat.zero_add] at c0 cc1 c2 c3 c4
          have hunf : Unf w3 g := ⟨_, _, hheap⟩
          have f3 := hunf.frozen (i * 5 + 3); have f4 := hunf.frozen (i * 5 + 4)
          have hye := HB.out.each y' (List.mem_of_getElem? hy)
          have hlo := HB.out.lo; have hhi := HB.out.hi
          have hi0 : ¬ (i : Int) < 0 := by omega
          have hin : (i : Int) < (n1 : Int) := by omega
          have hiz : decide ((i : Int) < 0) = false := by simp
          have hiz2 : decide ((0 : Int) ≤ (i : Int)) = true := by simp
          have hii : (0 : Int) ≤ (i : Int) := by omega
          rw [hKi]
          have HY := Lib.hid hy; have HI := Lib.hid hi
          have hmb : 0 ≤ y'.every * y'.rung ∧ y'.every * y'.rung ≤ 6000 := by
            refine ⟨Int.mul_nonneg hye.1 hye.2.2.2.2.1, ?_⟩
            have h1 := Int.mul_le_mul hye.2.1 (show y'.rung ≤ 60 by omega) hye.2.2.2.2.1 (by omega)
            omega
          have hw1 : IntKind.i64.wrap (y'.every * y'.rung) = y'.every * y'.rung := by rw [IntKind.wrap_i64]; omega
          have hw2 : IntKind.i64.wrap (y'.frm + y'.every * y'.rung) = y'.frm + y'.every * y'.rung := by rw [IntKind.wrap_i64]; omega
          have hw3 : IntKind.i64.wrap (y'.rung + 1) = y'.rung + 1 := by rw [IntKind.wrap_i64]; omega
          have hw4 : IntKind.i64.wrap (st.2 + 1) = st.2 + 1 := by rw [IntKind.wrap_i64]; omega
          clear hKi hd9 hd8 hheap hy hi hy' hb' hunf hneg
          by_cases h2 : x.kind = 2
          · have HST := Lib.hid (stepL_drop HI.out HY.out h2)
            have hk1 : (x.kind == 1) = false := by simp; omega
            have hk2 : (x.kind == 2) = true := by simpa using h2
            have hp := HO3.out.put (i := i) (j := 4) (r := encL y') (by rw [List.getElem?_map, HY.out]; rfl) (by omega) (.bool true)
            have HP := Lib.hid hp
            clear h2 hp hye hmb
            go_wp2_with fail
            go_roundw
            case measure => simp [intOf] <;> omega
            case rel =>
              refine ⟨k + 1, some ⟨g, 0, none⟩, n1, c1, stepL st x, by omega, by omega, rfl, by rw [HST.out], by go_num, ?_, HB2, HGO, Onto.put hb1 (by simp only; omega) _⟩
              rw [HST.out]
              show Own _ _ _ _ _ _ _
              have h9 := HP.out
              simpa [List.map_set, encL] using h9
          · by_cases h3 : x.kind = 3 ∧ x.time = y'.frm + y'.every * y'.rung ∧ st.2 < 60
            · have HST := Lib.hid (stepL_ring HI.out HY.out h3)
              have hk1 : (x.kind == 1) = false := by simp; omega
              have hk2 : (x.kind == 2) = false := by simp; omega
              have hk3 : (x.kind == 3) = true := by simp; omega
              have hk4 : (x.time == y'.frm + y'.every * y'.rung) = true := by simpa using h3.2.1
              have hk5 : decide (st.2 < 60) = true := by simpa using h3.2.2
              clear h2 h3
              go_upto_region 16 with fail
              have oe0 := onto_cell e0; have oe3 := onto_cell e3; have occ1 := onto_cell cc1; have oc2 := onto_cell c2; have oc3 := onto_cell c3
              refine wp_region_onto (by kernel_rfl) (by kernel_rfl) ?_
              repeat (go_big_quiet_step (fail))
              refine wpQuiet_nil ?_
              intro w5 hb5
              clear oe0 oe3 occ1 oc2 oc3
              replace f3 := frozB hb5 c3 f3; replace c3 := cellB hb5 c3
              have hp := (HO3.out.below hb5).put (i := i) (j := 3) (r := encL y') (by rw [List.getElem?_map, HY.out]; rfl) (by omega) (.int .i64 (y'.rung + 1))
              have HP := Lib.hid hp
              have hb6 := Onto.to hb1 hb5
              clear hp hb5 hye hmb
              go_wp2_with fail
              go_roundw
              case measure => simp [intOf] <;> omega
              case rel =>
                refine ⟨k + 1, some ⟨g, 0, none⟩, n1, c1, stepL st x, by omega, by omega, rfl, by rw [HST.out], by go_num, ?_, HB2, HGO, Onto.put hb6 (by simp only; omega) _⟩
                rw [HST.out]
                show Own _ _ _ _ _ _ _
                have h9 := HP.out
                simpa [List.map_set, encL] using h9
            · have HST := Lib.hid (stepL_stay HI.out HY.out h2 h3)
              have hk2 : (x.kind == 2) = false := by simpa using h2
              by_cases h4 : x.kind = 3
              · have hk1 : (x.kind == 1) = false := by simp; omega
                have hk3 : (x.kind == 3) = true := by simpa using h4
                by_cases h5 : x.time = y'.frm + y'.every * y'.rung
                · have hk4 : (x.time == y'.frm + y'.every * y'.rung) = true := by simpa using h5
                  have hk5 : decide (st.2 < 60) = false := by simp; exact Decidable.byContradiction fun h => h3 ⟨h4, h5, by omega⟩
                  have hk6 : ¬ st.2 < 60 := by simpa using hk5
                  clear h2 h3 h4 h5
                  go_upto_region 16 with fail
                  have oe0 := onto_cell e0; have oe3 := onto_cell e3; have occ1 := onto_cell cc1; have oc2 := onto_cell c2; have oc3 := onto_cell c3
                  refine wp_region_onto (by kernel_rfl) (by kernel_rfl) ?_
                  repeat (go_big_quiet_step (fail))
                  refine wpQuiet_nil ?_
                  intro w5 hb5
                  clear oe0 oe3 occ1 oc2 oc3
                  have hb6 := Onto.to hb1 hb5
                  have HO6 := Lib.hid (HO3.out.below hb5)
                  clear hb5 hye hmb
                  go_wp2_with fail
                  go_roundw
                  case measure => simp [intOf] <;> omega
                  case rel =>
                    refine ⟨k + 1, some ⟨g, 0, none⟩, n1, c1, stepL st x, by omega, by omega, rfl, by rw [HST.out], by go_num, ?_, HB2, HGO, hb6⟩
                    rw [HST.out]
                    exact HO6
                · have hk4 : (x.time == y'.frm + y'.every * y'.rung) = false := by simpa using h5
                  clear h2 h3 h4 h5
                  go_upto_region 16 with fail
                  have oe0 := onto_cell e0; have oe3 := onto_cell e3; have occ1 := onto_cell cc1; have oc2 := onto_cell c2; have oc3 := onto_cell c3
                  refine wp_region_onto (by kernel_rfl) (by kernel_rfl) ?_
                  repeat (go_big_quiet_step (fail))
                  refine wpQuiet_nil ?_
                  intro w5 hb5
                  clear oe0 oe3 occ1 oc2 oc3
                  have hb6 := Onto.to hb1 hb5
                  have HO6 := Lib.hid (HO3.out.below hb5)
                  clear hb5 hye hmb
                  go_wp2_with fail
                  go_roundw
                  case measure => simp [intOf] <;> omega
                  case rel =>
                    refine ⟨k + 1, some ⟨g, 0, none⟩, n1, c1, stepL st x, by omega, by omega, rfl, by rw [HST.out], by go_num, ?_, HB2, HGO, hb6⟩
                    rw [HST.out]
                    exact HO6
              · have hk3 : (x.kind == 3) = false := by simpa using h4
                by_cases h5 : x.kind = 1
                · have hk1 : (x.kind == 1) = true := by simpa using h5
                  clear h2 h3 h4 h5
                  go_upto_region 16 with fail
                  have oe0 := onto_cell e0; have oe3 := onto_cell e3
                  refine wp_region_onto (by kernel_rfl) (by kernel_rfl) ?_
                  repeat (go_big_quiet_step (fail))
                  refine wpQuiet_nil ?_
                  intro w5 hb5
                  clear oe0 oe3
                  have hb6 := Onto.to hb1 hb5
                  have HO6 := Lib.hid (HO3.out.below hb5)
                  clear hb5 hye hmb
                  go_wp2_with fail
                  go_roundw
                  case measure => simp [intOf] <;> omega
                  case rel =>
                    refine ⟨k + 1, some ⟨g, 0, none⟩, n1, c1, stepL st x, by omega, by omega, rfl, by rw [HST.out], by go_num, ?_, HB2, HGO, hb6⟩
                    rw [HST.out]
                    exact HO6
                · have hk1 : (x.kind == 1) = false := by simpa using h5
                  clear h2 h3 h4 h5
                  go_upto_region 16 with fail
                  have oe0 := onto_cell e0; have oe3 := onto_cell e3
                  refine wp_region_onto (by kernel_rfl) (by kernel_rfl) ?_
                  repeat (go_big_quiet_step (fail))
                  refine wpQuiet_nil ?_
                  intro w5 hb5
                  clear oe0 oe3
                  have hb6 := Onto.to hb1 hb5
                  have HO6 := Lib.hid (HO3.out.below hb5)
                  clear hb5 hye hmb
                  go_wp2_with fail
                  go_roundw
                  case measure => simp [intOf] <;> omega
                  case rel =>
                    refine ⟨k + 1, some ⟨g, 0, none⟩, n1, c1, stepL st x, by omega, by omega, rfl, by rw [HST.out], by go_num, ?_, HB2, HGO, hb6⟩
                    rw [HST.out]
                    exact HO6
    · have hkn : k = n := by omega
      subst hkn
      have hres : livesL l = (st.1, 0) := by
        rw [HS.out, HG.out, List.drop_eq_nil_of_le (by have := HL.out; omega)]
        rfl
      have HRES := Lib.hid hres
      have hown := HO.out
      have h1 := hown.sl; have h2 := hown.fresh (Nat.le_refl _); have h3 := hown.le_cap; have h4 := hown.cap_max
      clear hres hown HO
      go_wp2_with fail
      refine bodyPost_ret (v := .tuple #[.slice A1 n1 c1, .int .i64 0]) (by simp [results, Try.results15, go_sem]) rfl ?_
      rw [HRES.out]
      exact ⟨A1, n1, c1, rfl, h1, hbr, h2, h3, h4⟩
end Go.Proofs.Ytiphoihijalfkaa
