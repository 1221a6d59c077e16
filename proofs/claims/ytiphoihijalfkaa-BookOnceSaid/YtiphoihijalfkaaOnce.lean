/- The law BookOnce. No condition. -/
import Derived.Test.YtiphoihijalfkaaLawB
import Derived.Test.YtiphoihijalfkaaSee
import Derived.Test.YtiphoihijalfkaaReadB
import Derived.Test.YtiphoihijalfkaaRung
import Derived.Test.YtiphoihijalfkaaOpen
namespace Go.Proofs.Ytiphoihijalfkaa
open Go.RowKit Go.ChangeShapes Go.WideShapes Go.ChangeAt

set_option maxHeartbeats 800000 in
set_option maxRecDepth 100000 in
theorem BookOnce_bad (A A' : Option Addr) (n c m d : Nat) (b : Book) (k j v t cl : Int) (w : World) (h : Sl w w.heap.size 3 A n (b.jobs.map encJ)) (h' : Sl w w.heap.size 3 A' m (b.rung.map encR)) (hbad : (applyB b ⟨k, j, v, t, cl⟩).2 ≠ 0) :
    Calls Try.prog 6 #[.agg #[.slice A n c, .slice A' m d], .agg #[.int .i64 k, .int .i64 j, .int .i64 v, .int .i64 t, .int .i64 cl]] w fun e w' => e = .returned (.bool true) ∧ Below w.heap.size w w' := by
  obtain ⟨r, hr⟩ : ∃ r, r = applyB b ⟨k, j, v, t, cl⟩ := ⟨_, rfl⟩
  rw [← hr] at hbad
  have h0' : (r.2 != 0) = true := by simpa using hbad
  have HR := Lib.hid hr
  clear hr hbad
  go_enter Try.func6, Try.ntmps6
  go_wp2_with fail
  refine Calls.mono (Apply_calls A A' n c m d w.heap.size b _ _ _ _ _ _ ((h.alloc (Nat.le_refl _) _).alloc (by simp) _) ((h'.alloc (Nat.le_refl _) _).alloc (by simp) _) (by simp; omega)) ?_
  rw [← HR.out]
  rintro e w1 ⟨A1, n1, c1, A2, n2, c2, rfl, _, _, hb1, _, _, _, _⟩
  have h01 : Below w.heap.size w w1 := (((Below.refl _ _).alloc (Nat.le_refl _) _).alloc (by simp) _).trans (hb1.mono (by simp; omega))
  clear h h' hb1
  go_wp2_with fail
  refine Calls.mono (rung_calls _) ?_
  rintro e w2 ⟨rfl, hb2⟩
  have h02 : Below w.heap.size w w2 := (h01.alloc h01.size _).trans (hb2.mono (by have := h01.size; simp; omega))
  go_wp2_with fail
  refine Calls.mono (rung_calls _) ?_
  rintro e w3 ⟨rfl, hb3⟩
  go_wp2_with fail
  go_ret
  exact ⟨rfl, h02.trans (hb3.mono h02.size)⟩

set_option maxHeartbeats 800000 in
set_option maxRecDepth 100000 in
theorem BookOnce_good (A A' : Option Addr) (n c m d : Nat) (b : Book) (k j v t cl : Int) (w : World) (h : Sl w w.heap.size 3 A n (b.jobs.map encJ)) (h' : Sl w w.heap.size 3 A' m (b.rung.map encR)) (hmd : m ≤ d) (hgb : GoodB b) (hge : checkE ⟨k, j, v, t, cl⟩ = 0) :
    Calls Try.prog 6 #[.agg #[.slice A n c, .slice A' m d], .agg #[.int .i64 k, .int .i64 j, .int .i64 v, .int .i64 t, .int .i64 cl]] w fun e w' => e = .returned (.bool true) ∧ Below w.heap.size w w' := by
  obtain ⟨r, hr⟩ : ∃ r, r = stepB b ⟨k, j, v, t, cl⟩ := ⟨_, rfl⟩
  have hap : applyB b ⟨k, j, v, t, cl⟩ = (r, 0) := by
    unfold applyB
    rw [if_neg (by simp [checkB_iff.2 hgb]), if_neg (by simp [hge]), hr]
  have hgr : GoodB r := by rw [hr]; exact stepB_good hgb hge
  have hap2 : applyB r ⟨k, j, v, t, cl⟩ = (r, 0) := by
    unfold applyB
    rw [if_neg (by simp [checkB_iff.2 hgr]), if_neg (by simp [hge]), hr, stepB_twice hgb hge]
  have HR := Lib.hid hr; have HA := Lib.hid hap; have HA2 := Lib.hid hap2; have HGE := Lib.hid hge
  clear hr hap hap2 hge
  go_enter Try.func6, Try.ntmps6
  go_wp2_with fail
  refine Calls.mono (Apply_calls A A' n c m d w.heap.size b _ _ _ _ _ _ ((h.alloc (Nat.le_refl _) _).alloc (by simp) _) ((h'.alloc (Nat.le_refl _) _).alloc (by simp) _) (by simp; omega)) ?_
  rw [HA.out]
  rintro e w1 ⟨A1, n1, c1, A2, n2, c2, rfl, hs1, hs2, hb1, _, _, _, hcap2⟩
  have h01 : Below w.heap.size w w1 := (((Below.refl _ _).alloc (Nat.le_refl _) _).alloc (by simp) _).trans (hb1.mono (by simp; omega))
  have q0 : w1.cell? ⟨w.heap.size, 0, none⟩ = some (.slice A n c) := cellB hb1 (by simp [go_sem])
  have q1 : w1.cell? ⟨w.heap.size, 1, none⟩ = some (.slice A' m d) := cellB hb1 (by simp [go_sem])
  have e0 : w1.cell? ⟨w.heap.size + 1, 0, none⟩ = some (.int .i64 k) := cellB hb1 (by simp [go_sem])
  have e1 : w1.cell? ⟨w.heap.size + 1, 1, none⟩ = some (.int .i64 j) := cellB hb1 (by simp [go_sem])
  have e2 : w1.cell? ⟨w.heap.size + 1, 2, none⟩ = some (.int .i64 v) := cellB hb1 (by simp [go_sem])
  have e3 : w1.cell? ⟨w.heap.size + 1, 3, none⟩ = some (.int .i64 t) := cellB hb1 (by simp [go_sem])
  have e4 : w1.cell? ⟨w.heap.size + 1, 4, none⟩ = some (.int .i64 cl) := cellB hb1 (by simp [go_sem])
  have hz1 : w.heap.size + 1 < w1.heap.size := by have := hb1.size; simp at this; omega
  clear hb1
  go_wp2_with fail
  refine Calls.mono (rung_calls _) ?_
  rintro e w2 ⟨rfl, hb2⟩
  have hbA : Below w1.heap.size w1 (w1.alloc (Obj.cells #[.slice A1 n1 c1, .slice A2 n2 c2] 38)) := (Below.refl _ _).alloc (Nat.le_refl _) _
  have h12 : Below w1.heap.size w1 w2 := hbA.trans (hb2.mono (by simp))
  have h02 : Below w.heap.size w w2 := h01.trans (h12.mono h01.size)
  have q0' := cellB h12 q0; have q1' := cellB h12 q1; have e0' := cellB h12 e0; have e1' := cellB h12 e1; have e2' := cellB h12 e2; have e3' := cellB h12 e3; have e4' := cellB h12 e4
  have p0 : w2.cell? ⟨w1.heap.size, 0, none⟩ = some (.slice A1 n1 c1) := cellB hb2 (by simp [go_sem])
  have p1 : w2.cell? ⟨w1.heap.size, 1, none⟩ = some (.slice A2 n2 c2) := cellB hb2 (by simp [go_sem])
  have hz2 : w1.heap.size < w2.heap.size := by have := hb2.size; simp at this; omega
  have hs1' := hs1.under (Nat.le_refl _) h12; have hs2' := hs2.under (Nat.le_refl _) h12
  clear q0 q1 e0 e1 e2 e3 e4 hb2 hbA hs1 hs2
  go_wp2_with fail
  refine Calls.mono (Apply_calls A1 A2 n1 c1 n2 c2 w1.heap.size r _ _ _ _ _ _ hs1' hs2' h12.size) ?_
  rw [HA2.out]
  rintro e w3 ⟨A3, n3, c3, A4, n4, c4, rfl, hs3, hs4, hb3, _, _, _, _⟩
  have h13 : Below w1.heap.size w1 w3 := h12.trans (hb3.mono h12.size)
  have h03 : Below w.heap.size w w3 := h01.trans (h13.mono h01.size)
  have q0 := cellB hb3 q0'; have q1 := cellB hb3 q1'; have p0' := cellB hb3 p0; have p1' := cellB hb3 p1
  have hz3 : w1.heap.size < w3.heap.size := by have := hb3.size; omega
  have hs1 := hs1'.below (hb3.mono h12.size); have hs2 := hs2'.below (hb3.mono h12.size)
  clear q0' q1' e0' e1' e2' e3' e4' p0 p1 hs1' hs2' h12 h02 hb3 hz2
  go_wp2_with fail
  have hn2 : r.rung.length = n2 := by have := hs2.len; simpa using this
  have hm : b.rung.length = m := by have := h'.len; simpa using this
  have hn1 : r.jobs.length = n1 := by have := hs1.len; simpa using this
  have hrg : (m : Int) ≤ (n2 : Int) ∧ (n2 : Int) ≤ (m : Int) + 1 ∧ r.rung.take m = b.rung := by
    rcases stepB_rung b ⟨k, j, v, t, cl⟩ with e | ⟨x, e⟩
    · rw [← HR.out] at e
      rw [e] at hn2
      exact ⟨by omega, by omega, by rw [e, ← hm, List.take_length]⟩
    · rw [← HR.out] at e
      rw [e] at hn2
      simp at hn2
      exact ⟨by omega, by omega, by rw [e, ← hm, List.take_left]⟩
  obtain ⟨hr1, hr2, hr3⟩ := hrg
  have hr1' : m ≤ n2 := by omega
  have hmc : m ≤ c2 := by omega
  have hd1 : decide (n2 < m) = false := by simp; omega
  have hd2 : decide ((m : Int) + 1 < (n2 : Int)) = false := by simp; omega
  have hg60 := hgr.nr; have hg6 := hgr.nj
  have hbr := hgb.nr
  have HR3 := Lib.hid hr3; have HN2 := Lib.hid hn2; have HM := Lib.hid hm; have HN1 := Lib.hid hn1
  have hn60 : n2 ≤ 60 := by omega
  have hn16 : n1 ≤ 6 := by omega
  have hm60 : m ≤ 60 := by omega
  have hst := hs2.take hr1'
  rw [← List.map_take, hr3] at hst
  clear hr3 hn2 hm hn1 hg60 hg6 hbr
  have hb4 : Below w3.heap.size w3 (w3.alloc (Obj.cells #[.slice A3 n3 c3, .slice A4 n4 c4] 38)) := (Below.refl _ _).alloc (Nat.le_refl _) _
  have c0 := cellB hb4 q0; have c1' := cellB hb4 q1; have c2' := cellB hb4 p0'; have c3' := cellB hb4 p1'
  have c4' : (w3.alloc (Obj.cells #[.slice A3 n3 c3, .slice A4 n4 c4] 38)).cell? ⟨w3.heap.size, 0, none⟩ = some (.slice A3 n3 c3) := by simp [go_sem]
  have c5' : (w3.alloc (Obj.cells #[.slice A3 n3 c3, .slice A4 n4 c4] 38)).cell? ⟨w3.heap.size, 1, none⟩ = some (.slice A4 n4 c4) := by simp [go_sem]
  have h04 := h03.trans (hb4.mono h03.size)
  have t1 := (hs1.more (Nat.le_of_lt hz3)).below hb4; have t2 := (hs2.more (Nat.le_of_lt hz3)).below hb4; have t3 := hs3.below hb4; have t4 := hs4.below hb4
  have tt := (hst.more (Nat.le_of_lt hz3)).below hb4
  have u2 := h'.below (h04.mono (Nat.le_refl _)); have u1 := h.below (h04.mono (Nat.le_refl _))
  have hz4 : w3.heap.size < (w3.alloc (Obj.cells #[.slice A3 n3 c3, .slice A4 n4 c4] 38)).heap.size := by simp
  generalize w3.alloc (Obj.cells #[.slice A3 n3 c3, .slice A4 n4 c4] 38) = w4 at c0 c1' c2' c3' c4' c5' h04 t1 t2 t3 t4 tt u2 u1 hz4 ⊢
  have hnk3 := t3.len; have hnk4 := t4.len
  simp only [List.length_map] at hnk3 hnk4
  have hk3 : n3 ≤ 6 := by have := hgr.nj; omega
  have hk4 : n4 ≤ 60 := by have := hgr.nr; omega
  have hwz : w.heap.size < w4.heap.size := by have := h03.size; omega
  have hw1z : w1.heap.size < w4.heap.size := by omega
  clear q0 q1 p0' p1' hb4 hs1 hs2 hs3 hs4 hst hnk3 hnk4 h h'
  have hch := checkB_iff.2 hgr
  have HCH := Lib.hid hch
  clear hch
  have k0 := onto_cell c0; have k1 := onto_cell c1'; have k2 := onto_cell c2'; have k3 := onto_cell c3'; have k4 := onto_cell c4'; have k5 := onto_cell c5'
  have T1 : S w4 3 A1 n1 (r.jobs.map encJ) := t1.more (by omega)
  have T2 : S w4 3 A2 n2 (r.rung.map encR) := t2.more (by omega)
  have T3 : S w4 3 A3 n3 (r.jobs.map encJ) := t3.more (by omega)
  have T4 : S w4 3 A4 n4 (r.rung.map encR) := t4.more (by omega)
  have TT : S w4 3 A2 m (b.rung.map encR) := tt.more (by omega)
  have U2 : S w4 3 A' m (b.rung.map encR) := u2.more (by omega)
  have U1 : S w4 3 A n (b.jobs.map encJ) := u1.more (by omega)
  refine wp_region_onto (by kernel_rfl) (by kernel_rfl) ?_
  repeat (go_big_quiet_step ((first
    | (go_at_call 26; exact calls_onto' (u := .bool true) (BSame_calls A1 A2 A3 A4 n1 c1 n2 c2 n3 c3 n4 c4 _ r.jobs r.jobs r.rung r.rung _ (T1.ontoX _) (T2.ontoX _) (T3.ontoX _) (T4.ontoX _) (Nat.le_refl _) (by omega) (by omega)) (by simp))
    | (go_at_call 27; exact calls_onto' (u := .int .i64 0) (BCheck_calls A1 A2 n1 c1 n2 c2 _ r.jobs r.rung _ (T1.ontoX _) (T2.ontoX _) (Nat.le_refl _)) (by rw [HCH.out]))
    | (go_at_call 28; exact calls_ontoQ' (u := .bool true) (EqualR_calls A2 A' m m c2 d _ b.rung b.rung _ (TT.ontoX _) (U2.ontoX _) (by omega)) (by simp)))))
  refine wpQuiet_nil ?_
  intro w5 hb5
  have B0 := cellB hb5 c0; have B1 := cellB hb5 c1'; have C0 := cellB hb5 c2'; have C1 := cellB hb5 c3'
  have SJ : S w5 3 A1 n1 (r.jobs.map encJ) := T1.onto hb5
  have SB : S w5 3 A n (b.jobs.map encJ) := U1.onto hb5
  have h05 : Onto w w5 := Onto.to h04 hb5
  have hz5 : w1.heap.size < w5.heap.size := World.block_lt_of_cell? _ _ C0
  have hz5' : w.heap.size < w5.heap.size := World.block_lt_of_cell? _ _ B0
  have hnb : n ≤ 6 := by have := hgb.nj; have := SB.len; simp at this; omega
  clear k0 k1 k2 k3 k4 k5 T1 T2 T3 T4 TT U2 U1 t1 t2 t3 t4 tt u2 c0 c1' c2' c3' c4' c5' hb5 h04 h03 h01 h13
  go_wp2_with fail
  go_loopw [77] (fun s wr => ∃ k : Nat, k ≤ n1 ∧ s = .int .i64 k ∧ Onto w5 wr) (fun s _ => n1 - (intOf s).toNat)
  case atStart => exact ⟨0, Nat.zero_le _, rfl, Below.refl _ _⟩
  case round =>
    obtain ⟨i, hi, rfl, hbr⟩ := hrel
    by_cases hlt : i < n1
    · obtain ⟨bb, off, x, rfl, hb, hx, e0, e1, e2⟩ := (SJ.onto hbr).atJ hlt
      have b0 := cellB hbr B0; have b1 := cellB hbr B1; have g0 := cellB hbr C0; have g1 := cellB hbr C1
      have z0 := World.block_lt_of_cell? _ _ b0; have z1 := World.block_lt_of_cell? _ _ g0; have z2 : bb < wr.heap.size := hb
      have HX := Lib.hid hx
      clear hx
      go_wp2_with fail
      refine Calls.mono (Find_calls A A' n c m d _ _ b.jobs b.rung _ ((SB.onto hbr).new _) (Nat.le_refl _) (by omega)) ?_
      rintro e w6 ⟨rfl, hb6⟩
      obtain ⟨f, hf⟩ : ∃ f, f = findB ⟨b.jobs, b.rung⟩ x.id := ⟨_, rfl⟩
      rw [← hf]
      have HF := Lib.hid hf
      have hbA : Onto wr w6 := ((Below.refl _ _).alloc (Nat.le_refl _) _).trans (hb6.mono (by simp))
      have b0' := cellB hbA b0; have b1' := cellB hbA b1; have g0' := cellB hbA g0; have g1' := cellB hbA g1
      have j0 : w6.cell? ⟨wr.heap.size, 0, none⟩ = some (.int .i64 x.id) := cellB hb6 (by simp [go_sem])
      have j1 : w6.cell? ⟨wr.heap.size, 1, none⟩ = some (.int .i64 x.every) := cellB hb6 (by simp [go_sem])
      have j2 : w6.cell? ⟨wr.heap.size, 2, none⟩ = some (.int .i64 x.next) := cellB hb6 (by simp [go_sem])
      clear hf hb6 e0 e1 e2
      by_cases hneg : f < 0
      · have hd : decide (0 ≤ f) = false := by simp; omega
        go_wp2_with fail
        go_quiet (fail)
        go_wp2_with fail
        go_roundw
        case measure => simp [intOf]; omega
        case rel => exact ⟨i + 1, by omega, by go_num, by first | exact Onto.to hbr (Onto.draws hbA _) | exact Onto.to hbr hbA⟩
      · obtain ⟨kf, y, hkf, hy, hpy⟩ := idxI_found (by rw [← findB_def, ← HF.out]; omega)
        have hkf' : f = (kf : Int) := HF.out.trans hkf
        subst hkf'
        have hlaw := stepB_jobs hgb HGE.out (j := x) (by rw [← HR.out]; exact List.mem_of_getElem? HX.out) (k := kf) (x := y) HF.out.symm hy
        rw [← HR.out] at hlaw
        have hkn : kf < n := by have h1 : kf < b.jobs.length := (List.getElem?_eq_some_iff.1 hy).1; have h2 := SB.len; simp only [List.length_map] at h2; omega
        obtain ⟨b2, off2, y', hA2, hbb2, hy', d0, d1, d2⟩ := ((SB.onto hbr).onto hbA).atJ hkn
        obtain rfl : y = y' := by rw [hy] at hy'; injection hy'
        subst hA2
        have hyb := hgb.ok _ (List.mem_of_getElem? hy)
        unfold badJ at hyb
        have hlr : r.rung.length = n2 := HN2.out
        have hlb : b.rung.length = m := HM.out
        rw [hlr, hlb] at hlaw
        have hkn' : (kf : Int) < (n : Int) := by omega
        have hk0 : (0 : Int) ≤ (kf : Int) := by omega
        have hv : (x.every != y.every) = false := by simp [hlaw.1]
        have hq : y.next + x.every ≤ 1000000 := by omega
        have hq0 : 0 ≤ y.next + x.every := by omega
        have z60 := World.block_lt_of_cell? _ _ b0'; have z61 := World.block_lt_of_cell? _ _ g0'; have z62 := World.block_lt_of_cell? _ _ j0
        rcases hlaw.2 with hn' | ⟨hn', hlen⟩
        · have hv2 : (x.next != y.next) = false := by simp [hn']
          clear hlaw hy hy' hkf hpy hn' hlr hlb hyb
          go_wp2_with fail
          go_quiet (fail)
          go_wp2_with fail
          go_roundw
          case measure => simp [intOf]; omega
          case rel => exact ⟨i + 1, by omega, by go_num, Onto.to hbr (Onto.draws hbA _)⟩
        · have hv2 : (x.next != y.next) = true := by simp; omega
          have hv3 : (x.next != y.next + x.every) = false := by simp; omega
          have hw1 : IntKind.i64.wrap (y.next + x.every) = y.next + x.every := by rw [IntKind.wrap_i64]; omega
          have hv4 : ((n2 : Int) == (m : Int)) = false := by simp; omega
          clear hlaw hy hy' hkf hpy hn' hlr hlb hyb hlen
          go_wp2_with fail
          go_quiet (fail)
          go_wp2_with fail
          go_roundw
          case measure => simp [intOf]; omega
          case rel => exact ⟨i + 1, by omega, by go_num, Onto.to hbr (Onto.draws hbA _)⟩
    · obtain rfl : i = n1 := by omega
      go_wp2_with fail
      go_ret
      exact ⟨rfl, Onto.to h05 hbr⟩

theorem BookOnce_walk (A A' : Option Addr) (n c m d : Nat) (b : Book) (x : Entry) (w : World) (h : Sl w w.heap.size 3 A n (b.jobs.map encJ)) (h' : Sl w w.heap.size 3 A' m (b.rung.map encR)) (_ : n ≤ c) (hmd : m ≤ d) :
    Calls Try.prog 6 #[.agg #[.slice A n c, .slice A' m d], .agg #[.int .i64 x.kind, .int .i64 x.job, .int .i64 x.every, .int .i64 x.time, .int .i64 x.client]] w fun e w' => e = .returned (.bool true) ∧ Below w.heap.size w w' := by
  by_cases hb : checkB b = 0
  · by_cases he : checkE x = 0
    · exact BookOnce_good A A' n c m d b _ _ _ _ _ w h h' hmd (checkB_iff.1 hb) he
    · exact BookOnce_bad A A' n c m d b _ _ _ _ _ w h h' (by show (applyB b x).2 ≠ 0; unfold applyB; rw [if_neg (by simp [hb]), if_pos he]; exact he)
  · exact BookOnce_bad A A' n c m d b _ _ _ _ _ w h h' (by show (applyB b x).2 ≠ 0; unfold applyB; rw [if_pos hb]; exact hb)
set_option maxRecDepth 100000 in
theorem bookOnce_lifted (os : Os) (started : os.Started) (H : Type) (enc : TypeId × Value → H) :
    ReturnsInHanded {} Try.checked os 6 .any (Rows.bookOnceSpec.pre6 enc Try.prog Try.f6 Rows.bookOnceRow.domain false) (Rows.bookOnceSpec.post enc Try.prog Try.f6 false true false false) := by
  refine returnsInHanded_of_change (C := Try.checked) own started (by kernel_rfl) Try.func6
    (ChangeSpec.witness6 (enc := enc) (C := Try.checked) false ⟨#[], #[.agg #[.slice none 0 0, .slice none 0 0], .agg #[.int .i64 0, .int .i64 0, .int .i64 0, .int .i64 0, .int .i64 0]], []⟩ 8 (by kernel_rfl) (by kernel_rfl) (by kernel_rfl) (by kernel_rfl)) ?_
  intro W base args ds gs before hval0 hW hcnd _
  have hval : ∀ (j : Nat) t v, Try.f6.params[j]? = some t → args[j]? = some v → Value.okWide Try.prog W .any base t v := hval0
  have hW' := hW
  obtain ⟨p, q, hA0, hV, rfl, hfz, hnd⟩ := hW
  have hA : DataW.TrodAll enc Try.prog W 0 (fun _ => true) true Try.f6.params.toList args.toList ds p := hA0
  rw [Try.params6] at hA hval
  obtain ⟨v0, vs0, d0, ds0, p0, q0, hargs, rfl, rfl, h0, r0⟩ := trodAll_cons hA
  obtain ⟨v1, vs1, d1, ds1, p1, q1, rfl, rfl, rfl, h1, r1⟩ := trodAll_cons r0
  obtain ⟨rfl, rfl, rfl⟩ := trodAll_nil r1
  obtain rfl : args = #[v0, v1] := by cases args; simp_all
  obtain ⟨rfl, rfl⟩ := trodVars_none hV
  have hall := hA
  obtain ⟨cs0, rfl, _⟩ := okWide_struct Try.underlying38 (hval 0 38 v0 rfl rfl)
  obtain ⟨A0, n0, c0, B0, m0, k0, b0, e0, hnc0, hcm0, hmk0, hkm0, hw0, hv0, s0, t0⟩ := reads_book (reads_of h0)
  obtain rfl : cs0 = #[.slice A0 n0 c0, .slice B0 m0 k0] := by cases cs0; simpa [Value.cells] using e0
  obtain ⟨cs1, rfl, _⟩ := okWide_struct Try.underlying49 (hval 1 49 v1 rfl rfl)
  obtain ⟨x1, e1, hw1⟩ := reads_entry (reads_of h1)
  obtain rfl : cs1 = #[.int .i64 x1.kind, .int .i64 x1.job, .int .i64 x1.every, .int .i64 x1.time, .int .i64 x1.client] := by cases cs1; simpa [Value.cells, encE] using e1
  clear hA0 hval0
  refine (BookOnce_walk A0 B0 n0 c0 m0 k0 b0 x1 W s0 t0 hnc0 hmk0).mono fun e W' ⟨he, bel⟩ => ?_
  subst he
  exact ⟨_, rfl, _, _, _, [], _, [], hW', trodAll_mk1 (shut_bool Try.underlying4 _), Below_trodAll (ts := [38, 49]) laidOut bel (by intro t ht; simp only [List.mem_cons, List.not_mem_nil, or_false] at ht; rcases ht with rfl | rfl <;> exact ⟨by kernel_rfl, of_decide_eq_true (by kernel_rfl)⟩) hall, rfl, bel.frame _, fun h => by cases h⟩

theorem bookOnce_holds : Rows.BookOnceSaid :=
  OpenClaim.holds_of_wide 6 Try.f6 rfl rfl rfl rfl rfl rfl rfl ⟨rfl, rfl, rfl, rfl, rfl⟩ rfl rfl rfl rfl rfl (by kernel_rfl) Try.func6 (by kernel_rfl)
    (of_decide_eq_true (by kernel_rfl)) (by unfold Func.isWrapper; first | (rw [if_pos (by decide +kernel)]; kernel_rfl) | (rw [if_neg (by decide +kernel)]; exact ⟨rfl, rfl⟩))
    (fun os started H enc _ => bookOnce_lifted os started H enc)

end Go.Proofs.Ytiphoihijalfkaa
