/- The law DueRings. No condition. -/
import Derived.Test.YtiphoihijalfkaaCounted
import Derived.Test.YtiphoihijalfkaaLawR
import Derived.Test.YtiphoihijalfkaaReadB
import Derived.Test.YtiphoihijalfkaaFrame
namespace Go.Proofs.Ytiphoihijalfkaa
set_option linter.unusedSimpArgs false
set_option linter.unusedVariables false
open Go.RowKit Go.ChangeShapes Go.WideShapes Go.ChangeAt

theorem checkD_of {b : Book} {t : Int} (hg : GoodB b) (h0 : 0 ≤ t) (h1 : t ≤ 100000) : checkD b t = 0 := by
  unfold checkD
  rw [if_neg (by simp [checkB_iff.2 hg]), if_neg (by omega)]
/-- Where the ringing stands behind k rings. -/
structure RS (b : Book) (t : Int) (N m k : Nat) (last : Int) : Prop where
  good : GoodB b
  cnt : countL b.jobs t = (N : Int) - (k : Int)
  len : b.rung.length = m + k
  low : b.jobs ≠ [] → last ≤ whenL (-1) b.jobs

set_option maxHeartbeats 4000000 in
set_option maxRecDepth 100000 in
theorem Rings_bad (A A' : Option Addr) (n c m d : Nat) (b : Book) (t : Int) (w : World) (h : S w 3 A n (b.jobs.map encJ)) (h' : S w 3 A' m (b.rung.map encR)) (hbad : checkD b t ≠ 0) :
    Calls Try.prog 12 #[.agg #[.slice A n c, .slice A' m d], .int .i64 t] w fun e w' => e = .returned (.bool true) ∧ Below w.heap.size w w' := by
  obtain ⟨r, hr⟩ : ∃ r, r = checkD b t := ⟨_, rfl⟩
  rw [← hr] at hbad
  have hd : (r != 0) = true := by simpa using hbad
  have HR := Lib.hid hr; have HB := Lib.hid hbad
  clear hr hbad
  go_enter Try.func12, Try.ntmps12
  go_wp2_with fail
  refine Calls.mono (Count_calls A A' n c m d b t _ (h.new _) (h'.new _)) ?_
  rw [← HR.out, if_neg HB.out]
  rintro e w1 ⟨rfl, hb1⟩
  have h01 : Onto w w1 := ((Below.refl _ _).alloc (Nat.le_refl _) _).trans (hb1.mono (by simp))
  clear hb1 h h'
  go_wp2_with fail
  refine Calls.mono (counted_calls _) ?_
  rintro e w2 ⟨rfl, hb2⟩
  have h02 := Onto.to h01 hb2
  clear hb2 h01
  go_wp2_with fail
  refine Calls.mono (counted_calls _) ?_
  rintro e w3 ⟨rfl, hb3⟩
  have h03 := Onto.to h02 hb3
  clear hb3 h02
  go_wp2_with fail
  go_ret
  exact ⟨rfl, h03⟩

set_option maxHeartbeats 8000000 in
set_option maxRecDepth 100000 in
theorem Rings_good (A A' : Option Addr) (n c m d : Nat) (b : Book) (t : Int) (w : World) (h : S w 3 A n (b.jobs.map encJ)) (h' : S w 3 A' m (b.rung.map encR)) (hgood : checkD b t = 0) :
    Calls Try.prog 12 #[.agg #[.slice A n c, .slice A' m d], .int .i64 t] w fun e w' => e = .returned (.bool true) ∧ Below w.heap.size w w' := by
  obtain ⟨hg, ht0, ht1⟩ := checkD_good hgood
  obtain ⟨hN0, hN1⟩ := countL_bd hg.ok ht1
  have hlen : b.jobs.length ≤ 6 := hg.nj
  have hm : b.rung.length = m := by have := h'.len; simpa using this
  have hm60 : m ≤ 60 := by rw [← hm]; exact hg.nr
  obtain ⟨N, hN⟩ : ∃ N : Nat, countL b.jobs t = N := ⟨(countL b.jobs t).toNat, by omega⟩
  have HGD := Lib.hid hgood; have HN := Lib.hid hN; have HG := Lib.hid hg; have HM := Lib.hid hm
  have hNb : N ≤ 1000000 := by omega
  clear hgood hN hg hN0 hN1 hlen hm
  go_enter Try.func12, Try.ntmps12
  go_wp2_with fail
  refine Calls.mono (Count_calls A A' n c m d b t _ (h.new _) (h'.new _)) ?_
  rw [HGD.out, if_pos rfl, HN.out]
  rintro e w1 ⟨rfl, hb1⟩
  have q0 : w1.cell? ⟨w.heap.size, 0, none⟩ = some (.slice A n c) := cellB hb1 (by simp [go_sem])
  have q1 : w1.cell? ⟨w.heap.size, 1, none⟩ = some (.slice A' m d) := cellB hb1 (by simp [go_sem])
  have f0 : w1.frozen? ⟨w.heap.size, 0, none⟩ = false := frozB hb1 (v := .slice A n c) (by simp [go_sem]) (by simp [go_sem])
  have f1 : w1.frozen? ⟨w.heap.size, 1, none⟩ = false := frozB hb1 (v := .slice A' m d) (by simp [go_sem]) (by simp [go_sem])
  have h01 : Onto w w1 := ((Below.refl _ _).alloc (Nat.le_refl _) _).trans (hb1.mono (by simp))
  have g1 := h.onto h01; have g1' := h'.onto h01
  clear hb1 h h'
  go_wp2_with fail
  refine Calls.mono (counted_calls _) ?_
  rintro e w2 ⟨rfl, hb2⟩
  have q0b := cellB hb2 q0; have q1b := cellB hb2 q1
  have f0b := frozB hb2 q0 f0; have f1b := frozB hb2 q1 f1
  have h02 := Onto.to h01 hb2
  have g2 := g1.onto hb2; have g2' := g1'.onto hb2
  have hz2 : w.heap.size < w2.heap.size := World.block_lt_of_cell? _ _ q0b
  clear hb2 h01 q0 q1 f0 f1 g1 g1'
  by_cases hbig : 60 - m < N
  · have hd : decide (60 - (m : Int) < (N : Int)) = true := by simp; omega
    have hd' : (60 : Int) - (m : Int) < (N : Int) := by omega
    clear hbig
    go_wp2_with fail
    refine Calls.mono (counted_calls _) ?_
    rintro e w3 ⟨rfl, hb3⟩
    have h03 := Onto.to h02 hb3
    clear hb3 h02
    go_wp2_with fail
    go_ret
    exact ⟨rfl, by first | exact h03 | exact Onto.draws h03 _⟩
  · have hd : decide (60 - (m : Int) < (N : Int)) = false := by simp; omega
    have hd' : ¬ (60 : Int) - (m : Int) < (N : Int) := by omega
    have hw1 : IntKind.i64.wrap (60 - (m : Int)) = 60 - (m : Int) := by rw [IntKind.wrap_i64]; omega
    have hNm : N + m ≤ 60 := by omega
    clear hbig
    have hw2 : IntKind.i64.wrap ((N : Int) + 1) = (N : Int) + 1 := by rw [IntKind.wrap_i64]; omega
    have hW2 := Lib.hid hw2
    go_wp2_with fail
    clear hw1 hd hd'
    go_loopw [8, 42] (fun s8 s wr => ∃ (k : Nat) (b' : Book) (A A' : Option Addr) (n c m' d : Nat) (last : Int), k ≤ N ∧ s = .int .i64 k ∧ s8 = .int .i64 last ∧ wr.cell? ⟨w.heap.size, 0, none⟩ = some (.slice A n c) ∧ wr.cell? ⟨w.heap.size, 1, none⟩ = some (.slice A' m' d) ∧
      wr.frozen? ⟨w.heap.size, 0, none⟩ = false ∧ wr.frozen? ⟨w.heap.size, 1, none⟩ = false ∧ S wr 3 A n (b'.jobs.map encJ) ∧ S wr 3 A' m' (b'.rung.map encR) ∧ Onto w wr ∧ Hid (RS b' t N m k last)) (fun _ s _ => N + 1 - (intOf s).toNat)
    case atStart =>
      refine ⟨0, b, A, A', n, c, m, d, -1, by omega, rfl, rfl, q0b, q1b, f0b, f1b, g2, g2', h02, HG.out, by rw [HN.out]; simp, by rw [HM.out]; rfl, fun hne => ?_⟩
      have := (whenL_min hne (fun x hx => by have := HG.out.ok x hx; unfold badJ at this; omega)).1
      omega
    case round =>
      obtain ⟨k, b', A, A', n, c, m', d, last, hk, rfl, rfl, q0, q1, f0, f1, g, g', hbr, HB⟩ := hrel
      have hkN : (k : Int) < (N : Int) + 1 := by omega
      have hz := World.block_lt_of_cell? _ _ q0
      simp only at hz
      have hchk := Lib.hid (checkD_of HB.out.good ht0 ht1)
      have hchb := Lib.hid (checkB_iff.2 HB.out.good)
      obtain ⟨wh, hwh⟩ : ∃ wh, wh = whenL (-1) b'.jobs := ⟨_, rfl⟩
      obtain ⟨dl, hdl⟩ : ∃ dl, dl = dueL b'.jobs t := ⟨_, rfl⟩
      have HWH := Lib.hid hwh; have HDL := Lib.hid hdl
      have hw3 : IntKind.i64.wrap ((N : Int) - (k : Int)) = (N : Int) - (k : Int) := by rw [IntKind.wrap_i64]; omega
      clear hwh hdl q0b q1b f0b f1b g2 g2' h02 hz2
      go_wp2_with fail
      refine Calls.mono (Due_calls A A' n c m' d b' t _ g g') ?_
      rw [hchk.out, if_pos rfl, ← HDL.out]
      rintro e w3 ⟨A1, n1, c1, rfl, hs1, hb1, _, hnc1, hcm1⟩
      have q0' := cellB hb1 q0; have q1' := cellB hb1 q1; have f0' := frozB hb1 q0 f0; have f1' := frozB hb1 q1 f1
      have g1 := g.onto hb1; have g1' := g'.onto hb1; have h03 := Onto.to hbr hb1
      clear q0 q1 f0 f1 g g' hb1 hbr hz
      go_wp2_with fail
      refine Calls.mono (When_calls A A' n c m' d b' _ g1 g1') ?_
      rw [hchb.out, if_pos rfl, ← HWH.out]
      rintro e w4 ⟨rfl, hb2⟩
      have q0 := cellB hb2 q0'; have q1 := cellB hb2 q1'; have f0 := frozB hb2 q0' f0'; have f1 := frozB hb2 q1' f1'
      have g := g1.onto hb2; have g' := g1'.onto hb2; have h04 := Onto.to h03 hb2; have hs2 := hs1.onto hb2
      clear q0' q1' f0' f1' g1 g1' hb2 h03 hs1
      go_wp2_with fail
      refine Calls.mono (Count_calls A A' n c m' d b' t _ g g') ?_
      rw [hchk.out, if_pos rfl, HB.out.cnt]
      rintro e w5 ⟨rfl, hb3⟩
      have q0' := cellB hb3 q0; have q1' := cellB hb3 q1; have f0' := frozB hb3 q0 f0; have f1' := frozB hb3 q1 f1
      have g1 := g.onto hb3; have g1' := g'.onto hb3; have h05 := Onto.to h04 hb3; have hs1 := hs2.onto hb3
      have hz5 := World.block_lt_of_cell? _ _ q0'
      simp only at hz5
      clear q0 q1 f0 f1 g g' hb3 h04 hs2
      have hnl : dl.length = n1 := by have := hs1.len; simpa using this
      have hdn := due_none HB.out.good.ok ht1
      rw [← HDL.out, HB.out.cnt] at hdn
      have hdm : ((N : Int) - (k : Int) != (N : Int) - (k : Int)) = false := by simp
      rcases dl with _ | ⟨x, rest⟩
      · have hkN' : k = N := by have := hdn.1 rfl; omega
        subst hkN'
        have hn0 : 0 = n1 := by simpa using hnl
        subst hn0
        have hml : m' = m + k := by rw [← HB.out.len]; have := g1'.len; simpa using this.symm
        subst hml
        have hw4 : IntKind.i64.wrap ((m : Int) + (k : Int)) = (m : Int) + (k : Int) := by rw [IntKind.wrap_i64]; omega
        clear hnl hdn
        go_wp2_with fail
        go_ret
        exact ⟨ret_bool (by simp), h05⟩
      · have hkN' : k ≠ N := by
          intro h
          have := hdn.2 (by omega)
          cases this
        have hkn : ((k : Int) == (N : Int)) = false := by simp; omega
        have hn1 : 1 ≤ n1 := by rw [← hnl]; simp
        have hnz : ((n1 : Int) == 0) = false := by simp; omega
        have hkN2 : k < N := by omega
        have hrg : b'.rung.length < 60 := by rw [HB.out.len]; omega
        obtain ⟨l1, l2, l3, l4, l5, l6, l7⟩ := ring_front HB.out.good ht0 ht1 HDL.out.symm hrg
        rw [← HWH.out] at l1
        have hlow := HB.out.low (by intro h; have := HDL.out; rw [h] at this; cases this)
        rw [← HWH.out] at hlow
        subst l1
        obtain ⟨bd, offd, x', rfl, hbd, hx', d0, d1, d2⟩ := hs1.atJ (i := 0) (by omega)
        simp at hx'
        subst hx'
        simp only [Nat.zero_mul, Nat.add_zero] at d0 d1 d2
        have hd1 : (x.next != x.next) = false := by simp
        have hd2 : decide (t < x.next) = false := by simp; omega
        have hd3 : decide (x.next < last) = false := by simp; omega
        have hd4 : ¬ t < x.next := by omega
        have hd5 : ¬ x.next < last := by omega
        have hn1' : (0 : Int) < (n1 : Int) := by omega
        have hn1n : 0 < n1 := by omega
        have HL4 := Lib.hid l4; have HL5 := Lib.hid l5; have HL6 := Lib.hid l6; have HL7 := Lib.hid l7
        clear hnl hdn l4 l5 l6 l7 hlow hkN'
        go_upto_region 18 with fail
        have hap : applyB b' ⟨3, x.id, 0, x.next, 0⟩ = (stepB b' ⟨3, x.id, 0, x.next, 0⟩, 0) := by
          unfold applyB
          rw [if_neg (by simp [hchb.out]), if_neg (by simp [HL4.out])]
        have HAP := Lib.hid hap
        clear hap
        go_region_law (first
          | (go_simp; go_at_call 24; refine Calls.mono (Apply_calls A A' n c m' d _ b' 3 x.id 0 x.next 0 _ g1.draw g1'.draw (Nat.le_refl _)) ?_; rw [HAP.out]; rintro e w6 ⟨A2, n2, c2, A3, n3, c3, rfl, hs6, hs6', hb6, hf6, hf6', hnc6, hnc6'⟩; have q06 := cellB hb6 q0'; have q16 := cellB hb6 q1'; have f06 := frozB hb6 q0' f0'; have f16 := frozB hb6 q1' f1'))
        all_goals
          have h06 := Onto.to (Onto.draw h05) hb6
          have q0n : ((w6.setCell ⟨w.heap.size, 0, none⟩ (.slice A2 n2 c2)).setCell ⟨w.heap.size, 1, none⟩ (.slice A3 n3 c3)).cell? ⟨w.heap.size, 0, none⟩ = some (.slice A2 n2 c2) := by simp [go_sem, q06, q16]
          have q1n : ((w6.setCell ⟨w.heap.size, 0, none⟩ (.slice A2 n2 c2)).setCell ⟨w.heap.size, 1, none⟩ (.slice A3 n3 c3)).cell? ⟨w.heap.size, 1, none⟩ = some (.slice A3 n3 c3) := by simp [go_sem, q06, q16]
          have f0n : ((w6.setCell ⟨w.heap.size, 0, none⟩ (.slice A2 n2 c2)).setCell ⟨w.heap.size, 1, none⟩ (.slice A3 n3 c3)).frozen? ⟨w.heap.size, 0, none⟩ = false := by simp [f06]
          have f1n : ((w6.setCell ⟨w.heap.size, 0, none⟩ (.slice A2 n2 c2)).setCell ⟨w.heap.size, 1, none⟩ (.slice A3 n3 c3)).frozen? ⟨w.heap.size, 1, none⟩ = false := by simp [f16]
          have sn := S.off (S.off hs6 (p := ⟨w.heap.size, 0, none⟩) (hf6.offN hz5) (.slice A2 n2 c2)) (p := ⟨w.heap.size, 1, none⟩) (hf6.offN hz5) (.slice A3 n3 c3)
          have sn' := S.off (S.off hs6' (p := ⟨w.heap.size, 0, none⟩) (hf6'.offN hz5) (.slice A2 n2 c2)) (p := ⟨w.heap.size, 1, none⟩) (hf6'.offN hz5) (.slice A3 n3 c3)
          have h07 : Onto w ((w6.setCell ⟨w.heap.size, 0, none⟩ (.slice A2 n2 c2)).setCell ⟨w.heap.size, 1, none⟩ (.slice A3 n3 c3)) := (h06.put (by simp) _).put (by simp) _
          have hz7 : w.heap.size < ((w6.setCell ⟨w.heap.size, 0, none⟩ (.slice A2 n2 c2)).setCell ⟨w.heap.size, 1, none⟩ (.slice A3 n3 c3)).heap.size := World.block_lt_of_cell? _ _ q0n
          clear q06 q16 f06 f16 hs6 hs6' hb6 hf6 hf6' h06 h05 q0' q1' f0' f1' g1 g1' hs1 hbd d0 d1 d2 hz5
          generalize ((w6.setCell ⟨w.heap.size, 0, none⟩ (.slice A2 n2 c2)).setCell ⟨w.heap.size, 1, none⟩ (.slice A3 n3 c3)) = w7 at q0n q1n f0n f1n sn sn' h07 hz7 ⊢
          go_wp2_with fail
          go_roundw
          case measure => simp [intOf] <;> omega
          case rel =>
            refine ⟨k + 1, stepB b' ⟨3, x.id, 0, x.next, 0⟩, A2, A3, n2, c2, n3, c3, x.next, by omega, by go_num, rfl, q0n, q1n, f0n, f1n, sn, sn', h07, stepB_good HB.out.good HL4.out, ?_, ?_, fun _ => HL7.out⟩
            · rw [HL6.out, HB.out.cnt]; omega
            · rw [HL5.out, HB.out.len]; omega

theorem DueRings_walk (A A' : Option Addr) (n c m d : Nat) (b : Book) (t : Int) (w : World) (h : S w 3 A n (b.jobs.map encJ)) (h' : S w 3 A' m (b.rung.map encR)) (_ : n ≤ c) (_ : m ≤ d) :
    Calls Try.prog 12 #[.agg #[.slice A n c, .slice A' m d], .int .i64 t] w fun e w' => e = .returned (.bool true) ∧ Below w.heap.size w w' := by
  by_cases hb : checkD b t = 0
  · exact Rings_good A A' n c m d b t w h h' hb
  · exact Rings_bad A A' n c m d b t w h h' hb
end Go.Proofs.Ytiphoihijalfkaa
