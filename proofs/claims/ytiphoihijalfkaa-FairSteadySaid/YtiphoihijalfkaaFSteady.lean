/- The law FairSteady's walk. -/
import Derived.Test.YtiphoihijalfkaaLawN
import Derived.Test.YtiphoihijalfkaaLived
import Derived.Test.YtiphoihijalfkaaRLives
import Derived.Test.YtiphoihijalfkaaTail
import Derived.Test.YtiphoihijalfkaaSee
namespace Go.Proofs.Ytiphoihijalfkaa
set_option linter.unusedSimpArgs false
set_option linter.unusedVariables false
open Go.RowKit Go.Maps

theorem TabI.onto {w w' : World} {b n : Nat} {D : DataW Unit} (h : TabI w b n D) (hb : Onto w w') : TabI w' b n D := World.ownsMap.kept h (grownBy_of_below hb none) (by simp)
set_option maxRecDepth 100000 in
/-- 'm[k]' as an equation, where the answer is known. -/
theorem TabI.look {w : World} {b n : Nat} {D : DataW Unit} (h : TabI w b n D) {j c : Int} (hj : -9223372036854775808 ≤ j ∧ j ≤ 9223372036854775807) (hc : D.atKey (kI j) (.lit (.int .i64 0)) = .lit (.int .i64 c)) :
    (Instr.lookup 61 (.map (some b)) (.int .i64 j) false).run Try.prog w = .ok (.int .i64 c) w := by
  obtain ⟨c', hrun, hat, _⟩ := World.ownsMap.lookup_int h keyedI Try.underlying61 Try.underlying3 (zeroI w) (keyI hj)
  rw [hc] at hat
  injection hat with hat
  injection hat with _ hat
  subst hat
  exact hrun

theorem S.growM {w w' : World} {b n k m : Nat} {D : DataW Unit} {A : Option Addr} {rows : List (List Value)} (hM : TabI w b m D) (h : S w k A n rows) (hg : w.grownBy w' (some b)) : S w' k A n rows := by
  refine ⟨h.1, h.2.1, fun hp => ?_⟩
  obtain ⟨B, o, e, hB, hc⟩ := h.2.2 hp
  refine ⟨B, o, e, Nat.lt_of_lt_of_le hB hg.size, fun i j r u hr hu => grow_cell hg (hc i j r u hr hu) (fun e => ?_)⟩
  injection e with e
  simp only at e
  obtain ⟨es, clock, hm, _⟩ := hM
  have := hc i j r u hr hu
  subst e
  simp [World.cell?, hm] at this

theorem FairSteady_long (A : Option Addr) (n c : Nat) (l : List Entry) (w : World) (h : S w 5 A n (l.map encE)) (hbig : 60 < n) :
    Calls Try.prog 8 #[.slice A n c] w fun e w' => e = .returned (.bool true) ∧ Onto w w' := by
  have hd : decide ((60 : Int) < (n : Int)) = true := by simp; omega
  have hd' : (60 : Int) < (n : Int) := by omega
  clear h hbig
  go_enter Try.func8, Try.ntmps8
  go_wp2_with fail
  refine Calls.mono (lived_calls _) ?_
  rintro e w1 ⟨rfl, b1⟩
  go_wp2_with fail
  refine Calls.mono (lived_calls _) ?_
  rintro e w2 ⟨rfl, b2⟩
  go_wp2_with fail
  go_ret
  exact ⟨ret_bool (by simp), Onto.to b1 b2⟩

set_option maxHeartbeats 8000000 in
set_option maxRecDepth 100000 in
theorem FairSteady_good (A : Option Addr) (n c : Nat) (l : List Entry) (w : World) (h : S w 5 A n (l.map encE)) (hn60 : n ≤ 60) :
    Calls Try.prog 8 #[.slice A n c] w fun e w' => e = .returned (.bool true) ∧ Onto w w' := by
  have hd : decide ((60 : Int) < (n : Int)) = false := by simp; omega
  have hd' : ¬ (60 : Int) < (n : Int) := by omega
  have hmm := @run_makeMap Try.prog
  have h0 := h
  go_enter Try.func8, Try.ntmps8
  go_wp2_with fail
  refine Calls.mono (lived_calls _) ?_
  rintro e w1 ⟨rfl, b1⟩
  replace h := S.onto h b1
  go_upto_region 5 with fail
  clear hmm hd hd'
  have o1 : Onto w ((w1.alloc (Obj.cells #[.slice none 0 0, .slice none 0 0] 38)).alloc (.map #[] 0)) := (Onto.new b1 _).new _
  have p0 : ((w1.alloc (Obj.cells #[.slice none 0 0, .slice none 0 0] 38)).alloc (.map #[] 0)).cell? ⟨w1.heap.size, 0, none⟩ = some (.slice none 0 0) := by simp [go_sem]
  have p1 : ((w1.alloc (Obj.cells #[.slice none 0 0, .slice none 0 0] 38)).alloc (.map #[] 0)).cell? ⟨w1.heap.size, 1, none⟩ = some (.slice none 0 0) := by simp [go_sem]
  have f0 : ((w1.alloc (Obj.cells #[.slice none 0 0, .slice none 0 0] 38)).alloc (.map #[] 0)).frozen? ⟨w1.heap.size, 0, none⟩ = false := by simp [go_sem]
  have f1 : ((w1.alloc (Obj.cells #[.slice none 0 0, .slice none 0 0] 38)).alloc (.map #[] 0)).frozen? ⟨w1.heap.size, 1, none⟩ = false := by simp [go_sem]
  have hM : TabI ((w1.alloc (Obj.cells #[.slice none 0 0, .slice none 0 0] 38)).alloc (.map #[] 0)) (w1.heap.size + 1) 0 (.map []) := by
    have := World.ownsMap_made (H := Unit) (w1.alloc (Obj.cells #[.slice none 0 0, .slice none 0 0] 38)) Try.prog 3 (plainElem Try.prog 3)
    simpa using this
  have hz1 : w1.heap.size + 1 < ((w1.alloc (Obj.cells #[.slice none 0 0, .slice none 0 0] 38)).alloc (.map #[] 0)).heap.size := by simp
  replace h := (h.new (Obj.cells #[.slice none 0 0, .slice none 0 0] 38)).new (.map #[] 0)
  have hww : w.heap.size ≤ w1.heap.size := b1.size
  clear b1
  change Code.wp _ _ _ _ ((w1.alloc (Obj.cells #[.slice none 0 0, .slice none 0 0] 38)).alloc (.map #[] 0))
  generalize ((w1.alloc (Obj.cells #[.slice none 0 0, .slice none 0 0] 38)).alloc (.map #[] 0)) = w2 at *
  obtain ⟨zm, hzm⟩ : ∃ zm, zm = w1.heap.size + 1 := ⟨_, rfl⟩
  rw [← hzm] at hM hz1 ⊢
  have hzz : w1.heap.size < zm := by omega
  have hne0 : zm ≠ w1.heap.size := by omega
  clear hzm
  generalize w1.heap.size = zb at *
  go_wp2_with fail
  go_loopw [22] (fun s wr => ∃ (k : Nat) (A1 A2 : Option Addr) (n1 c1 n2 c2 : Nat) (bk : Book) (D : DataW Unit), k ≤ n ∧ s = .int .i64 k ∧ wr.cell? ⟨zb, 0, none⟩ = some (.slice A1 n1 c1) ∧ wr.cell? ⟨zb, 1, none⟩ = some (.slice A2 n2 c2) ∧ wr.frozen? ⟨zb, 0, none⟩ = false ∧ wr.frozen? ⟨zb, 1, none⟩ = false ∧ S wr 3 A1 n1 (bk.jobs.map encJ) ∧ S wr 3 A2 n2 (bk.rung.map encR) ∧ OffN n1 zb A1 ∧ OffN n2 zb A2 ∧ Hid (TabI wr zm k D) ∧ Hid (NI D bk) ∧ S wr 5 A n (l.map encE) ∧ OffN n zb A ∧ Onto w wr) (fun s _ => n - (intOf s).toNat)
  case atStart => exact ⟨0, none, none, 0, 0, 0, 0, Book.none, .map [], Nat.zero_le _, rfl, p0, p1, f0, f1, Sl.nil, Sl.nil, fun h => absurd h (by omega), fun h => absurd h (by omega), hM, NI.nil, h, h0.offN hww, o1⟩
  case round =>
    obtain ⟨k, A1, A2, n1, c1, n2, c2, bk, D, hk, rfl, p0, p1, f0, f1, s1, s2, of1, of2, HM, HN, h, ofh, hb⟩ := hrel
    by_cases hlt : k < n
    · obtain ⟨bb, off, x, rfl, hbb, hx, d0, d1, d2, d3, d4⟩ := h.atE hlt
      clear hx
      go_upto_region 8 with fail
      have e0 : (wr.alloc (Obj.cells #[.int .i64 x.kind, .int .i64 x.job, .int .i64 x.every, .int .i64 x.time, .int .i64 x.client] 49)).cell? ⟨wr.heap.size, 0, none⟩ = some (.int .i64 x.kind) := by simp [go_sem]
      have e1 : (wr.alloc (Obj.cells #[.int .i64 x.kind, .int .i64 x.job, .int .i64 x.every, .int .i64 x.time, .int .i64 x.client] 49)).cell? ⟨wr.heap.size, 1, none⟩ = some (.int .i64 x.job) := by simp [go_sem]
      have e2 : (wr.alloc (Obj.cells #[.int .i64 x.kind, .int .i64 x.job, .int .i64 x.every, .int .i64 x.time, .int .i64 x.client] 49)).cell? ⟨wr.heap.size, 2, none⟩ = some (.int .i64 x.every) := by simp [go_sem]
      have e3 : (wr.alloc (Obj.cells #[.int .i64 x.kind, .int .i64 x.job, .int .i64 x.every, .int .i64 x.time, .int .i64 x.client] 49)).cell? ⟨wr.heap.size, 3, none⟩ = some (.int .i64 x.time) := by simp [go_sem]
      have e4 : (wr.alloc (Obj.cells #[.int .i64 x.kind, .int .i64 x.job, .int .i64 x.every, .int .i64 x.time, .int .i64 x.client] 49)).cell? ⟨wr.heap.size, 4, none⟩ = some (.int .i64 x.client) := by simp [go_sem]
      have hbe : zm < wr.heap.size := World.ownsMap.lt HM.out
      replace hb : Onto w (wr.alloc (Obj.cells #[.int .i64 x.kind, .int .i64 x.job, .int .i64 x.every, .int .i64 x.time, .int .i64 x.client] 49)) := hb.new _
      replace p0 := cellA p0 (Obj.cells #[.int .i64 x.kind, .int .i64 x.job, .int .i64 x.every, .int .i64 x.time, .int .i64 x.client] 49); replace p1 := cellA p1 (Obj.cells #[.int .i64 x.kind, .int .i64 x.job, .int .i64 x.every, .int .i64 x.time, .int .i64 x.client] 49)
      replace f0 : (wr.alloc (Obj.cells #[.int .i64 x.kind, .int .i64 x.job, .int .i64 x.every, .int .i64 x.time, .int .i64 x.client] 49)).frozen? ⟨zb, 0, none⟩ = false := (Onto.new (Onto.rfl' wr) (Obj.cells #[.int .i64 x.kind, .int .i64 x.job, .int .i64 x.every, .int .i64 x.time, .int .i64 x.client] 49)).frozen (p := ⟨zb, 0, none⟩) (by simp only; omega) |>.trans f0
      replace f1 : (wr.alloc (Obj.cells #[.int .i64 x.kind, .int .i64 x.job, .int .i64 x.every, .int .i64 x.time, .int .i64 x.client] 49)).frozen? ⟨zb, 1, none⟩ = false := (Onto.new (Onto.rfl' wr) (Obj.cells #[.int .i64 x.kind, .int .i64 x.job, .int .i64 x.every, .int .i64 x.time, .int .i64 x.client] 49)).frozen (p := ⟨zb, 1, none⟩) (by simp only; omega) |>.trans f1
      replace s1 := s1.new (Obj.cells #[.int .i64 x.kind, .int .i64 x.job, .int .i64 x.every, .int .i64 x.time, .int .i64 x.client] 49); replace s2 := s2.new (Obj.cells #[.int .i64 x.kind, .int .i64 x.job, .int .i64 x.every, .int .i64 x.time, .int .i64 x.client] 49); replace h := h.new (Obj.cells #[.int .i64 x.kind, .int .i64 x.job, .int .i64 x.every, .int .i64 x.time, .int .i64 x.client] 49)
      replace HM : Hid (TabI (wr.alloc (Obj.cells #[.int .i64 x.kind, .int .i64 x.job, .int .i64 x.every, .int .i64 x.time, .int .i64 x.client] 49)) zm k D) := Lib.hid (TabI.onto HM.out ((Onto.rfl' wr).new _))
      have hx1 : wr.heap.size < (wr.alloc (Obj.cells #[.int .i64 x.kind, .int .i64 x.job, .int .i64 x.every, .int .i64 x.time, .int .i64 x.client] 49)).heap.size := by simp
      clear d0 d1 d2 d3 d4 hbb
      change Code.wp _ _ _ _ (wr.alloc (Obj.cells #[.int .i64 x.kind, .int .i64 x.job, .int .i64 x.every, .int .i64 x.time, .int .i64 x.client] 49))
      generalize (wr.alloc (Obj.cells #[.int .i64 x.kind, .int .i64 x.job, .int .i64 x.every, .int .i64 x.time, .int .i64 x.client] 49)) = w3 at *
      generalize wr.heap.size = be at *
      obtain ⟨r, hr⟩ : ∃ r, r = applyB bk x := ⟨_, rfl⟩
      have HR := Lib.hid hr
      clear hr
      go_wp2_with fail
      refine Calls.mono (Apply_calls A1 A2 n1 c1 n2 c2 _ bk _ _ _ _ _ _ s1 s2 (Nat.le_refl _)) ?_
      rw [show applyB bk ⟨x.kind, x.job, x.every, x.time, x.client⟩ = r from HR.out.symm]
      rintro e w4 ⟨A3, n3, c3, A4, n4, c4, rfl, s3, s4, b4, fr3, fr4, hc3, hc4⟩
      replace e0 := cellB b4 e0; replace e1 := cellB b4 e1; replace e2 := cellB b4 e2; replace e3 := cellB b4 e3; replace e4 := cellB b4 e4
      replace f0 := frozB b4 p0 f0; replace f1 := frozB b4 p1 f1; replace p0 := cellB b4 p0; replace p1 := cellB b4 p1
      replace s1 := s1.onto b4; replace s2 := s2.onto b4; replace h := h.onto b4
      replace HM := Lib.hid (TabI.onto HM.out b4)
      replace hb := Onto.to hb b4
      have of3 : OffN n3 zb A3 := fr3.offN (by omega); have of4 : OffN n4 zb A4 := fr4.offN (by omega)
      have hx4 : w3.heap.size ≤ w4.heap.size := b4.size
      clear b4 fr3 fr4
      obtain ⟨q, hq⟩ : ∃ q, q = r.2 := ⟨_, rfl⟩
      rw [← hq]
      have HQ := Lib.hid hq
      clear hq
      by_cases hq0 : q ≠ 0
      · have hdq : (q != 0) = true := by simpa using hq0
        clear hq0
        go_wp2_with fail
        go_ret
        exact ⟨ret_bool (by simp), hb.new _⟩
      have hdq : (q != 0) = false := by simpa using hq0
      have hr0 : checkE x = 0 ∧ r.1 = stepB bk x := by
        have h1 := HR.out
        rw [applyB_good HN.out.good] at h1
        have h2 : r.2 = 0 := by rw [← HQ.out]; simpa using hq0
        by_cases hc : checkE x = 0
        · rw [if_neg (by simp [hc])] at h1; exact ⟨hc, by rw [h1]⟩
        · rw [if_pos hc] at h1; rw [h1] at h2; exact absurd h2 hc
      obtain ⟨hcx, hr1⟩ := hr0
      have hrg := checkE_range hcx
      have HCX := Lib.hid hcx
      rw [hr1] at s3 s4
      clear hq0 hcx hr1 HR HQ
      have hl1 : bk.jobs.length = n1 := by have := s1.len; simpa using this
      have hl2 : bk.rung.length = n2 := by have := s2.len; simpa using this
      have hl3 : (stepB bk x).jobs.length = n3 := by have := s3.len; simpa using this
      have hl4 : (stepB bk x).rung.length = n4 := by have := s4.len; simpa using this
      have hn1 := HN.out.good.nj; have hn2 := HN.out.good.nr
      have hg2 := stepB_good HN.out.good HCX.out
      have hn3 := hg2.nj; have hn4 := hg2.nr
      rw [hl1] at hn1; rw [hl2] at hn2; rw [hl3] at hn3; rw [hl4] at hn4
      go_upto_region 9 with fail
      have q0 : (w4.alloc (Obj.cells #[.slice A3 n3 c3, .slice A4 n4 c4] 38)).cell? ⟨w4.heap.size, 0, none⟩ = some (.slice A3 n3 c3) := by simp [go_sem]
      have q1 : (w4.alloc (Obj.cells #[.slice A3 n3 c3, .slice A4 n4 c4] 38)).cell? ⟨w4.heap.size, 1, none⟩ = some (.slice A4 n4 c4) := by simp [go_sem]
      have hO : Onto w4 (w4.alloc (Obj.cells #[.slice A3 n3 c3, .slice A4 n4 c4] 38)) := (Onto.rfl' w4).new _
      replace hb := Onto.to hb hO
      replace e1 := cellB hO e1; replace e3 := cellB hO e3; replace e4 := cellB hO e4
      replace f0 := frozB hO p0 f0; replace f1 := frozB hO p1 f1; replace p0 := cellB hO p0; replace p1 := cellB hO p1
      replace s1 := s1.onto hO; replace s2 := s2.onto hO; replace h := h.onto hO
      replace s3 : S (w4.alloc (Obj.cells #[.slice A3 n3 c3, .slice A4 n4 c4] 38)) 3 A3 n3 ((stepB bk x).jobs.map encJ) := S.onto s3 hO; replace s4 : S (w4.alloc (Obj.cells #[.slice A3 n3 c3, .slice A4 n4 c4] 38)) 3 A4 n4 ((stepB bk x).rung.map encR) := S.onto s4 hO
      replace HM := Lib.hid (TabI.onto HM.out hO)
      have hx5 : w4.heap.size < (w4.alloc (Obj.cells #[.slice A3 n3 c3, .slice A4 n4 c4] 38)).heap.size := by simp
      clear hO e0 e2
      change Code.wp _ _ _ _ (w4.alloc (Obj.cells #[.slice A3 n3 c3, .slice A4 n4 c4] 38))
      generalize (w4.alloc (Obj.cells #[.slice A3 n3 c3, .slice A4 n4 c4] 38)) = w5 at *
      generalize w4.heap.size = bc at *
      rcases step_ways (b := bk) (x := x) with ⟨i, y, hi, hy, hyj, hyn, hst⟩ | ⟨hf, a, hst⟩ | ⟨hru, hjl, hsub⟩
      · -- it rings
        have hj := HN.out.good.ok y (List.mem_of_getElem? hy)
        unfold badJ at hj
        have HST := Lib.hid hst; have HI := Lib.hid hi; have HY := Lib.hid hy
        have hn24 : n4 = n2 + 1 := by rw [hst] at hl4; simp at hl4; omega
        have hn13 : n3 = n1 := by rw [hst] at hl3; simp at hl3; omega
        have hrow : (stepB bk x).rung[n2]? = some ⟨x.job, x.time, x.client⟩ := by rw [hst, ← hl2]; simp
        have hin : i < n1 := by have := (List.getElem?_eq_some_iff.1 hy).1; omega
        have hlk : D.atKey (kI x.job) (.lit (.int .i64 0)) = .lit (.int .i64 x.time) := by rw [← hyj, HN.out.at_ y (List.mem_of_getElem? hy), hyn]
        have HLK := Lib.hid hlk
        obtain ⟨b4, off4, z, hA4, hb4, hz, g0, g1, g2⟩ := s4.atR (i := n2) (by omega)
        obtain rfl : (⟨x.job, x.time, x.client⟩ : Rung) = z := by rw [hrow] at hz; exact Option.some.inj hz
        subst hA4
        obtain rfl : n4 = n2 + 1 := hn24
        obtain rfl : n3 = n1 := hn13
        have hd1 : decide (n2 < n2 + 1) = true := by simp
        have hd2 : decide (((n2 : Nat) : Int) < ((n2 : Nat) : Int) + 1) = true := by simp; omega
        have hd3 : ((n2 : Nat) : Int) < ((n2 : Nat) : Int) + 1 := by omega
        clear hst hi hy hl1 hl2 hl3 hl4 hrow hlk hb4 hz
        go_upto_region 13 with fail
        have t0 : (w5.alloc (Obj.cells #[.int .i64 x.job, .int .i64 x.time, .int .i64 x.client] 56)).cell? ⟨w5.heap.size, 0, none⟩ = some (.int .i64 x.job) := by simp [go_sem]
        have t1 : (w5.alloc (Obj.cells #[.int .i64 x.job, .int .i64 x.time, .int .i64 x.client] 56)).cell? ⟨w5.heap.size, 1, none⟩ = some (.int .i64 x.time) := by simp [go_sem]
        have t2 : (w5.alloc (Obj.cells #[.int .i64 x.job, .int .i64 x.time, .int .i64 x.client] 56)).cell? ⟨w5.heap.size, 2, none⟩ = some (.int .i64 x.client) := by simp [go_sem]
        have hO : Onto w5 (w5.alloc (Obj.cells #[.int .i64 x.job, .int .i64 x.time, .int .i64 x.client] 56)) := (Onto.rfl' w5).new _
        clear g0 g1 g2
        replace hb := Onto.to hb hO
        replace e1 := cellB hO e1; replace e3 := cellB hO e3; replace e4 := cellB hO e4
        replace q0 := cellB hO q0; replace q1 := cellB hO q1
        replace f0 := frozB hO p0 f0; replace f1 := frozB hO p1 f1; replace p0 := cellB hO p0; replace p1 := cellB hO p1
        replace s1 := S.onto s1 hO; replace s2 := S.onto s2 hO; replace h := S.onto h hO; replace s3 := S.onto s3 hO; replace s4 := S.onto s4 hO
        replace HM := Lib.hid (TabI.onto HM.out hO)
        clear hO
        change Code.wp _ _ _ _ (w5.alloc (Obj.cells #[.int .i64 x.job, .int .i64 x.time, .int .i64 x.client] 56))
        generalize (w5.alloc (Obj.cells #[.int .i64 x.job, .int .i64 x.time, .int .i64 x.client] 56)) = w6 at *
        generalize w5.heap.size = br at *
        go_wp2_with fail
        refine Calls.mono (Find_calls A1 A2 n3 c1 n2 c2 _ x.job bk.jobs bk.rung _ s1 (Nat.le_refl _) (by omega)) ?_
        rw [show findB ⟨bk.jobs, bk.rung⟩ x.job = (i : Int) from HI.out]
        rintro e w7 ⟨rfl, hO⟩
        replace hb := Onto.to hb hO
        replace e1 := cellB hO e1; replace e3 := cellB hO e3; replace e4 := cellB hO e4
        replace q0 := cellB hO q0; replace q1 := cellB hO q1
        replace f0 := frozB hO p0 f0; replace f1 := frozB hO p1 f1; replace p0 := cellB hO p0; replace p1 := cellB hO p1
        replace s1 := S.onto s1 hO; replace s2 := S.onto s2 hO; replace h := S.onto h hO; replace s3 := S.onto s3 hO; replace s4 := S.onto s4 hO
        replace HM := Lib.hid (TabI.onto HM.out hO)
        replace t0 := cellB hO t0; replace t1 := cellB hO t1; replace t2 := cellB hO t2
        clear hO
        obtain ⟨b1, off1, z, hA1, hb1, hz, g0, g1, g2⟩ := s1.atJ (i := i) (by omega)
        obtain rfl : y = z := by have := HY.out; rw [hz] at this; exact (Option.some.inj this).symm
        subst hA1
        have hd5 : decide ((i : Int) < 0) = false := by simp
        have hi0 : (0 : Int) ≤ (i : Int) := by omega
        have hin' : (i : Int) < (n3 : Int) := by omega
        have hrun := TabI.look HM.out (by omega) HLK.out
        clear hz hb1
        go_upto_region 16 with fail
        have hw9 : IntKind.i64.wrap (x.time + y.every) = x.time + y.every := by rw [IntKind.wrap_i64]; omega
        have ot0 := onto_cell t0; have op0 := onto_cell p0; have og1 := onto_cell g1
        have orun : ∀ X, (Instr.lookup 61 (.map (some zm)) (.int .i64 x.job) false).run Try.prog (ontoW w7 X) = .ok (.int .i64 x.time) (ontoW w7 X) := fun X => TabI.look (TabI.onto HM.out (onto_on _ _)) (by omega) HLK.out
        clear hrun
        refine wp_region_quiet_tail (C := fun w' => ∃ X, w' = ontoW w7 X) 11 (by kernel_rfl) (by kernel_rfl) (by kernel_rfl) ⟨_, onto_of (Onto.draw (Onto.rfl' w7))⟩ ?_
        simp only [List.take_succ_cons, List.take_zero, List.drop_succ_cons, List.drop_zero]
        repeat (go_big_quiet_step (fail))
        refine wpQuiet_nil ?_
        rintro w' ⟨X, rfl⟩
        have hO := onto_on w7 X
        clear ot0 op0 og1 orun g0 g1 g2 t0 t1 t2
        replace hb := Onto.to hb hO
        replace e1 := cellB hO e1; replace e3 := cellB hO e3; replace e4 := cellB hO e4
        replace q0 := cellB hO q0; replace q1 := cellB hO q1
        replace f0 := frozB hO p0 f0; replace f1 := frozB hO p1 f1; replace p0 := cellB hO p0; replace p1 := cellB hO p1
        replace s1 := S.onto s1 hO; replace s2 := S.onto s2 hO; replace h := S.onto h hO; replace s3 := S.onto s3 hO; replace s4 := S.onto s4 hO
        replace HM := Lib.hid (TabI.onto HM.out hO)
        generalize ontoW w7 X = w8 at *
        clear hO
        go_upto_region 17 with (at_mapUpdate; refine wpList_mapUpdate_own _ rfl _ _ _ 61 rfl 3 3 keyedI Try.underlying61 _ zm k D rfl HM.out (by unfold maxLen; omega) _ _ (kI x.job) rfl rfl (keyI (by omega)) (.lit (.int .i64 (x.time + y.every))) [] (elemI (by omega)) ?_; intro w9 hm9 hg9)
        replace q0 := grow_cell hg9 q0 (by simp; omega); replace q1 := grow_cell hg9 q1 (by simp; omega)
        replace f0 := grow_froz hg9 p0 f0 (by simp; omega); replace f1 := grow_froz hg9 p1 f1 (by simp; omega)
        replace p0 := grow_cell hg9 p0 (by simp; omega); replace p1 := grow_cell hg9 p1 (by simp; omega)
        replace s3 := S.growM HM.out s3 hg9; replace s4 := S.growM HM.out s4 hg9; replace h := S.growM HM.out h hg9
        replace hb := below_grown hb hb.size hg9 (fun g hg => by injection hg with hg; omega)
        have HM := Lib.hid hm9
        clear hg9 hm9 s1 s2 e1 e3 e4
        have HN2 := Lib.hid (HN.out.ring HCX.out HY.out HST.out)
        rw [hyj, hyn] at HN2
        have hd7 : decide (n3 < n3) = false := by simp
        go_wp2_with fail
        go_roundw
        case measure => simp [intOf] <;> omega
        case rel =>
          refine ⟨k + 1, A3, some ⟨b4, off4, none⟩, n3, c3, n2 + 1, c4, stepB bk x, (D.put (kI x.job) (.lit (.int .i64 (x.time + y.every)))), by omega, by go_num, ?_, ?_, ?_, ?_, ?_, ?_, of3, of4, ?_, ?_, ?_, ofh, ?_⟩
          · simp [go_sem, p0, p1]
          · simp [go_sem, p0, p1]
          · simp [go_sem, f0]
          · simp [go_sem, f1]
          · exact (s3.off of3 _).off of3 _
          · exact (s4.off of4 _).off of4 _
          · exact World.ownsMap.setCell (World.ownsMap.setCell HM.out hne0 _) hne0 _
          · exact HN2
          · exact (h.off ofh _).off ofh _
          · exact Onto.put (Onto.put hb (by simp only; omega) _) (by simp only; omega) _
      · -- it puts
        have HST := Lib.hid hst
        have HN2 := Lib.hid (HN.out.put HCX.out hf hst)
        have hn24 : n4 = n2 := by rw [hst] at hl4; simp at hl4; omega
        have hn13 : n3 = n1 + 1 := by rw [hst] at hl3; simp at hl3; omega
        obtain rfl : n4 = n2 := hn24
        obtain rfl : n3 = n1 + 1 := hn13
        have hd1 : decide (n4 < n4) = false := by simp
        have hd2 : decide (n1 < n1 + 1) = true := by simp
        have hd3 : ((n1 : Nat) : Int) < ((n1 : Nat) : Int) + 1 := by omega
        clear hst hf hl1 hl2 hl3 hl4
        go_upto_region 19 with (at_mapUpdate; refine wpList_mapUpdate_own _ rfl _ _ _ 61 rfl 3 3 keyedI Try.underlying61 _ zm k D rfl HM.out (by unfold maxLen; omega) _ _ (kI x.job) rfl rfl (keyI (by omega)) (.lit (.int .i64 x.time)) [] (elemI (by omega)) ?_; intro w9 hm9 hg9)
        replace q0 := grow_cell hg9 q0 (by simp; omega); replace q1 := grow_cell hg9 q1 (by simp; omega)
        replace f0 := grow_froz hg9 p0 f0 (by simp; omega); replace f1 := grow_froz hg9 p1 f1 (by simp; omega)
        replace p0 := grow_cell hg9 p0 (by simp; omega); replace p1 := grow_cell hg9 p1 (by simp; omega)
        replace s3 := S.growM HM.out s3 hg9; replace s4 := S.growM HM.out s4 hg9; replace h := S.growM HM.out h hg9
        replace hb := below_grown hb hb.size hg9 (fun g hg => by injection hg with hg; omega)
        have HM := Lib.hid hm9
        clear hg9 hm9 s1 s2 e1 e3 e4
        go_wp2_with fail
        go_roundw
        case measure => simp [intOf] <;> omega
        case rel =>
          refine ⟨k + 1, A3, A4, n1 + 1, c3, n4, c4, stepB bk x, (D.put (kI x.job) (.lit (.int .i64 x.time))), by omega, by go_num, ?_, ?_, ?_, ?_, ?_, ?_, of3, of4, ?_, ?_, ?_, ofh, ?_⟩
          · simp [go_sem, p0, p1]
          · simp [go_sem, p0, p1]
          · simp [go_sem, f0]
          · simp [go_sem, f1]
          · exact (s3.off of3 _).off of3 _
          · exact (s4.off of4 _).off of4 _
          · exact World.ownsMap.setCell (World.ownsMap.setCell HM.out hne0 _) hne0 _
          · exact HN2
          · exact (h.off ofh _).off ofh _
          · exact Onto.put (Onto.put hb (by simp only; omega) _) (by simp only; omega) _
      · -- nothing more
        have HN2 := Lib.hid (HN.out.less HCX.out hsub)
        have hn24 : n4 = n2 := by rw [hru] at hl4; omega
        have hn13 : n3 ≤ n1 := by omega
        obtain rfl : n4 = n2 := hn24
        have hd1 : decide (n4 < n4) = false := by simp
        have hd2 : decide (n1 < n3) = false := by simp; omega
        have hd3 : ¬ ((n1 : Nat) : Int) < ((n3 : Nat) : Int) := by omega
        have HM : Hid (TabI w5 zm (k + 1) D) := Lib.hid (World.ownsMap.mono HM.out (Nat.le_succ _))
        clear hru hjl hsub hl1 hl2 hl3 hl4
        go_wp2_with fail
        go_roundw
        case measure => simp [intOf] <;> omega
        case rel =>
          refine ⟨k + 1, A3, A4, n3, c3, n4, c4, stepB bk x, D, by omega, by go_num, ?_, ?_, ?_, ?_, ?_, ?_, of3, of4, ?_, ?_, ?_, ofh, ?_⟩
          · simp [go_sem, p0, p1]
          · simp [go_sem, p0, p1]
          · simp [go_sem, f0]
          · simp [go_sem, f1]
          · exact (s3.off of3 _).off of3 _
          · exact (s4.off of4 _).off of4 _
          · exact World.ownsMap.setCell (World.ownsMap.setCell HM.out hne0 _) hne0 _
          · exact HN2
          · exact (h.off ofh _).off ofh _
          · exact Onto.put (Onto.put hb (by simp only; omega) _) (by simp only; omega) _
    · have hkn : k = n := by omega
      subst hkn
      go_wp2_with fail
      go_ret
      exact ⟨ret_bool (by simp), hb⟩

theorem FairSteady_calls (A : Option Addr) (n c : Nat) (l : List Entry) (w : World) (h : S w 5 A n (l.map encE)) :
    Calls Try.prog 8 #[.slice A n c] w fun e w' => e = .returned (.bool true) ∧ Onto w w' := by
  by_cases hbig : 60 < n
  · exact FairSteady_long A n c l w h hbig
  · exact FairSteady_good A n c l w h (by omega)
end Go.Proofs.Ytiphoihijalfkaa
