/- The law WorldParts. No condition beyond the listed variables, which the card ties. -/
/- Part 17 of the proof: WParts, WPartsL. -/
import Derived.Test.YtmppkaoonncddaaGreatDoorBa15
import Derived.Test.YtmppkaoonncddaaGreatDoorBa16
import Derived.Test.YtmppkaoonncddaaGreatDoorBa09
import Derived.Test.YtmppkaoonncddaaGreatDoorBa04
import Derived.Test.YtmppkaoonncddaaGreatDoorCards
import Derived.Test.YtmppkaoonncddaaGreatDoorTie
import Derived.SevenTiedAt
namespace Go.Proofs.YtmppkaoonncddaaGreatDoor
section
set_option linter.unusedSimpArgs false
set_option linter.unusedVariables false
open Go.RowKit
attribute [local go_sem ↓] Go.wp_at_zero Go.wp_at_succ
theorem encI_one (l : List Int) : ∀ r ∈ l.map encI, ∀ u ∈ r, u.oneCell' = true := fun r hr u hu => by
 obtain ⟨v, _, rfl⟩ := List.mem_map.1 hr
 simp [encI] at hu
 subst hu; rfl
theorem runGo_len : ∀ {l : List Hap} {w : Wor}, (runGo w l).2.length = l.length
 | [], _ => rfl
 | x :: l, w => by rw [runGo, List.length_cons, List.length_cons, runGo_len]
theorem runW_said {w : Wor} {l : List Hap} (h : (runW w l).2.2 = 0) : (runW w l).2.1.length = l.length := by
 unfold runW at h ⊢
 by_cases h1 : checkW w ≠ 0
 · rw [if_pos h1] at h; exact absurd h h1
 · rw [if_neg h1] at h ⊢
   by_cases h2 : 150 < l.length
   · rw [if_pos h2] at h; cases h
   · rw [if_neg h2]; exact runGo_len
set_option maxHeartbeats 8000000 in
set_option maxRecDepth 100000 in
theorem WorldParts_calls (A : Option Addr) (n c : Nat) (tip : Int) (C : Option Addr) (m d : Nat) (time : Int) (ns : List NV) (cs : List CV) (P : Option Addr) (k i : Nat) (l : List Hap) (k0 : Int) (w : World) (E : Env w) (R : WR w A n C m ns cs) (SL : S w 10 P k (l.map encH)) (hki : k ≤ i) (him : i ≤ maxLen) :
    Calls Tryz.prog 4 #[.agg #[.slice A n c, .int .i64 tip, .slice C m d, .int .i64 time], .slice P k i, .int .i64 k0] w fun e w' => e = .returned (.bool true) ∧ Onto w w' := by
 obtain ⟨q, hq⟩ : ∃ q, q = runW (wor ns tip cs time) l := ⟨_, rfl⟩
 have hl : l.length = k := by have := SL.len; simpa using this
 have HQ := Lib.hid hq; have HL := Lib.hid hl
 clear hq hl
 go_enter Tryz.func4, Tryz.ntmps4
 go_upto_region 1 with fail
 have ob := (Onto.rfl' w).new (Obj.cells #[.slice A n c, .int .i64 tip, .slice C m d, .int .i64 time] 25)
 have BX : Bx (w.alloc (Obj.cells #[.slice A n c, .int .i64 tip, .slice C m d, .int .i64 time] 25)) w.heap.size [.slice A n c, .int .i64 tip, .slice C m d, .int .i64 time] := Bx.made _ _ _
 have on := ob
 clear ob
 try change Code.wp _ _ _ _ (w.alloc (Obj.cells #[.slice A n c, .int .i64 tip, .slice C m d, .int .i64 time] 25))
 generalize (w.alloc (Obj.cells #[.slice A n c, .int .i64 tip, .slice C m d, .int .i64 time] 25)) = v1 at *
 generalize w.heap.size = zx at *
 replace R := R.onto on; replace SL := SL.onto on
 have x0 := BX.at_ 0 rfl; have x1 := BX.at_ 1 rfl; have x2 := BX.at_ 2 rfl; have x3 := BX.at_ 3 rfl
 go_wp2_with fail
 refine Calls.mono (WRun_calls A n c tip C m d time ns cs P k i l _ (E.onto on) R SL) ?_
 rw [← HQ.out]
 rintro e v2 ⟨A1, n1, c1, C1, m1, d1, ns1, cs1, B1, b1, y1, rfl, R1, e1, e2, S1, hb1, hy1, b, _⟩
 replace on := on.to b
 replace BX := BX.onto b
 replace R := R.onto b
 replace SL := SL.onto b
 clear b
 clear x0 x1 x2 x3
 obtain ⟨tp, htp⟩ : ∃ t, t = q.1.tip := ⟨_, rfl⟩
 obtain ⟨tm, htm⟩ : ∃ t, t = q.1.time := ⟨_, rfl⟩
 rw [← htp, ← htm]
 have hw1 : wor ns1 tp cs1 tm = q.1 := by rw [htp, htm]; exact wor_of e1 e2
 have HW1 := Lib.hid hw1
 clear htp htm hw1 e1 e2
 go_upto_region 2 with fail
 have ob := (Onto.rfl' v2).new (Obj.cells #[.slice A1 n1 c1, .int .i64 tp, .slice C1 m1 d1, .int .i64 tm] 25)
 have BY : Bx (v2.alloc (Obj.cells #[.slice A1 n1 c1, .int .i64 tp, .slice C1 m1 d1, .int .i64 tm] 25)) v2.heap.size [.slice A1 n1 c1, .int .i64 tp, .slice C1 m1 d1, .int .i64 tm] := Bx.made _ _ _
 replace on := on.to ob
 replace BX := BX.onto ob
 replace R := R.onto ob
 replace SL := SL.onto ob
 replace R1 := R1.onto ob
 replace S1 := S1.onto ob
 clear ob
 try change Code.wp _ _ _ _ (v2.alloc (Obj.cells #[.slice A1 n1 c1, .int .i64 tp, .slice C1 m1 d1, .int .i64 tm] 25))
 generalize (v2.alloc (Obj.cells #[.slice A1 n1 c1, .int .i64 tp, .slice C1 m1 d1, .int .i64 tm] 25)) = v3 at *
 generalize v2.heap.size = zy at *
 go_wp2_with fail
 refine Calls.mono (tolled_calls _ (E.onto on)) ?_
 rintro e v4 ⟨rfl, b⟩
 replace on := on.to b
 replace BX := BX.onto b
 replace BY := BY.onto b
 replace R := R.onto b
 replace SL := SL.onto b
 replace R1 := R1.onto b
 replace S1 := S1.onto b
 clear b
 by_cases hq0 : q.2.2 = 0
 · have hd : (q.2.2 != 0) = false := by simp [hq0]
   have hlen := runW_len (w := wor ns tip cs time) (l := l) (by rw [← HQ.out]; exact hq0)
   obtain ⟨hg0, hg1⟩ := runW_good (w := wor ns tip cs time) (l := l) (by rw [← HQ.out]; exact hq0)
   have hk150 : k ≤ 150 := by have := HL.out; omega
   obtain ⟨kn, hkn, hkle⟩ : ∃ kn : Nat, k0 % ((k : Int) + 1) = (kn : Int) ∧ kn ≤ k := by
    have h1 := Int.emod_nonneg k0 (b := (k : Int) + 1) (by omega)
    have h2 := Int.emod_lt_of_pos k0 (b := (k : Int) + 1) (by omega)
    exact ⟨(k0 % ((k : Int) + 1)).toNat, by omega, by omega⟩
   obtain ⟨p1, p2, p3, p4⟩ := parts_law (w := wor ns tip cs time) (l := l) (k := kn) (by rw [← HQ.out]; exact hq0)
   obtain ⟨qa, hqa⟩ : ∃ x, x = runW (wor ns tip cs time) (l.take kn) := ⟨_, rfl⟩
   rw [← hqa] at p1 p2 p3 p4
   obtain ⟨qb, hqb⟩ : ∃ x, x = runW qa.1 (l.drop kn) := ⟨_, rfl⟩
   rw [← hqb] at p2 p3 p4
   rw [← HQ.out] at p3 p4 hg1
   have HK := Lib.hid hkn; have HQA := Lib.hid hqa; have HQB := Lib.hid hqb; have H1 := Lib.hid p1; have H2 := Lib.hid p2; have H3 := Lib.hid p3; have H4 := Lib.hid p4; have HG1 := Lib.hid hg1
   have hw : IntKind.i64.wrap ((k : Int) + 1) = (k : Int) + 1 := by rw [IntKind.wrap_i64]; omega
   have hst : S v4 10 P kn ((l.take kn).map encH) := by rw [List.map_take]; exact Sl.take SL hkle
   have hsc := Sl.cut SL hkle hki
   rw [← List.map_drop] at hsc
   have hsl := run_slice_from (P := Tryz.prog) P k i kn Tryz.underlying53 Tryz.sizeOf29 hkle
   obtain ⟨P', hP'⟩ : ∃ P', P' = (if i = kn then P else P.map (fun a => a.add (kn * 10))) := ⟨_, rfl⟩
   rw [← hP'] at hsl hsc
   have HSL := Lib.hid hsl
   replace hsc : S v4 10 P' (k - kn) ((l.drop kn).map encH) := hsc
   clear hP' hlen hg0 hkn hqa hqb p1 p2 p3 p4 hg1 hq0 hsl SL
   go_wp2_with fail
   refine Calls.mono (at_calls _ _ _ (by omega) (by omega)) ?_
   rintro e w' ⟨rfl, rfl⟩
   rw [HK.out]
   have hki' : kn ≤ i := by omega
   have x0 := BX.at_ 0 rfl; have x1 := BX.at_ 1 rfl; have x2 := BX.at_ 2 rfl; have x3 := BX.at_ 3 rfl
   go_upto_region 5 with fail
   have hxl := BX.lt
   go_cut [9, 10, 11] (fun s9 s10 s11 wx => ∃ (p : Nat) (A2 : Option Addr) (n2 c2 : Nat) (C2 : Option Addr) (m2 d2 : Nat) (ns2 : List NV) (cs2 : List CV) (B2 : Option Addr) (b2 y2 : Nat), s9 = .int .i64 qa.2.2 ∧ s10 = .pointer (some ⟨p, 0, none⟩) ∧ s11 = .slice B2 b2 y2 ∧ Bx wx p [.slice A2 n2 c2, .int .i64 qa.1.tip, .slice C2 m2 d2, .int .i64 qa.1.time] ∧ WR wx A2 n2 C2 m2 ns2 cs2 ∧ nods ns2 = qa.1.n ∧ clis cs2 = qa.1.c ∧ S wx 1 B2 b2 (qa.2.1.map encI) ∧ b2 ≤ y2 ∧ y2 ≤ maxLen ∧ Onto v4 wx)
   case first =>
    go_region_law (first
     | (go_simp; go_at_call 19; refine Calls.mono (WRun_calls A n c tip C m d time ns cs P kn i (l.take kn) _ (E.onto (on.to (by with_reducible (first | exact Onto.rfl' _ | exact (Onto.rfl' _).draw | exact (Onto.rfl' _).draws _ | exact ((Onto.rfl' _).new _).draw | exact ((Onto.rfl' _).draw).new _)))) (R.onto (by with_reducible (first | exact Onto.rfl' _ | exact (Onto.rfl' _).draw | exact (Onto.rfl' _).draws _ | exact ((Onto.rfl' _).new _).draw | exact ((Onto.rfl' _).draw).new _))) (hst.onto (by with_reducible (first | exact Onto.rfl' _ | exact (Onto.rfl' _).draw | exact (Onto.rfl' _).draws _ | exact ((Onto.rfl' _).new _).draw | exact ((Onto.rfl' _).draw).new _)))) ?_; rw [← HQA.out]; rintro e w6 ⟨A2, n2, c2, C2, m2, d2, ns2, cs2, B2, b2, y2, rfl, R2, e1, e2, S2, hb2, hy2, ob, hf2⟩; have b6 : Onto v4 w6 := Onto.to (by with_reducible (first | exact Onto.rfl' _ | exact (Onto.rfl' _).draw | exact (Onto.rfl' _).draws _ | exact ((Onto.rfl' _).new _).draw | exact ((Onto.rfl' _).draw).new _)) ob; first | (have hz : Onto (v4.alloc (Obj.cells #[.slice none 0 0, .int .i64 0, .slice none 0 0, .int .i64 0] 25)) w6 := Onto.to (by with_reducible (first | exact Onto.rfl' _ | exact (Onto.rfl' _).draw | exact (Onto.rfl' _).draws _)) ob; have V : Bx w6 v4.heap.size [.slice none 0 0, .int .i64 0, .slice none 0 0, .int .i64 0] := Bx.onto (Bx.made v4 #[.slice none 0 0, .int .i64 0, .slice none 0 0, .int .i64 0] 25) hz; have WV : WBox w6 v4.heap.size := WBox.onto (WBox.made v4 none none 0 0 0 0 0 0 25) hz; have u0 := V.at_ 0 rfl; have u1 := V.at_ 1 rfl; have u2 := V.at_ 2 rfl; have u3 := V.at_ 3 rfl; have t0 := V.froz 0; have t1 := V.froz 1; have t2 := V.froz 2; have t3 := V.froz 3; clear hz) | (have hz : Onto (v4.drew.alloc (Obj.cells #[.slice none 0 0, .int .i64 0, .slice none 0 0, .int .i64 0] 25)) w6 := Onto.to (by with_reducible (first | exact Onto.rfl' _ | exact (Onto.rfl' _).draw | exact (Onto.rfl' _).draws _)) ob; have V : Bx w6 v4.heap.size [.slice none 0 0, .int .i64 0, .slice none 0 0, .int .i64 0] := Bx.onto (Bx.made v4.drew #[.slice none 0 0, .int .i64 0, .slice none 0 0, .int .i64 0] 25) hz; have WV : WBox w6 v4.heap.size := WBox.onto (WBox.made v4.drew none none 0 0 0 0 0 0 25) hz; have u0 := V.at_ 0 rfl; have u1 := V.at_ 1 rfl; have u2 := V.at_ 2 rfl; have u3 := V.at_ 3 rfl; have t0 := V.froz 0; have t1 := V.froz 1; have t2 := V.froz 2; have t3 := V.froz 3; clear hz) | skip))
    all_goals
     go_wp2_with fail
     go_meet
     first
     | exact ⟨_, A2, n2, c2, C2, m2, d2, ns2, cs2, B2, b2, y2, rfl, rfl, rfl, Bx.made _ _ _, R2.new _, e1, e2, S2.new _, hb2, hy2, b6.new _⟩
     | exact ⟨_, A2, n2, c2, C2, m2, d2, ns2, cs2, B2, b2, y2, rfl, rfl, rfl, V.four (.slice A2 n2 c2) (.int .i64 qa.1.tip) (.slice C2 m2 d2) (.int .i64 qa.1.time), WV.all R2 (Turn.four (.slice A2 n2 c2) (.int .i64 qa.1.tip) (.slice C2 m2 d2) (.int .i64 qa.1.time)), e1, e2, S2.grown (Turn.four (.slice A2 n2 c2) (.int .i64 qa.1.tip) (.slice C2 m2 d2) (.int .i64 qa.1.time)) (fun g hg => by injection hg with hg; subst hg; exact hf2.offN (by simp)), hb2, hy2, b6.four (Nat.le_refl _) (.slice A2 n2 c2) (.int .i64 qa.1.tip) (.slice C2 m2 d2) (.int .i64 qa.1.time)⟩
   case rest =>
    clear hxl x0 x1 x2 x3
    obtain ⟨zb, A2, n2, c2, C2, m2, d2, ns2, cs2, B2, b2, y2, rfl, rfl, rfl, BB, R2, e1, e2, S2, hb2, hy2, bz⟩ := hcut
    obtain ⟨tp2, htp⟩ : ∃ t, t = qa.1.tip := ⟨_, rfl⟩
    obtain ⟨tm2, htm⟩ : ∃ t, t = qa.1.time := ⟨_, rfl⟩
    rw [← htp, ← htm] at BB
    have hw2 : wor ns2 tp2 cs2 tm2 = qa.1 := by rw [htp, htm]; exact wor_of e1 e2
    have HW2 := Lib.hid hw2
    clear htp htm hw2 e1 e2
    replace on := on.to bz
    replace BX := BX.onto bz
    replace BY := BY.onto bz
    replace R := R.onto bz
    replace R1 := R1.onto bz
    replace S1 := S1.onto bz
    replace hsc := hsc.onto bz
    clear bz
    generalize wc = wb at *
    rw [H1.out]
    have x0 := BB.at_ 0 rfl; have x1 := BB.at_ 1 rfl; have x2 := BB.at_ 2 rfl; have x3 := BB.at_ 3 rfl
    go_upto_region 6 with fail
    have hxl := BB.lt
    go_cut [12, 13, 14] (fun s12 s13 s14 wx => ∃ (p : Nat) (A3 : Option Addr) (n3 c3 : Nat) (C3 : Option Addr) (m3 d3 : Nat) (ns3 : List NV) (cs3 : List CV) (B3 : Option Addr) (b3 y3 : Nat), s14 = .int .i64 qb.2.2 ∧ s12 = .pointer (some ⟨p, 0, none⟩) ∧ s13 = .slice B3 b3 y3 ∧ Bx wx p [.slice A3 n3 c3, .int .i64 qb.1.tip, .slice C3 m3 d3, .int .i64 qb.1.time] ∧ WR wx A3 n3 C3 m3 ns3 cs3 ∧ nods ns3 = qb.1.n ∧ clis cs3 = qb.1.c ∧ S wx 1 B3 b3 (qb.2.1.map encI) ∧ b3 ≤ y3 ∧ y3 ≤ maxLen ∧ Onto wb wx)
    case first =>
     have hsl := HSL.out
     go_region_law (first
      | (go_simp; go_at_call 19; refine Calls.mono (WRun_calls A2 n2 c2 tp2 C2 m2 d2 tm2 ns2 cs2 P' (k - kn) (i - kn) (l.drop kn) _ (E.onto (on.to (by with_reducible (first | exact Onto.rfl' _ | exact (Onto.rfl' _).draw | exact (Onto.rfl' _).draws _ | exact ((Onto.rfl' _).new _).draw | exact ((Onto.rfl' _).draw).new _)))) (R2.onto (by with_reducible (first | exact Onto.rfl' _ | exact (Onto.rfl' _).draw | exact (Onto.rfl' _).draws _ | exact ((Onto.rfl' _).new _).draw | exact ((Onto.rfl' _).draw).new _))) (hsc.onto (by with_reducible (first | exact Onto.rfl' _ | exact (Onto.rfl' _).draw | exact (Onto.rfl' _).draws _ | exact ((Onto.rfl' _).new _).draw | exact ((Onto.rfl' _).draw).new _)))) ?_; rw [HW2.out, ← HQB.out]; rintro e w7 ⟨A3, n3, c3, C3, m3, d3, ns3, cs3, B3, b3, y3, rfl, R3, e1, e2, S3, hb3, hy3, ob, hf3⟩; have b7 : Onto wb w7 := Onto.to (by with_reducible (first | exact Onto.rfl' _ | exact (Onto.rfl' _).draw | exact (Onto.rfl' _).draws _ | exact ((Onto.rfl' _).new _).draw | exact ((Onto.rfl' _).draw).new _)) ob; first | (have hz : Onto (wb.alloc (Obj.cells #[.slice none 0 0, .int .i64 0, .slice none 0 0, .int .i64 0] 25)) w7 := Onto.to (by with_reducible (first | exact Onto.rfl' _ | exact (Onto.rfl' _).draw | exact (Onto.rfl' _).draws _)) ob; have V : Bx w7 wb.heap.size [.slice none 0 0, .int .i64 0, .slice none 0 0, .int .i64 0] := Bx.onto (Bx.made wb #[.slice none 0 0, .int .i64 0, .slice none 0 0, .int .i64 0] 25) hz; have WV : WBox w7 wb.heap.size := WBox.onto (WBox.made wb none none 0 0 0 0 0 0 25) hz; have u0 := V.at_ 0 rfl; have u1 := V.at_ 1 rfl; have u2 := V.at_ 2 rfl; have u3 := V.at_ 3 rfl; have t0 := V.froz 0; have t1 := V.froz 1; have t2 := V.froz 2; have t3 := V.froz 3; clear hz) | (have hz : Onto (wb.drew.alloc (Obj.cells #[.slice none 0 0, .int .i64 0, .slice none 0 0, .int .i64 0] 25)) w7 := Onto.to (by with_reducible (first | exact Onto.rfl' _ | exact (Onto.rfl' _).draw | exact (Onto.rfl' _).draws _)) ob; have V : Bx w7 wb.heap.size [.slice none 0 0, .int .i64 0, .slice none 0 0, .int .i64 0] := Bx.onto (Bx.made wb.drew #[.slice none 0 0, .int .i64 0, .slice none 0 0, .int .i64 0] 25) hz; have WV : WBox w7 wb.heap.size := WBox.onto (WBox.made wb.drew none none 0 0 0 0 0 0 25) hz; have u0 := V.at_ 0 rfl; have u1 := V.at_ 1 rfl; have u2 := V.at_ 2 rfl; have u3 := V.at_ 3 rfl; have t0 := V.froz 0; have t1 := V.froz 1; have t2 := V.froz 2; have t3 := V.froz 3; clear hz) | skip))
     all_goals
      go_wp2_with fail
      go_meet
      first
      | exact ⟨_, A3, n3, c3, C3, m3, d3, ns3, cs3, B3, b3, y3, rfl, rfl, rfl, Bx.made _ _ _, R3.new _, e1, e2, S3.new _, hb3, hy3, b7.new _⟩
      | exact ⟨_, A3, n3, c3, C3, m3, d3, ns3, cs3, B3, b3, y3, rfl, rfl, rfl, V.four (.slice A3 n3 c3) (.int .i64 qb.1.tip) (.slice C3 m3 d3) (.int .i64 qb.1.time), WV.all R3 (Turn.four (.slice A3 n3 c3) (.int .i64 qb.1.tip) (.slice C3 m3 d3) (.int .i64 qb.1.time)), e1, e2, S3.grown (Turn.four (.slice A3 n3 c3) (.int .i64 qb.1.tip) (.slice C3 m3 d3) (.int .i64 qb.1.time)) (fun g hg => by injection hg with hg; subst hg; exact hf3.offN (by simp)), hb3, hy3, b7.four (Nat.le_refl _) (.slice A3 n3 c3) (.int .i64 qb.1.tip) (.slice C3 m3 d3) (.int .i64 qb.1.time)⟩
    case rest =>
     clear hxl x0 x1 x2 x3
     obtain ⟨zc, A3, n3, c3, C3, m3, d3, ns3, cs3, B3, b3, y3, rfl, rfl, rfl, BC, R3, e1, e2, S3, hb3, hy3, bz⟩ := hcut
     obtain ⟨tp3, htp⟩ : ∃ t, t = qb.1.tip := ⟨_, rfl⟩
     obtain ⟨tm3, htm⟩ : ∃ t, t = qb.1.time := ⟨_, rfl⟩
     rw [← htp, ← htm] at BC
     have hw3 : wor ns3 tp3 cs3 tm3 = qb.1 := by rw [htp, htm]; exact wor_of e1 e2
     have HW3 := Lib.hid hw3
     clear htp htm hw3 e1 e2
     replace on := on.to bz
     replace BX := BX.onto bz
     replace BY := BY.onto bz
     replace BB := BB.onto bz
     replace R1 := R1.onto bz
     replace S1 := S1.onto bz
     replace R2 := R2.onto bz
     replace S2 := S2.onto bz
     clear bz
     rw [H2.out]
     have hg1 : GoodW (wor ns1 tp cs1 tm) := by rw [HW1.out]; exact HG1.out
     have hs : wor ns1 tp cs1 tm = wor ns3 tp3 cs3 tm3 := by rw [HW1.out, HW3.out, H3.out]
     have HS := Lib.hid hs
     clear hs
     have x0 := BY.at_ 0 rfl; have x1 := BY.at_ 1 rfl; have x2 := BY.at_ 2 rfl; have x3 := BY.at_ 3 rfl
     have y0 := BC.at_ 0 rfl; have y1 := BC.at_ 1 rfl; have y2 := BC.at_ 2 rfl; have y3 := BC.at_ 3 rfl
     go_wp2_with fail
     refine Calls.mono (WSameG_calls A1 A3 n1 c1 n3 c3 tp tp3 C1 C3 m1 d1 m3 d3 tm tm3 ns1 ns3 cs1 cs3 _ R1 R3 hg1) ?_
     rw [decide_eq_true HS.out]
     rintro e v5 ⟨rfl, b⟩
     replace on := on.to b
     replace BX := BX.onto b
     replace BY := BY.onto b
     replace BB := BB.onto b
     replace BC := BC.onto b
     replace R1 := R1.onto b
     replace S1 := S1.onto b
     replace R2 := R2.onto b
     replace S2 := S2.onto b
     replace R3 := R3.onto b
     replace S3 := S3.onto b
     clear b
     clear x0 x1 x2 x3
     clear y0 y1 y2 y3
     have hl2 : qa.2.1.length = b2 := by have := S2.len; simpa using this
     have hl3 : qb.2.1.length = b3 := by have := S3.len; simpa using this
     have hle : b2 + b3 ≤ 1000 := by
      have h1 := runW_said (w := wor ns tip cs time) (l := l.take kn) (by rw [← HQA.out]; exact H1.out)
      have h2 := runW_said (w := qa.1) (l := l.drop kn) (by rw [← HQB.out]; exact H2.out)
      rw [← HQA.out] at h1; rw [← HQB.out] at h2
      rw [List.length_take] at h1; rw [List.length_drop] at h2
      have := HL.out
      omega
     have HZ : Hid (∀ i p, ([⟨B2, b2, y2, qa.2.1.map encI⟩, ⟨B3, b3, y3, qb.2.1.map encI⟩] : List Pt)[i]? = some p → (v5.alloc (Obj.cells #[.slice B2 b2 y2, .slice B3 b3 y3] 54)).cell? ⟨v5.heap.size, i, none⟩ = some (.slice p.A p.n p.c)) := Lib.hid fun i p hp => by
      match i with
      | 0 => simp at hp; subst hp; simp [go_sem]
      | 1 => simp at hp; subst hp; simp [go_sem]
      | i + 2 => simp at hp
     have HS1 : Hid (∀ p ∈ ([⟨B2, b2, y2, qa.2.1.map encI⟩, ⟨B3, b3, y3, qb.2.1.map encI⟩] : List Pt), Sl (v5.alloc (Obj.cells #[.slice B2 b2 y2, .slice B3 b3 y3] 54)) (v5.alloc (Obj.cells #[.slice B2 b2 y2, .slice B3 b3 y3] 54)).heap.size 1 p.A p.n p.rows) := Lib.hid fun p hp => by
      simp only [List.mem_cons, List.not_mem_nil, or_false] at hp
      rcases hp with rfl | rfl
      · exact S2.new _
      · exact S3.new _
     have HO : Hid (∀ p ∈ ([⟨B2, b2, y2, qa.2.1.map encI⟩, ⟨B3, b3, y3, qb.2.1.map encI⟩] : List Pt), ∀ r ∈ p.rows, ∀ u ∈ r, u.oneCell' = true) := Lib.hid fun p hp => by
      simp only [List.mem_cons, List.not_mem_nil, or_false] at hp
      rcases hp with rfl | rfl
      all_goals exact encI_one _
     have hnew := (Onto.rfl' v5).new (Obj.cells #[.slice B2 b2 y2, .slice B3 b3 y3] 54)
     replace S1 := S1.onto hnew; replace on := on.to hnew
     clear hnew
     go_wp2_with fail
     refine Calls.mono (ConcatNN_calls _ [⟨B2, b2, y2, qa.2.1.map encI⟩, ⟨B3, b3, y3, qb.2.1.map encI⟩] v5.heap.size 2 HZ.out HS1.out HO.out (by simp) (by simp) (by simp [lenP]; omega)) ?_
     rintro e w9 ⟨A9, c9, rfl, ow, b9⟩
     have S9 : S w9 1 A9 (b2 + b3) ((qa.2.1 ++ qb.2.1).map encI) := by
      have := ow.sl
      simpa [lenP, rowsP] using this
     replace S1 := S1.onto b9; replace on := on.to b9
     clear ow b9 HZ HS1 HO S2 S3
     go_wp2_with fail
     refine Calls.mono (EqualN_calls B1 A9 b1 (b2 + b3) y1 c9 _ q.2.1 (qa.2.1 ++ qb.2.1) _ S1 S9 (by unfold maxLen at hy1; omega)) ?_
     rw [decide_eq_true H4.out]
     rintro e wa ⟨rfl, nq, rfl⟩
     replace on := on.draws nq
     go_wp2_with fail
     go_ret
     exact ⟨ret_bool (by simp), on⟩
 · have hd : (q.2.2 != 0) = true := by simpa using hq0
   clear hq0
   go_wp2_with fail
   refine Calls.mono (tolled_calls _ (E.onto on)) ?_
   rintro e v5 ⟨rfl, b⟩
   replace on := on.to b
   replace BX := BX.onto b
   replace BY := BY.onto b
   replace R := R.onto b
   replace SL := SL.onto b
   replace R1 := R1.onto b
   replace S1 := S1.onto b
   clear b
   go_wp2_with fail
   go_ret
   exact ⟨rfl, on⟩
end
section
set_option linter.unusedSimpArgs false
set_option linter.unusedVariables false
open Go.RowKit Go.ChangeShapes Go.WideShapes Go.ChangeAt
set_option maxRecDepth 100000 in
theorem worldParts_lifted (os : Os) (started : os.Started) (H : Type) (enc : TypeId × Value → H) :
    ReturnsInHanded {} Tryz.checked os 4 .any (fun w args => (Rows.worldPartsSpec.pre enc Tryz.prog Tryz.f4 Rows.worldPartsRow.domain false w args ∧ laidMetH Tryz.prog Rows.worldPartsRow.laid w) ∧ sizedMet enc Tryz.prog Tryz.f4 (OpenSpec.ofChange Rows.worldPartsSpec) false w args)
     (Rows.worldPartsSpec.post enc Tryz.prog Tryz.f4 false true false false) := by
 refine handed_shaped (C := Tryz.checked) (X := fun w _ => laidMetH Tryz.prog Rows.worldPartsRow.laid w) (fun _ _ _ hh h => h.of_heap hh) own started (by kernel_rfl) Tryz.func4
  (ChangeSpec.witness_shaped (enc := enc) (C := Tryz.checked) (os := os) (X := fun w _ => laidMetH Tryz.prog Rows.worldPartsRow.laid w) false (World.laidAll Tryz.prog os Rows.worldPartsRow.laid) #[.agg #[.slice none 0 0, .int .i64 0, .slice none 0 0, .int .i64 0], .slice none 0 0, .int .i64 0] 8 (World.laidAll_os _ _ _)
   (World.shaped_of_ZipB (by kernel_rfl) (by kernel_rfl)) (by kernel_rfl) (by kernel_rfl) (by kernel_rfl)
   (by rw [MakeChecks.laidMetH_plain _ _ _ (by kernel_rfl)]; exact laidMet_laidAll _ (by kernel_rfl) (by kernel_rfl))) ?_
 intro W base args ds gs before hval0 hW hsz0 hL hS
 rw [MakeChecks.laidMetH_plain _ _ _ (by kernel_rfl)] at hL
 have E : Env W := env_of hL hS
 clear hL hS
 have hval : ∀ (j : Nat) t v, Tryz.f4.params[j]? = some t → args[j]? = some v → Value.okWide Tryz.prog W .any base t v := hval0
 have hW' := hW
 obtain ⟨p, q, hA0, hV, rfl, hfz, hnd⟩ := hW
 have hA : DataW.TrodAll enc Tryz.prog W 0 (fun _ => true) true Tryz.f4.params.toList args.toList ds p := hA0
 rw [Tryz.params4] at hA hval
 obtain ⟨v0, vs0, d0, ds0, p0, q0, hargs, rfl, rfl, h0, r0⟩ := trodAll_cons hA
 obtain ⟨v1, vs1, d1, ds1, p1, q1, rfl, rfl, rfl, h1, r1⟩ := trodAll_cons r0
 obtain ⟨v2, vs2, d2, ds2, p2, q2, rfl, rfl, rfl, h2, r2⟩ := trodAll_cons r1
 obtain ⟨rfl, rfl, rfl⟩ := trodAll_nil r2
 obtain rfl : args = #[v0, v1, v2] := by cases args; simp_all
 obtain ⟨rfl, rfl⟩ := trodVars_none hV
 have hall := hA
 obtain ⟨cv0, rfl, _⟩ := okWide_struct Tryz.underlying25 (hval 0 25 v0 rfl rfl)
 obtain ⟨A0, n0, c0, tip0, C0, m0, d0, time0, nv0, kv0, e0, _, _, _, _, R0⟩ := reads_world (reads_of h0)
 obtain rfl : cv0 = #[.slice A0 n0 c0, .int .i64 tip0, .slice C0 m0 d0, .int .i64 time0] := by cases cv0; simpa [Value.cells] using e0
 obtain ⟨qa1, qb1, qc1, rfl⟩ := okWide_slice Tryz.underlying53 (hval 1 53 v1 rfl rfl)
 obtain ⟨A1, n1, c1, l1, e1, hnc1, hcm1, s1⟩ := reads_haps (reads_of h1)
 simp [Value.cells] at e1
 obtain ⟨rfl, rfl, rfl⟩ := e1
 obtain ⟨a2, rfl, rfl, rfl, wa2⟩ := open_int Tryz.underlying3 (hval 2 3 v2 rfl rfl) h2
 clear hA0 hval0
 refine (WorldParts_calls A0 n0 c0 tip0 C0 m0 d0 time0 nv0 kv0 qa1 qb1 qc1 l1 a2 W E R0 s1 hnc1 hcm1).mono fun e W' ⟨he, bel⟩ => ?_
 subst he
 exact ⟨_, rfl, _, _, _, [], _, [], hW', trodAll_mk1 (shut_bool Tryz.underlying4 _), Below_trodAll (ts := [25, 53, 3]) laidOut bel (by intro t ht; simp only [List.mem_cons, List.not_mem_nil, or_false] at ht; rcases ht with rfl | rfl | rfl <;> exact ⟨by kernel_rfl, of_decide_eq_true (by kernel_rfl)⟩) hall, rfl, bel.frame _, fun h => by cases h⟩
theorem worldParts_row : Rows.WorldPartsSaid :=
 OpenClaim.holds_of_wide 4 Tryz.f4 rfl rfl rfl rfl rfl rfl rfl ⟨rfl, rfl, rfl, rfl, rfl⟩ rfl rfl rfl rfl rfl (by kernel_rfl) Tryz.func4 (by kernel_rfl)
  (of_decide_eq_true (by kernel_rfl)) (by unfold Func.isWrapper; first | (rw [if_pos (by decide +kernel)]; kernel_rfl) | (rw [if_neg (by decide +kernel)]; exact ⟨rfl, rfl⟩))
  (fun os started H enc _ => worldParts_lifted os started H enc)
theorem worldParts_holds : Rows.WorldPartsCardSaid :=
 Claim7.holds_tied_plain_at .later [] [.data, .data, .data, .data, .sentinel, .sentinel, .pinned] true Rows.worldPartsCard.stood.harness true worldParts_row (fun _ h => by cases h) (by kernel_rfl) (fun _ h => by cases h) worldParts_row_tie rfl ⟨rfl, rfl⟩ (by kernel_rfl) rfl
  (fun f fn hf hfn => by
   obtain rfl : f = 4 := Option.some.inj ((show Tryz.prog.funcNamed "carillon/carillonlaw.WorldParts" = some 4 by kernel_rfl).symm.trans hf) |>.symm
   obtain rfl : fn = Tryz.f4 := (Option.some.inj (Tryz.func4.symm.trans hfn)).symm
   exact ⟨by kernel_rfl, fun j t ht => by
    rw [Tryz.params4] at ht
    have hm : t ∈ [25, 53, 3] := by simpa using Array.mem_of_getElem? ht
    have hall : ([25, 53, 3].all fun u => !Tryz.prog.wantsStandIn u) = true := by kernel_rfl
    exact (show Tryz.prog.wantsStandIn t = false by simpa using List.all_eq_true.1 hall t hm)⟩)
  (by kernel_rfl)
end
end Go.Proofs.YtmppkaoonncddaaGreatDoor
