/- The law WorldDeaf. No condition beyond the listed variables, which the card ties. -/
/- Part 17 of the proof: WDeaf, WDeafL. -/
import Derived.Test.YtmppkaoonncddaaGreatDoorBa15
import Derived.Test.YtmppkaoonncddaaGreatDoorBa16
import Derived.Test.YtmppkaoonncddaaGreatDoorBa09
import Derived.Test.YtmppkaoonncddaaGreatDoorBa04
import Derived.Test.YtmppkaoonncddaaGreatDoorCards
import Derived.Test.YtmppkaoonncddaaGreatDoorTie
import Derived.SevenTiedAt
namespace Go.Proofs.YtmppkaoonncddaaGreatDoor
section
set_option linter.unusedSimpArgs false
set_option linter.unusedVariables false
open Go.RowKit
attribute [local go_sem ↓] Go.wp_at_zero Go.wp_at_succ
set_option maxHeartbeats 8000000 in
set_option maxRecDepth 100000 in
theorem WorldDeaf_calls (A : Option Addr) (n c : Nat) (tip : Int) (C : Option Addr) (m d : Nat) (time : Int) (ns : List NV) (cs : List CV) (k0 : Int) (w : World) (E : Env w) (R : WR w A n C m ns cs) :
    Calls Tryz.prog 6 #[.agg #[.slice A n c, .int .i64 tip, .slice C m d, .int .i64 time], .int .i64 k0] w fun e w' => e = .returned (.bool true) ∧ Onto w w' := by
 obtain ⟨i, hi, hi3⟩ : ∃ i : Nat, k0 % 3 = (i : Int) ∧ i < 3 := ⟨(k0 % 3).toNat, by omega, by omega⟩
 obtain ⟨qx, hqx⟩ : ∃ q, q = doW (wor ns tip cs time) ⟨4, i, 0, 0, 0, zeroE⟩ := ⟨_, rfl⟩
 obtain ⟨qy, hqy⟩ : ∃ q, q = doW (wor ns tip cs time) ⟨5, i, 0, 0, 0, zeroE⟩ := ⟨_, rfl⟩
 have HI := Lib.hid hi; have HX := Lib.hid hqx; have HY := Lib.hid hqy
 clear hi hqx hqy
 go_enter Tryz.func6, Tryz.ntmps6
 go_upto_region 1 with fail
 have ob := (Onto.rfl' w).new (Obj.cells #[.slice A n c, .int .i64 tip, .slice C m d, .int .i64 time] 25)
 have BX : Bx (w.alloc (Obj.cells #[.slice A n c, .int .i64 tip, .slice C m d, .int .i64 time] 25)) w.heap.size [.slice A n c, .int .i64 tip, .slice C m d, .int .i64 time] := Bx.made _ _ _
 have on := ob
 clear ob
 try change Code.wp _ _ _ _ (w.alloc (Obj.cells #[.slice A n c, .int .i64 tip, .slice C m d, .int .i64 time] 25))
 generalize (w.alloc (Obj.cells #[.slice A n c, .int .i64 tip, .slice C m d, .int .i64 time] 25)) = v1 at *
 generalize w.heap.size = zx at *
 replace R := R.onto on
 go_wp2_with fail
 refine Calls.mono (at_calls k0 3 _ (by omega) (by omega)) ?_
 rw [HI.out]
 rintro e w' ⟨rfl, rfl⟩
 have x0 := BX.at_ 0 rfl; have x1 := BX.at_ 1 rfl; have x2 := BX.at_ 2 rfl; have x3 := BX.at_ 3 rfl
 go_wp2_with fail
 refine Calls.mono (WDo_calls A n c tip C m d time ns cs 4 i 0 0 0 zeroE _ (E.onto on) R) ?_
 rw [← HX.out]
 rintro e v2 ⟨A1, n1, c1, C1, m1, d1, ns1, cs1, rfl, R1, e1, e2, b⟩
 replace on := on.to b
 replace BX := BX.onto b
 replace R := R.onto b
 clear b
 clear x0 x1 x2 x3
 obtain ⟨tp1, htp⟩ : ∃ t, t = qx.1.tip := ⟨_, rfl⟩
 obtain ⟨tm1, htm⟩ : ∃ t, t = qx.1.time := ⟨_, rfl⟩
 rw [← htp, ← htm]
 have hw : wor ns1 tp1 cs1 tm1 = qx.1 := by rw [htp, htm]; exact wor_of e1 e2
 have HW1 := Lib.hid hw
 clear htp htm hw e1 e2
 go_upto_region 3 with fail
 have ob := (Onto.rfl' v2).new (Obj.cells #[.slice A1 n1 c1, .int .i64 tp1, .slice C1 m1 d1, .int .i64 tm1] 25)
 have BA : Bx (v2.alloc (Obj.cells #[.slice A1 n1 c1, .int .i64 tp1, .slice C1 m1 d1, .int .i64 tm1] 25)) v2.heap.size [.slice A1 n1 c1, .int .i64 tp1, .slice C1 m1 d1, .int .i64 tm1] := Bx.made _ _ _
 replace on := on.to ob
 replace BX := BX.onto ob
 replace R := R.onto ob
 replace R1 := R1.onto ob
 clear ob
 try change Code.wp _ _ _ _ (v2.alloc (Obj.cells #[.slice A1 n1 c1, .int .i64 tp1, .slice C1 m1 d1, .int .i64 tm1] 25))
 generalize (v2.alloc (Obj.cells #[.slice A1 n1 c1, .int .i64 tp1, .slice C1 m1 d1, .int .i64 tm1] 25)) = v3 at *
 generalize v2.heap.size = za at *
 have x0 := BX.at_ 0 rfl; have x1 := BX.at_ 1 rfl; have x2 := BX.at_ 2 rfl; have x3 := BX.at_ 3 rfl
 go_wp2_with fail
 refine Calls.mono (WDo_calls A n c tip C m d time ns cs 5 i 0 0 0 zeroE _ (E.onto on) R) ?_
 rw [← HY.out]
 rintro e v4 ⟨A2, n2, c2, C2, m2, d2, ns2, cs2, rfl, R2, e1, e2, b⟩
 replace on := on.to b
 replace BX := BX.onto b
 replace BA := BA.onto b
 replace R := R.onto b
 replace R1 := R1.onto b
 clear b
 clear x0 x1 x2 x3
 obtain ⟨tp2, htp⟩ : ∃ t, t = qy.1.tip := ⟨_, rfl⟩
 obtain ⟨tm2, htm⟩ : ∃ t, t = qy.1.time := ⟨_, rfl⟩
 rw [← htp, ← htm]
 have hw : wor ns2 tp2 cs2 tm2 = qy.1 := by rw [htp, htm]; exact wor_of e1 e2
 have HW2 := Lib.hid hw
 clear htp htm hw e1 e2
 go_upto_region 4 with fail
 have ob := (Onto.rfl' v4).new (Obj.cells #[.slice A2 n2 c2, .int .i64 tp2, .slice C2 m2 d2, .int .i64 tm2] 25)
 have BB : Bx (v4.alloc (Obj.cells #[.slice A2 n2 c2, .int .i64 tp2, .slice C2 m2 d2, .int .i64 tm2] 25)) v4.heap.size [.slice A2 n2 c2, .int .i64 tp2, .slice C2 m2 d2, .int .i64 tm2] := Bx.made _ _ _
 replace on := on.to ob
 replace BX := BX.onto ob
 replace BA := BA.onto ob
 replace R := R.onto ob
 replace R1 := R1.onto ob
 replace R2 := R2.onto ob
 clear ob
 try change Code.wp _ _ _ _ (v4.alloc (Obj.cells #[.slice A2 n2 c2, .int .i64 tp2, .slice C2 m2 d2, .int .i64 tm2] 25))
 generalize (v4.alloc (Obj.cells #[.slice A2 n2 c2, .int .i64 tp2, .slice C2 m2 d2, .int .i64 tm2] 25)) = v5 at *
 generalize v4.heap.size = zb at *
 go_wp2_with fail
 refine Calls.mono (tolled_calls _ (E.onto on)) ?_
 rintro e v6 ⟨rfl, b⟩
 replace on := on.to b
 replace BX := BX.onto b
 replace BA := BA.onto b
 replace BB := BB.onto b
 replace R := R.onto b
 replace R1 := R1.onto b
 replace R2 := R2.onto b
 clear b
 by_cases h0 : qx.2 = 0
 · have hd : (qx.2 != 0) = false := by simp [h0]
   obtain ⟨hg, hx0, hx1, hg1⟩ := doW_ok (w := wor ns tip cs time) (x := ⟨4, i, 0, 0, 0, zeroE⟩) (by rw [← HX.out]; exact h0)
   rw [← HX.out] at hx1 hg1
   obtain ⟨hd1, hd2⟩ := deaf_law (x := ⟨4, i, 0, 0, 0, zeroE⟩) (y := ⟨5, i, 0, 0, 0, zeroE⟩) hg hi3 rfl rfl rfl rfl
   obtain ⟨hd3, hd4, hd5⟩ := hd2 hx0
   have hy0 : (happenW (wor ns tip cs time) ⟨5, i, 0, 0, 0, zeroE⟩).2 = 0 := by rw [hd1]; exact hx0
   have hy1 : qy = ((happenW (wor ns tip cs time) ⟨5, i, 0, 0, 0, zeroE⟩).1, 0) := by rw [HY.out, doW_of hg hy0]
   have hgy : GoodW qy.1 := by rw [hy1]; exact hg.happen hy0
   have hcl : cliAt qy.1.c i = cliAt (clis cs) i := by rw [hy1]; exact hd3
   have hn : qy.1.n = qx.1.n := by rw [hy1, hx1]; exact hd4
   have hz : doW qy.1 ⟨4, i, 0, 0, 0, zeroE⟩ = (qx.1, 0) := by
    have := hd5
    rw [← hx1, show (happenW (wor ns tip cs time) ⟨5, i, 0, 0, 0, zeroE⟩).1 = qy.1 by rw [hy1]] at this
    rw [doW_of hgy (by rw [this]), this]
   have hy2 : qy.2 = 0 := by rw [hy1]
   have hdy : (qy.2 != 0) = false := by simp [hy2]
   rw [← HW1.out] at hg1
   have hgy2 : GoodW (wor ns2 tp2 cs2 tm2) := by rw [HW2.out]; exact hgy
   obtain ⟨rfl, rfl, hs0⟩ := small_of R hg
   obtain ⟨rfl, rfl, hs1⟩ := small_of R1 hg1
   obtain ⟨rfl, rfl, hs2⟩ := small_of R2 hgy2
   have HG1 := Lib.hid hg1; have HGY := Lib.hid hgy2; have HCL := Lib.hid hcl; have HN := Lib.hid hn; have HZ := Lib.hid hz; have HS0 := Lib.hid hs0; have HS1 := Lib.hid hs1; have HS2 := Lib.hid hs2
   clear hg hx0 hx1 hg1 hd1 hd2 hd3 hd4 hd5 hy0 hy1 hgy hcl hn hz hgy2 hs0 hs1 hs2
   go_upto_region 6 with fail
   obtain ⟨ba, oa, u, rfl, _, hu, vi, a0, a1, a2, a3, a4, a5, a6, a7, a8, a9, a10, a11⟩ := R.atC hi3
   obtain ⟨bb, ob, u2, rfl, _, hu2, vi2, b0, b1, b2, b3, b4, b5, b6, b7, b8, b9, b10, b11⟩ := R2.atC hi3
   have huu : u2.x = u.x := by rw [← cliAt_cs hu2, ← cliAt_cs hu, ← HCL.out, ← HW2.out]
   have hsu := HS0.out.c u (List.mem_of_getElem? hu)
   have HUU := Lib.hid huu
   have hi3' : (i : Int) < 3 := by omega
   have q1 := fun (y : World) => ClSame_calls u.x.epoch u.x.doing u.x.at_ u.x.link u.x.played u2.x.epoch u2.x.doing u2.x.at_ u2.x.link u2.x.played u.x.e u2.x.e u.A u.G u2.A u2.G u.n u.c u.m u.d u2.n u2.c u2.m u2.d u.x.b u2.x.b (ontoW v6 y) (vi.jobs.onto (onto_on v6 y)) (vi.rung.onto (onto_on v6 y)) (vi2.jobs.onto (onto_on v6 y)) (vi2.rung.onto (onto_on v6 y)) (by omega) (by omega)
   have Q1 := Lib.hid q1
   have hsame : (decide ((⟨u.x.epoch, u.x.doing, u.x.e, u.x.at_, u.x.link, u.x.played, u.x.b⟩ : Cli) = ⟨u2.x.epoch, u2.x.doing, u2.x.e, u2.x.at_, u2.x.link, u2.x.played, u2.x.b⟩)) = true := decide_eq_true (by rw [huu])
   have HSM := Lib.hid hsame
   clear q1 hsame huu hu hu2 vi vi2 hsu
   replace a0 := onto_cell a0; replace b0 := onto_cell b0; replace a1 := onto_cell a1; replace b1 := onto_cell b1; replace a2 := onto_cell a2; replace b2 := onto_cell b2; replace a3 := onto_cell a3; replace b3 := onto_cell b3; replace a4 := onto_cell a4; replace b4 := onto_cell b4; replace a5 := onto_cell a5; replace b5 := onto_cell b5; replace a6 := onto_cell a6; replace b6 := onto_cell b6; replace a7 := onto_cell a7; replace b7 := onto_cell b7; replace a8 := onto_cell a8; replace b8 := onto_cell b8; replace a9 := onto_cell a9; replace b9 := onto_cell b9; replace a10 := onto_cell a10; replace b10 := onto_cell b10; replace a11 := onto_cell a11; replace b11 := onto_cell b11
   have x2 := onto_cell (BX.at_ 2 rfl); have y2 := onto_cell (BB.at_ 2 rfl)
   refine wp_region_onto (by kernel_rfl) (by kernel_rfl) ?_
   repeat (go_big_quiet_step ((go_at_call 16; exact calls_onto' (u := .bool true) (by with_reducible exact Q1.out _) (by rw [HSM.out]))))
   refine wpQuiet_nil ?_
   intro w7 bz
   replace on := on.to bz
   replace BX := BX.onto bz
   replace BA := BA.onto bz
   replace BB := BB.onto bz
   replace R := R.onto bz
   replace R1 := R1.onto bz
   replace R2 := R2.onto bz
   clear bz x2 y2 Q1 HSM a0 b0 a1 b1 a2 b2 a3 b3 a4 b4 a5 b5 a6 b6 a7 b7 a8 b8 a9 b9 a10 b10 a11 b11
   have x0 := BA.at_ 0 rfl
   go_wp2_with fail
   have hon : Onto w w7 := on
   go_loopg [58] 3 (fun g s58 wr => ∃ k : Nat, k ≤ 3 ∧ 3 - k ≤ g ∧ s58 = .int .i64 k ∧ Onto w7 wr)
   case atStart => exact ⟨0, by omega, by omega, rfl, Onto.rfl' _⟩
   case round =>
    obtain ⟨k, hk, hg, rfl, b⟩ := hrel
    have bw : Onto w7 wr := b
    replace on := on.to b
    replace BX := BX.onto b
    replace BA := BA.onto b
    replace BB := BB.onto b
    replace R := R.onto b
    replace R1 := R1.onto b
    replace R2 := R2.onto b
    clear b x0
    by_cases hlt : k < 3
    · have hk3 : (k : Int) < 3 := by omega
      go_upto_region 11 with fail
      obtain ⟨bp, op, u, hp1, _, hu, vi, a0, a1, a2, a3, a4⟩ := R1.atN hlt
      obtain ⟨bq, oq, u2, hp2, _, hu2, vi2, b0, b1, b2, b3, b4⟩ := R2.atN hlt
      have huu : u2.x = u.x := by rw [← nodAt_ns hu2, ← nodAt_ns hu, show nods ns2 = qy.1.n by rw [← HW2.out], HN.out, ← HW1.out]
      have HUU := Lib.hid huu
      have q1 := fun (y : World) => USame_calls u.x.u.ep u2.x.u.ep u.A u2.A u.n u.c u2.n u2.c u.x.u.cells u2.x.u.cells (ontoW wr y) (vi.cells.onto (onto_on wr y)) (vi2.cells.onto (onto_on wr y)) vi.small
      have q2 := fun (y : World) => DSame_calls u.F u.G u.k u.i u.l u.j u.x.d u2.F u2.G u2.k u2.i u2.l u2.j u2.x.d (ontoW wr y) (vi.disk.onto (onto_on wr y)) (vi2.disk.onto (onto_on wr y))
      have Q1 := Lib.hid q1; have Q2 := Lib.hid q2
      have h1 : (decide ((⟨u.x.u.ep, u.x.u.cells⟩ : Uni) = ⟨u2.x.u.ep, u2.x.u.cells⟩)) = true := decide_eq_true (by rw [huu])
      have h2 : (decide (u.x.d = u2.x.d)) = true := decide_eq_true (by rw [huu])
      have H1 := Lib.hid h1; have H2 := Lib.hid h2
      clear q1 q2 h1 h2 huu hu hu2 vi vi2
      have x0 := onto_cell (BA.at_ 0 rfl); have y0 := onto_cell (BB.at_ 0 rfl)
      rw [hp1] at x0; rw [hp2] at y0
      replace a0 := onto_cell a0; replace b0 := onto_cell b0; replace a1 := onto_cell a1; replace b1 := onto_cell b1; replace a2 := onto_cell a2; replace b2 := onto_cell b2; replace a3 := onto_cell a3; replace b3 := onto_cell b3; replace a4 := onto_cell a4; replace b4 := onto_cell b4
      refine wp_region_onto (by kernel_rfl) (by kernel_rfl) ?_
      repeat (go_big_quiet_step (first | (go_at_call 17; exact calls_onto' (u := .bool true) (by with_reducible exact Q1.out _) (by rw [H1.out])) | (go_at_call 18; exact calls_onto' (u := .bool true) (by with_reducible exact Q2.out _) (by rw [H2.out]))))
      refine wpQuiet_nil ?_
      intro w8 b8
      have on8 := Onto.to bw b8
      clear b8 x0 y0 Q1 Q2 H1 H2 a0 a1 a2 a3 a4 b0 b1 b2 b3 b4
      go_wp2_with fail
      go_roundg (3 - (k + 1))
      case measure => omega
      case rel => exact ⟨k + 1, by omega, Nat.le_refl _, by go_num, on8⟩
    · obtain rfl : k = 3 := by omega
      have x0 := BB.at_ 0 rfl; have x1 := BB.at_ 1 rfl; have x2 := BB.at_ 2 rfl; have x3 := BB.at_ 3 rfl
      go_wp2_with fail
      refine Calls.mono (WDo_calls A2 3 c2 tp2 (some ⟨bb, ob, none⟩) 3 d2 tm2 ns2 cs2 4 i 0 0 0 zeroE _ (E.onto on) R2) ?_
      rw [HW2.out, HZ.out]
      rintro e v7 ⟨A3, n3, c3, C3, m3, d3, ns3, cs3, rfl, R3, e1, e2, b⟩
      replace on := on.to b
      replace BX := BX.onto b
      replace BA := BA.onto b
      replace BB := BB.onto b
      replace R := R.onto b
      replace R1 := R1.onto b
      replace R2 := R2.onto b
      clear b
      clear x0 x1 x2 x3
      dsimp only at e1 e2
      have hw3 : wor ns3 qx.1.tip cs3 qx.1.time = qx.1 := wor_of e1 e2
      have hg3 : GoodW (wor ns3 qx.1.tip cs3 qx.1.time) := by rw [hw3, ← HW1.out]; exact HG1.out
      have HW3 := Lib.hid hw3; have HG3 := Lib.hid hg3
      clear hw3 hg3 e1 e2
      go_upto_region 15 with fail
      have ob := (Onto.rfl' v7).new (Obj.cells #[.slice A3 n3 c3, .int .i64 qx.1.tip, .slice C3 m3 d3, .int .i64 qx.1.time] 25)
      have BC : Bx (v7.alloc (Obj.cells #[.slice A3 n3 c3, .int .i64 qx.1.tip, .slice C3 m3 d3, .int .i64 qx.1.time] 25)) v7.heap.size [.slice A3 n3 c3, .int .i64 qx.1.tip, .slice C3 m3 d3, .int .i64 qx.1.time] := Bx.made _ _ _
      replace on := on.to ob
      replace BX := BX.onto ob
      replace BA := BA.onto ob
      replace BB := BB.onto ob
      replace R := R.onto ob
      replace R1 := R1.onto ob
      replace R2 := R2.onto ob
      replace R3 := R3.onto ob
      clear ob
      try change Code.wp _ _ _ _ (v7.alloc (Obj.cells #[.slice A3 n3 c3, .int .i64 qx.1.tip, .slice C3 m3 d3, .int .i64 qx.1.time] 25))
      generalize (v7.alloc (Obj.cells #[.slice A3 n3 c3, .int .i64 qx.1.tip, .slice C3 m3 d3, .int .i64 qx.1.time] 25)) = v8 at *
      generalize v7.heap.size = zc at *
      have z0 := BC.at_ 0 rfl; have z1 := BC.at_ 1 rfl; have z2 := BC.at_ 2 rfl; have z3 := BC.at_ 3 rfl
      have x0 := BA.at_ 0 rfl; have x1 := BA.at_ 1 rfl; have x2 := BA.at_ 2 rfl; have x3 := BA.at_ 3 rfl
      go_wp2_with fail
      refine Calls.mono (WSameG_calls A3 A1 n3 c3 3 c1 qx.1.tip tp1 C3 C1 m3 d3 3 d1 qx.1.time tm1 ns3 ns1 cs3 cs1 _ R3 R1 HG3.out) ?_
      rw [HW3.out, HW1.out]
      rintro e v9 ⟨rfl, b⟩
      replace on := on.to b
      replace BX := BX.onto b
      replace BA := BA.onto b
      replace BB := BB.onto b
      replace BC := BC.onto b
      replace R := R.onto b
      replace R1 := R1.onto b
      replace R2 := R2.onto b
      replace R3 := R3.onto b
      clear b
      go_wp2_with fail
      go_ret
      exact ⟨ret_bool (by simp), on⟩
 · have hd : (qx.2 != 0) = true := by simpa using h0
   have hyx : qy.2 = qx.2 := by
    by_cases hc : checkW (wor ns tip cs time) = 0
    · have hg := checkW_iff.1 hc
      rw [HX.out, HY.out, doW_bad hg, doW_bad hg]
      exact (deaf_law (x := ⟨4, i, 0, 0, 0, zeroE⟩) (y := ⟨5, i, 0, 0, 0, zeroE⟩) hg hi3 rfl rfl rfl rfl).1
    · rw [HX.out, HY.out]
      unfold doW
      rw [if_pos hc, if_pos hc]
   rw [hyx]
   clear hyx h0
   go_wp2_with fail
   refine Calls.mono (tolled_calls _ (E.onto on)) ?_
   rintro e v7 ⟨rfl, b⟩
   replace on := on.to b
   replace BX := BX.onto b
   replace BA := BA.onto b
   replace BB := BB.onto b
   replace R := R.onto b
   replace R1 := R1.onto b
   replace R2 := R2.onto b
   clear b
   go_wp2_with fail
   go_ret
   exact ⟨ret_bool (by simp), on⟩
end
section
set_option linter.unusedSimpArgs false
set_option linter.unusedVariables false
open Go.RowKit Go.ChangeShapes Go.WideShapes Go.ChangeAt
set_option maxRecDepth 100000 in
theorem worldDeaf_lifted (os : Os) (started : os.Started) (H : Type) (enc : TypeId × Value → H) :
    ReturnsInHanded {} Tryz.checked os 6 .any (fun w args => (Rows.worldDeafSpec.pre enc Tryz.prog Tryz.f6 Rows.worldDeafRow.domain false w args ∧ laidMetH Tryz.prog Rows.worldDeafRow.laid w) ∧ sizedMet enc Tryz.prog Tryz.f6 (OpenSpec.ofChange Rows.worldDeafSpec) false w args)
     (Rows.worldDeafSpec.post enc Tryz.prog Tryz.f6 false true false false) := by
 refine handed_shaped (C := Tryz.checked) (X := fun w _ => laidMetH Tryz.prog Rows.worldDeafRow.laid w) (fun _ _ _ hh h => h.of_heap hh) own started (by kernel_rfl) Tryz.func6
  (ChangeSpec.witness_shaped (enc := enc) (C := Tryz.checked) (os := os) (X := fun w _ => laidMetH Tryz.prog Rows.worldDeafRow.laid w) false (World.laidAll Tryz.prog os Rows.worldDeafRow.laid) #[.agg #[.slice none 0 0, .int .i64 0, .slice none 0 0, .int .i64 0], .int .i64 0] 8 (World.laidAll_os _ _ _)
   (World.shaped_of_ZipB (by kernel_rfl) (by kernel_rfl)) (by kernel_rfl) (by kernel_rfl) (by kernel_rfl)
   (by rw [MakeChecks.laidMetH_plain _ _ _ (by kernel_rfl)]; exact laidMet_laidAll _ (by kernel_rfl) (by kernel_rfl))) ?_
 intro W base args ds gs before hval0 hW hsz0 hL hS
 rw [MakeChecks.laidMetH_plain _ _ _ (by kernel_rfl)] at hL
 have E : Env W := env_of hL hS
 clear hL hS
 have hval : ∀ (j : Nat) t v, Tryz.f6.params[j]? = some t → args[j]? = some v → Value.okWide Tryz.prog W .any base t v := hval0
 have hW' := hW
 obtain ⟨p, q, hA0, hV, rfl, hfz, hnd⟩ := hW
 have hA : DataW.TrodAll enc Tryz.prog W 0 (fun _ => true) true Tryz.f6.params.toList args.toList ds p := hA0
 rw [Tryz.params6] at hA hval
 obtain ⟨v0, vs0, d0, ds0, p0, q0, hargs, rfl, rfl, h0, r0⟩ := trodAll_cons hA
 obtain ⟨v1, vs1, d1, ds1, p1, q1, rfl, rfl, rfl, h1, r1⟩ := trodAll_cons r0
 obtain ⟨rfl, rfl, rfl⟩ := trodAll_nil r1
 obtain rfl : args = #[v0, v1] := by cases args; simp_all
 obtain ⟨rfl, rfl⟩ := trodVars_none hV
 have hall := hA
 obtain ⟨cv0, rfl, _⟩ := okWide_struct Tryz.underlying25 (hval 0 25 v0 rfl rfl)
 obtain ⟨A0, n0, c0, tip0, C0, m0, d0, time0, nv0, kv0, e0, _, _, _, _, R0⟩ := reads_world (reads_of h0)
 obtain rfl : cv0 = #[.slice A0 n0 c0, .int .i64 tip0, .slice C0 m0 d0, .int .i64 time0] := by cases cv0; simpa [Value.cells] using e0
 obtain ⟨a1, rfl, rfl, rfl, wa1⟩ := open_int Tryz.underlying3 (hval 1 3 v1 rfl rfl) h1
 clear hA0 hval0
 refine (WorldDeaf_calls A0 n0 c0 tip0 C0 m0 d0 time0 nv0 kv0 a1 W E R0).mono fun e W' ⟨he, bel⟩ => ?_
 subst he
 exact ⟨_, rfl, _, _, _, [], _, [], hW', trodAll_mk1 (shut_bool Tryz.underlying4 _), Below_trodAll (ts := [25, 3]) laidOut bel (by intro t ht; simp only [List.mem_cons, List.not_mem_nil, or_false] at ht; rcases ht with rfl | rfl <;> exact ⟨by kernel_rfl, of_decide_eq_true (by kernel_rfl)⟩) hall, rfl, bel.frame _, fun h => by cases h⟩
theorem worldDeaf_row : Rows.WorldDeafSaid :=
 OpenClaim.holds_of_wide 6 Tryz.f6 rfl rfl rfl rfl rfl rfl rfl ⟨rfl, rfl, rfl, rfl, rfl⟩ rfl rfl rfl rfl rfl (by kernel_rfl) Tryz.func6 (by kernel_rfl)
  (of_decide_eq_true (by kernel_rfl)) (by unfold Func.isWrapper; first | (rw [if_pos (by decide +kernel)]; kernel_rfl) | (rw [if_neg (by decide +kernel)]; exact ⟨rfl, rfl⟩))
  (fun os started H enc _ => worldDeaf_lifted os started H enc)
theorem worldDeaf_holds : Rows.WorldDeafCardSaid :=
 Claim7.holds_tied_plain_at .later [] [.data, .data, .data, .data, .sentinel, .sentinel, .pinned] true Rows.worldDeafCard.stood.harness true worldDeaf_row (fun _ h => by cases h) (by kernel_rfl) (fun _ h => by cases h) worldDeaf_row_tie rfl ⟨rfl, rfl⟩ (by kernel_rfl) rfl
  (fun f fn hf hfn => by
   obtain rfl : f = 6 := Option.some.inj ((show Tryz.prog.funcNamed "carillon/carillonlaw.WorldDeaf" = some 6 by kernel_rfl).symm.trans hf) |>.symm
   obtain rfl : fn = Tryz.f6 := (Option.some.inj (Tryz.func6.symm.trans hfn)).symm
   exact ⟨by kernel_rfl, fun j t ht => by
    rw [Tryz.params6] at ht
    have hm : t ∈ [25, 3] := by simpa using Array.mem_of_getElem? ht
    have hall : ([25, 3].all fun u => !Tryz.prog.wantsStandIn u) = true := by kernel_rfl
    exact (show Tryz.prog.wantsStandIn t = false by simpa using List.all_eq_true.1 hall t hm)⟩)
  (by kernel_rfl)
end
end Go.Proofs.YtmppkaoonncddaaGreatDoor
