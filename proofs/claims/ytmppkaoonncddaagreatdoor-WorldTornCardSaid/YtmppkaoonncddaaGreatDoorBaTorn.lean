/- The law WorldTorn. No condition beyond the listed variables, which the card ties. -/
/- Part 17 of the proof: WTorn, WTornL. -/
import Derived.Test.YtmppkaoonncddaaGreatDoorBa15
import Derived.Test.YtmppkaoonncddaaGreatDoorBa16
import Derived.Test.YtmppkaoonncddaaGreatDoorBa09
import Derived.Test.YtmppkaoonncddaaGreatDoorBa04
import Derived.Test.YtmppkaoonncddaaGreatDoorCards
import Derived.Test.YtmppkaoonncddaaGreatDoorTie
import Derived.SevenTiedAt
namespace Go.Proofs.YtmppkaoonncddaaGreatDoor
section
set_option linter.unusedSimpArgs false
set_option linter.unusedVariables false
open Go.RowKit
attribute [local go_sem ↓] Go.wp_at_zero Go.wp_at_succ
set_option maxHeartbeats 8000000 in
set_option maxRecDepth 100000 in
theorem WorldTorn_calls (A : Option Addr) (n c : Nat) (tip : Int) (C : Option Addr) (m d : Nat) (time : Int) (ns : List NV) (cs : List CV) (k0 n0 : Int) (w : World) (E : Env w) (R : WR w A n C m ns cs) :
    Calls Tryz.prog 7 #[.agg #[.slice A n c, .int .i64 tip, .slice C m d, .int .i64 time], .int .i64 k0, .int .i64 n0] w fun e w' => e = .returned (.bool true) ∧ Onto w w' := by
 obtain ⟨i, hi, hi3⟩ : ∃ i : Nat, k0 % 3 = (i : Int) ∧ i < 3 := ⟨(k0 % 3).toNat, by omega, by omega⟩
 obtain ⟨qx, hqx⟩ : ∃ q, q = doW (wor ns tip cs time) ⟨15, i, n0, 0, 0, zeroE⟩ := ⟨_, rfl⟩
 have HI := Lib.hid hi; have HX := Lib.hid hqx
 clear hi hqx
 go_enter Tryz.func7, Tryz.ntmps7
 go_upto_region 1 with fail
 have ob := (Onto.rfl' w).new (Obj.cells #[.slice A n c, .int .i64 tip, .slice C m d, .int .i64 time] 25)
 have BX : Bx (w.alloc (Obj.cells #[.slice A n c, .int .i64 tip, .slice C m d, .int .i64 time] 25)) w.heap.size [.slice A n c, .int .i64 tip, .slice C m d, .int .i64 time] := Bx.made _ _ _
 have on := ob
 clear ob
 try change Code.wp _ _ _ _ (w.alloc (Obj.cells #[.slice A n c, .int .i64 tip, .slice C m d, .int .i64 time] 25))
 generalize (w.alloc (Obj.cells #[.slice A n c, .int .i64 tip, .slice C m d, .int .i64 time] 25)) = v1 at *
 generalize w.heap.size = zx at *
 replace R := R.onto on
 go_wp2_with fail
 refine Calls.mono (at_calls k0 3 _ (by omega) (by omega)) ?_
 rw [HI.out]
 rintro e w' ⟨rfl, rfl⟩
 have x0 := BX.at_ 0 rfl; have x1 := BX.at_ 1 rfl; have x2 := BX.at_ 2 rfl; have x3 := BX.at_ 3 rfl
 go_wp2_with fail
 refine Calls.mono (WDo_calls A n c tip C m d time ns cs 15 i n0 0 0 zeroE _ (E.onto on) R) ?_
 rw [← HX.out]
 rintro e v2 ⟨A1, n1, c1, C1, m1, d1, ns1, cs1, rfl, R1, e1, e2, b⟩
 replace on := on.to b
 replace BX := BX.onto b
 replace R := R.onto b
 clear b
 clear x0 x1 x2 x3
 obtain ⟨tp1, htp⟩ : ∃ t, t = qx.1.tip := ⟨_, rfl⟩
 obtain ⟨tm1, htm⟩ : ∃ t, t = qx.1.time := ⟨_, rfl⟩
 rw [← htp, ← htm]
 have hw : wor ns1 tp1 cs1 tm1 = qx.1 := by rw [htp, htm]; exact wor_of e1 e2
 have HW1 := Lib.hid hw
 clear htp htm hw e1 e2
 go_upto_region 3 with fail
 have ob := (Onto.rfl' v2).new (Obj.cells #[.slice A1 n1 c1, .int .i64 tp1, .slice C1 m1 d1, .int .i64 tm1] 25)
 have BA : Bx (v2.alloc (Obj.cells #[.slice A1 n1 c1, .int .i64 tp1, .slice C1 m1 d1, .int .i64 tm1] 25)) v2.heap.size [.slice A1 n1 c1, .int .i64 tp1, .slice C1 m1 d1, .int .i64 tm1] := Bx.made _ _ _
 replace on := on.to ob
 replace BX := BX.onto ob
 replace R := R.onto ob
 replace R1 := R1.onto ob
 clear ob
 try change Code.wp _ _ _ _ (v2.alloc (Obj.cells #[.slice A1 n1 c1, .int .i64 tp1, .slice C1 m1 d1, .int .i64 tm1] 25))
 generalize (v2.alloc (Obj.cells #[.slice A1 n1 c1, .int .i64 tp1, .slice C1 m1 d1, .int .i64 tm1] 25)) = v3 at *
 generalize v2.heap.size = za at *
 go_wp2_with fail
 refine Calls.mono (tolled_calls _ (E.onto on)) ?_
 rintro e v4 ⟨rfl, b⟩
 replace on := on.to b
 replace BX := BX.onto b
 replace BA := BA.onto b
 replace R := R.onto b
 replace R1 := R1.onto b
 clear b
 by_cases h0 : qx.2 = 0
 · have hd : (qx.2 != 0) = false := by simp [h0]
   obtain ⟨hg, hx0, hx1, hg1⟩ := doW_ok (w := wor ns tip cs time) (x := ⟨15, i, n0, 0, 0, zeroE⟩) (by rw [← HX.out]; exact h0)
   rw [← HX.out] at hx1 hg1
   obtain ⟨k, hk3, hlk, t1, t2, t3, t4⟩ := torn_law (x := ⟨15, i, n0, 0, 0, zeroE⟩) hg hi3 rfl rfl hx0
   obtain ⟨t5, t6, t7⟩ := t4 ⟨13, 0, k, 0, 0, zeroE⟩ ⟨5, i, 0, 0, 0, zeroE⟩ rfl rfl rfl rfl
   rw [← hx1] at t1 t2 t3 t5 t6 t7
   obtain ⟨qy, hqy⟩ : ∃ q, q = doW qx.1 ⟨13, 0, k, 0, 0, zeroE⟩ := ⟨_, rfl⟩
   obtain ⟨qz, hqz⟩ : ∃ q, q = doW (wor ns tip cs time) ⟨5, i, 0, 0, 0, zeroE⟩ := ⟨_, rfl⟩
   have hy1 : qy = ((happenW qx.1 ⟨13, 0, k, 0, 0, zeroE⟩).1, 0) := by rw [hqy, doW_of hg1 t5]
   have hyg : GoodW qy.1 := by rw [hy1]; exact hg1.happen t5
   have hyu : (nodAt qy.1.n k).up = true := by rw [hy1]; exact t6
   have hyo : qy.1 = wor ns tip cs time ∨ (qz.2 = 0 ∧ qy.1 = qz.1) := by
    rcases t7 with h | ⟨h1, h2⟩
    · left; rw [hy1]; exact h
    · right; rw [hqz, doW_of hg h1, hy1]; exact ⟨rfl, h2⟩
   have hy2 : qy.2 = 0 := by rw [hy1]
   rw [← HW1.out] at hg1
   obtain ⟨rfl, rfl, hs0⟩ := small_of R hg
   obtain ⟨rfl, rfl, hs1⟩ := small_of R1 hg1
   have HL := Lib.hid hlk; have T1 := Lib.hid t1; have T2 := Lib.hid t2; have T3 := Lib.hid t3; have HY := Lib.hid hqy; have HZ := Lib.hid hqz; have HYG := Lib.hid hyg; have HYU := Lib.hid hyu; have HYO := Lib.hid hyo; have HY2 := Lib.hid hy2; have HS0 := Lib.hid hs0; have HS1 := Lib.hid hs1; have HG := Lib.hid hg
   clear hg hx0 hx1 hg1 hlk t1 t2 t3 t4 t5 t6 t7 hqy hqz hy1 hyg hyu hyo hy2 hs0 hs1
   go_upto_region 5 with fail
   obtain ⟨ba, oa, u, rfl, _, hu, vi, a0, a1, a2, a3, a4, a5, a6, a7, a8, a9, a10, a11⟩ := R.atC hi3
   have hul : u.x.link = k := by rw [← HL.out, ← cliAt_cs hu]
   rw [hul] at a8
   have hi3' : (i : Int) < 3 := by omega
   have hk3' : (k : Int) < 3 := by omega
   have HU := Lib.hid hu; have HUL := Lib.hid hul
   clear hu hul
   have x2 := BX.at_ 2 rfl
   go_upto_region 6 with fail
   clear x2
   rw [← HUL.out] at a8
   obtain ⟨bb, ob, u2, hC1, _, hu2, vi2, b0, b1, b2, b3, b4, b5, b6, b7, b8, b9, b10, b11⟩ := R1.atC hi3
   obtain ⟨bp, op, p, hp1, _, hp, pi, p0, p1, p2, p3, p4⟩ := R.atN hk3
   obtain ⟨bq, oq, p', hp2, _, hp', pi', q0, q1, q2, q3, q4⟩ := R1.atN hk3
   have huu : u2.x = u.x := by rw [← cliAt_cs hu2, ← cliAt_cs HU.out, show clis cs1 = qx.1.c by rw [← HW1.out], T3.out]
   have hpu : p'.x.u = p.x.u := by rw [← nodAt_ns hp', ← nodAt_ns hp, show nods ns1 = qx.1.n by rw [← HW1.out], T2.out]
   have hpd : p'.x.up = false := by rw [← nodAt_ns hp', show nods ns1 = qx.1.n by rw [← HW1.out], T1.out]
   rw [hpd] at q4
   have hsu := HS1.out.c u2 (List.mem_of_getElem? hu2)
   have f1 := fun (y : World) => ClSame_calls u2.x.epoch u2.x.doing u2.x.at_ u2.x.link u2.x.played u.x.epoch u.x.doing u.x.at_ u.x.link u.x.played u2.x.e u.x.e u2.A u2.G u.A u.G u2.n u2.c u2.m u2.d u.n u.c u.m u.d u2.x.b u.x.b (ontoW v4 y) (vi2.jobs.onto (onto_on v4 y)) (vi2.rung.onto (onto_on v4 y)) (vi.jobs.onto (onto_on v4 y)) (vi.rung.onto (onto_on v4 y)) (by omega) (by omega)
   have f2 := fun (y : World) => USame_calls p'.x.u.ep p.x.u.ep p'.A p.A p'.n p'.c p.n p.c p'.x.u.cells p.x.u.cells (ontoW v4 y) (pi'.cells.onto (onto_on v4 y)) (pi.cells.onto (onto_on v4 y)) pi'.small
   have F1 := Lib.hid f1; have F2 := Lib.hid f2
   have h1 : (decide ((⟨u2.x.epoch, u2.x.doing, u2.x.e, u2.x.at_, u2.x.link, u2.x.played, u2.x.b⟩ : Cli) = ⟨u.x.epoch, u.x.doing, u.x.e, u.x.at_, u.x.link, u.x.played, u.x.b⟩)) = true := decide_eq_true (by rw [huu])
   have h2 : (decide ((⟨p'.x.u.ep, p'.x.u.cells⟩ : Uni) = ⟨p.x.u.ep, p.x.u.cells⟩)) = true := decide_eq_true (by rw [hpu])
   have H1 := Lib.hid h1; have H2 := Lib.hid h2
   clear f1 f2 h1 h2 huu hpu hpd hu2 hp hp' vi2 pi pi' hsu
   replace a0 := onto_cell a0; replace b0 := onto_cell b0; replace a1 := onto_cell a1; replace b1 := onto_cell b1; replace a2 := onto_cell a2; replace b2 := onto_cell b2; replace a3 := onto_cell a3; replace b3 := onto_cell b3; replace a4 := onto_cell a4; replace b4 := onto_cell b4; replace a5 := onto_cell a5; replace b5 := onto_cell b5; replace a6 := onto_cell a6; replace b6 := onto_cell b6; replace a7 := onto_cell a7; replace b7 := onto_cell b7; replace a8 := onto_cell a8; replace b8 := onto_cell b8; replace a9 := onto_cell a9; replace b9 := onto_cell b9; replace a10 := onto_cell a10; replace b10 := onto_cell b10; replace a11 := onto_cell a11; replace b11 := onto_cell b11
   replace p0 := onto_cell p0; replace q0 := onto_cell q0; replace p1 := onto_cell p1; replace q1 := onto_cell q1; replace p2 := onto_cell p2; replace q2 := onto_cell q2; replace p3 := onto_cell p3; replace q3 := onto_cell q3; replace p4 := onto_cell p4; replace q4 := onto_cell q4
   have x0 := onto_cell (BX.at_ 0 rfl); have x2 := onto_cell (BX.at_ 2 rfl); have y0 := onto_cell (BA.at_ 0 rfl); have y2 := onto_cell (BA.at_ 2 rfl)
   rw [hp1] at x0; rw [hp2] at y0; rw [hC1] at y2
   refine wp_region_onto (by kernel_rfl) (by kernel_rfl) ?_
   repeat (go_big_quiet_step (first | (go_at_call 16; exact calls_onto' (u := .bool true) (by with_reducible exact F1.out _) (by rw [H1.out])) | (go_at_call 17; exact calls_onto' (u := .bool true) (by with_reducible exact F2.out _) (by rw [H2.out]))))
   refine wpQuiet_nil ?_
   intro w7 bz
   replace on := on.to bz
   replace BX := BX.onto bz
   replace BA := BA.onto bz
   replace R := R.onto bz
   replace R1 := R1.onto bz
   clear bz hp1 hp2 hC1 x0 x2 y0 y2 F1 F2 H1 H2 vi a0 b0 a1 b1 a2 b2 a3 b3 a4 b4 a5 b5 a6 b6 a7 b7 a8 b8 a9 b9 a10 b10 a11 b11 p0 q0 p1 q1 p2 q2 p3 q3 p4 q4
   go_upto_region 8 with fail
   have y0 := BA.at_ 0 rfl; have y1 := BA.at_ 1 rfl; have y2 := BA.at_ 2 rfl; have y3 := BA.at_ 3 rfl
   go_wp2_with fail
   refine Calls.mono (WDo_calls A1 3 c1 tp1 C1 3 d1 tm1 ns1 cs1 13 0 k 0 0 zeroE _ (E.onto on) R1) ?_
   rw [HW1.out, ← HY.out]
   rintro e v5 ⟨A2, n2, c2, C2, m2, d2, ns2, cs2, rfl, R2, e1, e2, b⟩
   replace on := on.to b
   replace BX := BX.onto b
   replace BA := BA.onto b
   replace R := R.onto b
   replace R1 := R1.onto b
   clear b
   clear y0 y1 y2 y3
   obtain ⟨tp2, htp⟩ : ∃ t, t = qy.1.tip := ⟨_, rfl⟩
   obtain ⟨tm2, htm⟩ : ∃ t, t = qy.1.time := ⟨_, rfl⟩
   rw [← htp, ← htm]
   have hw : wor ns2 tp2 cs2 tm2 = qy.1 := by rw [htp, htm]; exact wor_of e1 e2
   have HW2 := Lib.hid hw
   clear htp htm hw e1 e2
   go_upto_region 9 with fail
   have ob := (Onto.rfl' v5).new (Obj.cells #[.slice A2 n2 c2, .int .i64 tp2, .slice C2 m2 d2, .int .i64 tm2] 25)
   have BB : Bx (v5.alloc (Obj.cells #[.slice A2 n2 c2, .int .i64 tp2, .slice C2 m2 d2, .int .i64 tm2] 25)) v5.heap.size [.slice A2 n2 c2, .int .i64 tp2, .slice C2 m2 d2, .int .i64 tm2] := Bx.made _ _ _
   replace on := on.to ob
   replace BX := BX.onto ob
   replace BA := BA.onto ob
   replace R := R.onto ob
   replace R1 := R1.onto ob
   replace R2 := R2.onto ob
   clear ob
   try change Code.wp _ _ _ _ (v5.alloc (Obj.cells #[.slice A2 n2 c2, .int .i64 tp2, .slice C2 m2 d2, .int .i64 tm2] 25))
   generalize (v5.alloc (Obj.cells #[.slice A2 n2 c2, .int .i64 tp2, .slice C2 m2 d2, .int .i64 tm2] 25)) = v6 at *
   generalize v5.heap.size = zb at *
   rw [HY2.out]
   have hg2 : GoodW (wor ns2 tp2 cs2 tm2) := by rw [HW2.out]; exact HYG.out
   obtain ⟨rfl, rfl, _⟩ := small_of R2 hg2
   obtain ⟨bq, oq, p', hp2, _, hp', pi', q0, q1, q2, q3, q4⟩ := R2.atN hk3
   have hpd : p'.x.up = true := by rw [← nodAt_ns hp', show nods ns2 = qy.1.n by rw [← HW2.out], HYU.out]
   rw [hpd] at q4
   have HG2 := Lib.hid hg2
   clear hpd hp' pi' q0 q1 q2 q3 hg2
   subst hp2
   have y0 := BB.at_ 0 rfl
   go_upto_region 11 with fail
   clear q4 y0
   have x0 := BX.at_ 0 rfl; have x1 := BX.at_ 1 rfl; have x2 := BX.at_ 2 rfl; have x3 := BX.at_ 3 rfl
   go_wp2_with fail
   refine Calls.mono (WDo_calls A 3 c tip (some ⟨ba, oa, none⟩) 3 d time ns cs 5 i 0 0 0 zeroE _ (E.onto on) R) ?_
   rw [← HZ.out]
   rintro e v7 ⟨A3, n3, c3, C3, m3, d3, ns3, cs3, rfl, R3, e1, e2, b⟩
   replace on := on.to b
   replace BX := BX.onto b
   replace BA := BA.onto b
   replace BB := BB.onto b
   replace R := R.onto b
   replace R1 := R1.onto b
   replace R2 := R2.onto b
   clear b
   clear x0 x1 x2 x3
   obtain ⟨tp3, htp⟩ : ∃ t, t = qz.1.tip := ⟨_, rfl⟩
   obtain ⟨tm3, htm⟩ : ∃ t, t = qz.1.time := ⟨_, rfl⟩
   rw [← htp, ← htm]
   have hw : wor ns3 tp3 cs3 tm3 = qz.1 := by rw [htp, htm]; exact wor_of e1 e2
   have HW3 := Lib.hid hw
   clear htp htm hw e1 e2
   go_upto_region 12 with fail
   have ob := (Onto.rfl' v7).new (Obj.cells #[.slice A3 n3 c3, .int .i64 tp3, .slice C3 m3 d3, .int .i64 tm3] 25)
   have BC : Bx (v7.alloc (Obj.cells #[.slice A3 n3 c3, .int .i64 tp3, .slice C3 m3 d3, .int .i64 tm3] 25)) v7.heap.size [.slice A3 n3 c3, .int .i64 tp3, .slice C3 m3 d3, .int .i64 tm3] := Bx.made _ _ _
   replace on := on.to ob
   replace BX := BX.onto ob
   replace BA := BA.onto ob
   replace BB := BB.onto ob
   replace R := R.onto ob
   replace R1 := R1.onto ob
   replace R2 := R2.onto ob
   replace R3 := R3.onto ob
   clear ob
   try change Code.wp _ _ _ _ (v7.alloc (Obj.cells #[.slice A3 n3 c3, .int .i64 tp3, .slice C3 m3 d3, .int .i64 tm3] 25))
   generalize (v7.alloc (Obj.cells #[.slice A3 n3 c3, .int .i64 tp3, .slice C3 m3 d3, .int .i64 tm3] 25)) = v8 at *
   generalize v7.heap.size = zc at *
   have y0 := BB.at_ 0 rfl; have y1 := BB.at_ 1 rfl; have y2 := BB.at_ 2 rfl; have y3 := BB.at_ 3 rfl
   have x0 := BX.at_ 0 rfl; have x1 := BX.at_ 1 rfl; have x2 := BX.at_ 2 rfl; have x3 := BX.at_ 3 rfl
   go_wp2_with fail
   refine Calls.mono (WSameG_calls (some ⟨bq, oq, none⟩) A 3 c2 3 c tp2 tip C2 (some ⟨ba, oa, none⟩) 3 d2 3 d tm2 time ns2 ns cs2 cs _ R2 R HG2.out) ?_
   rw [HW2.out]
   rintro e v9 ⟨rfl, b⟩
   replace on := on.to b
   replace BX := BX.onto b
   replace BA := BA.onto b
   replace BB := BB.onto b
   replace BC := BC.onto b
   replace R := R.onto b
   replace R1 := R1.onto b
   replace R2 := R2.onto b
   replace R3 := R3.onto b
   clear b
   clear y0 y1 y2 y3
   clear x0 x1 x2 x3
   by_cases hyw : qy.1 = wor ns tip cs time
   · rw [decide_eq_true hyw]
     clear hyw
     go_wp2_with fail
     go_ret
     exact ⟨ret_bool (by simp), on⟩
   · obtain ⟨hz0, hyz⟩ := HYO.out.resolve_left hyw
     rw [decide_eq_false hyw]
     have hdz : (qz.2 == 0) = true := by simp [hz0]
     have HYZ := Lib.hid hyz
     clear hyw hyz hz0
     have y0 := BB.at_ 0 rfl; have y1 := BB.at_ 1 rfl; have y2 := BB.at_ 2 rfl; have y3 := BB.at_ 3 rfl
     have x0 := BC.at_ 0 rfl; have x1 := BC.at_ 1 rfl; have x2 := BC.at_ 2 rfl; have x3 := BC.at_ 3 rfl
     go_wp2_with fail
     refine Calls.mono (WSameG_calls (some ⟨bq, oq, none⟩) A3 3 c2 n3 c3 tp2 tp3 C2 C3 3 d2 m3 d3 tm2 tm3 ns2 ns3 cs2 cs3 _ R2 R3 HG2.out) ?_
     rw [HW2.out, HW3.out, decide_eq_true HYZ.out]
     rintro e v10 ⟨rfl, b⟩
     replace on := on.to b
     replace BX := BX.onto b
     replace BA := BA.onto b
     replace BB := BB.onto b
     replace BC := BC.onto b
     replace R := R.onto b
     replace R1 := R1.onto b
     replace R2 := R2.onto b
     replace R3 := R3.onto b
     clear b
     go_wp2_with fail
     go_ret
     exact ⟨ret_bool (by simp), on⟩
 · have hd : (qx.2 != 0) = true := by simpa using h0
   clear h0
   go_wp2_with fail
   refine Calls.mono (tolled_calls _ (E.onto on)) ?_
   rintro e v5 ⟨rfl, b⟩
   replace on := on.to b
   replace BX := BX.onto b
   replace BA := BA.onto b
   replace R := R.onto b
   replace R1 := R1.onto b
   clear b
   go_wp2_with fail
   go_ret
   exact ⟨rfl, on⟩
end
section
set_option linter.unusedSimpArgs false
set_option linter.unusedVariables false
open Go.RowKit Go.ChangeShapes Go.WideShapes Go.ChangeAt
set_option maxRecDepth 100000 in
theorem worldTorn_lifted (os : Os) (started : os.Started) (H : Type) (enc : TypeId × Value → H) :
    ReturnsInHanded {} Tryz.checked os 7 .any (fun w args => (Rows.worldTornSpec.pre enc Tryz.prog Tryz.f7 Rows.worldTornRow.domain false w args ∧ laidMetH Tryz.prog Rows.worldTornRow.laid w) ∧ sizedMet enc Tryz.prog Tryz.f7 (OpenSpec.ofChange Rows.worldTornSpec) false w args)
     (Rows.worldTornSpec.post enc Tryz.prog Tryz.f7 false true false false) := by
 refine handed_shaped (C := Tryz.checked) (X := fun w _ => laidMetH Tryz.prog Rows.worldTornRow.laid w) (fun _ _ _ hh h => h.of_heap hh) own started (by kernel_rfl) Tryz.func7
  (ChangeSpec.witness_shaped (enc := enc) (C := Tryz.checked) (os := os) (X := fun w _ => laidMetH Tryz.prog Rows.worldTornRow.laid w) false (World.laidAll Tryz.prog os Rows.worldTornRow.laid) #[.agg #[.slice none 0 0, .int .i64 0, .slice none 0 0, .int .i64 0], .int .i64 0, .int .i64 0] 8 (World.laidAll_os _ _ _)
   (World.shaped_of_ZipB (by kernel_rfl) (by kernel_rfl)) (by kernel_rfl) (by kernel_rfl) (by kernel_rfl)
   (by rw [MakeChecks.laidMetH_plain _ _ _ (by kernel_rfl)]; exact laidMet_laidAll _ (by kernel_rfl) (by kernel_rfl))) ?_
 intro W base args ds gs before hval0 hW hsz0 hL hS
 rw [MakeChecks.laidMetH_plain _ _ _ (by kernel_rfl)] at hL
 have E : Env W := env_of hL hS
 clear hL hS
 have hval : ∀ (j : Nat) t v, Tryz.f7.params[j]? = some t → args[j]? = some v → Value.okWide Tryz.prog W .any base t v := hval0
 have hW' := hW
 obtain ⟨p, q, hA0, hV, rfl, hfz, hnd⟩ := hW
 have hA : DataW.TrodAll enc Tryz.prog W 0 (fun _ => true) true Tryz.f7.params.toList args.toList ds p := hA0
 rw [Tryz.params7] at hA hval
 obtain ⟨v0, vs0, d0, ds0, p0, q0, hargs, rfl, rfl, h0, r0⟩ := trodAll_cons hA
 obtain ⟨v1, vs1, d1, ds1, p1, q1, rfl, rfl, rfl, h1, r1⟩ := trodAll_cons r0
 obtain ⟨v2, vs2, d2, ds2, p2, q2, rfl, rfl, rfl, h2, r2⟩ := trodAll_cons r1
 obtain ⟨rfl, rfl, rfl⟩ := trodAll_nil r2
 obtain rfl : args = #[v0, v1, v2] := by cases args; simp_all
 obtain ⟨rfl, rfl⟩ := trodVars_none hV
 have hall := hA
 obtain ⟨cv0, rfl, _⟩ := okWide_struct Tryz.underlying25 (hval 0 25 v0 rfl rfl)
 obtain ⟨A0, n0, c0, tip0, C0, m0, d0, time0, nv0, kv0, e0, _, _, _, _, R0⟩ := reads_world (reads_of h0)
 obtain rfl : cv0 = #[.slice A0 n0 c0, .int .i64 tip0, .slice C0 m0 d0, .int .i64 time0] := by cases cv0; simpa [Value.cells] using e0
 obtain ⟨a1, rfl, rfl, rfl, wa1⟩ := open_int Tryz.underlying3 (hval 1 3 v1 rfl rfl) h1
 obtain ⟨a2, rfl, rfl, rfl, wa2⟩ := open_int Tryz.underlying3 (hval 2 3 v2 rfl rfl) h2
 clear hA0 hval0
 refine (WorldTorn_calls A0 n0 c0 tip0 C0 m0 d0 time0 nv0 kv0 a1 a2 W E R0).mono fun e W' ⟨he, bel⟩ => ?_
 subst he
 exact ⟨_, rfl, _, _, _, [], _, [], hW', trodAll_mk1 (shut_bool Tryz.underlying4 _), Below_trodAll (ts := [25, 3, 3]) laidOut bel (by intro t ht; simp only [List.mem_cons, List.not_mem_nil, or_false] at ht; rcases ht with rfl | rfl | rfl <;> exact ⟨by kernel_rfl, of_decide_eq_true (by kernel_rfl)⟩) hall, rfl, bel.frame _, fun h => by cases h⟩
theorem worldTorn_row : Rows.WorldTornSaid :=
 OpenClaim.holds_of_wide 7 Tryz.f7 rfl rfl rfl rfl rfl rfl rfl ⟨rfl, rfl, rfl, rfl, rfl⟩ rfl rfl rfl rfl rfl (by kernel_rfl) Tryz.func7 (by kernel_rfl)
  (of_decide_eq_true (by kernel_rfl)) (by unfold Func.isWrapper; first | (rw [if_pos (by decide +kernel)]; kernel_rfl) | (rw [if_neg (by decide +kernel)]; exact ⟨rfl, rfl⟩))
  (fun os started H enc _ => worldTorn_lifted os started H enc)
theorem worldTorn_holds : Rows.WorldTornCardSaid :=
 Claim7.holds_tied_plain_at .later [] [.data, .data, .data, .data, .sentinel, .sentinel, .pinned] true Rows.worldTornCard.stood.harness true worldTorn_row (fun _ h => by cases h) (by kernel_rfl) (fun _ h => by cases h) worldTorn_row_tie rfl ⟨rfl, rfl⟩ (by kernel_rfl) rfl
  (fun f fn hf hfn => by
   obtain rfl : f = 7 := Option.some.inj ((show Tryz.prog.funcNamed "carillon/carillonlaw.WorldTorn" = some 7 by kernel_rfl).symm.trans hf) |>.symm
   obtain rfl : fn = Tryz.f7 := (Option.some.inj (Tryz.func7.symm.trans hfn)).symm
   exact ⟨by kernel_rfl, fun j t ht => by
    rw [Tryz.params7] at ht
    have hm : t ∈ [25, 3, 3] := by simpa using Array.mem_of_getElem? ht
    have hall : ([25, 3, 3].all fun u => !Tryz.prog.wantsStandIn u) = true := by kernel_rfl
    exact (show Tryz.prog.wantsStandIn t = false by simpa using List.all_eq_true.1 hall t hm)⟩)
  (by kernel_rfl)
end
end Go.Proofs.YtmppkaoonncddaaGreatDoor
