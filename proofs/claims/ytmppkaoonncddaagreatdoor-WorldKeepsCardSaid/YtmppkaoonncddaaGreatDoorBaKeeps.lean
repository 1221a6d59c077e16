/- The law WorldKeeps. No condition beyond the listed variables, which the card ties. -/
/- Part 17 of the proof: WKeeps, WKeepsL. -/
import Derived.Test.YtmppkaoonncddaaGreatDoorBa15
import Derived.Test.YtmppkaoonncddaaGreatDoorBa16
import Derived.Test.YtmppkaoonncddaaGreatDoorBa09
import Derived.Test.YtmppkaoonncddaaGreatDoorBa04
import Derived.Test.YtmppkaoonncddaaGreatDoorCards
import Derived.Test.YtmppkaoonncddaaGreatDoorTie
import Derived.SevenTiedAt
namespace Go.Proofs.YtmppkaoonncddaaGreatDoor
section
set_option linter.unusedSimpArgs false
set_option linter.unusedVariables false
open Go.RowKit
attribute [local go_sem ↓] Go.wp_at_zero Go.wp_at_succ
theorem sizeNod : (Tryz.prog.info? 49).map (·.size) = some 5 := by kernel_rfl
def stNod (p v : Value) : Sem Unit := Instr.storeAt 49 p v
theorem stNod_eq (p v : Value) : Instr.storeAt 49 p v = stNod p v := rfl
theorem run_stNod {w : World} {z o : Nat} {a : Int} {A B C : Option Addr} {n c k i l j : Nat} {b : Bool} (ht : w.there z o 5) :
    (stNod (.pointer (some ⟨z, o, none⟩)) (.agg #[.int .i64 a, .slice A n c, .slice B k i, .slice C l j, .bool b])).run Tryz.prog w = .ok () (w.setCells z o [.int .i64 a, .slice A n c, .slice B k i, .slice C l j, .bool b]) :=
 run_storeAt_mid (P := Tryz.prog) w z o 49 _ ht sizeNod (all_oneCell_toArray (List.all_eq_true.1 rfl))
theorem there_nod (w : World) {t : TypeId} : (w.alloc (.cells #[.int .i64 0, .slice none 0 0, .slice none 0 0, .slice none 0 0, .bool false] t)).there w.heap.size 0 5 = True := eq_true ((Bx.made w #[.int .i64 0, .slice none 0 0, .slice none 0 0, .slice none 0 0, .bool false] t).there (by simp))
theorem there_nod1 (w : World) (x : Obj) {t : TypeId} : ((w.alloc x).alloc (.cells #[.int .i64 0, .slice none 0 0, .slice none 0 0, .slice none 0 0, .bool false] t)).there (w.heap.size + 1) 0 5 = True := eq_true ((made1 w x #[.int .i64 0, .slice none 0 0, .slice none 0 0, .slice none 0 0, .bool false] t).there (by simp))
theorem there_nod2 (w : World) (x : Obj) {t : TypeId} : ((w.alloc (.cells #[.int .i64 0, .slice none 0 0, .slice none 0 0, .slice none 0 0, .bool false] t)).alloc x).there w.heap.size 0 5 = True := eq_true (there_new x ((Bx.made w #[.int .i64 0, .slice none 0 0, .slice none 0 0, .slice none 0 0, .bool false] t).there (by simp)))
theorem there_drew {w : World} {z o n : Nat} : w.drew.there z o n = w.there z o n := rfl
attribute [local go_sem ↓] stNod_eq
attribute [local go_sem] run_stNod there_nod there_nod1 there_nod2 there_drew there_setCells
set_option maxHeartbeats 16000000 in
set_option maxRecDepth 100000 in
theorem WorldKeeps_calls (A : Option Addr) (n c : Nat) (tip : Int) (C : Option Addr) (m d : Nat) (time : Int) (ns : List NV) (cs : List CV) (x : Hap) (w : World) (E : Env w) (R : WR w A n C m ns cs) :
    Calls Tryz.prog 3 #[.agg #[.slice A n c, .int .i64 tip, .slice C m d, .int .i64 time], .agg #[.int .i64 x.kind, .int .i64 x.client, .int .i64 x.n, .int .i64 x.job, .int .i64 x.epoch, .int .i64 x.e.kind, .int .i64 x.e.job, .int .i64 x.e.every, .int .i64 x.e.time, .int .i64 x.e.client]] w fun e w' => e = .returned (.bool true) ∧ Onto w w' := by
 obtain ⟨q, hq⟩ : ∃ q, q = doW (wor ns tip cs time) x := ⟨_, rfl⟩
 have HQ := Lib.hid hq
 clear hq
 go_enter Tryz.func3, Tryz.ntmps3
 go_upto_region 1 with fail
 refine wp_box2 (v1 := [.slice A n c, .int .i64 tip, .slice C m d, .int .i64 time]) (v2 := [.int .i64 x.kind, .int .i64 x.client, .int .i64 x.n, .int .i64 x.job, .int .i64 x.epoch, .int .i64 x.e.kind, .int .i64 x.e.job, .int .i64 x.e.every, .int .i64 x.e.time, .int .i64 x.e.client]) rfl rfl fun v1 on BX BH => ?_
 replace R := R.onto on
 generalize w.heap.size = zx at BX BH ⊢
 have x0 := BX.at_ 0 rfl; have x1 := BX.at_ 1 rfl; have x2 := BX.at_ 2 rfl; have x3 := BX.at_ 3 rfl
 have h0 := BH.at_ 0 rfl; have h1 := BH.at_ 1 rfl; have h2 := BH.at_ 2 rfl; have h3 := BH.at_ 3 rfl; have h4 := BH.at_ 4 rfl; have h5 := BH.at_ 5 rfl; have h6 := BH.at_ 6 rfl; have h7 := BH.at_ 7 rfl; have h8 := BH.at_ 8 rfl; have h9 := BH.at_ 9 rfl
 go_wp2_with fail
 refine Calls.mono (WDo_calls A n c tip C m d time ns cs x.kind x.client x.n x.job x.epoch x.e _ (E.onto on) R) ?_
 rw [show doW (wor ns tip cs time) ⟨x.kind, x.client, x.n, x.job, x.epoch, x.e⟩ = q from HQ.out.symm]
 rintro e v2 ⟨A1, n1, c1, C1, m1, d1, ns1, cs1, rfl, R1, e1, e2, b⟩
 replace on := on.to b
 replace BX := BX.onto b
 replace BH := BH.onto b
 replace R := R.onto b
 clear b
 clear x0 x1 x2 x3
 clear h0 h1 h2 h3 h4 h5 h6 h7 h8 h9
 obtain ⟨tp1, htp⟩ : ∃ t, t = q.1.tip := ⟨_, rfl⟩
 obtain ⟨tm1, htm⟩ : ∃ t, t = q.1.time := ⟨_, rfl⟩
 rw [← htp, ← htm]
 have hw : wor ns1 tp1 cs1 tm1 = q.1 := by rw [htp, htm]; exact wor_of e1 e2
 have HW1 := Lib.hid hw
 clear htp htm hw e1 e2
 go_upto_region 2 with fail
 have ob := (Onto.rfl' v2).new (Obj.cells #[.slice A1 n1 c1, .int .i64 tp1, .slice C1 m1 d1, .int .i64 tm1] 25)
 have BY : Bx (v2.alloc (Obj.cells #[.slice A1 n1 c1, .int .i64 tp1, .slice C1 m1 d1, .int .i64 tm1] 25)) v2.heap.size [.slice A1 n1 c1, .int .i64 tp1, .slice C1 m1 d1, .int .i64 tm1] := Bx.made _ _ _
 replace on := on.to ob
 replace BX := BX.onto ob
 replace BH := BH.onto ob
 replace R := R.onto ob
 replace R1 := R1.onto ob
 clear ob
 try change Code.wp _ _ _ _ (v2.alloc (Obj.cells #[.slice A1 n1 c1, .int .i64 tp1, .slice C1 m1 d1, .int .i64 tm1] 25))
 generalize (v2.alloc (Obj.cells #[.slice A1 n1 c1, .int .i64 tp1, .slice C1 m1 d1, .int .i64 tm1] 25)) = v3 at *
 generalize v2.heap.size = zy at *
 go_wp2_with fail
 refine Calls.mono (tolled_calls _ (E.onto on)) ?_
 rintro e v4 ⟨rfl, b⟩
 replace on := on.to b
 replace BX := BX.onto b
 replace BH := BH.onto b
 replace BY := BY.onto b
 replace R := R.onto b
 replace R1 := R1.onto b
 clear b
 by_cases h0 : q.2 = 0
 · have hd : (q.2 != 0) = false := by simp [h0]
   obtain ⟨hg, hx0, hx1, hg1⟩ := doW_ok (w := wor ns tip cs time) (x := x) (by rw [← HQ.out]; exact h0)
   rw [← HQ.out] at hx1 hg1
   have hkp := keepsW_law hg hx0
   rw [← hx1, ← HW1.out] at hkp
   rw [← HW1.out] at hg1
   obtain ⟨ht, hcl, ⟨k0, hk0, hone⟩, hup⟩ := hkp
   obtain ⟨rfl, rfl, hs0⟩ := small_of R hg
   obtain ⟨rfl, rfl, hs1⟩ := small_of R1 hg1
   have hck : checkW (wor ns1 tp1 cs1 tm1) = 0 := checkW_iff.2 hg1
   have hlt' : ¬ tm1 < time := by have h9 : time ≤ tm1 := ht; omega
   have hcl2 : ∀ (k : Nat) (u u2 : CV), k < 3 → cs[k]? = some u → cs1[k]? = some u2 → u2.x ≠ u.x → (k : Int) = x.client := fun k u u2 hk hu hu2 hne => hcl k hk (by rw [show cliAt (wor ns1 tp1 cs1 tm1).c k = u2.x from cliAt_cs hu2, show cliAt (wor ns tip cs time).c k = u.x from cliAt_cs hu]; exact hne)
   have hone2 : ∀ (k : Nat) (u u2 : NV), k ≠ k0 → ns[k]? = some u → ns1[k]? = some u2 → u2.x = u.x := fun k u u2 hk hu hu2 => by
    have h9 := hone k hk
    rw [show nodAt (wor ns1 tp1 cs1 tm1).n k = u2.x from nodAt_ns hu2, show nodAt (wor ns tip cs time).n k = u.x from nodAt_ns hu] at h9
    exact h9
   have hup2 : ∀ (k : Nat) (u u2 : NV), ns[k]? = some u → ns1[k]? = some u2 → Upon u.x.u u2.x.u := fun k u u2 hu hu2 => by
    have h9 := hup k
    rw [show nodAt (wor ns1 tp1 cs1 tm1).n k = u2.x from nodAt_ns hu2, show nodAt (wor ns tip cs time).n k = u.x from nodAt_ns hu] at h9
    exact h9
   have HCL := Lib.hid hcl2; have HONE := Lib.hid hone2; have HUP := Lib.hid hup2; have HCK := Lib.hid hck; have HS0 := Lib.hid hs0; have HS1 := Lib.hid hs1
   clear hg hx0 hx1 hg1 ht hcl hone hup hs0 hs1 hcl2 hone2 hup2 hck h0
   go_upto_region 4 with fail
   have y0 := BY.at_ 0 rfl; have y1 := BY.at_ 1 rfl; have y2 := BY.at_ 2 rfl; have y3 := BY.at_ 3 rfl
   go_wp2_with fail
   refine Calls.mono (WCheck_calls A1 3 c1 tp1 C1 3 d1 tm1 ns1 cs1 _ (E.onto on) R1) ?_
   rw [HCK.out]
   rintro e v5 ⟨rfl, b⟩
   replace on := on.to b
   replace BX := BX.onto b
   replace BH := BH.onto b
   replace BY := BY.onto b
   replace R := R.onto b
   replace R1 := R1.onto b
   clear b
   clear y0 y1 y2 y3
   have x0 := BX.at_ 0 rfl; have x1 := BX.at_ 1 rfl; have x2 := BX.at_ 2 rfl; have x3 := BX.at_ 3 rfl
   have y0 := BY.at_ 0 rfl; have y1 := BY.at_ 1 rfl; have y2 := BY.at_ 2 rfl; have y3 := BY.at_ 3 rfl
   go_wp2_with fail
   have on0 : Onto w v5 := on
   go_loopg [7, 9, 41] 3 (fun g s7 s9 s41 wr => ∃ (k cc : Nat), k ≤ 3 ∧ 3 - k ≤ g ∧ s41 = .int .i64 k ∧ s7 = .int .i64 cc ∧ cc ≤ 1 ∧ Hid (0 < cc → x.client < k) ∧ Onto v5 wr)
   case atStart => exact ⟨0, 0, by omega, by omega, rfl, rfl, by omega, Lib.hid (fun h => absurd h (by omega)), Onto.rfl' _⟩
   case round =>
    obtain ⟨k, cc, hk, hg, rfl, rfl, hcc, HC, b⟩ := hrel
    have bw : Onto v5 wr := b
    replace on := on.to b
    replace BX := BX.onto b
    replace BH := BH.onto b
    replace BY := BY.onto b
    replace R := R.onto b
    replace R1 := R1.onto b
    clear b
    clear x0 x1 x2 x3
    clear y0 y1 y2 y3
    by_cases hlt : k < 3
    · have hk3 : (k : Int) < 3 := by omega
      go_upto_region 10 with fail
      obtain ⟨ba, oa, u, hC0, _, hu, vi, a0, a1, a2, a3, a4, a5, a6, a7, a8, a9, a10, a11⟩ := R.atC hlt
      obtain ⟨bb, ob, u2, hC1, _, hu2, vi2, b0, b1, b2, b3, b4, b5, b6, b7, b8, b9, b10, b11⟩ := R1.atC hlt
      have hsu := HS0.out.c u (List.mem_of_getElem? hu)
      obtain ⟨sb, hsb⟩ : ∃ sb, sb = decide ((⟨u.x.epoch, u.x.doing, u.x.e, u.x.at_, u.x.link, u.x.played, u.x.b⟩ : Cli) = ⟨u2.x.epoch, u2.x.doing, u2.x.e, u2.x.at_, u2.x.link, u2.x.played, u2.x.b⟩) := ⟨_, rfl⟩
      have hdif : sb = false → (k : Int) = x.client := fun h => HCL.out k u u2 hlt hu hu2 (fun e => by rw [e] at hsb; simp [hsb] at h)
      have q1 := fun (y : World) => ClSame_calls u.x.epoch u.x.doing u.x.at_ u.x.link u.x.played u2.x.epoch u2.x.doing u2.x.at_ u2.x.link u2.x.played u.x.e u2.x.e u.A u.G u2.A u2.G u.n u.c u.m u.d u2.n u2.c u2.m u2.d u.x.b u2.x.b (ontoW wr y) (vi.jobs.onto (onto_on wr y)) (vi.rung.onto (onto_on wr y)) (vi2.jobs.onto (onto_on wr y)) (vi2.rung.onto (onto_on wr y)) (by omega) (by omega)
      have Q1 := Lib.hid q1; have HSB := Lib.hid hsb; have HDIF := Lib.hid hdif
      clear q1 hsb hdif hu hu2 vi vi2 hsu
      replace a0 := onto_cell a0; replace b0 := onto_cell b0; replace a1 := onto_cell a1; replace b1 := onto_cell b1; replace a2 := onto_cell a2; replace b2 := onto_cell b2; replace a3 := onto_cell a3; replace b3 := onto_cell b3; replace a4 := onto_cell a4; replace b4 := onto_cell b4; replace a5 := onto_cell a5; replace b5 := onto_cell b5; replace a6 := onto_cell a6; replace b6 := onto_cell b6; replace a7 := onto_cell a7; replace b7 := onto_cell b7; replace a8 := onto_cell a8; replace b8 := onto_cell b8; replace a9 := onto_cell a9; replace b9 := onto_cell b9; replace a10 := onto_cell a10; replace b10 := onto_cell b10; replace a11 := onto_cell a11; replace b11 := onto_cell b11
      have x2 := onto_cell (BX.at_ 2 rfl); have y2 := onto_cell (BY.at_ 2 rfl)
      rw [hC0] at x2; rw [hC1] at y2
      clear hC0 hC1
      refine wp_region_onto (by kernel_rfl) (by kernel_rfl) ?_
      repeat (go_big_quiet_step ((go_at_call 16; exact calls_onto' (u := .bool sb) (by with_reducible exact Q1.out _) (by rw [HSB.out]))))
      refine wpQuiet_nil ?_
      intro w8 bz
      have on8 : Onto v5 w8 := Onto.to bw bz
      replace on := on.to bz
      replace BX := BX.onto bz
      replace BH := BH.onto bz
      replace BY := BY.onto bz
      replace R := R.onto bz
      replace R1 := R1.onto bz
      clear bz x2 y2 Q1 HSB a0 b0 a1 b1 a2 b2 a3 b3 a4 b4 a5 b5 a6 b6 a7 b7 a8 b8 a9 b9 a10 b10 a11 b11
      have h1 := BH.at_ 1 rfl
      cases hsv : sb with
      | true =>
        clear hsv HDIF
        go_wp2_with fail
        go_roundg (3 - (k + 1))
        case measure => omega
        case rel => exact ⟨k + 1, cc, by omega, Nat.le_refl _, by go_num, rfl, hcc, Lib.hid (fun h => by have := HC.out h; omega), on8⟩
      | false =>
        have hkc := HDIF.out hsv
        have hcc0 : cc = 0 := by
         rcases Nat.eq_zero_or_pos cc with h | h
         · exact h
         · have := HC.out h; omega
        subst hcc0
        have hne : ((k : Int) != x.client) = false := by simp [hkc]
        have HKC := Lib.hid hkc
        clear hsv HDIF hkc
        go_wp2_with fail
        go_roundg (3 - (k + 1))
        case measure => omega
        case rel => exact ⟨k + 1, 1, by omega, Nat.le_refl _, by go_num, by go_num, by omega, Lib.hid (fun _ => by have := HKC.out; omega), on8⟩
    · obtain rfl : k = 3 := by omega
      generalize wr = wq at *
      clear HC hlt hk hg bw on0
      have hcc1 : (cc : Int) ≤ 1 := by omega
      have x0 := BX.at_ 0 rfl
      have y0 := BY.at_ 0 rfl
      go_wp2_with fail
      have bw0 := on
      go_loopg [8, 10, 11, 12, 13, 14, 66] 3 (fun g s8 s10 s11 s12 s13 s14 s66 wr => ∃ (k cc : Nat), k ≤ 3 ∧ 3 - k ≤ g ∧ s66 = .int .i64 k ∧ s8 = .int .i64 cc ∧ cc ≤ 1 ∧ Hid (0 < cc → k0 < k) ∧ Onto wq wr)
      case atStart => exact ⟨0, 0, by omega, by omega, rfl, rfl, by omega, Lib.hid (fun h => absurd h (by omega)), Onto.rfl' _⟩
      case round =>
       obtain ⟨k, c2, hk, hg, rfl, rfl, hc2, HC, b⟩ := hrel
       have bw : Onto wq wr := b
       replace on := on.to b
       replace BX := BX.onto b
       replace BH := BH.onto b
       replace BY := BY.onto b
       replace R := R.onto b
       replace R1 := R1.onto b
       clear b x0 y0 bw0
       by_cases hlt : k < 3
       · have hk3 : (k : Int) < 3 := by omega
         go_upto_region 18 with fail
         obtain ⟨ba, oa, u, hN0, hba, hu, vi, a0, a1, a2, a3, a4⟩ := R.atN hlt
         obtain ⟨bb, ob, u2, hN1, hbb, hu2, vi2, b0, b1, b2, b3, b4⟩ := R1.atN hlt
         have hxl := BX.lt; have hyl := BY.lt
         have x0 := BX.at_ 0 rfl; have y0 := BY.at_ 0 rfl
         rw [hN0] at x0; rw [hN1] at y0
         have HU := Lib.hid hu; have HU2 := Lib.hid hu2; have HVI := Lib.hid vi; have HVI2 := Lib.hid vi2
         have HN0 := Lib.hid hN0; have HN1 := Lib.hid hN1
         clear hu hu2 vi vi2 hN0 hN1
         go_cut [11, 12] (fun s11 s12 wx => ∃ (p p' : Nat), s11 = .pointer (some ⟨p, 0, none⟩) ∧ s12 = .pointer (some ⟨p', 0, none⟩) ∧ (Bx wx p [.int .i64 u.x.u.ep, .slice u.A u.n u.c, .slice u.F u.k u.i, .slice u.G u.l u.j, .bool u.x.up] ∧ Bx wx p' [.int .i64 u2.x.u.ep, .slice u2.A u2.n u2.c, .slice u2.F u2.k u2.i, .slice u2.G u2.l u2.j, .bool u2.x.up]) ∧ Onto wr wx)
         case first =>
          have hx0 : ∀ w', Onto wr w' → w'.cell? ⟨zx, 0, none⟩ = some (.slice (some ⟨ba, oa, none⟩) 3 c) := fun w' h => cellB h x0
          have hy0 : ∀ w', Onto wr w' → w'.cell? ⟨zy, 0, none⟩ = some (.slice (some ⟨bb, ob, none⟩) 3 c1) := fun w' h => cellB h y0
          have ha0 : ∀ w', Onto wr w' → w'.cell? ⟨ba, oa + k * 5, none⟩ = some (.int .i64 u.x.u.ep) := fun w' h => cellB h a0
          have ha1 : ∀ w', Onto wr w' → w'.cell? ⟨ba, oa + k * 5 + 1, none⟩ = some (.slice u.A u.n u.c) := fun w' h => cellB h a1
          have ha2 : ∀ w', Onto wr w' → w'.cell? ⟨ba, oa + k * 5 + 2, none⟩ = some (.slice u.F u.k u.i) := fun w' h => cellB h a2
          have ha3 : ∀ w', Onto wr w' → w'.cell? ⟨ba, oa + k * 5 + 3, none⟩ = some (.slice u.G u.l u.j) := fun w' h => cellB h a3
          have ha4 : ∀ w', Onto wr w' → w'.cell? ⟨ba, oa + k * 5 + 4, none⟩ = some (.bool u.x.up) := fun w' h => cellB h a4
          have hb0 : ∀ w', Onto wr w' → w'.cell? ⟨bb, ob + k * 5, none⟩ = some (.int .i64 u2.x.u.ep) := fun w' h => cellB h b0
          have hb1 : ∀ w', Onto wr w' → w'.cell? ⟨bb, ob + k * 5 + 1, none⟩ = some (.slice u2.A u2.n u2.c) := fun w' h => cellB h b1
          have hb2 : ∀ w', Onto wr w' → w'.cell? ⟨bb, ob + k * 5 + 2, none⟩ = some (.slice u2.F u2.k u2.i) := fun w' h => cellB h b2
          have hb3 : ∀ w', Onto wr w' → w'.cell? ⟨bb, ob + k * 5 + 3, none⟩ = some (.slice u2.G u2.l u2.j) := fun w' h => cellB h b3
          have hb4 : ∀ w', Onto wr w' → w'.cell? ⟨bb, ob + k * 5 + 4, none⟩ = some (.bool u2.x.up) := fun w' h => cellB h b4
          clear x0 y0 a0 a1 a2 a3 a4 b0 b1 b2 b3 b4
          have hp1 : wr.heap.size ≤ wr.heap.size := Nat.le_refl _
          have hp2 : wr.heap.size ≤ wr.heap.size + 1 := Nat.le_succ _
          go_region_held3 (fun w' => Onto wr w')
           (((with_reducible (repeat (first | exact Onto.rfl' _ | refine Onto.draw ?_ | refine Onto.new ?_ _ | refine Onto.puts hp1 ?_ | refine Onto.puts hp2 ?_))); done))
           (fail)
          all_goals
           go_wp2_with fail
           go_meet
           with_reducible (first | refine ⟨_, _, rfl, rfl, two_box (vs := [.int .i64 0, .slice none 0 0, .slice none 0 0, .slice none 0 0, .bool false]) (vs' := [.int .i64 0, .slice none 0 0, .slice none 0 0, .slice none 0 0, .bool false]) ?b1 ?b2 ?ne ?l1 ?l2, ?on⟩ | refine ⟨_, _, rfl, rfl, And.symm (two_box (vs := [.int .i64 0, .slice none 0 0, .slice none 0 0, .slice none 0 0, .bool false]) (vs' := [.int .i64 0, .slice none 0 0, .slice none 0 0, .slice none 0 0, .bool false]) ?b1 ?b2 ?ne ?l1 ?l2), ?on⟩)
           case b1 => with_reducible (first | exact Bx.made _ _ _ | exact (Bx.made _ _ _).new _ | exact made1 _ _ _ _ | exact (Bx.made _ _ _).draw | exact ((Bx.made _ _ _).new _).draw | exact (made1 _ _ _ _).draw)
           case b2 => with_reducible (first | exact Bx.made _ _ _ | exact (Bx.made _ _ _).new _ | exact made1 _ _ _ _ | exact (Bx.made _ _ _).draw | exact ((Bx.made _ _ _).new _).draw | exact (made1 _ _ _ _).draw)
           case ne => first | omega | (simp only [World.size_alloc]; omega) | (simp; done) | (simp; omega)
           case l1 => rfl
           case l2 => rfl
           case on => with_reducible (repeat (first | exact Onto.rfl' _ | refine Onto.draw ?_ | refine Onto.new ?_ _ | refine Onto.puts hp1 ?_ | refine Onto.puts hp2 ?_))
         case rest =>
          obtain ⟨p, p', rfl, rfl, ⟨PA, PB⟩, bz⟩ := hcut
          clear x0 y0 a0 a1 a2 a3 a4 b0 b1 b2 b3 b4 hba hbb hxl hyl
          have hun : u.n = 60 := (HS0.out.n u (List.mem_of_getElem? HU.out)).1
          have hun2 : u2.n = 60 := (HS1.out.n u2 (List.mem_of_getElem? HU2.out)).1
          have vi := HVI.out; have vi2 := HVI2.out
          clear HVI HVI2
          have bq := Onto.to bw bz
          replace on := on.to bz
          replace BX := BX.onto bz
          replace BH := BH.onto bz
          replace BY := BY.onto bz
          replace R := R.onto bz
          replace R1 := R1.onto bz
          replace vi := vi.onto bz
          replace vi2 := vi2.onto bz
          clear bz bw
          generalize wc = w9 at *
          have HUN := Lib.hid hun; have HUN2 := Lib.hid hun2
          clear hun hun2
          have a0 := PA.at_ 0 rfl; have a1 := PA.at_ 1 rfl; have a2 := PA.at_ 2 rfl; have a3 := PA.at_ 3 rfl; have a4 := PA.at_ 4 rfl
          have b0 := PB.at_ 0 rfl; have b1 := PB.at_ 1 rfl; have b2 := PB.at_ 2 rfl; have b3 := PB.at_ 3 rfl; have b4 := PB.at_ 4 rfl
          go_upto_region 19 with fail
          go_cut [99] (fun s99 wx => ∃ bo : Bool, s99 = .bool bo ∧ Hid (bo = true → u2.x ≠ u.x) ∧ Onto w9 wx)
          case first =>
           by_cases hup : u.x.up = u2.x.up
           rotate_left
           · have hd : Hid (u2.x ≠ u.x) := Lib.hid (fun h => hup (by rw [h]))
             have hn : u.x.up = !u2.x.up := by cases h1 : u.x.up <;> cases h2 : u2.x.up <;> simp [h1, h2] at hup ⊢
             rw [hn] at a4
             clear hup hn
             go_wp2_with fail
             go_meet
             exact ⟨true, rfl, Lib.hid (fun _ => hd.out), Onto.rfl' _⟩
           · rw [hup] at a4
             clear hup
             go_wp2_with fail
             refine Calls.mono (USame_calls u.x.u.ep u2.x.u.ep u.A u2.A u.n u.c u2.n u2.c u.x.u.cells u2.x.u.cells _ vi.cells vi2.cells vi.small) ?_
             rintro e w10 ⟨rfl, bA⟩
             have PA1 := PA.onto bA; have PB1 := PB.onto bA; have vi1 := vi.onto bA; have vi3 := vi2.onto bA
             clear a0 a1 a2 a3 a4 b0 b1 b2 b3 b4
             have a2 := PA1.at_ 2 rfl; have a3 := PA1.at_ 3 rfl; have b2 := PB1.at_ 2 rfl; have b3 := PB1.at_ 3 rfl
             cases hs : decide ((⟨u.x.u.ep, u.x.u.cells⟩ : Uni) = ⟨u2.x.u.ep, u2.x.u.cells⟩) with
             | false =>
               have hd : Hid (u2.x ≠ u.x) := Lib.hid (fun h => by rw [h] at hs; simp at hs)
               clear hs
               go_wp2_with fail
               go_meet
               exact ⟨true, rfl, Lib.hid (fun _ => hd.out), bA⟩
             | true =>
               clear hs
               go_wp2_with fail
               refine Calls.mono (DSame_calls u.F u.G u.k u.i u.l u.j u.x.d u2.F u2.G u2.k u2.i u2.l u2.j u2.x.d _ vi1.disk vi3.disk) ?_
               rintro e w11 ⟨rfl, bB⟩
               have hd : Hid ((!decide (u.x.d = u2.x.d)) = true → u2.x ≠ u.x) := Lib.hid (fun h e => by rw [e] at h; simp at h)
               have bAB := Onto.to bA bB
               generalize decide (u.x.d = u2.x.d) = sd at *
               cases sd with
               | true =>
                 go_wp2_with fail
                 go_meet
                 exact ⟨false, rfl, Lib.hid (fun h => by cases h), bAB⟩
               | false =>
                 go_wp2_with fail
                 go_meet
                 exact ⟨true, rfl, Lib.hid (fun _ => hd.out rfl), bAB⟩
          case rest =>
           obtain ⟨bo, rfl, HB, bz⟩ := hcut
           clear a0 a1 a2 a3 a4 b0 b1 b2 b3 b4
           replace bq := Onto.to bq bz
           replace on := on.to bz
           replace BX := BX.onto bz
           replace BH := BH.onto bz
           replace BY := BY.onto bz
           replace PA := PA.onto bz
           replace PB := PB.onto bz
           replace R := R.onto bz
           replace R1 := R1.onto bz
           replace vi := vi.onto bz
           replace vi2 := vi2.onto bz
           clear bz
           generalize wc = w12 at *
           have hbo : bo = true → k = k0 := fun h => Decidable.byContradiction fun hk => HB.out h (HONE.out k u u2 hk HU.out HU2.out)
           have HBO := Lib.hid hbo
           clear hbo HB
           go_upto_if 99 with fail
           go_cut [8] (fun s8 wx => ∃ c3 : Nat, s8 = .int .i64 c3 ∧ c3 ≤ 1 ∧ Hid (0 < c3 → k0 < k + 1) ∧ Onto w12 wx)
           case first =>
            cases hbv : bo with
            | true =>
              have hk0 := HBO.out hbv
              have hc0 : c2 = 0 := by
               rcases Nat.eq_zero_or_pos c2 with h | h
               · exact h
               · have := HC.out h; omega
              subst hc0
              have HK0 := Lib.hid hk0
              clear hk0 hbv
              go_wp2_with fail
              go_meet
              exact ⟨1, by go_num, by omega, Lib.hid (fun _ => by have := HK0.out; omega), Onto.rfl' _⟩
            | false =>
              clear hbv
              go_wp2_with fail
              go_meet
              exact ⟨c2, rfl, hc2, Lib.hid (fun h => by have := HC.out h; omega), Onto.rfl' _⟩
           case rest =>
            obtain ⟨c3, rfl, hc3, HC3, bz⟩ := hcut
            clear HC hc2
            replace bq := Onto.to bq bz
            replace on := on.to bz
            replace BX := BX.onto bz
            replace BH := BH.onto bz
            replace BY := BY.onto bz
            replace PA := PA.onto bz
            replace PB := PB.onto bz
            replace R := R.onto bz
            replace R1 := R1.onto bz
            replace vi := vi.onto bz
            replace vi2 := vi2.onto bz
            clear bz
            generalize wc = w13 at *
            have hS := vi.cells; have hS2 := vi2.cells
            rw [HUN.out] at hS; rw [HUN2.out] at hS2
            have a1 := PA.at_ 1 rfl
            rw [HUN.out] at a1
            go_wp2_with fail
            clear a1
            go_loopg [13, 14, 106] 60 (fun g s13 s14 s106 wr => ∃ j : Nat, j ≤ 60 ∧ 60 - j ≤ g ∧ s106 = .int .i64 j ∧ Onto w13 wr)
            case atStart => exact ⟨0, by omega, by omega, rfl, Onto.rfl' _⟩
            case round =>
             obtain ⟨j, hj, hg3, rfl, bz⟩ := hrel
             have bw3 : Onto w13 wr := bz
             replace bq := Onto.to bq bz
             replace on := on.to bz
             replace BX := BX.onto bz
             replace BH := BH.onto bz
             replace BY := BY.onto bz
             replace PA := PA.onto bz
             replace PB := PB.onto bz
             replace R := R.onto bz
             replace R1 := R1.onto bz
             replace vi := vi.onto bz
             replace vi2 := vi2.onto bz
             replace hS := hS.onto bz
             replace hS2 := hS2.onto bz
             clear bz
             by_cases hjl : j < 60
             · have hj6 : (j : Int) < 60 := by omega
               obtain ⟨bc, oc, e, hA0, hbc, he, d0, d1, d2, d3, d4⟩ := hS.atE hjl
               obtain ⟨bd, od, e2, hA2, hbd, he2, f0, f1, f2, f3, f4⟩ := hS2.atE hjl
               have hup : e.kind ≠ 4 → e2 = e := fun h4 => by
                have := (HUP.out k u u2 HU.out HU2.out).cell j (by rw [cellAt_eq he]; exact h4)
                rw [cellAt_eq he, cellAt_eq he2] at this
                exact this
               have HUPE := Lib.hid hup
               have HA2 := Lib.hid hA2
               have HA0 := Lib.hid hA0
               clear hup he he2 hA2 hbc hbd
               rw [hA0]
               go_upto_region 24 with fail
               refine wp_box1 (v1 := [.int .i64 e.kind, .int .i64 e.job, .int .i64 e.every, .int .i64 e.time, .int .i64 e.client]) rfl fun w14 ox V => ?_
               generalize wr.heap.size = ze at V ⊢
               replace f0 := cellB ox f0; replace f1 := cellB ox f1; replace f2 := cellB ox f2; replace f3 := cellB ox f3; replace f4 := cellB ox f4
               replace bq := Onto.to bq ox; replace bw3 := Onto.to bw3 ox
               clear d0 d1 d2 d3 d4 hA0
               replace on := on.to ox
               replace BX := BX.onto ox
               replace BH := BH.onto ox
               replace BY := BY.onto ox
               replace PA := PA.onto ox
               replace PB := PB.onto ox
               replace R := R.onto ox
               replace R1 := R1.onto ox
               replace vi := vi.onto ox
               replace vi2 := vi2.onto ox
               replace hS := hS.onto ox
               replace hS2 := hS2.onto ox
               clear ox
               have v0 := V.at_ 0 rfl; have v1 := V.at_ 1 rfl; have v2 := V.at_ 2 rfl; have v3 := V.at_ 3 rfl; have v4 := V.at_ 4 rfl
               have b1 := PB.at_ 1 rfl
               rw [HUN2.out, HA2.out] at b1
               have hne := neqE
               by_cases h4 : e.kind = 4
               · have hd : (e.kind != 4) = false := by simp [h4]
                 clear h4
                 go_wp2_with fail
                 go_quiet (fail)
                 go_wp2_with fail
                 rw [← HA0.out]
                 go_roundg (60 - (j + 1))
                 case measure => omega
                 case rel => exact ⟨j + 1, by omega, Nat.le_refl _, by go_num, bw3.draws _⟩
               · have hee := HUPE.out h4
                 have hd : (e.kind != 4) = true := by simpa using h4
                 have hd2 : (!(e2.kind == e.kind && e2.job == e.job && e2.every == e.every && e2.time == e.time && e2.client == e.client)) = false := by simp [hee]
                 clear h4 hee
                 go_wp2_with fail
                 go_quiet (fail)
                 go_wp2_with fail
                 rw [← HA0.out]
                 go_roundg (60 - (j + 1))
                 case measure => omega
                 case rel => exact ⟨j + 1, by omega, Nat.le_refl _, by go_num, bw3.draws _⟩
             · obtain rfl : j = 60 := by omega
               go_wp2_with fail
               go_roundg (3 - (k + 1))
               case measure => omega
               case rel => exact ⟨k + 1, c3, by omega, Nat.le_refl _, by go_num, rfl, hc3, HC3, bq⟩
       · obtain rfl : k = 3 := by omega
         have hc21 : (c2 : Int) ≤ 1 := by omega
         go_wp2_with fail
         go_ret
         exact ⟨ret_bool (by simp), on⟩
 · have hd : (q.2 != 0) = true := by simpa using h0
   clear h0
   go_wp2_with fail
   refine Calls.mono (tolled_calls _ (E.onto on)) ?_
   rintro e v5 ⟨rfl, b⟩
   replace on := on.to b
   replace BX := BX.onto b
   replace BH := BH.onto b
   replace BY := BY.onto b
   replace R := R.onto b
   replace R1 := R1.onto b
   clear b
   go_wp2_with fail
   go_ret
   exact ⟨rfl, on⟩
end
section
set_option linter.unusedSimpArgs false
set_option linter.unusedVariables false
open Go.RowKit Go.ChangeShapes Go.WideShapes Go.ChangeAt
set_option maxRecDepth 100000 in
theorem worldKeeps_lifted (os : Os) (started : os.Started) (H : Type) (enc : TypeId × Value → H) :
    ReturnsInHanded {} Tryz.checked os 3 .any (fun w args => (Rows.worldKeepsSpec.pre enc Tryz.prog Tryz.f3 Rows.worldKeepsRow.domain false w args ∧ laidMetH Tryz.prog Rows.worldKeepsRow.laid w) ∧ sizedMet enc Tryz.prog Tryz.f3 (OpenSpec.ofChange Rows.worldKeepsSpec) false w args)
     (Rows.worldKeepsSpec.post enc Tryz.prog Tryz.f3 false true false false) := by
 refine handed_shaped (C := Tryz.checked) (X := fun w _ => laidMetH Tryz.prog Rows.worldKeepsRow.laid w) (fun _ _ _ hh h => h.of_heap hh) own started (by kernel_rfl) Tryz.func3
  (ChangeSpec.witness_shaped (enc := enc) (C := Tryz.checked) (os := os) (X := fun w _ => laidMetH Tryz.prog Rows.worldKeepsRow.laid w) false (World.laidAll Tryz.prog os Rows.worldKeepsRow.laid) #[.agg #[.slice none 0 0, .int .i64 0, .slice none 0 0, .int .i64 0], .agg #[.int .i64 0, .int .i64 0, .int .i64 0, .int .i64 0, .int .i64 0, .int .i64 0, .int .i64 0, .int .i64 0, .int .i64 0, .int .i64 0]] 8 (World.laidAll_os _ _ _)
   (World.shaped_of_ZipB (by kernel_rfl) (by kernel_rfl)) (by kernel_rfl) (by kernel_rfl) (by kernel_rfl)
   (by rw [MakeChecks.laidMetH_plain _ _ _ (by kernel_rfl)]; exact laidMet_laidAll _ (by kernel_rfl) (by kernel_rfl))) ?_
 intro W base args ds gs before hval0 hW hsz0 hL hS
 rw [MakeChecks.laidMetH_plain _ _ _ (by kernel_rfl)] at hL
 have E : Env W := env_of hL hS
 clear hL hS
 have hval : ∀ (j : Nat) t v, Tryz.f3.params[j]? = some t → args[j]? = some v → Value.okWide Tryz.prog W .any base t v := hval0
 have hW' := hW
 obtain ⟨p, q, hA0, hV, rfl, hfz, hnd⟩ := hW
 have hA : DataW.TrodAll enc Tryz.prog W 0 (fun _ => true) true Tryz.f3.params.toList args.toList ds p := hA0
 rw [Tryz.params3] at hA hval
 obtain ⟨v0, vs0, d0, ds0, p0, q0, hargs, rfl, rfl, h0, r0⟩ := trodAll_cons hA
 obtain ⟨v1, vs1, d1, ds1, p1, q1, rfl, rfl, rfl, h1, r1⟩ := trodAll_cons r0
 obtain ⟨rfl, rfl, rfl⟩ := trodAll_nil r1
 obtain rfl : args = #[v0, v1] := by cases args; simp_all
 obtain ⟨rfl, rfl⟩ := trodVars_none hV
 have hall := hA
 obtain ⟨cv0, rfl, _⟩ := okWide_struct Tryz.underlying25 (hval 0 25 v0 rfl rfl)
 obtain ⟨A0, n0, c0, tip0, C0, m0, d0, time0, nv0, kv0, e0, _, _, _, _, R0⟩ := reads_world (reads_of h0)
 obtain rfl : cv0 = #[.slice A0 n0 c0, .int .i64 tip0, .slice C0 m0 d0, .int .i64 time0] := by cases cv0; simpa [Value.cells] using e0
 obtain ⟨cv1, rfl, _⟩ := okWide_struct Tryz.underlying29 (hval 1 29 v1 rfl rfl)
 obtain ⟨x1, e1, _⟩ := reads_hap (reads_of h1)
 obtain rfl : cv1 = #[.int .i64 x1.kind, .int .i64 x1.client, .int .i64 x1.n, .int .i64 x1.job, .int .i64 x1.epoch, .int .i64 x1.e.kind, .int .i64 x1.e.job, .int .i64 x1.e.every, .int .i64 x1.e.time, .int .i64 x1.e.client] := by cases cv1; simpa [Value.cells, encH] using e1
 clear hA0 hval0
 refine (WorldKeeps_calls A0 n0 c0 tip0 C0 m0 d0 time0 nv0 kv0 x1 W E R0).mono fun e W' ⟨he, bel⟩ => ?_
 subst he
 exact ⟨_, rfl, _, _, _, [], _, [], hW', trodAll_mk1 (shut_bool Tryz.underlying4 _), Below_trodAll (ts := [25, 29]) laidOut bel (by intro t ht; simp only [List.mem_cons, List.not_mem_nil, or_false] at ht; rcases ht with rfl | rfl <;> exact ⟨by kernel_rfl, of_decide_eq_true (by kernel_rfl)⟩) hall, rfl, bel.frame _, fun h => by cases h⟩
theorem worldKeeps_row : Rows.WorldKeepsSaid :=
 OpenClaim.holds_of_wide 3 Tryz.f3 rfl rfl rfl rfl rfl rfl rfl ⟨rfl, rfl, rfl, rfl, rfl⟩ rfl rfl rfl rfl rfl (by kernel_rfl) Tryz.func3 (by kernel_rfl)
  (of_decide_eq_true (by kernel_rfl)) (by unfold Func.isWrapper; first | (rw [if_pos (by decide +kernel)]; kernel_rfl) | (rw [if_neg (by decide +kernel)]; exact ⟨rfl, rfl⟩))
  (fun os started H enc _ => worldKeeps_lifted os started H enc)
theorem worldKeeps_holds : Rows.WorldKeepsCardSaid :=
 Claim7.holds_tied_plain_at .later [] [.data, .data, .data, .data, .sentinel, .sentinel, .pinned] true Rows.worldKeepsCard.stood.harness true worldKeeps_row (fun _ h => by cases h) (by kernel_rfl) (fun _ h => by cases h) worldKeeps_row_tie rfl ⟨rfl, rfl⟩ (by kernel_rfl) rfl
  (fun f fn hf hfn => by
   obtain rfl : f = 3 := Option.some.inj ((show Tryz.prog.funcNamed "carillon/carillonlaw.WorldKeeps" = some 3 by kernel_rfl).symm.trans hf) |>.symm
   obtain rfl : fn = Tryz.f3 := (Option.some.inj (Tryz.func3.symm.trans hfn)).symm
   exact ⟨by kernel_rfl, fun j t ht => by
    rw [Tryz.params3] at ht
    have hm : t ∈ [25, 29] := by simpa using Array.mem_of_getElem? ht
    have hall : ([25, 29].all fun u => !Tryz.prog.wantsStandIn u) = true := by kernel_rfl
    exact (show Tryz.prog.wantsStandIn t = false by simpa using List.all_eq_true.1 hall t hm)⟩)
  (by kernel_rfl)
end
end Go.Proofs.YtmppkaoonncddaaGreatDoor
