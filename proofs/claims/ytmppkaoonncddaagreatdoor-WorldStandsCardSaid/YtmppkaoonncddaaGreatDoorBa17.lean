/- The law WorldStands: it answers true for every world and index. No condition beyond the listed variables, which the card ties. -/
/- Part 17 of the proof: WStands, WStandsL. -/
import Derived.Test.YtmppkaoonncddaaGreatDoorBa15
import Derived.Test.YtmppkaoonncddaaGreatDoorBa16
import Derived.Test.YtmppkaoonncddaaGreatDoorBa09
import Derived.Test.YtmppkaoonncddaaGreatDoorBa04
import Derived.Test.YtmppkaoonncddaaGreatDoorCards
import Derived.Test.YtmppkaoonncddaaGreatDoorTie
import Derived.SevenTiedAt
namespace Go.Proofs.YtmppkaoonncddaaGreatDoor
section
set_option linter.unusedSimpArgs false
set_option linter.unusedVariables false
open Go.RowKit
attribute [local go_sem ↓] Go.wp_at_zero Go.wp_at_succ
set_option maxHeartbeats 8000000 in
set_option maxRecDepth 100000 in
theorem WorldStands_calls (A : Option Addr) (n c : Nat) (tip : Int) (C : Option Addr) (m d : Nat) (time : Int) (ns : List NV) (cs : List CV) (k0 : Int) (w : World) (E : Env w) (R : WR w A n C m ns cs) :
    Calls Tryz.prog 5 #[.agg #[.slice A n c, .int .i64 tip, .slice C m d, .int .i64 time], .int .i64 k0] w fun e w' => e = .returned (.bool true) ∧ Onto w w' := by
 obtain ⟨g, hg⟩ : ∃ g, g = checkW (wor ns tip cs time) := ⟨_, rfl⟩
 have HG := Lib.hid hg
 clear hg
 go_enter Tryz.func5, Tryz.ntmps5
 go_upto_region 1 with fail
 refine wp_box1 (v1 := [.slice A n c, .int .i64 tip, .slice C m d, .int .i64 time]) rfl fun v1 ob BX => ?_
 have on := ob
 clear ob
 generalize w.heap.size = zx at *
 replace R := R.onto on
 go_wp2_with fail
 refine Calls.mono (tolled_calls _ (E.onto on)) ?_
 rintro e v2 ⟨rfl, b⟩
 replace on := on.to b
 replace BX := BX.onto b
 replace R := R.onto b
 clear b
 have x0 := BX.at_ 0 rfl; have x1 := BX.at_ 1 rfl; have x2 := BX.at_ 2 rfl; have x3 := BX.at_ 3 rfl
 go_wp2_with fail
 refine Calls.mono (WCheck_calls A n c tip C m d time ns cs _ (E.onto on) R) ?_
 rw [← HG.out]
 rintro e v3 ⟨rfl, b⟩
 replace on := on.to b
 replace BX := BX.onto b
 replace R := R.onto b
 clear b
 clear x0 x1 x2 x3
 by_cases hg0 : g = 0
 · subst hg0
   have hgood := checkW_iff.1 HG.out.symm
   have hl3 := hgood.n3
   have hnn := R.nlen
   have hn3 : n = 3 := by have : ns.length = 3 := by simpa [wor, nods] using hl3
                          omega
   subst hn3
   have HGD := Lib.hid hgood
   clear hgood hl3 hnn
   obtain ⟨i, hi, hi3⟩ : ∃ i : Nat, k0 % 3 = (i : Int) ∧ i < 3 := ⟨(k0 % 3).toNat, by omega, by omega⟩
   have HI := Lib.hid hi
   clear hi
   go_wp2_with fail
   refine Calls.mono (at_calls k0 3 _ (by omega) (by omega)) ?_
   rw [HI.out]
   rintro e w' ⟨rfl, rfl⟩
   have x0 := BX.at_ 0 rfl
   obtain ⟨bn, on_, v, rfl, hbn, hv, vi, p0, p1, p2, p3, p4⟩ := R.atN hi3
   have HV := Lib.hid hv
   clear hv hbn
   have hvx : nodAt (nods ns) i = v.x := nodAt_ns HV.out
   have HVX := Lib.hid hvx
   clear hvx
   by_cases hu : v.x.up = true
   · rw [hu] at p4
     have hup : (nodAt (wor ns tip cs time).n i).up = true := by rw [show (wor ns tip cs time).n = nods ns from rfl, HVX.out]; exact hu
     obtain ⟨X1, hX1⟩ : ∃ X, X = setN (wor ns tip cs time) i ⟨(nodAt (wor ns tip cs time).n i).u, (nodAt (wor ns tip cs time).n i).d, false⟩ := ⟨_, rfl⟩
     have hc1 : happenW (wor ns tip cs time) ⟨12, 0, i, 0, 0, zeroE⟩ = (X1, 0) := by rw [hX1]; exact crash_do HGD.out hi3 hup
     have hg1 : GoodW X1 := by
      have := HGD.out.happen (x := ⟨12, 0, i, 0, 0, zeroE⟩) (by rw [hc1])
      rw [hc1] at this; exact this
     have hd1 : doW (wor ns tip cs time) ⟨12, 0, i, 0, 0, zeroE⟩ = (X1, 0) := by rw [doW_of HGD.out (by rw [hc1]), hc1]
     have hc2 : happenW X1 ⟨13, 0, i, 0, 0, zeroE⟩ = (wor ns tip cs time, 0) := by rw [hX1]; exact stands_law HGD.out hi3 hup
     have hd2 : doW X1 ⟨13, 0, i, 0, 0, zeroE⟩ = (wor ns tip cs time, 0) := by rw [doW_of hg1 (by rw [hc2]), hc2]
     have hu1 : (nodAt X1.n i).up = false := by rw [hX1, nodAt_setN (by have := HGD.out.n3; omega)]
     have HD1 := Lib.hid hd1; have HD2 := Lib.hid hd2; have HG1 := Lib.hid hg1; have HU1 := Lib.hid hu1
     clear hup hX1 hc1 hg1 hd1 hc2 hd2 hu1 hu vi p0 p1 p2 p3
     go_upto_region 6 with fail
     clear p4 x0
     have x0 := BX.at_ 0 rfl; have x1 := BX.at_ 1 rfl; have x2 := BX.at_ 2 rfl; have x3 := BX.at_ 3 rfl
     go_wp2_with fail
     refine Calls.mono (WDo_calls (some ⟨bn, on_, none⟩) 3 c tip C m d time ns cs 12 0 i 0 0 zeroE _ (E.onto on) R) ?_
     rw [HD1.out]
     rintro e v4 ⟨A1, n1, c1, C1, m1, d1, ns1, cs1, rfl, R1, e1, e2, b⟩
     replace on := on.to b
     replace BX := BX.onto b
     replace R := R.onto b
     clear b
     clear x0 x1 x2 x3
     dsimp only at e1 e2
     have hg1 : GoodW (wor ns1 X1.tip cs1 X1.time) := by rw [wor_of e1 e2]; exact HG1.out
     obtain ⟨rfl, rfl, _⟩ := small_of R1 hg1
     have hw1 : wor ns1 X1.tip cs1 X1.time = X1 := wor_of e1 e2
     have HW1 := Lib.hid hw1
     have hE1 := Lib.hid e1
     clear hw1 e1 e2
     go_upto_region 7 with fail
     refine wp_box1 (v1 := [.slice A1 3 c1, .int .i64 X1.tip, .slice C1 3 d1, .int .i64 X1.time]) rfl fun v5 ob BY => ?_
     replace on := on.to ob
     replace BX := BX.onto ob
     replace R := R.onto ob
     replace R1 := R1.onto ob
     clear ob
     generalize v4.heap.size = zy at *
     have y0 := BY.at_ 0 rfl
     obtain ⟨bn1, on1_, v1, rfl, hbn, hv1, vi, p0, p1, p2, p3, p4⟩ := R1.atN hi3
     have hu1 : v1.x.up = false := by rw [← nodAt_ns hv1, hE1.out]; exact HU1.out
     rw [hu1] at p4
     clear hv1 vi p0 p1 p2 p3 hbn hu1
     go_upto_region 9 with fail
     clear p4 y0
     have y0 := BY.at_ 0 rfl; have y1 := BY.at_ 1 rfl; have y2 := BY.at_ 2 rfl; have y3 := BY.at_ 3 rfl
     go_wp2_with fail
     refine Calls.mono (WDo_calls (some ⟨bn1, on1_, none⟩) 3 c1 X1.tip C1 3 d1 X1.time ns1 cs1 13 0 i 0 0 zeroE _ (E.onto on) R1) ?_
     rw [HW1.out, HD2.out]
     rintro e v6 ⟨A2, n2, c2, C2, m2, d2, ns2, cs2, rfl, R2, e1, e2, b⟩
     replace on := on.to b
     replace BX := BX.onto b
     replace BY := BY.onto b
     replace R := R.onto b
     replace R1 := R1.onto b
     clear b
     clear y0 y1 y2 y3
     dsimp only at e1 e2
     have hw2 : wor ns2 tip cs2 time = wor ns tip cs time := wor_of (q := wor ns tip cs time) e1 e2
     have hg2 : GoodW (wor ns2 tip cs2 time) := by rw [hw2]; exact HGD.out
     obtain ⟨rfl, rfl, _⟩ := small_of R2 hg2
     have HW2 := Lib.hid hw2; have HG2 := Lib.hid hg2
     clear hw2 hg2 e1 e2
     go_upto_region 10 with fail
     refine wp_box1 (v1 := [.slice A2 3 c2, .int .i64 tip, .slice C2 3 d2, .int .i64 time]) rfl fun v7 ob BZ => ?_
     replace on := on.to ob
     replace BX := BX.onto ob
     replace BY := BY.onto ob
     replace R := R.onto ob
     replace R1 := R1.onto ob
     replace R2 := R2.onto ob
     clear ob
     generalize v6.heap.size = zz at *
     have z0 := BZ.at_ 0 rfl; have z1 := BZ.at_ 1 rfl; have z2 := BZ.at_ 2 rfl; have z3 := BZ.at_ 3 rfl
     have x0 := BX.at_ 0 rfl; have x1 := BX.at_ 1 rfl; have x2 := BX.at_ 2 rfl; have x3 := BX.at_ 3 rfl
     go_wp2_with fail
     refine Calls.mono (WSameG_calls A2 (some ⟨bn, on_, none⟩) 3 c2 3 c tip tip C2 C 3 d2 m d time time ns2 ns cs2 cs _ R2 R HG2.out) ?_
     rw [HW2.out]
     rintro e v8 ⟨rfl, b⟩
     replace on := on.to b
     replace BX := BX.onto b
     replace BY := BY.onto b
     replace BZ := BZ.onto b
     replace R := R.onto b
     replace R1 := R1.onto b
     replace R2 := R2.onto b
     clear b
     go_wp2_with fail
     go_ret
     exact ⟨ret_bool (by simp), on⟩
   · have hu : v.x.up = false := by simpa using hu
     rw [hu] at p4
     clear hu vi p0 p1 p2 p3
     go_wp2_with fail
     go_ret
     exact ⟨rfl, on⟩
 · have hd : (g != 0) = true := by simpa using hg0
   clear hg0
   go_wp2_with fail
   refine Calls.mono (tolled_calls _ (E.onto on)) ?_
   rintro e v4 ⟨rfl, b⟩
   replace on := on.to b
   replace BX := BX.onto b
   replace R := R.onto b
   clear b
   go_wp2_with fail
   go_ret
   exact ⟨rfl, on⟩
end
section
set_option linter.unusedSimpArgs false
set_option linter.unusedVariables false
open Go.RowKit Go.ChangeShapes Go.WideShapes Go.ChangeAt
set_option maxRecDepth 100000 in
theorem worldStands_lifted (os : Os) (started : os.Started) (H : Type) (enc : TypeId × Value → H) :
    ReturnsInHanded {} Tryz.checked os 5 .any (fun w args => (Rows.worldStandsSpec.pre enc Tryz.prog Tryz.f5 Rows.worldStandsRow.domain false w args ∧ laidMetH Tryz.prog Rows.worldStandsRow.laid w) ∧ sizedMet enc Tryz.prog Tryz.f5 (OpenSpec.ofChange Rows.worldStandsSpec) false w args)
     (Rows.worldStandsSpec.post enc Tryz.prog Tryz.f5 false true false false) := by
 refine handed_shaped (C := Tryz.checked) (X := fun w _ => laidMetH Tryz.prog Rows.worldStandsRow.laid w) (fun _ _ _ hh h => h.of_heap hh) own started (by kernel_rfl) Tryz.func5
  (ChangeSpec.witness_shaped (enc := enc) (C := Tryz.checked) (os := os) (X := fun w _ => laidMetH Tryz.prog Rows.worldStandsRow.laid w) false (World.laidAll Tryz.prog os Rows.worldStandsRow.laid) #[.agg #[.slice none 0 0, .int .i64 0, .slice none 0 0, .int .i64 0], .int .i64 0] 8 (World.laidAll_os _ _ _)
   (World.shaped_of_ZipB (by kernel_rfl) (by kernel_rfl)) (by kernel_rfl) (by kernel_rfl) (by kernel_rfl)
   (by rw [MakeChecks.laidMetH_plain _ _ _ (by kernel_rfl)]; exact laidMet_laidAll _ (by kernel_rfl) (by kernel_rfl))) ?_
 intro W base args ds gs before hval0 hW hsz0 hL hS
 rw [MakeChecks.laidMetH_plain _ _ _ (by kernel_rfl)] at hL
 have E : Env W := env_of hL hS
 clear hL hS
 have hval : ∀ (j : Nat) t v, Tryz.f5.params[j]? = some t → args[j]? = some v → Value.okWide Tryz.prog W .any base t v := hval0
 have hW' := hW
 obtain ⟨p, q, hA0, hV, rfl, hfz, hnd⟩ := hW
 have hA : DataW.TrodAll enc Tryz.prog W 0 (fun _ => true) true Tryz.f5.params.toList args.toList ds p := hA0
 rw [Tryz.params5] at hA hval
 obtain ⟨v0, vs0, d0, ds0, p0, q0, hargs, rfl, rfl, h0, r0⟩ := trodAll_cons hA
 obtain ⟨v1, vs1, d1, ds1, p1, q1, rfl, rfl, rfl, h1, r1⟩ := trodAll_cons r0
 obtain ⟨rfl, rfl, rfl⟩ := trodAll_nil r1
 obtain rfl : args = #[v0, v1] := by cases args; simp_all
 obtain ⟨rfl, rfl⟩ := trodVars_none hV
 have hall := hA
 obtain ⟨cv0, rfl, _⟩ := okWide_struct Tryz.underlying25 (hval 0 25 v0 rfl rfl)
 obtain ⟨A0, n0, c0, tip0, C0, m0, d0, time0, nv0, kv0, e0, _, _, _, _, R0⟩ := reads_world (reads_of h0)
 obtain rfl : cv0 = #[.slice A0 n0 c0, .int .i64 tip0, .slice C0 m0 d0, .int .i64 time0] := by cases cv0; simpa [Value.cells] using e0
 obtain ⟨a1, rfl, rfl, rfl, wa1⟩ := open_int Tryz.underlying3 (hval 1 3 v1 rfl rfl) h1
 clear hA0 hval0
 refine (WorldStands_calls A0 n0 c0 tip0 C0 m0 d0 time0 nv0 kv0 a1 W E R0).mono fun e W' ⟨he, bel⟩ => ?_
 subst he
 exact ⟨_, rfl, _, _, _, [], _, [], hW', trodAll_mk1 (shut_bool Tryz.underlying4 _), Below_trodAll (ts := [25, 3]) laidOut bel (by intro t ht; simp only [List.mem_cons, List.not_mem_nil, or_false] at ht; rcases ht with rfl | rfl <;> exact ⟨by kernel_rfl, of_decide_eq_true (by kernel_rfl)⟩) hall, rfl, bel.frame _, fun h => by cases h⟩
theorem worldStands_row : Rows.WorldStandsSaid :=
 OpenClaim.holds_of_wide 5 Tryz.f5 rfl rfl rfl rfl rfl rfl rfl ⟨rfl, rfl, rfl, rfl, rfl⟩ rfl rfl rfl rfl rfl (by kernel_rfl) Tryz.func5 (by kernel_rfl)
  (of_decide_eq_true (by kernel_rfl)) (by unfold Func.isWrapper; first | (rw [if_pos (by decide +kernel)]; kernel_rfl) | (rw [if_neg (by decide +kernel)]; exact ⟨rfl, rfl⟩))
  (fun os started H enc _ => worldStands_lifted os started H enc)
theorem worldStands_holds : Rows.WorldStandsCardSaid :=
 Claim7.holds_tied_plain_at .later [] [.data, .data, .data, .data, .sentinel, .sentinel, .pinned] true Rows.worldStandsCard.stood.harness true worldStands_row (fun _ h => by cases h) (by kernel_rfl) (fun _ h => by cases h) worldStands_row_tie rfl ⟨rfl, rfl⟩ (by kernel_rfl) rfl
  (fun f fn hf hfn => by
   obtain rfl : f = 5 := Option.some.inj ((show Tryz.prog.funcNamed "carillon/carillonlaw.WorldStands" = some 5 by kernel_rfl).symm.trans hf) |>.symm
   obtain rfl : fn = Tryz.f5 := (Option.some.inj (Tryz.func5.symm.trans hfn)).symm
   exact ⟨by kernel_rfl, fun j t ht => by
    rw [Tryz.params5] at ht
    have hm : t ∈ [25, 3] := by simpa using Array.mem_of_getElem? ht
    have hall : ([25, 3].all fun u => !Tryz.prog.wantsStandIn u) = true := by kernel_rfl
    exact (show Tryz.prog.wantsStandIn t = false by simpa using List.all_eq_true.1 hall t hm)⟩)
  (by kernel_rfl)
end
end Go.Proofs.YtmppkaoonncddaaGreatDoor
