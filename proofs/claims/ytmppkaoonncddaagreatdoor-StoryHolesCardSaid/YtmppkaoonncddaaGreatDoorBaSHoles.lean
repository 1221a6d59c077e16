/- The law StoryHoles. No condition beyond the listed variables, which the card ties. -/
/- Part 17 of the proof: Sorted, WSHoles, WSHolesL. -/
import Derived.Test.YtmppkaoonncddaaGreatDoorBa09
import Derived.Test.YtmppkaoonncddaaGreatDoorBa02
import Derived.Test.YtmppkaoonncddaaGreatDoorBaSt
import Derived.Test.YtmppkaoonncddaaGreatDoorBa07
import Derived.Test.YtmppkaoonncddaaGreatDoorBa04
import Derived.Test.YtmppkaoonncddaaGreatDoorCards
import Derived.Test.YtmppkaoonncddaaGreatDoorTie
import Derived.SevenTiedAt
namespace Go.Proofs.YtmppkaoonncddaaGreatDoor
section
set_option linter.unusedSimpArgs false
set_option linter.unusedVariables false
open Go.RowKit
attribute [local go_sem ↓] Go.wp_at_zero Go.wp_at_succ
theorem NaN_calls (a : Int) (w : World) : Calls Tryz.prog 99 #[.int .i64 a] w fun e w' => e = .returned (.bool false) ∧ Onto w w' := by
 go_enter Tryz.func99, Tryz.ntmps99
 go_wp2_with fail
 go_ret
 exact ⟨ret_bool (by simp), Onto.rfl' _⟩
theorem Less_calls (a b : Int) (w : World) : Calls Tryz.prog 78 #[.int .i64 a, .int .i64 b] w fun e w' => e = .returned (.bool (decide (a < b))) ∧ Onto w w' := by
 go_enter Tryz.func78, Tryz.ntmps78
 go_wp2_with fail
 refine Calls.mono (NaN_calls a _) ?_
 rintro e w1 ⟨rfl, b1⟩
 go_wp2_with fail
 go_ret
 exact ⟨rfl, b1⟩
set_option maxHeartbeats 4000000 in
theorem IsSorted_calls (A : Option Addr) (n c : Nat) (l : List Int) (w : World) (h : S w 1 A n (l.map encI)) (hn : n ≤ 1000000) (hs : l.Pairwise (· < ·)) :
    Calls Tryz.prog 43 #[.slice A n c] w fun e w' => e = .returned (.bool true) ∧ Onto w w' := by
 have hl : l.length = n := by have := h.len; simpa using this
 have hlt : ∀ (j : Nat) (x y : Int), l[j]? = some x → l[j + 1]? = some y → x < y := fun j x y hx hy => by
  obtain ⟨h1, rfl⟩ := List.getElem?_eq_some_iff.1 hx
  obtain ⟨h2, rfl⟩ := List.getElem?_eq_some_iff.1 hy
  exact List.pairwise_iff_getElem.1 hs j (j + 1) h1 h2 (by omega)
 have HL := Lib.hid hlt
 clear hlt hl hs
 go_enter Tryz.func43, Tryz.ntmps43
 go_wp2_with fail
 go_loopg [3] n (fun g s3 wr => ∃ t : Int, -1 ≤ t ∧ t < n ∧ t.toNat ≤ g ∧ s3 = .int .i64 t ∧ Onto w wr)
 case atStart => exact ⟨(n : Int) - 1, by omega, by omega, by omega, by go_num, Onto.rfl' _⟩
 case round =>
  obtain ⟨t, ht0, ht1, hg, rfl, bw⟩ := hrel
  by_cases hlt : 0 < t
  · obtain ⟨j, hj⟩ : ∃ j : Nat, t = ((j + 1 : Nat) : Int) := ⟨t.toNat - 1, by omega⟩
    subst hj
    obtain ⟨b, off, x, rfl, hb, hx, hc⟩ := (h.onto bw).at_ (i := j) (by omega)
    obtain ⟨b', off', y, hA, hb', hy, hc'⟩ := (h.onto bw).at_ (i := j + 1) (by omega)
    injection hA with hA
    injection hA with h1 h2
    subst h1 h2
    have c0 : wr.cell? ⟨b, off + j, none⟩ = some (.int .i64 x) := by have := hc 0 _ rfl; simpa using this
    have c1 : wr.cell? ⟨b, off + (j + 1), none⟩ = some (.int .i64 y) := by have := hc' 0 _ rfl; simpa using this
    have hxy : ¬ y < x := by have := HL.out j x y hx hy; omega
    have hd : decide (y < x) = false := by simpa using hxy
    have q1 := fun yy : World => Less_calls y x (ontoW wr yy)
    have Q1 := Lib.hid q1; have HD := Lib.hid hd
    have hj1 : ((j + 1 : Nat) : Int) < (n : Int) := ht1
    have hj0 : (0 : Int) < ((j + 1 : Nat) : Int) := by omega
    have hw : IntKind.i64.wrap (((j + 1 : Nat) : Int) - 1) = (j : Int) := by rw [IntKind.wrap_i64]; omega
    have z0 := onto_cell c0; have z1 := onto_cell c1
    clear hc hc' hx hy q1 hd hxy hb hb' c0 c1
    go_upto_region 4 with fail
    refine wp_region_onto (by kernel_rfl) (by kernel_rfl) ?_
    repeat (go_big_quiet_step ((go_at_call 78; exact calls_onto' (u := .bool false) (by with_reducible exact Q1.out _) (by rw [HD.out]))))
    refine wpQuiet_nil ?_
    intro w3 bz
    have bw3 := bw.to bz
    clear z0 z1 Q1 HD
    go_wp2_with fail
    go_roundg j
    case measure => omega
    case rel => exact ⟨(j : Int), by omega, by omega, by omega, by go_num, bw3⟩
  · go_wp2_with fail
    go_ret
    exact ⟨rfl, bw⟩
end
section
set_option linter.unusedSimpArgs false
set_option linter.unusedVariables false
open Go.RowKit
attribute [local go_sem ↓] Go.wp_at_zero Go.wp_at_succ
theorem tailF_eq : ∀ (n : Nat) {cs : List Entry}, cs.length = n → tailF cs = tailU cs
 | 0, cs, h => by cases cs with | nil => rfl | cons x l => simp at h
 | n + 1, cs, h => by
   rcases List.eq_nil_or_concat cs with rfl | ⟨ds, c, rfl⟩
   · simp at h
   · have h9 := tailF_eq n (cs := ds) (by simpa using h)
     simp only [List.concat_eq_append] at *
     rw [tailU_snoc, ← h9]
     unfold tailF
     rw [tailG_snoc]
     by_cases h4 : c.kind = 4 <;> simp [h4]
theorem logW_fine {x : Wor} (h : GoodW x) : logW x = (logOf x, 0) := by
 unfold logW; rw [if_neg (by rw [checkW_iff.2 h]; simp)]
theorem holesW_fine {x : Wor} (h : GoodW x) : holesW x = (holesOf x, 0) := by
 unfold holesW; rw [if_neg (by rw [checkW_iff.2 h]; simp)]
set_option maxHeartbeats 8000000 in
set_option maxRecDepth 100000 in
theorem HolesF_calls (wb : World) (EW : Env wb) (x : Wor) (w : World) (A : Option Addr) (n c : Nat) (C : Option Addr) (m d : Nat) (ns : List NV) (cs : List CV) (h : Hap) (on0 : Onto wb w) (hg : GoodW x) (hx : (happenW x h).2 = 0) (R : WR w A n C m ns cs) (hw : wor ns (happenW x h).1.tip cs (happenW x h).1.time = (happenW x h).1) :
    Calls Tryz.prog 42 #[.agg #[.slice A n c, .int .i64 (happenW x h).1.tip, .slice C m d, .int .i64 (happenW x h).1.time]] w fun e w' => e = .returned (.bool true) ∧ Onto wb w' ∧ w.grownBy w' none := by
 have hg2 := hg.happen hx
 obtain ⟨v, hv⟩ : ∃ v, v = (happenW x h).1 := ⟨_, rfl⟩
 rw [← hv] at hg2 hw ⊢
 have hlw := logW_fine hg2
 have hhw := holesW_fine hg2
 obtain ⟨k1, k2, k3, k4, k5⟩ := holes_law hg2
 have hg3 := hg2
 rw [← hw] at hg3
 obtain ⟨rfl, rfl, hsm⟩ := small_of R hg3
 obtain ⟨tl, htl⟩ : ∃ tl, tl = tailU (nodAt v.n 0).u.cells := ⟨_, rfl⟩
 rw [← htl] at k2 k4 k5
 have HLW := Lib.hid hlw; have HHW := Lib.hid hhw; have HW := Lib.hid hw; have HSM := Lib.hid hsm; have HTL := Lib.hid htl
 have H1 := Lib.hid k1; have H2 := Lib.hid k2; have H3 := Lib.hid k3; have H4 := Lib.hid k4; have HK := Lib.hid k5
 clear hlw hhw hw hv hg hx hg2 hg3 hsm htl k1 k2 k3 k4 k5
 go_enter Tryz.func42, Tryz.ntmps42
 go_upto_region 1 with fail
 refine wp_box1 (v1 := [.slice A 3 c, .int .i64 v.tip, .slice C 3 d, .int .i64 v.time]) rfl fun w1 on BX => ?_
 replace R := R.onto on
 have on1 := on0.to on
 clear on0
 generalize w.heap.size = zx at BX ⊢
 have x0 := BX.at_ 0 rfl; have x1 := BX.at_ 1 rfl; have x2 := BX.at_ 2 rfl; have x3 := BX.at_ 3 rfl
 go_wp2_with fail
 refine Calls.mono (SHoles_calls A 3 c v.tip C 3 d v.time ns cs _ (EW.onto on1) R) ?_
 rw [HW.out, HHW.out]
 rintro e w2 ⟨Bh, bh, yh, rfl, SH, _, _, ob, _⟩
 replace SH : S w2 1 Bh bh ((holesOf v).map fun k : Nat => encI k) := SH
 replace R := R.onto ob; replace BX := BX.onto ob; replace on := on.to ob; replace on1 := on1.to ob
 clear x0 x1 x2 x3 ob
 have x0 := BX.at_ 0 rfl; have x1 := BX.at_ 1 rfl; have x2 := BX.at_ 2 rfl; have x3 := BX.at_ 3 rfl
 go_wp2_with fail
 refine Calls.mono (SLog_calls A 3 c v.tip C 3 d v.time ns cs _ (EW.onto on1) R) ?_
 rw [HW.out, HLW.out]
 rintro e w3 ⟨B1, b1, y1, rfl, S1, _, _, ob, _⟩
 replace S1 : S w3 5 B1 b1 ((logOf v).map encE) := S1
 have hl1 : (logOf v).length = b1 := by have := S1.len; simpa using this
 replace SH := SH.onto ob; replace R := R.onto ob; replace BX := BX.onto ob; replace on := on.to ob; replace on1 := on1.to ob
 have hlh : (holesOf v).length = bh := by have := SH.len; simpa using this
 have h60 : bh ≤ 1000000 := by
  have h1 : (holesOf v).length ≤ tl := by
   rw [HTL.out]; unfold holesOf
   exact Nat.le_trans (List.length_filter_le _ _) (by simp)
  have h2 : tl ≤ 60 := by
   rw [HTL.out]
   have h3 := tail_le (cs := (nodAt v.n 0).u.cells)
   obtain ⟨_, _, u, _, _, hu, vi, _⟩ := R.atN (i := 0) (by omega)
   have h4 : nodAt v.n 0 = u.x := by rw [← HW.out]; exact nodAt_ns hu
   rw [h4] at h3 ⊢
   have h5 := vi.cells.len
   rw [List.length_map, (HSM.out.n u (List.mem_of_getElem? hu)).1] at h5
   omega
  omega
 have SI : S w3 1 Bh bh (((holesOf v).map fun k : Nat => (k : Int)).map encI) := by simpa [List.map_map, Function.comp_def] using SH
 have hso : ((holesOf v).map fun k : Nat => (k : Int)).Pairwise (· < ·) := List.pairwise_map.2 (H1.out.imp (by omega))
 have HSI := Lib.hid SI; have HSO := Lib.hid hso; have HLH := Lib.hid hlh; have HL1 := Lib.hid hl1; have H60 := Lib.hid h60
 clear x0 x1 x2 x3 ob S1 SI hso hlh hl1 h60 SH
 have x0 := BX.at_ 0 rfl
 go_wp2_with fail
 refine Calls.mono (IsSorted_calls Bh bh yh _ _ HSI.out H60.out HSO.out) ?_
 rintro e w4 ⟨rfl, ob⟩
 replace R := R.onto ob; replace BX := BX.onto ob; replace on := on.to ob; replace on1 := on1.to ob
 have SI := HSI.out.onto ob
 have HSI2 := Lib.hid SI
 clear x0 ob SI HSI
 obtain ⟨ba, oa, u0, hA0, _, hu0, vi0, a0, a1, a2, a3, a4⟩ := R.atN (i := 0) (by omega)
 have hun0 : u0.n = 60 := (HSM.out.n u0 (List.mem_of_getElem? hu0)).1
 have hS0 := vi0.cells
 rw [hun0] at hS0 a1
 have ht0 : tailF u0.x.u.cells = tl := by rw [tailF_eq _ rfl, HTL.out, show nodAt v.n 0 = u0.x by rw [← HW.out]; exact nodAt_ns hu0]
 have HS0 := Lib.hid hS0; have HT0 := Lib.hid ht0
 subst hA0
 simp only [Nat.zero_mul, Nat.add_zero] at a0 a1
 clear hu0 vi0 hun0 hS0 ht0 a2 a3 a4
 have x0 := BX.at_ 0 rfl
 go_wp2_with fail
 refine Calls.mono (UTail_calls u0.x.u.ep u0.A 60 u0.c u0.x.u.cells _ HS0.out (by omega)) ?_
 rw [HT0.out]
 rintro e w5 ⟨rfl, ob⟩
 replace R := R.onto ob; replace BX := BX.onto ob; replace on := on.to ob; replace on1 := on1.to ob
 have SI := HSI2.out.onto ob
 clear x0 a0 a1 ob HS0 HT0 HSI2
 generalize w5 = w4 at *
 have hle : b1 ≤ tl := by have := H4.out; have := HL1.out; omega
 have h8 : ¬ (tl : Int) < (b1 : Int) := by omega
 have h7 : decide (tl < b1) = false := by simp; omega
 cases hh : holesOf v with
 | nil =>
   have hb0 : bh = 0 := by rw [← HLH.out, hh]; rfl
   have hbt : b1 = tl := by rw [← HL1.out]; exact H2.out hh
   subst hb0 hbt
   clear hh SI h7 h8
   have h8 : ¬ (b1 : Int) < (b1 : Int) := by omega
   have x0 := BX.at_ 0 rfl
   go_wp2_with fail
   clear x0 BX
   go_loopg [9, 74] 3 (fun g s9 s74 wr => ∃ k : Nat, k ≤ 3 ∧ 3 - k ≤ g ∧ s74 = .int .i64 k ∧ Onto w4 wr)
   case atStart => exact ⟨0, by omega, by omega, rfl, Onto.rfl' _⟩
   case round =>
    obtain ⟨k, hk, hgk, rfl, bw⟩ := hrel
    by_cases hlt : k < 3
    · obtain ⟨ba, oa, u, hC0, _, hu, vi, a0, a1, a2, a3, a4⟩ := (R.onto bw).atN hlt
      have hun : u.n = 60 := (HSM.out.n u (List.mem_of_getElem? hu)).1
      have hS := vi.cells
      rw [hun] at hS a1
      have htk : tailF u.x.u.cells ≤ b1 := by
       have h9 := HK.out k hlt
       rw [show nodAt v.n k = u.x by rw [← HW.out]; exact nodAt_ns hu, ← tailF_eq _ rfl] at h9
       exact h9
      have HC0 := Lib.hid hC0
      have HTK := Lib.hid htk
      rw [hC0]
      clear hC0 hu vi hun htk
      go_upto_region 11 with fail
      refine wp_box1 (v1 := [.int .i64 u.x.u.ep, .slice u.A 60 u.c, .slice u.F u.k u.i, .slice u.G u.l u.j, .bool u.x.up]) rfl fun w5 ox V => ?_
      generalize wr.heap.size = zv at V ⊢
      replace hS := hS.onto ox; replace bw := bw.to ox
      clear a0 a1 a2 a3 a4 ox
      have a0 := V.at_ 0 rfl; have a1 := V.at_ 1 rfl
      have HS := Lib.hid hS
      clear hS
      go_wp2_with fail
      refine Calls.mono (UTail_calls u.x.u.ep u.A 60 u.c u.x.u.cells _ HS.out (by omega)) ?_
      rintro e w6 ⟨rfl, ob⟩
      replace bw := bw.to ob
      have hle := HTK.out
      generalize tailF u.x.u.cells = tk at *
      have h8 : ¬ (b1 : Int) < (tk : Int) := by omega
      have h7 : decide (b1 < tk) = false := by simp; omega
      clear a0 a1 ob HS V HTK
      go_wp2_with fail
      rw [← HC0.out]
      go_roundg (3 - (k + 1))
      case measure => omega
      case rel => exact ⟨k + 1, by omega, Nat.le_refl _, by go_num, bw⟩
    · obtain rfl : k = 3 := by omega
      have on2 := on.to bw
      have on3 := on1.to bw
      go_wp2_with fail
      go_ret
      exact ⟨rfl, on3, gb_onto (World.grownBy.refl w _) on2⟩
 | cons a l =>
   obtain ⟨q, hq⟩ : ∃ q, bh = q + 1 := ⟨l.length, by rw [← HLH.out, hh]; rfl⟩
   subst hq
   have hab : a = b1 := by rw [← HL1.out]; exact H3.out a l hh
   obtain ⟨bb, ob0, y, rfl, _, hy, hcy⟩ := SI.at_ (i := 0) (by omega)
   have hyb : y = (b1 : Int) := by rw [hh] at hy; simp at hy; rw [← hy, hab]
   have c0 : w4.cell? ⟨bb, ob0, none⟩ = some (.int .i64 b1) := by have := hcy 0 _ rfl; rw [hyb] at this; simpa using this
   have hq0 : (((q + 1 : Nat) : Int) == 0) = false := by simp; omega
   have hq1 : (0 : Int) < ((q + 1 : Nat) : Int) := by omega
   clear hh hy hcy hyb SI hab
   have x0 := BX.at_ 0 rfl
   go_wp2_with fail
   clear x0 BX
   go_loopg [9, 74] 3 (fun g s9 s74 wr => ∃ k : Nat, k ≤ 3 ∧ 3 - k ≤ g ∧ s74 = .int .i64 k ∧ Onto w4 wr)
   case atStart => exact ⟨0, by omega, by omega, rfl, Onto.rfl' _⟩
   case round =>
    obtain ⟨k, hk, hgk, rfl, bw⟩ := hrel
    by_cases hlt : k < 3
    · obtain ⟨ba, oa, u, hC0, _, hu, vi, a0, a1, a2, a3, a4⟩ := (R.onto bw).atN hlt
      have hun : u.n = 60 := (HSM.out.n u (List.mem_of_getElem? hu)).1
      have hS := vi.cells
      rw [hun] at hS a1
      have htk : tailF u.x.u.cells ≤ tl := by
       have h9 := HK.out k hlt
       rw [show nodAt v.n k = u.x by rw [← HW.out]; exact nodAt_ns hu, ← tailF_eq _ rfl] at h9
       exact h9
      have HC0 := Lib.hid hC0
      have HTK := Lib.hid htk
      rw [hC0]
      clear hC0 hu vi hun htk
      go_upto_region 11 with fail
      refine wp_box1 (v1 := [.int .i64 u.x.u.ep, .slice u.A 60 u.c, .slice u.F u.k u.i, .slice u.G u.l u.j, .bool u.x.up]) rfl fun w5 ox V => ?_
      generalize wr.heap.size = zv at V ⊢
      replace hS := hS.onto ox; replace bw := bw.to ox
      clear a0 a1 a2 a3 a4 ox
      have a0 := V.at_ 0 rfl; have a1 := V.at_ 1 rfl
      have HS := Lib.hid hS
      clear hS
      go_wp2_with fail
      refine Calls.mono (UTail_calls u.x.u.ep u.A 60 u.c u.x.u.cells _ HS.out (by omega)) ?_
      rintro e w6 ⟨rfl, ob⟩
      replace bw := bw.to ob
      have hle := HTK.out
      generalize tailF u.x.u.cells = tk at *
      have h8 : ¬ (tl : Int) < (tk : Int) := by omega
      have h7 : decide (tl < tk) = false := by simp; omega
      clear a0 a1 ob HS V HTK
      go_wp2_with fail
      rw [← HC0.out]
      go_roundg (3 - (k + 1))
      case measure => omega
      case rel => exact ⟨k + 1, by omega, Nat.le_refl _, by go_num, bw⟩
    · obtain rfl : k = 3 := by omega
      have on2 := on.to bw
      have on3 := on1.to bw
      go_wp2_with fail
      go_ret
      exact ⟨rfl, on3, gb_onto (World.grownBy.refl w _) on2⟩
set_option maxHeartbeats 8000000 in
set_option maxRecDepth 100000 in
theorem StoryHoles_calls (A0 : Option Addr) (k i : Nat) (l : List Hap) (w : World) (E : Env w) (SL : S w 10 A0 k (l.map encH)) (hki : k ≤ i) (him : i ≤ maxLen) :
    Calls Tryz.prog 12 #[.slice A0 k i] w fun e w' => e = .returned (.bool true) ∧ Onto w w' := by
 have Y : Plays (fun _ w' => Onto w w') 42 #[] none A0 k l w :=
  ⟨Onto.rfl' w, fun x w1 w2 h b => h.to b, fun x w2 w3 z hz2 h hw t => below_grown h h.size t (fun g hg => by injection hg with hg; subst hg; exact hz2), fun x w2 h => E.onto h, fun x w2 h => SL.onto h,
   fun x w2 w3 A n C m ns cs h R t => ⟨R.nr.grown t (fun g e => by cases e), R.cr.grown t (fun g e => by cases e), fun v hv => (R.ni v hv).gr t (fun g e => by cases e), fun v hv => (R.ci v hv).gr t (fun g e => by cases e)⟩, fun b e => (by cases e), fun _ _ => (by kernel_rfl),
   fun x w2 A n c C m d ns cs h hp hg hx R hw => HolesF_calls w E x w2 A n c C m d ns cs h hp hg hx R hw⟩
 have HY := Lib.hid Y
 clear Y
 go_enter Tryz.func12, Tryz.ntmps12
 go_wp2_with fail
 refine Calls.mono (Played_calls (fun _ w' => Onto w w') 42 #[] none A0 k i l w hki HY.out) ?_
 rintro e w2 ⟨x, A, n, c, C, m, d, ns, cs, rfl, hP, hG, R, hw⟩
 have on2 : Onto w w2 := hP
 clear hP hG R hw HY
 go_upto_region 2 with fail
 refine wp_box1 (v1 := [.slice A n c, .int .i64 x.tip, .slice C m d, .int .i64 x.time]) rfl fun w3 b X => ?_
 replace on2 := on2.to b
 clear b X
 go_wp2_with fail
 refine Calls.mono (told_calls _ (E.onto on2)) ?_
 rintro e w4 ⟨rfl, b⟩
 replace on2 := on2.to b
 clear b
 go_wp2_with fail
 go_ret
 exact ⟨rfl, on2⟩
end
section
set_option linter.unusedSimpArgs false
set_option linter.unusedVariables false
open Go.RowKit Go.ChangeShapes Go.WideShapes Go.ChangeAt
set_option maxRecDepth 100000 in
theorem storyHoles_lifted (os : Os) (started : os.Started) (H : Type) (enc : TypeId × Value → H) :
    ReturnsInHanded {} Tryz.checked os 12 .any (fun w args => (Rows.storyHolesSpec.pre enc Tryz.prog Tryz.f12 Rows.storyHolesRow.domain false w args ∧ laidMetH Tryz.prog Rows.storyHolesRow.laid w) ∧ sizedMet enc Tryz.prog Tryz.f12 (OpenSpec.ofChange Rows.storyHolesSpec) false w args)
     (Rows.storyHolesSpec.post enc Tryz.prog Tryz.f12 false true false false) := by
 refine handed_shaped (C := Tryz.checked) (X := fun w _ => laidMetH Tryz.prog Rows.storyHolesRow.laid w) (fun _ _ _ hh h => h.of_heap hh) own started (by kernel_rfl) Tryz.func12
  (ChangeSpec.witness_shaped (enc := enc) (C := Tryz.checked) (os := os) (X := fun w _ => laidMetH Tryz.prog Rows.storyHolesRow.laid w) false (World.laidAll Tryz.prog os Rows.storyHolesRow.laid) #[.slice none 0 0] 8 (World.laidAll_os _ _ _)
   (World.shaped_of_ZipB (by kernel_rfl) (by kernel_rfl)) (by kernel_rfl) (by kernel_rfl) (by kernel_rfl)
   (by rw [MakeChecks.laidMetH_plain _ _ _ (by kernel_rfl)]; exact laidMet_laidAll _ (by kernel_rfl) (by kernel_rfl))) ?_
 intro W base args ds gs before hval0 hW hsz0 hL hS
 rw [MakeChecks.laidMetH_plain _ _ _ (by kernel_rfl)] at hL
 have E : Env W := env_of hL hS
 clear hL hS
 have hval : ∀ (j : Nat) t v, Tryz.f12.params[j]? = some t → args[j]? = some v → Value.okWide Tryz.prog W .any base t v := hval0
 have hW' := hW
 obtain ⟨p, q, hA0, hV, rfl, hfz, hnd⟩ := hW
 have hA : DataW.TrodAll enc Tryz.prog W 0 (fun _ => true) true Tryz.f12.params.toList args.toList ds p := hA0
 rw [Tryz.params12] at hA hval
 obtain ⟨v0, vs0, d0, ds0, p0, q0, hargs, rfl, rfl, h0, r0⟩ := trodAll_cons hA
 obtain ⟨rfl, rfl, rfl⟩ := trodAll_nil r0
 obtain rfl : args = #[v0] := by cases args; simp_all
 obtain ⟨rfl, rfl⟩ := trodVars_none hV
 have hall := hA
 obtain ⟨qa0, qb0, qc0, rfl⟩ := okWide_slice Tryz.underlying53 (hval 0 53 v0 rfl rfl)
 obtain ⟨A0, n0, c0, l0, e0, hnc0, hcm0, s0⟩ := reads_haps (reads_of h0)
 simp [Value.cells] at e0
 obtain ⟨rfl, rfl, rfl⟩ := e0
 clear hA0 hval0
 refine (StoryHoles_calls qa0 qb0 qc0 l0 W E s0 hnc0 hcm0).mono fun e W' ⟨he, bel⟩ => ?_
 subst he
 exact ⟨_, rfl, _, _, _, [], _, [], hW', trodAll_mk1 (shut_bool Tryz.underlying4 _), Below_trodAll (ts := [53]) laidOut bel (by intro t ht; simp only [List.mem_cons, List.not_mem_nil, or_false] at ht; rcases ht with rfl <;> exact ⟨by kernel_rfl, of_decide_eq_true (by kernel_rfl)⟩) hall, rfl, bel.frame _, fun h => by cases h⟩
theorem storyHoles_row : Rows.StoryHolesSaid :=
 OpenClaim.holds_of_wide 12 Tryz.f12 rfl rfl rfl rfl rfl rfl rfl ⟨rfl, rfl, rfl, rfl, rfl⟩ rfl rfl rfl rfl rfl (by kernel_rfl) Tryz.func12 (by kernel_rfl)
  (of_decide_eq_true (by kernel_rfl)) (by unfold Func.isWrapper; first | (rw [if_pos (by decide +kernel)]; kernel_rfl) | (rw [if_neg (by decide +kernel)]; exact ⟨rfl, rfl⟩))
  (fun os started H enc _ => storyHoles_lifted os started H enc)
theorem storyHoles_holds : Rows.StoryHolesCardSaid :=
 Claim7.holds_tied_plain_at .later [] [.data, .data, .data, .data, .sentinel, .sentinel, .pinned] true Rows.storyHolesCard.stood.harness true storyHoles_row (fun _ h => by cases h) (by kernel_rfl) (fun _ h => by cases h) storyHoles_row_tie rfl ⟨rfl, rfl⟩ (by kernel_rfl) rfl
  (fun f fn hf hfn => by
   obtain rfl : f = 12 := Option.some.inj ((show Tryz.prog.funcNamed "carillon/carillonlaw.StoryHoles" = some 12 by kernel_rfl).symm.trans hf) |>.symm
   obtain rfl : fn = Tryz.f12 := (Option.some.inj (Tryz.func12.symm.trans hfn)).symm
   exact ⟨by kernel_rfl, fun j t ht => by
    rw [Tryz.params12] at ht
    have hm : t ∈ [53] := by simpa using Array.mem_of_getElem? ht
    have hall : ([53].all fun u => !Tryz.prog.wantsStandIn u) = true := by kernel_rfl
    exact (show Tryz.prog.wantsStandIn t = false by simpa using List.all_eq_true.1 hall t hm)⟩)
  (by kernel_rfl)
end
end Go.Proofs.YtmppkaoonncddaaGreatDoor
