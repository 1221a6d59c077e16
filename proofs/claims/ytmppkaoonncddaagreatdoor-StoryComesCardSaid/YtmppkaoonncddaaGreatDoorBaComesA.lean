/- Part 16 of the proof: Sorted, WSHoles, LawS2, LawS3, LawS4, LawS5, LawS6, LawS7, LawS8, LawS9, LawS10, LawS11, WComes1, Count, WComes. -/
import Derived.Test.YtmppkaoonncddaaGreatDoorBa08
import Derived.Test.YtmppkaoonncddaaGreatDoorBa02
import Derived.Test.YtmppkaoonncddaaGreatDoorBaSt
import Derived.Test.YtmppkaoonncddaaGreatDoorBa06
import Derived.Test.YtmppkaoonncddaaGreatDoorBa07
import Derived.Test.YtmppkaoonncddaaGreatDoorBa14
import Derived.Laws.EntriesVeiled
import Derived.Deep.CutBlock
namespace Go.Proofs.YtmppkaoonncddaaGreatDoor
section
set_option linter.unusedSimpArgs false
set_option linter.unusedVariables false
open Go.RowKit
attribute [local go_sem ↓] Go.wp_at_zero Go.wp_at_succ
theorem NaN_calls (a : Int) (w : World) : Calls Tryz.prog 99 #[.int .i64 a] w fun e w' => e = .returned (.bool false) ∧ Onto w w' := by
 go_enter Tryz.func99, Tryz.ntmps99
 go_wp2_with fail
 go_ret
 exact ⟨ret_bool (by simp), Onto.rfl' _⟩
theorem Less_calls (a b : Int) (w : World) : Calls Tryz.prog 78 #[.int .i64 a, .int .i64 b] w fun e w' => e = .returned (.bool (decide (a < b))) ∧ Onto w w' := by
 go_enter Tryz.func78, Tryz.ntmps78
 go_wp2_with fail
 refine Calls.mono (NaN_calls a _) ?_
 rintro e w1 ⟨rfl, b1⟩
 go_wp2_with fail
 go_ret
 exact ⟨rfl, b1⟩
set_option maxHeartbeats 4000000 in
theorem IsSorted_calls (A : Option Addr) (n c : Nat) (l : List Int) (w : World) (h : S w 1 A n (l.map encI)) (hn : n ≤ 1000000) (hs : l.Pairwise (· < ·)) :
    Calls Tryz.prog 43 #[.slice A n c] w fun e w' => e = .returned (.bool true) ∧ Onto w w' := by
 have hl : l.length = n := by have := h.len; simpa using this
 have hlt : ∀ (j : Nat) (x y : Int), l[j]? = some x → l[j + 1]? = some y → x < y := fun j x y hx hy => by
  obtain ⟨h1, rfl⟩ := List.getElem?_eq_some_iff.1 hx
  obtain ⟨h2, rfl⟩ := List.getElem?_eq_some_iff.1 hy
  exact List.pairwise_iff_getElem.1 hs j (j + 1) h1 h2 (by omega)
 have HL := Lib.hid hlt
 clear hlt hl hs
 go_enter Tryz.func43, Tryz.ntmps43
 go_wp2_with fail
 go_loopg [3] n (fun g s3 wr => ∃ t : Int, -1 ≤ t ∧ t < n ∧ t.toNat ≤ g ∧ s3 = .int .i64 t ∧ Onto w wr)
 case atStart => exact ⟨(n : Int) - 1, by omega, by omega, by omega, by go_num, Onto.rfl' _⟩
 case round =>
  obtain ⟨t, ht0, ht1, hg, rfl, bw⟩ := hrel
  by_cases hlt : 0 < t
  · obtain ⟨j, hj⟩ : ∃ j : Nat, t = ((j + 1 : Nat) : Int) := ⟨t.toNat - 1, by omega⟩
    subst hj
    obtain ⟨b, off, x, rfl, hb, hx, hc⟩ := (h.onto bw).at_ (i := j) (by omega)
    obtain ⟨b', off', y, hA, hb', hy, hc'⟩ := (h.onto bw).at_ (i := j + 1) (by omega)
    injection hA with hA
    injection hA with h1 h2
    subst h1 h2
    have c0 : wr.cell? ⟨b, off + j, none⟩ = some (.int .i64 x) := by have := hc 0 _ rfl; simpa using this
    have c1 : wr.cell? ⟨b, off + (j + 1), none⟩ = some (.int .i64 y) := by have := hc' 0 _ rfl; simpa using this
    have hxy : ¬ y < x := by have := HL.out j x y hx hy; omega
    have hd : decide (y < x) = false := by simpa using hxy
    have q1 := fun yy : World => Less_calls y x (ontoW wr yy)
    have Q1 := Lib.hid q1; have HD := Lib.hid hd
    have hj1 : ((j + 1 : Nat) : Int) < (n : Int) := ht1
    have hj0 : (0 : Int) < ((j + 1 : Nat) : Int) := by omega
    have hw : IntKind.i64.wrap (((j + 1 : Nat) : Int) - 1) = (j : Int) := by rw [IntKind.wrap_i64]; omega
    have z0 := onto_cell c0; have z1 := onto_cell c1
    clear hc hc' hx hy q1 hd hxy hb hb' c0 c1
    go_upto_region 4 with fail
    refine wp_region_onto (by kernel_rfl) (by kernel_rfl) ?_
    repeat (go_big_quiet_step ((go_at_call 78; exact calls_onto' (u := .bool false) (by with_reducible exact Q1.out _) (by rw [HD.out]))))
    refine wpQuiet_nil ?_
    intro w3 bz
    have bw3 := bw.to bz
    clear z0 z1 Q1 HD
    go_wp2_with fail
    go_roundg j
    case measure => omega
    case rel => exact ⟨(j : Int), by omega, by omega, by omega, by go_num, bw3⟩
  · go_wp2_with fail
    go_ret
    exact ⟨rfl, bw⟩
end
section
set_option linter.unusedSimpArgs false
set_option linter.unusedVariables false
open Go.RowKit
attribute [local go_sem ↓] Go.wp_at_zero Go.wp_at_succ
theorem tailF_eq : ∀ (n : Nat) {cs : List Entry}, cs.length = n → tailF cs = tailU cs
 | 0, cs, h => by cases cs with | nil => rfl | cons x l => simp at h
 | n + 1, cs, h => by
   rcases List.eq_nil_or_concat cs with rfl | ⟨ds, c, rfl⟩
   · simp at h
   · have h9 := tailF_eq n (cs := ds) (by simpa using h)
     simp only [List.concat_eq_append] at *
     rw [tailU_snoc, ← h9]
     unfold tailF
     rw [tailG_snoc]
     by_cases h4 : c.kind = 4 <;> simp [h4]
theorem logW_fine {x : Wor} (h : GoodW x) : logW x = (logOf x, 0) := by
 unfold logW; rw [if_neg (by rw [checkW_iff.2 h]; simp)]
theorem holesW_fine {x : Wor} (h : GoodW x) : holesW x = (holesOf x, 0) := by
 unfold holesW; rw [if_neg (by rw [checkW_iff.2 h]; simp)]
set_option maxHeartbeats 8000000 in
set_option maxRecDepth 100000 in
theorem HolesF_calls (wb : World) (EW : Env wb) (x : Wor) (w : World) (A : Option Addr) (n c : Nat) (C : Option Addr) (m d : Nat) (ns : List NV) (cs : List CV) (h : Hap) (on0 : Onto wb w) (hg : GoodW x) (hx : (happenW x h).2 = 0) (R : WR w A n C m ns cs) (hw : wor ns (happenW x h).1.tip cs (happenW x h).1.time = (happenW x h).1) :
    Calls Tryz.prog 42 #[.agg #[.slice A n c, .int .i64 (happenW x h).1.tip, .slice C m d, .int .i64 (happenW x h).1.time]] w fun e w' => e = .returned (.bool true) ∧ Onto wb w' ∧ w.grownBy w' none := by
 have hg2 := hg.happen hx
 obtain ⟨v, hv⟩ : ∃ v, v = (happenW x h).1 := ⟨_, rfl⟩
 rw [← hv] at hg2 hw ⊢
 have hlw := logW_fine hg2
 have hhw := holesW_fine hg2
 obtain ⟨k1, k2, k3, k4, k5⟩ := holes_law hg2
 have hg3 := hg2
 rw [← hw] at hg3
 obtain ⟨rfl, rfl, hsm⟩ := small_of R hg3
 obtain ⟨tl, htl⟩ : ∃ tl, tl = tailU (nodAt v.n 0).u.cells := ⟨_, rfl⟩
 rw [← htl] at k2 k4 k5
 have HLW := Lib.hid hlw; have HHW := Lib.hid hhw; have HW := Lib.hid hw; have HSM := Lib.hid hsm; have HTL := Lib.hid htl
 have H1 := Lib.hid k1; have H2 := Lib.hid k2; have H3 := Lib.hid k3; have H4 := Lib.hid k4; have HK := Lib.hid k5
 clear hlw hhw hw hv hg hx hg2 hg3 hsm htl k1 k2 k3 k4 k5
 go_enter Tryz.func42, Tryz.ntmps42
 go_upto_region 1 with fail
 refine wp_box1 (v1 := [.slice A 3 c, .int .i64 v.tip, .slice C 3 d, .int .i64 v.time]) rfl fun w1 on BX => ?_
 replace R := R.onto on
 have on1 := on0.to on
 clear on0
 generalize w.heap.size = zx at BX ⊢
 have x0 := BX.at_ 0 rfl; have x1 := BX.at_ 1 rfl; have x2 := BX.at_ 2 rfl; have x3 := BX.at_ 3 rfl
 go_wp2_with fail
 refine Calls.mono (SHoles_calls A 3 c v.tip C 3 d v.time ns cs _ (EW.onto on1) R) ?_
 rw [HW.out, HHW.out]
 rintro e w2 ⟨Bh, bh, yh, rfl, SH, _, _, ob, _⟩
 replace SH : S w2 1 Bh bh ((holesOf v).map fun k : Nat => encI k) := SH
 replace R := R.onto ob; replace BX := BX.onto ob; replace on := on.to ob; replace on1 := on1.to ob
 clear x0 x1 x2 x3 ob
 have x0 := BX.at_ 0 rfl; have x1 := BX.at_ 1 rfl; have x2 := BX.at_ 2 rfl; have x3 := BX.at_ 3 rfl
 go_wp2_with fail
 refine Calls.mono (SLog_calls A 3 c v.tip C 3 d v.time ns cs _ (EW.onto on1) R) ?_
 rw [HW.out, HLW.out]
 rintro e w3 ⟨B1, b1, y1, rfl, S1, _, _, ob, _⟩
 replace S1 : S w3 5 B1 b1 ((logOf v).map encE) := S1
 have hl1 : (logOf v).length = b1 := by have := S1.len; simpa using this
 replace SH := SH.onto ob; replace R := R.onto ob; replace BX := BX.onto ob; replace on := on.to ob; replace on1 := on1.to ob
 have hlh : (holesOf v).length = bh := by have := SH.len; simpa using this
 have h60 : bh ≤ 1000000 := by
  have h1 : (holesOf v).length ≤ tl := by
   rw [HTL.out]; unfold holesOf
   exact Nat.le_trans (List.length_filter_le _ _) (by simp)
  have h2 : tl ≤ 60 := by
   rw [HTL.out]
   have h3 := tail_le (cs := (nodAt v.n 0).u.cells)
   obtain ⟨_, _, u, _, _, hu, vi, _⟩ := R.atN (i := 0) (by omega)
   have h4 : nodAt v.n 0 = u.x := by rw [← HW.out]; exact nodAt_ns hu
   rw [h4] at h3 ⊢
   have h5 := vi.cells.len
   rw [List.length_map, (HSM.out.n u (List.mem_of_getElem? hu)).1] at h5
   omega
  omega
 have SI : S w3 1 Bh bh (((holesOf v).map fun k : Nat => (k : Int)).map encI) := by simpa [List.map_map, Function.comp_def] using SH
 have hso : ((holesOf v).map fun k : Nat => (k : Int)).Pairwise (· < ·) := List.pairwise_map.2 (H1.out.imp (by omega))
 have HSI := Lib.hid SI; have HSO := Lib.hid hso; have HLH := Lib.hid hlh; have HL1 := Lib.hid hl1; have H60 := Lib.hid h60
 clear x0 x1 x2 x3 ob S1 SI hso hlh hl1 h60 SH
 have x0 := BX.at_ 0 rfl
 go_wp2_with fail
 refine Calls.mono (IsSorted_calls Bh bh yh _ _ HSI.out H60.out HSO.out) ?_
 rintro e w4 ⟨rfl, ob⟩
 replace R := R.onto ob; replace BX := BX.onto ob; replace on := on.to ob; replace on1 := on1.to ob
 have SI := HSI.out.onto ob
 have HSI2 := Lib.hid SI
 clear x0 ob SI HSI
 obtain ⟨ba, oa, u0, hA0, _, hu0, vi0, a0, a1, a2, a3, a4⟩ := R.atN (i := 0) (by omega)
 have hun0 : u0.n = 60 := (HSM.out.n u0 (List.mem_of_getElem? hu0)).1
 have hS0 := vi0.cells
 rw [hun0] at hS0 a1
 have ht0 : tailF u0.x.u.cells = tl := by rw [tailF_eq _ rfl, HTL.out, show nodAt v.n 0 = u0.x by rw [← HW.out]; exact nodAt_ns hu0]
 have HS0 := Lib.hid hS0; have HT0 := Lib.hid ht0
 subst hA0
 simp only [Nat.zero_mul, Nat.add_zero] at a0 a1
 clear hu0 vi0 hun0 hS0 ht0 a2 a3 a4
 have x0 := BX.at_ 0 rfl
 go_wp2_with fail
 refine Calls.mono (UTail_calls u0.x.u.ep u0.A 60 u0.c u0.x.u.cells _ HS0.out (by omega)) ?_
 rw [HT0.out]
 rintro e w5 ⟨rfl, ob⟩
 replace R := R.onto ob; replace BX := BX.onto ob; replace on := on.to ob; replace on1 := on1.to ob
 have SI := HSI2.out.onto ob
 clear x0 a0 a1 ob HS0 HT0 HSI2
 generalize w5 = w4 at *
 have hle : b1 ≤ tl := by have := H4.out; have := HL1.out; omega
 have h8 : ¬ (tl : Int) < (b1 : Int) := by omega
 have h7 : decide (tl < b1) = false := by simp; omega
 cases hh : holesOf v with
 | nil =>
   have hb0 : bh = 0 := by rw [← HLH.out, hh]; rfl
   have hbt : b1 = tl := by rw [← HL1.out]; exact H2.out hh
   subst hb0 hbt
   clear hh SI h7 h8
   have h8 : ¬ (b1 : Int) < (b1 : Int) := by omega
   have x0 := BX.at_ 0 rfl
   go_wp2_with fail
   clear x0 BX
   go_loopg [9, 74] 3 (fun g s9 s74 wr => ∃ k : Nat, k ≤ 3 ∧ 3 - k ≤ g ∧ s74 = .int .i64 k ∧ Onto w4 wr)
   case atStart => exact ⟨0, by omega, by omega, rfl, Onto.rfl' _⟩
   case round =>
    obtain ⟨k, hk, hgk, rfl, bw⟩ := hrel
    by_cases hlt : k < 3
    · obtain ⟨ba, oa, u, hC0, _, hu, vi, a0, a1, a2, a3, a4⟩ := (R.onto bw).atN hlt
      have hun : u.n = 60 := (HSM.out.n u (List.mem_of_getElem? hu)).1
      have hS := vi.cells
      rw [hun] at hS a1
      have htk : tailF u.x.u.cells ≤ b1 := by
       have h9 := HK.out k hlt
       rw [show nodAt v.n k = u.x by rw [← HW.out]; exact nodAt_ns hu, ← tailF_eq _ rfl] at h9
       exact h9
      have HC0 := Lib.hid hC0
      have HTK := Lib.hid htk
      rw [hC0]
      clear hC0 hu vi hun htk
      go_upto_region 11 with fail
      refine wp_box1 (v1 := [.int .i64 u.x.u.ep, .slice u.A 60 u.c, .slice u.F u.k u.i, .slice u.G u.l u.j, .bool u.x.up]) rfl fun w5 ox V => ?_
      generalize wr.heap.size = zv at V ⊢
      replace hS := hS.onto ox; replace bw := bw.to ox
      clear a0 a1 a2 a3 a4 ox
      have a0 := V.at_ 0 rfl; have a1 := V.at_ 1 rfl
      have HS := Lib.hid hS
      clear hS
      go_wp2_with fail
      refine Calls.mono (UTail_calls u.x.u.ep u.A 60 u.c u.x.u.cells _ HS.out (by omega)) ?_
      rintro e w6 ⟨rfl, ob⟩
      replace bw := bw.to ob
      have hle := HTK.out
      generalize tailF u.x.u.cells = tk at *
      have h8 : ¬ (b1 : Int) < (tk : Int) := by omega
      have h7 : decide (b1 < tk) = false := by simp; omega
      clear a0 a1 ob HS V HTK
      go_wp2_with fail
      rw [← HC0.out]
      go_roundg (3 - (k + 1))
      case measure => omega
      case rel => exact ⟨k + 1, by omega, Nat.le_refl _, by go_num, bw⟩
    · obtain rfl : k = 3 := by omega
      have on2 := on.to bw
      have on3 := on1.to bw
      go_wp2_with fail
      go_ret
      exact ⟨rfl, on3, gb_onto (World.grownBy.refl w _) on2⟩
 | cons a l =>
   obtain ⟨q, hq⟩ : ∃ q, bh = q + 1 := ⟨l.length, by rw [← HLH.out, hh]; rfl⟩
   subst hq
   have hab : a = b1 := by rw [← HL1.out]; exact H3.out a l hh
   obtain ⟨bb, ob0, y, rfl, _, hy, hcy⟩ := SI.at_ (i := 0) (by omega)
   have hyb : y = (b1 : Int) := by rw [hh] at hy; simp at hy; rw [← hy, hab]
   have c0 : w4.cell? ⟨bb, ob0, none⟩ = some (.int .i64 b1) := by have := hcy 0 _ rfl; rw [hyb] at this; simpa using this
   have hq0 : (((q + 1 : Nat) : Int) == 0) = false := by simp; omega
   have hq1 : (0 : Int) < ((q + 1 : Nat) : Int) := by omega
   clear hh hy hcy hyb SI hab
   have x0 := BX.at_ 0 rfl
   go_wp2_with fail
   clear x0 BX
   go_loopg [9, 74] 3 (fun g s9 s74 wr => ∃ k : Nat, k ≤ 3 ∧ 3 - k ≤ g ∧ s74 = .int .i64 k ∧ Onto w4 wr)
   case atStart => exact ⟨0, by omega, by omega, rfl, Onto.rfl' _⟩
   case round =>
    obtain ⟨k, hk, hgk, rfl, bw⟩ := hrel
    by_cases hlt : k < 3
    · obtain ⟨ba, oa, u, hC0, _, hu, vi, a0, a1, a2, a3, a4⟩ := (R.onto bw).atN hlt
      have hun : u.n = 60 := (HSM.out.n u (List.mem_of_getElem? hu)).1
      have hS := vi.cells
      rw [hun] at hS a1
      have htk : tailF u.x.u.cells ≤ tl := by
       have h9 := HK.out k hlt
       rw [show nodAt v.n k = u.x by rw [← HW.out]; exact nodAt_ns hu, ← tailF_eq _ rfl] at h9
       exact h9
      have HC0 := Lib.hid hC0
      have HTK := Lib.hid htk
      rw [hC0]
      clear hC0 hu vi hun htk
      go_upto_region 11 with fail
      refine wp_box1 (v1 := [.int .i64 u.x.u.ep, .slice u.A 60 u.c, .slice u.F u.k u.i, .slice u.G u.l u.j, .bool u.x.up]) rfl fun w5 ox V => ?_
      generalize wr.heap.size = zv at V ⊢
      replace hS := hS.onto ox; replace bw := bw.to ox
      clear a0 a1 a2 a3 a4 ox
      have a0 := V.at_ 0 rfl; have a1 := V.at_ 1 rfl
      have HS := Lib.hid hS
      clear hS
      go_wp2_with fail
      refine Calls.mono (UTail_calls u.x.u.ep u.A 60 u.c u.x.u.cells _ HS.out (by omega)) ?_
      rintro e w6 ⟨rfl, ob⟩
      replace bw := bw.to ob
      have hle := HTK.out
      generalize tailF u.x.u.cells = tk at *
      have h8 : ¬ (tl : Int) < (tk : Int) := by omega
      have h7 : decide (tl < tk) = false := by simp; omega
      clear a0 a1 ob HS V HTK
      go_wp2_with fail
      rw [← HC0.out]
      go_roundg (3 - (k + 1))
      case measure => omega
      case rel => exact ⟨k + 1, by omega, Nat.le_refl _, by go_num, bw⟩
    · obtain rfl : k = 3 := by omega
      have on2 := on.to bw
      have on3 := on1.to bw
      go_wp2_with fail
      go_ret
      exact ⟨rfl, on3, gb_onto (World.grownBy.refl w _) on2⟩
set_option maxHeartbeats 8000000 in
set_option maxRecDepth 100000 in
theorem StoryHoles_calls (A0 : Option Addr) (k i : Nat) (l : List Hap) (w : World) (E : Env w) (SL : S w 10 A0 k (l.map encH)) (hki : k ≤ i) (him : i ≤ maxLen) :
    Calls Tryz.prog 12 #[.slice A0 k i] w fun e w' => e = .returned (.bool true) ∧ Onto w w' := by
 have Y : Plays (fun _ w' => Onto w w') 42 #[] none A0 k l w :=
  ⟨Onto.rfl' w, fun x w1 w2 h b => h.to b, fun x w2 w3 z hz2 h hw t => below_grown h h.size t (fun g hg => by injection hg with hg; subst hg; exact hz2), fun x w2 h => E.onto h, fun x w2 h => SL.onto h,
   fun x w2 w3 A n C m ns cs h R t => ⟨R.nr.grown t (fun g e => by cases e), R.cr.grown t (fun g e => by cases e), fun v hv => (R.ni v hv).gr t (fun g e => by cases e), fun v hv => (R.ci v hv).gr t (fun g e => by cases e)⟩, fun b e => (by cases e), fun _ _ => (by kernel_rfl),
   fun x w2 A n c C m d ns cs h hp hg hx R hw => HolesF_calls w E x w2 A n c C m d ns cs h hp hg hx R hw⟩
 have HY := Lib.hid Y
 clear Y
 go_enter Tryz.func12, Tryz.ntmps12
 go_wp2_with fail
 refine Calls.mono (Played_calls (fun _ w' => Onto w w') 42 #[] none A0 k i l w hki HY.out) ?_
 rintro e w2 ⟨x, A, n, c, C, m, d, ns, cs, rfl, hP, hG, R, hw⟩
 have on2 : Onto w w2 := hP
 clear hP hG R hw HY
 go_upto_region 2 with fail
 refine wp_box1 (v1 := [.slice A n c, .int .i64 x.tip, .slice C m d, .int .i64 x.time]) rfl fun w3 b X => ?_
 replace on2 := on2.to b
 clear b X
 go_wp2_with fail
 refine Calls.mono (told_calls _ (E.onto on2)) ?_
 rintro e w4 ⟨rfl, b⟩
 replace on2 := on2.to b
 clear b
 go_wp2_with fail
 go_ret
 exact ⟨rfl, on2⟩
end
section
set_option linter.unusedSimpArgs false
set_option linter.unusedVariables false
theorem cliAt_setC {w : Wor} {i j : Nat} {c : Cli} (hi : i < w.c.length) : cliAt (setC w i c).c j = if j = i then c else cliAt w.c j := cliAt_set hi
theorem GoodW.logLen {w : Wor} (h : GoodW w) : (logOf w).length ≤ 60 := by
 have := (holes_law h).2.2.2.1
 have h1 := tail_le (cs := (nodAt w.n 0).u.cells)
 have h2 := (h.unitOk (k := 0) (by omega)).len
 omega
def BooksI (w : Wor) : Prop := ∀ i, i < 3 → (cliAt w.c i).played.toNat ≤ (logOf w).length ∧ replay ((logOf w).take (cliAt w.c i).played.toNat) = ((cliAt w.c i).b, 0)
theorem BooksI.new : BooksI newW := fun i hi => by
 have : cliAt newW.c i = newCl := by rcases lt3 hi with rfl | rfl | rfl <;> rfl
 rw [this]
 exact ⟨Nat.zero_le _, rfl⟩
end
section
set_option linter.unusedSimpArgs false
set_option linter.unusedVariables false
/-! ### No ring twice -/
theorem stepB_shape {b : Book} {e : Entry} (hb : GoodB b) (he : checkE e = 0) : stepB b e = b ∨
    (e.kind = 1 ∧ (∀ y ∈ b.jobs, y.id ≠ e.job) ∧ (stepB b e).jobs.length = b.jobs.length + 1 ∧ (stepB b e).rung = b.rung ∧ ∀ y ∈ (stepB b e).jobs, y.id = e.job ∨ y ∈ b.jobs) ∨
    (e.kind = 2 ∧ (stepB b e).jobs.length ≤ b.jobs.length ∧ (stepB b e).rung = b.rung ∧ ∀ y ∈ (stepB b e).jobs, y ∈ b.jobs) ∨
    (e.kind = 3 ∧ ∃ (i : Nat) (y : Job), b.jobs[i]? = some y ∧ y.id = e.job ∧ y.next = e.time ∧ stepB b e = ⟨b.jobs.set i ⟨y.id, y.every, y.next + y.every⟩, b.rung ++ [⟨e.job, e.time, e.client⟩]⟩) := by
 rcases checkE_kind he with hkd | hkd | hkd | hkd
 · exact .inl (by simp [stepB, hkd])
 · by_cases hf : 0 ≤ findB b e.job
   · exact .inl (by simp [stepB, hkd, hf])
   · right; left
     have e1 : stepB b e = ⟨b.jobs.take (posJ b.jobs e.job) ++ [⟨e.job, e.every, e.time⟩] ++ b.jobs.drop (posJ b.jobs e.job), b.rung⟩ := by simp [stepB, hkd, hf]
     refine ⟨hkd, findB_neg hf, ?_, by rw [e1], fun y hy => ?_⟩
     · rw [e1]
       have : posJ b.jobs e.job ≤ b.jobs.length := by
        unfold posJ
        exact (List.takeWhile_prefix _).length_le
       simp only [List.length_append, List.length_take, List.length_drop, List.length_singleton]
       omega
     · rw [e1] at hy
       simp only [List.mem_append, List.mem_singleton] at hy
       rcases hy with (hy | rfl) | hy
       · exact .inr (List.mem_of_mem_take hy)
       · exact .inl rfl
       · exact .inr (List.mem_of_mem_drop hy)
 · by_cases hf : 0 ≤ findB b e.job
   · right; right; left
     have e1 : stepB b e = ⟨b.jobs.take (findB b e.job).toNat ++ b.jobs.drop ((findB b e.job).toNat + 1), b.rung⟩ := by
      unfold stepB
      rw [if_neg (by omega), if_pos hkd, if_pos hf]
     refine ⟨hkd, ?_, by rw [e1], fun y hy => ?_⟩
     · rw [e1]
       simp only [List.length_append, List.length_take, List.length_drop]
       omega
     · rw [e1] at hy
       rcases List.mem_append.1 hy with hy | hy
       · exact List.mem_of_mem_take hy
       · exact List.mem_of_mem_drop hy
   · exact .inl (by simp [stepB, hkd, hf])
 · have h0 : stepB b e = (match b.jobs[(findB b e.job).toNat]? with
    | some j => if 0 ≤ findB b e.job ∧ j.next = e.time ∧ b.rung.length < 60 then ⟨b.jobs.set (findB b e.job).toNat ⟨j.id, j.every, j.next + j.every⟩, b.rung ++ [⟨e.job, e.time, e.client⟩]⟩ else b
    | none => b) := by
    unfold stepB
    rw [if_neg (by omega), if_neg (by omega), if_pos hkd]
    cases b.jobs[(findB b e.job).toNat]? <;> rfl
   cases hjj : b.jobs[(findB b e.job).toNat]? with
   | none => rw [hjj] at h0; exact .inl h0
   | some y =>
     rw [hjj] at h0
     simp only at h0
     by_cases hc : 0 ≤ findB b e.job ∧ y.next = e.time ∧ b.rung.length < 60
     · rw [if_pos hc] at h0
       right; right; right
       obtain ⟨i, x, h1, h2, h3⟩ := findB_pos hc.1
       rw [h1, Int.toNat_natCast] at hjj h0
       rw [h2] at hjj
       injection hjj with hjj
       subst hjj
       exact ⟨hkd, i, x, h2, h3, hc.2.1, h0⟩
     · rw [if_neg hc] at h0; exact .inl h0
def seenB (b : Book) (S : List (Int × Int)) (e : Entry) : List (Int × Int) :=
 if b.jobs.length < (stepB b e).jobs.length then S.filter (fun p => decide (p.1 ≠ e.job)) else S
def onceB (b : Book) (S : List (Int × Int)) : List Entry → Prop
 | [] => True
 | e :: l => (applyB b e).2 = 0 ∧
   if b.rung.length < (stepB b e).rung.length then (e.job, e.time) ∉ seenB b S e ∧ onceB (stepB b e) ((e.job, e.time) :: seenB b S e) l
   else onceB (stepB b e) (seenB b S e) l
theorem once_law : ∀ {l : List Entry} {b : Book} {S : List (Int × Int)}, GoodB b → (∀ e ∈ l, checkE e = 0) → (∀ p ∈ S, ∀ y ∈ b.jobs, y.id = p.1 → p.2 < y.next) → onceB b S l
 | [], _, _, _, _, _ => trivial
 | e :: l, b, S, hb, hl, hS => by
   have he := hl e (by simp)
   have hg := stepB_good hb he
   have hl' : ∀ x ∈ l, checkE x = 0 := fun x hx => hl x (by simp [hx])
   refine ⟨by unfold applyB; rw [if_neg (by simp [checkB_iff.2 hb]), if_neg (by simp [he])], ?_⟩
   rcases stepB_shape hb he with h1 | ⟨hk, h1, h2, h3, h4⟩ | ⟨hk, h2, h3, h4⟩ | ⟨hk, i, y, h1, h2, h3, h4⟩
   · unfold seenB
     rw [h1, if_neg (by omega), if_neg (by omega)]
     exact once_law hb hl' hS
   · rw [if_neg (by rw [h3]; omega)]
     refine once_law hg hl' fun p hp z hz ez => ?_
     unfold seenB at hp
     rw [if_pos (by omega)] at hp
     obtain ⟨hp1, hp2⟩ := List.mem_filter.1 hp
     rcases h4 z hz with e1 | e1
     · rw [← ez, e1] at hp2; simp at hp2
     · exact hS p hp1 z e1 ez
   · rw [if_neg (by rw [h3]; omega)]
     refine once_law hg hl' fun p hp z hz ez => ?_
     unfold seenB at hp
     rw [if_neg (by omega)] at hp
     exact hS p hp z (h4 z hz) ez
   · have hs : seenB b S e = S := by
      unfold seenB
      rw [h4, if_neg (by simp)]
     rw [hs, if_pos (by rw [h4]; simp)]
     have hy := List.mem_of_getElem? h1
     refine ⟨fun hin => ?_, once_law hg hl' fun p hp z hz ez => ?_⟩
     · have := hS _ hin y hy h2
       dsimp only at this
       omega
     · have hev : 1 ≤ y.every := by
        have := hb.ok y hy
        unfold badJ at this
        omega
       rw [h4] at hz
       obtain ⟨k, hk', hz'⟩ := List.getElem_of_mem hz
       rw [List.getElem_set] at hz'
       by_cases hik : i = k
       · rw [if_pos hik] at hz'
         subst hz'
         dsimp only at ez ⊢
         rcases List.mem_cons.1 hp with rfl | hp
         · dsimp only; omega
         · have := hS p hp y hy ez
           omega
       · rw [if_neg hik] at hz'
         have hk2 : k < b.jobs.length := by simpa using hk'
         have hzm : b.jobs[k]? = some z := by rw [List.getElem?_eq_getElem hk2, hz']
         rcases List.mem_cons.1 hp with rfl | hp
         · dsimp only at ez
           have a1 := findB_at hb.ord h1
           have a2 := findB_at hb.ord hzm
           rw [ez, ← h2, a1] at a2
           omega
         · exact hS p hp z (List.mem_of_getElem? hzm) ez
/-! ### No ring too early -/
def ringOk (t : Int) (e : Entry) : Prop := e.kind = 3 → e.time ≤ t
theorem rung_law {t : Int} : ∀ {l : List Entry} {b : Book}, GoodB b → (∀ e ∈ l, checkE e = 0 ∧ ringOk t e) → (∀ r ∈ b.rung, r.time ≤ t) → (replayB b l).2 = 0 ∧ ∀ r ∈ (replayB b l).1.rung, r.time ≤ t
 | [], b, _, _, h => ⟨rfl, h⟩
 | e :: l, b, hb, hl, h => by
   obtain ⟨he, hr⟩ := hl e (by simp)
   have ea : applyB b e = (stepB b e, 0) := by unfold applyB; rw [if_neg (by simp [checkB_iff.2 hb]), if_neg (by simp [he])]
   rw [replayB, ea, if_neg (by simp)]
   refine rung_law (stepB_good hb he) (fun x hx => hl x (by simp [hx])) fun r hr' => ?_
   rcases stepB_shape hb he with h1 | ⟨hk, _, _, h3, _⟩ | ⟨hk, _, h3, _⟩ | ⟨hk, i, y, h1, h2, h3, h4⟩
   · rw [h1] at hr'; exact h r hr'
   · rw [h3] at hr'; exact h r hr'
   · rw [h3] at hr'; exact h r hr'
   · rw [h4] at hr'
     rcases List.mem_append.1 hr' with hr' | hr'
     · exact h r hr'
     · rw [List.mem_singleton] at hr'
       subst hr'
       exact hr hk
structure RingsI (w : Wor) : Prop where
 cells : ∀ k, k < 3 → ∀ a, ringOk w.time (cellAt (gr (nodAt w.n k)).cells a)
 cl : ∀ i, i < 3 → ringOk w.time (cliAt w.c i).e
theorem ringOk_blank {t : Int} : ringOk t zeroE := fun h => by cases h
theorem ringOk.later {t t' : Int} {e : Entry} (h : ringOk t e) (ht : t ≤ t') : ringOk t' e := fun hk => by have := h hk; omega
theorem good_none : GoodB Book.none := ⟨by decide, by decide, by simp [Book.none], by simp [Book.none], by simp [Book.none]⟩
theorem RingsI.now {w : Wor} (h : GoodW w) (hr : RingsI w) {k a : Nat} (hk : k < 3) : ringOk w.time (cellAt (nodAt w.n k).u.cells a) := by
 obtain ⟨l, m, hI⟩ := checkN_inv (h.node k hk)
 by_cases h4 : (cellAt (nodAt w.n k).u.cells a).kind = 4
 · exact fun h3 => by omega
 · have := hr.cells k hk a
   unfold gr at this
   rwa [hI.upon.cell a h4] at this
theorem log_mem {w : Wor} {e : Entry} (he : e ∈ logOf w) : ∃ k, k < (logOf w).length ∧ cellAt (nodAt w.n 2).u.cells k = e ∧ e.kind ≠ 4 := by
 obtain ⟨k, hk, rfl⟩ := List.getElem_of_mem he
 have hpre : logOf w <+: (nodAt w.n 2).u.cells := List.takeWhile_prefix _
 have hlt : k < (nodAt w.n 2).u.cells.length := by have := hpre.length_le; omega
 have e1 : cellAt (nodAt w.n 2).u.cells k = (logOf w)[k] := by
  rw [hpre.getElem hk]
  unfold cellAt
  rw [List.getElem?_eq_getElem hlt]
  rfl
 exact ⟨k, hk, e1, by rw [← e1]; exact (log_cells hk).2⟩
theorem story_once {w : Wor} (h : GoodW w) (hr : RingsI w) : (replay (logOf w)).2 = 0 ∧ (∀ r ∈ (replay (logOf w)).1.rung, r.time ≤ w.time) ∧ onceB Book.none [] (logOf w) := by
 have hl := h.logLen
 have ok : ∀ e ∈ logOf w, checkE e = 0 ∧ ringOk w.time e := fun e he => by
  obtain ⟨k, hk, e1, h4⟩ := log_mem he
  refine ⟨?_, ?_⟩
  · rw [← e1]
    exact h.cellOk (k := 2) (by omega) (by omega) (by rw [e1]; exact h4)
  · rw [← e1]
    exact hr.now h (by omega)
 have := rung_law good_none ok (by simp [Book.none])
 unfold replay
 rw [if_neg (by omega)]
 exact ⟨this.1, this.2, once_law good_none (fun e he => (ok e he).1) (by simp)⟩
end
section
set_option linter.unusedSimpArgs false
set_option linter.unusedVariables false
theorem RingsI.setN {w : Wor} (h : RingsI w) (hl : w.n.length = 3) {k : Nat} {n' : Nod} (hk : k < 3) (hn : ∀ a, ringOk w.time (cellAt (gr n').cells a)) : RingsI (setN w k n') := by
 refine ⟨fun j hj a => ?_, h.cl⟩
 show ringOk w.time (cellAt (gr (nodAt (w.n.set k n') j)).cells a)
 rw [nodAt_set (by omega)]
 split
 · exact hn a
 · exact h.cells j hj a
theorem RingsI.setC {w : Wor} (h : RingsI w) (hl : w.c.length = 3) {i : Nat} {c' : Cli} (hi : i < 3) (hc : ringOk w.time c'.e) : RingsI (setC w i c') := by
 refine ⟨h.cells, fun j hj => ?_⟩
 show ringOk w.time (cliAt (w.c.set i c') j).e
 rw [cliAt_set (by omega)]
 split
 · exact hc
 · exact h.cl j hj
theorem put_rings {u : Uni} {t : Int} {a : Nat} {e : Entry} (hu : ∀ b, ringOk t (cellAt u.cells b)) (he : ringOk t e) (b : Nat) : ringOk t (cellAt (putU u a e).cells b) := by
 unfold putU
 dsimp only
 rw [cellAt_put]
 split
 · exact he
 · exact hu b
theorem heard_rings {c : Cli} {y : Entry} {t : Int} (h : (heardCl c y).2 = 0) (hc : ringOk t c.e) (hy : ringOk t y) : ringOk t (heardCl c y).1.e := by
 obtain ⟨_, _, _, h4⟩ := heardCl_keeps h
 rcases h4 with ⟨_, _, e⟩ | ⟨_, _, e⟩ | ⟨_, _, e⟩
 · rw [e]; exact hc
 · rw [e]; exact ringOk_blank
 · rw [e]; exact hy
theorem RingsI.new : RingsI newW := by
 have hn : NodI newN [] [] newU := Holds.new.nodI true
 have hg : gr newN = newU := by unfold gr; rw [hn.chkN]
 refine ⟨fun k hk a => ?_, fun i hi => ?_⟩
 · have e : nodAt newW.n k = newN := by rcases lt3 hk with rfl | rfl | rfl <;> rfl
   rw [e, hg]
   unfold cellAt newU
   dsimp only
   rw [List.getElem?_replicate]
   split
   · exact fun h => by cases h
   · exact fun h => by cases h
 · have e : cliAt newW.c i = newCl := by rcases lt3 hi with rfl | rfl | rfl <;> rfl
   rw [e]
   exact ringOk_blank
theorem RingsI.happen {w : Wor} {x : Hap} (h : GoodW w) (hr : RingsI w) (hx : (happenW w x).2 = 0) : RingsI (happenW w x).1 := by
 have hl := h.n3
 have hcl := h.c3
 rcases happen_inv hx with ⟨_, h1, h2, e⟩ | ⟨_, h1, h2, e⟩ | ⟨k, hk, hn, hh⟩ | ⟨i, hi, hc, hh⟩
 · rw [e]; exact ⟨hr.cells, hr.cl⟩
 · rw [e]; exact ⟨fun k hk a => (hr.cells k hk a).later (by dsimp only; omega), fun i hi => (hr.cl i hi).later (by dsimp only; omega)⟩
 · have hnk := h.node k hk
   obtain ⟨l, m, hI⟩ := checkN_inv hnk
   have hold := hr.cells k hk
   rcases hh with ⟨_, h2, e⟩ | ⟨_, h2, h3, e⟩ | ⟨_, h2, h3, e⟩ | ⟨_, h2, i, hi, _, h3, e⟩
   · rw [e]
     refine hr.setN hl hk fun a => ?_
     have := hold a
     unfold gr
     rw [hI.down.chkN]
     exact this
   · rw [e, hI.boot]
     refine hr.setN hl hk fun a => ?_
     have := hold a
     dsimp only
     unfold gr
     rw [hI.gHolds.gr true]
     exact this
   · rw [e]
     have hok := write_ok h3
     refine hr.setN hl hk fun a => ?_
     unfold gr
     rw [(write_node hnk h2 hok).2.2.2]
     obtain ⟨e1, _⟩ := nextU_seal hok rfl
     rw [e1]
     exact hr.now h hk
   · rw [e]
     obtain ⟨_, _, _, e1⟩ := learnCl_keeps h3
     refine hr.setC hcl hi ?_
     rw [e1]; exact hr.cl i hi
 · rcases hh with ⟨_, h1, e⟩ | ⟨_, hk3, h1, e⟩ | ⟨_, h1, e⟩ | ⟨_, h2, h1, e⟩ | ⟨_, h1, e⟩ | ⟨_, h1, e⟩ | ⟨_, e⟩
   · rw [e]
     obtain ⟨i', k, a, c, n, r, rfl, rfl, hd, hlk, hk, rfl, hu, hat, ha, he, hep, hfr, rfl, hcase⟩ := link_inv h (by omega) h1
     have hi3 : x.client.toNat < 3 := by omega
     have hce := hr.cl _ hi3
     rcases hcase with ⟨h4, h5, ⟨h6, e⟩ | ⟨h6, h7, e⟩⟩ | ⟨h4, hnx, hh⟩
     · rw [e]; exact hr
     · rw [e]; exact hr.setC hcl hi3 (heard_rings h7 hce (hr.now h hk))
     · have hnk := h.node k hk
       have hok : (nextU (nodAt w.n k).u ⟨1, a, 0, (cliAt w.c x.client.toNat).e⟩).2 = 0 := by rw [hnx]
       have hput := put_rings (a := a) (fun b => hr.now h hk (a := b)) hce
       have hwr : RingsI (Go.Proofs.YtmppkaoonncddaaGreatDoor.setN w k (writeN (nodAt w.n k) ⟨1, a, 0, (cliAt w.c x.client.toNat).e⟩).1) := by
        refine hr.setN hl hk fun b => ?_
        unfold gr
        rw [(write_node hnk hu hok).2.2.2, hnx]
        exact hput b
       rcases hh with ⟨h6, e⟩ | ⟨h6, e⟩ | ⟨h5, h6, h7, e⟩
       · rw [e]
         refine hr.setN hl hk fun b => ?_
         unfold gr
         rcases (tear_node (k := x.n) hnk hu hok).2.2.2 with g | g
         · rw [g]; exact hr.now h hk
         · rw [g, hnx]; exact hput b
       · rw [e]; exact hwr
       · rw [e]; exact hwr.setC hcl hi3 (heard_rings h7 hce hce)
   · rw [e]
     obtain ⟨_, _, _, _, e1⟩ := wantCl_keeps h1
     refine hr.setC hcl hi ?_
     rw [e1]; exact fun h => absurd h hk3
   · rw [e]
     obtain ⟨j, _, _, hj, e2, h3⟩ := ringCl_keeps h1
     rw [e2]
     obtain ⟨_, _, _, _, e1⟩ := wantCl_keeps h3
     refine hr.setC hcl hi ?_
     rw [e1]; exact fun _ => hj
   · rw [e]
     obtain ⟨_, _, _, _, e1⟩ := placeCl_keeps h1
     have := hr.setC (c' := (placeCl (cliAt w.c i) w.tip).1) hcl hi (by rw [e1]; exact hr.cl i hi)
     exact ⟨this.cells, this.cl⟩
   · rw [e]
     obtain ⟨_, _, _, _, e1⟩ := fillCl_keeps h1
     refine hr.setC hcl hi ?_
     rw [e1]; exact ringOk_blank
   · rw [e]
     refine hr.setC hcl hi ?_
     unfold nextPl at h1 ⊢
     split at h1
     · cases h1
     · rename_i g1
       split at h1
       · cases h1
       · rename_i g2
         split at h1
         · rename_i g3; exact absurd h1 g3
         · rename_i g3
           rw [if_neg g1, if_neg g2, if_neg g3]
           obtain ⟨_, _, _, e1, _⟩ := playCl_keeps h1
           rw [e1]; exact hr.cl i hi
   · rw [e]; exact hr.setC hcl hi ringOk_blank
end
section
set_option linter.unusedSimpArgs false
set_option linter.unusedVariables false
def nextCl (c : Cli) (k : Nat) (s : Entry) : Cli := if k = 2 then ⟨c.epoch, 0, zeroE, 0, 0, c.played, c.b⟩ else ⟨c.epoch, 2, s, c.at_, c.link + 1, c.played, c.b⟩
theorem heard_next {c : Cli} {k : Nat} {s : Entry} (h : checkCl c = 0) (hd : c.doing = 2) (hk : c.link = k) (hs : checkE s = 0) (he : s = c.e ∨ c.e.kind = 0) : heardCl c s = (nextCl c k s, 0) := by
 unfold heardCl nextCl
 rw [if_neg (by simp [h]), if_neg (by simp [hs]), if_neg (by simp [hd]), if_neg]
 · by_cases h2 : k = 2
   · rw [if_pos (by omega), if_pos h2]
   · rw [if_neg (by omega), if_neg h2, hd]
 · rintro ⟨h1, h2⟩
   rcases he with e | e
   · exact h1 e
   · exact h2 e
theorem link_step {w : Wor} {i k a : Nat} {x : Hap} (h : GoodW w) (o : LinkOk w i k a) (hx : x.kind = 4) (cx : x.client = i)
    (hs : (cliAt w.c i).e.kind = 0 ∨ (cellAt (nodAt w.n k).u.cells a).kind = 4 ∨ cellAt (nodAt w.n k).u.cells a = (cliAt w.c i).e) :
    ∃ n' s, happenW w x = (setC (setN w k n') i (nextCl (cliAt w.c i) k s), 0) ∧ n'.up = true ∧ n'.u.ep = (nodAt w.n k).u.ep ∧ s.kind ≠ 4 ∧ cellAt n'.u.cells a = s ∧ ∀ b, b ≠ a → cellAt n'.u.cells b = cellAt (nodAt w.n k).u.cells b := by
 rw [happen_link (.inl hx) cx o.i3]
 have hcl := (h.cli i o.i3).1
 have hce := (checkCl_iff.1 hcl).2.1
 have hl := (h.unitOk o.k3).len
 have ha := o.a6
 by_cases h4 : (cellAt (nodAt w.n k).u.cells a).kind = 4
 · obtain ⟨hnx, e⟩ := good_linkPut h (x := x) o cx h4
   rw [if_neg (by omega), if_neg (by omega), heard_next hcl o.doing o.link hce (.inl rfl)] at e
   have hr : (nextU (nodAt w.n k).u ⟨1, a, 0, (cliAt w.c i).e⟩).2 = 0 := by rw [hnx]
   obtain ⟨w1, w2, w3, w4⟩ := write_node (h.node k o.k3) o.up hr
   rw [hnx] at w2
   refine ⟨_, _, e, w3, by rw [w2]; rfl, by have := (h.cli i o.i3).kind; omega, ?_, fun b hb => ?_⟩
   · rw [w2]
     show cellAt ((nodAt w.n k).u.cells.set a _) a = _
     rw [cellAt_set (by omega), if_pos rfl]
   · rw [w2]
     show cellAt ((nodAt w.n k).u.cells.set a _) b = _
     rw [cellAt_set (by omega), if_neg hb]
 · have e := good_linkHas h (x := x) o cx h4 (by omega)
   have hs' : cellAt (nodAt w.n k).u.cells a = (cliAt w.c i).e ∨ (cliAt w.c i).e.kind = 0 := by
    rcases hs with g | g | g
    · exact .inr g
    · exact absurd g h4
    · exact .inl g
   rw [if_neg (by omega), heard_next hcl o.doing o.link (h.cellOk o.k3 o.a6 h4) hs'] at e
   refine ⟨nodAt w.n k, cellAt (nodAt w.n k).u.cells a, ?_, o.up, rfl, h4, rfl, fun b _ => rfl⟩
   rw [setN_self]
   exact e
end
section
set_option linter.unusedSimpArgs false
set_option linter.unusedVariables false
structure AllUp (w : Wor) (H : Int) : Prop where
 good : GoodW w
 up : ∀ k, k < 3 → (nodAt w.n k).up = true
 ep : ∀ k, k < 3 → (nodAt w.n k).u.ep = H
theorem along_step {w : Wor} {H : Int} {i k a : Nat} {x : Hap} (hA : AllUp w H) (hi : i < 3) (hk : k < 3) (ha : a < 60) (hx : x.kind = 4) (cx : x.client = i)
    (hd : (cliAt w.c i).doing = 2) (hlk : (cliAt w.c i).link = k) (hat : (cliAt w.c i).at_ = a) (hep : (cliAt w.c i).epoch = H)
    (hs : k = 0 → (cliAt w.c i).e.kind = 0 ∨ (cellAt (nodAt w.n 0).u.cells a).kind = 4) :
    ∃ y s, happenW w x = (y, 0) ∧ AllUp y H ∧ y.tip = w.tip ∧ y.time = w.time ∧ cliAt y.c i = nextCl (cliAt w.c i) k s ∧ (∀ j, j ≠ i → cliAt y.c j = cliAt w.c j) ∧ s.kind ≠ 4 ∧ cellAt (nodAt y.n k).u.cells a = s ∧
     (∀ j, j ≠ k → nodAt y.n j = nodAt w.n j) ∧ ∀ b, b ≠ a → cellAt (nodAt y.n k).u.cells b = cellAt (nodAt w.n k).u.cells b := by
 have h := hA.good
 have hl := h.n3
 have hl' := h.c3
 have hfr : 0 < k → cellAt (nodAt w.n (k - 1)).u.cells a = (cliAt w.c i).e := fun h0 => by
  have := (h.cli i hi).2 hd (by omega)
  rw [hlk, hat, Int.toNat_natCast, Int.toNat_natCast] at this
  exact this
 have o : LinkOk w i k a := ⟨hi, hk, ha, hd, hlk, hat, hA.up k hk, by rw [hep, hA.ep k hk], hfr⟩
 have hs' : (cliAt w.c i).e.kind = 0 ∨ (cellAt (nodAt w.n k).u.cells a).kind = 4 ∨ cellAt (nodAt w.n k).u.cells a = (cliAt w.c i).e := by
  rcases Nat.eq_zero_or_pos k with h0 | h0
  · rcases hs h0 with g | g
    · exact .inl g
    · rw [h0]; exact .inr (.inl g)
  · right
    by_cases h4 : (cellAt (nodAt w.n k).u.cells a).kind = 4
    · exact .inl h4
    · right
      rw [← hfr h0]
      exact (h.front (j := k - 1) (by omega) hk ha h4).symm
 obtain ⟨n', s, e, h1, h2, h3, h4, h5⟩ := link_step h o hx cx hs'
 refine ⟨_, s, e, ⟨?_, fun j hj => ?_, fun j hj => ?_⟩, rfl, rfl, ?_, fun j hj => ?_, h3, ?_, fun j hj => ?_, fun b hb => ?_⟩
 · have := h.happen (x := x) (by rw [e])
   rw [e] at this
   exact this
 · show (nodAt (w.n.set k n') j).up = true
   rw [nodAt_set (by omega)]
   split
   · exact h1
   · exact hA.up j hj
 · show (nodAt (w.n.set k n') j).u.ep = H
   rw [nodAt_set (by omega)]
   split
   · rw [h2]; exact hA.ep k hk
   · exact hA.ep j hj
 · rw [cliAt_setC (by show i < w.c.length; omega), if_pos rfl]
 · rw [cliAt_setC (by show i < w.c.length; omega), if_neg hj]
   rfl
 · show cellAt (nodAt (w.n.set k n') k).u.cells a = s
   rw [nodAt_set (by omega), if_pos rfl]
   exact h4
 · show nodAt (w.n.set k n') j = _
   rw [nodAt_set (by omega), if_neg hj]
 · show cellAt (nodAt (w.n.set k n') k).u.cells b = _
   rw [nodAt_set (by omega), if_pos rfl]
   exact h5 b hb
theorem along_all {w : Wor} {H : Int} {i a : Nat} {x : Hap} {e : Entry} {p : Int} {b : Book} (hA : AllUp w H) (hi : i < 3) (ha : a < 60) (hx : x.kind = 4) (cx : x.client = i)
    (hc : cliAt w.c i = ⟨H, 2, e, a, 0, p, b⟩) (hs : e.kind = 0 ∨ (cellAt (nodAt w.n 0).u.cells a).kind = 4) :
    ∃ y1 y2 y3, happenW w x = (y1, 0) ∧ happenW y1 x = (y2, 0) ∧ happenW y2 x = (y3, 0) ∧ AllUp y3 H ∧ y3.tip = w.tip ∧ y3.time = w.time ∧ cliAt y3.c i = ⟨H, 0, zeroE, 0, 0, p, b⟩ ∧
     (∀ j, j ≠ i → cliAt y3.c j = cliAt w.c j) ∧ (cellAt (nodAt y3.n 2).u.cells a).kind ≠ 4 ∧ ∀ k, k < 3 → ∀ b, b ≠ a → cellAt (nodAt y3.n k).u.cells b = cellAt (nodAt w.n k).u.cells b := by
 obtain ⟨y1, s1, e1, A1, t1, m1, c1, o1, _, _, n1, f1⟩ := along_step (k := 0) hA hi (by omega) ha hx cx (by rw [hc]) (by rw [hc]; rfl) (by rw [hc]) (by rw [hc]) (fun _ => by rw [hc]; exact hs)
 rw [hc] at c1
 have c1 : cliAt y1.c i = ⟨H, 2, s1, a, 1, p, b⟩ := c1
 obtain ⟨y2, s2, e2, A2, t2, m2, c2, o2, _, _, n2, f2⟩ := along_step (k := 1) A1 hi (by omega) ha hx cx (by rw [c1]) (by rw [c1]; rfl) (by rw [c1]) (by rw [c1]) (fun h => by omega)
 rw [c1] at c2
 have c2 : cliAt y2.c i = ⟨H, 2, s2, a, 2, p, b⟩ := c2
 obtain ⟨y3, s3, e3, A3, t3, m3, c3, o3, k3, z3, n3, f3⟩ := along_step (k := 2) A2 hi (by omega) ha hx cx (by rw [c2]) (by rw [c2]; rfl) (by rw [c2]) (by rw [c2]) (fun h => by omega)
 rw [c2] at c3
 refine ⟨y1, y2, y3, e1, e2, e3, A3, by rw [t3, t2, t1], by rw [m3, m2, m1], c3, fun j hj => by rw [o3 j hj, o2 j hj, o1 j hj], by rw [z3]; exact k3, fun k hk q hq => ?_⟩
 rcases lt3 hk with rfl | rfl | rfl
 · rw [n3 0 (by omega), n2 0 (by omega)]; exact f1 q hq
 · rw [n3 1 (by omega), f2 q hq, n1 1 (by omega)]
 · rw [f3 q hq, n2 2 (by omega), n1 2 (by omega)]
end
section
set_option linter.unusedSimpArgs false
set_option linter.unusedVariables false
structure OneN (w y : Wor) (k : Nat) : Prop where
 good : GoodW y
 other : ∀ j, j ≠ k → nodAt y.n j = nodAt w.n j
 c : y.c = w.c
 tip : y.tip = w.tip
 time : y.time = w.time
theorem boot_step {w : Wor} {k : Nat} {c j ep : Int} {e : Entry} (h : GoodW w) (hk : k < 3) : OneN w (stepW w ⟨13, c, k, j, ep, e⟩) k ∧ (nodAt (stepW w ⟨13, c, k, j, ep, e⟩).n k).up = true := by
 have hl := h.n3
 have hg := h.step (x := ⟨13, c, k, j, ep, e⟩)
 by_cases hu : (nodAt w.n k).up = false
 · have e1 := boot_do (c := c) (j := j) (ep := ep) (e := e) hk hu
   obtain ⟨l, m, hI⟩ := checkN_inv (h.node k hk)
   rw [hI.boot] at e1
   unfold stepW at hg ⊢
   rw [e1, if_pos rfl] at hg ⊢
   refine ⟨⟨hg, fun q hq => ?_, rfl, rfl, rfl⟩, ?_⟩
   · show nodAt (w.n.set k _) q = _
     rw [nodAt_set (by omega), if_neg hq]
   · rw [nodAt_setN (by omega)]
 · have hu' : (nodAt w.n k).up = true := by simpa using hu
   have e1 : happenW w ⟨13, c, k, j, ep, e⟩ = (w, 7) := by
    unfold happenW
    dsimp only
    rw [if_neg (by omega), if_pos (by omega)]
    unfold ofUnitW powerW
    dsimp only
    rw [if_neg (by omega), if_pos (by omega), Int.toNat_natCast, if_pos (by simp [hu'])]
   unfold stepW at hg ⊢
   rw [e1, if_neg (by simp)] at hg ⊢
   exact ⟨⟨hg, fun _ _ => rfl, rfl, rfl, rfl⟩, hu'⟩
theorem next_seal {u : Uni} {H : Int} (h : GoodU u.ep u.cells) (h1 : u.ep < H) (h2 : H ≤ 20) : nextU u ⟨2, 0, H, zeroE⟩ = (⟨H, u.cells⟩, 0) := by
 have := h.e1
 unfold nextU
 have hr : checkR ⟨2, 0, H, zeroE⟩ = 0 := by
  unfold checkR
  dsimp only
  rw [if_neg (by omega), if_pos rfl]
  rw [if_neg (by omega)]
  simp
 rw [if_neg (by simp [checkU_iff.2 h]), if_neg (by simp [hr])]
 dsimp only
 rw [if_pos rfl, if_neg (by omega)]
theorem seal_step {w : Wor} {k : Nat} {c j H : Int} {e : Entry} (h : GoodW w) (hk : k < 3) (hu : (nodAt w.n k).up = true) (hH : H ≤ 20) (hep : (nodAt w.n k).u.ep ≤ H) :
    OneN w (stepW w ⟨8, c, k, j, H, e⟩) k ∧ (nodAt (stepW w ⟨8, c, k, j, H, e⟩).n k).up = true ∧ (nodAt (stepW w ⟨8, c, k, j, H, e⟩).n k).u = ⟨H, (nodAt w.n k).u.cells⟩ := by
 have hl := h.n3
 have hg := h.step (x := ⟨8, c, k, j, H, e⟩)
 have e1 : happenW w ⟨8, c, k, j, H, e⟩ = (setN w k (writeN (nodAt w.n k) ⟨2, 0, H, zeroE⟩).1, (writeN (nodAt w.n k) ⟨2, 0, H, zeroE⟩).2) := by
  unfold happenW
  dsimp only
  rw [if_neg (by omega), if_pos (by omega)]
  unfold ofUnitW
  dsimp only
  rw [if_neg (by omega), if_neg (by omega), Int.toNat_natCast, if_neg (by simp [hu]), if_pos rfl]
 by_cases hlt : (nodAt w.n k).u.ep < H
 · have hn := next_seal (h.unitOk hk) hlt hH
   obtain ⟨w1, w2, w3, w4⟩ := write_node (r := ⟨2, 0, H, zeroE⟩) (h.node k hk) hu (by rw [hn])
   unfold stepW at hg ⊢
   rw [e1, w1, if_pos rfl] at hg ⊢
   refine ⟨⟨hg, fun q hq => ?_, rfl, rfl, rfl⟩, ?_, ?_⟩
   · show nodAt (w.n.set k _) q = _
     rw [nodAt_set (by omega), if_neg hq]
   · rw [nodAt_setN (by omega)]; exact w3
   · rw [nodAt_setN (by omega), w2, hn]
 · have heq : (nodAt w.n k).u.ep = H := by omega
   have hbad : (writeN (nodAt w.n k) ⟨2, 0, H, zeroE⟩).2 ≠ 0 := fun h0 => by
    have := (nextU_seal (write_ok h0) rfl).2.1
    dsimp only at this
    omega
   unfold stepW at hg ⊢
   rw [e1, if_neg hbad] at hg ⊢
   exact ⟨⟨hg, fun _ _ => rfl, rfl, rfl, rfl⟩, hu, by rw [← heq]⟩
end
section
set_option linter.unusedSimpArgs false
set_option linter.unusedVariables false
def hapK (kind me n ep : Int) : Hap := ⟨kind, me, n, 0, ep, zeroE⟩
def bootsW (w : Wor) (me : Int) : Wor := stepW (stepW (stepW w (hapK 13 me 0 0)) (hapK 13 me 1 0)) (hapK 13 me 2 0)
def highW (w : Wor) (me : Int) : Int :=
 max (max (max 1 (nodAt (stepW w (hapK 13 me 0 0)).n 0).u.ep) (nodAt (stepW (stepW w (hapK 13 me 0 0)) (hapK 13 me 1 0)).n 1).u.ep) (nodAt (bootsW w me).n 2).u.ep
def sealsW (w : Wor) (me H : Int) : Wor := stepW (stepW (stepW w (hapK 8 me 0 H)) (hapK 8 me 1 H)) (hapK 8 me 2 H)
def startW (w : Wor) (me : Int) : Wor := stepW (stepW (sealsW (bootsW w me) me (highW w me)) (hapK 14 me 0 0)) (hapK 9 me 0 0)
theorem boots_all {w : Wor} {me : Int} (h : GoodW w) : GoodW (bootsW w me) ∧ (∀ k, k < 3 → (nodAt (bootsW w me).n k).up = true) ∧ (bootsW w me).time = w.time ∧
    (∀ k, k < 3 → (nodAt (bootsW w me).n k).u.ep ≤ highW w me) ∧ highW w me ≤ 20 ∧ 1 ≤ highW w me := by
 obtain ⟨o0, u0⟩ := boot_step (k := 0) (c := me) (j := 0) (ep := 0) (e := zeroE) h (by omega)
 obtain ⟨o1, u1⟩ := boot_step (k := 1) (c := me) (j := 0) (ep := 0) (e := zeroE) o0.good (by omega)
 obtain ⟨o2, u2⟩ := boot_step (k := 2) (c := me) (j := 0) (ep := 0) (e := zeroE) o1.good (by omega)
 have hh : highW w me = max (max (max 1 (nodAt (stepW w (hapK 13 me 0 0)).n 0).u.ep) (nodAt (stepW (stepW w (hapK 13 me 0 0)) (hapK 13 me 1 0)).n 1).u.ep) (nodAt (bootsW w me).n 2).u.ep := rfl
 have e0 : nodAt (bootsW w me).n 0 = nodAt (stepW w (hapK 13 me 0 0)).n 0 := (o2.other 0 (by omega)).trans (o1.other 0 (by omega))
 have e1 : nodAt (bootsW w me).n 1 = nodAt (stepW (stepW w (hapK 13 me 0 0)) (hapK 13 me 1 0)).n 1 := o2.other 1 (by omega)
 have g2 : GoodW (bootsW w me) := o2.good
 have b0 := (g2.unitOk (k := 0) (by omega)).e2
 have b1 := (g2.unitOk (k := 1) (by omega)).e2
 have b2 := (g2.unitOk (k := 2) (by omega)).e2
 refine ⟨g2, fun k hk => ?_, (o2.time.trans o1.time).trans o0.time, fun k hk => ?_, ?_, ?_⟩
 · rcases lt3 hk with rfl | rfl | rfl
   · rw [e0]; exact u0
   · rw [e1]; exact u1
   · exact u2
 · rcases lt3 hk with rfl | rfl | rfl
   · rw [e0] at *; omega
   · rw [e1] at *; omega
   · omega
 · rw [e0] at b0; rw [e1] at b1; omega
 · omega
theorem seals_all {w : Wor} {me H : Int} (h : GoodW w) (hu : ∀ k, k < 3 → (nodAt w.n k).up = true) (hH : H ≤ 20) (he : ∀ k, k < 3 → (nodAt w.n k).u.ep ≤ H) :
    AllUp (sealsW w me H) H ∧ (sealsW w me H).time = w.time := by
 obtain ⟨o0, u0, v0⟩ := seal_step (k := 0) (c := me) (j := 0) (H := H) (e := zeroE) h (by omega) (hu 0 (by omega)) hH (he 0 (by omega))
 obtain ⟨o1, u1, v1⟩ := seal_step (k := 1) (c := me) (j := 0) (H := H) (e := zeroE) o0.good (by omega) (by rw [o0.other 1 (by omega)]; exact hu 1 (by omega)) hH (by rw [o0.other 1 (by omega)]; exact he 1 (by omega))
 obtain ⟨o2, u2, v2⟩ := seal_step (k := 2) (c := me) (j := 0) (H := H) (e := zeroE) o1.good (by omega) (by rw [o1.other 2 (by omega), o0.other 2 (by omega)]; exact hu 2 (by omega)) hH (by rw [o1.other 2 (by omega), o0.other 2 (by omega)]; exact he 2 (by omega))
 refine ⟨⟨o2.good, fun k hk => ?_, fun k hk => ?_⟩, (o2.time.trans o1.time).trans o0.time⟩
 · rcases lt3 hk with rfl | rfl | rfl
   · show (nodAt (stepW _ _).n 0).up = true
     exact (congrArg Nod.up ((o2.other 0 (by omega)).trans (o1.other 0 (by omega)))).trans u0
   · exact (congrArg Nod.up (o2.other 1 (by omega))).trans u1
   · exact u2
 · rcases lt3 hk with rfl | rfl | rfl
   · exact (congrArg (fun n => n.u.ep) ((o2.other 0 (by omega)).trans (o1.other 0 (by omega)))).trans (congrArg Uni.ep v0)
   · exact (congrArg (fun n => n.u.ep) (o2.other 1 (by omega))).trans (congrArg Uni.ep v1)
   · exact congrArg Uni.ep v2
theorem start_all {w : Wor} {i : Nat} (h : GoodW w) (hi : i < 3) : ∃ H, AllUp (startW w i) H ∧ (startW w i).time = w.time ∧ cliAt (startW w i).c i = ⟨H, 0, zeroE, 0, 0, 0, Book.none⟩ := by
 obtain ⟨g, gu, gt, ge, g2, g1⟩ := boots_all (me := i) h
 obtain ⟨A, At⟩ := seals_all (me := i) g gu g2 ge
 refine ⟨highW w i, ?_⟩
 unfold startW
 generalize sealsW (bootsW w i) i (highW w i) = s at *
 generalize highW w i = H at *
 have hl := A.good.c3
 have ef : happenW s (hapK 14 i 0 0) = (setC s i newCl, 0) := by
  unfold happenW hapK
  dsimp only
  rw [if_neg (by omega), if_neg (by omega), if_neg (by omega), if_neg (by omega)]
  unfold ofClientW
  dsimp only
  rw [if_neg (by omega), if_neg (by omega), if_neg (by omega), if_neg (by omega), if_neg (by omega), if_neg (by omega), if_neg (by omega), Int.toNat_natCast]
 have sf : stepW s (hapK 14 i 0 0) = setC s i newCl := by unfold stepW; rw [ef, if_pos rfl]
 have gf : GoodW (setC s i newCl) := by rw [← sf]; exact A.good.step
 rw [sf]
 have hc : cliAt (setC s i newCl).c i = newCl := by rw [cliAt_setC (by omega), if_pos rfl]
 have hn : nodAt (setC s i newCl).n 0 = nodAt s.n 0 := rfl
 have el : happenW (setC s i newCl) (hapK 9 i 0 0) = putCl (setC s i newCl) i (learnCl newCl H) := by
  unfold happenW hapK
  dsimp only
  rw [if_neg (by omega), if_pos (by omega)]
  unfold ofUnitW
  dsimp only
  rw [if_neg (by omega), if_neg (by omega), Int.toNat_zero, hn, if_neg (by simp [A.up 0 (by omega)]), if_neg (by omega), if_neg (by omega), Int.toNat_natCast, hc, A.ep 0 (by omega)]
 have k0 : checkCl newCl = 0 := by decide
 by_cases h1 : 1 < H
 · have e1 : learnCl newCl H = (⟨H, 0, zeroE, 0, 0, 0, Book.none⟩, 0) := by
    unfold learnCl
    rw [if_neg (by simp [k0]), if_neg (by omega), if_neg (by show ¬ H ≤ 1; omega)]
    rfl
   have e2 : stepW (setC s i newCl) (hapK 9 i 0 0) = setC (setC s i newCl) i ⟨H, 0, zeroE, 0, 0, 0, Book.none⟩ := by
    unfold stepW
    rw [el, e1]
    rfl
   have gg : GoodW (setC (setC s i newCl) i ⟨H, 0, zeroE, 0, 0, 0, Book.none⟩) := by rw [← e2]; exact gf.step
   rw [e2]
   exact ⟨⟨gg, A.up, A.ep⟩, At.trans gt, by rw [cliAt_setC (by have := gf.c3; omega), if_pos rfl]⟩
 · have hH : H = 1 := by omega
   subst hH
   have e2 : stepW (setC s i newCl) (hapK 9 i 0 0) = setC s i newCl := by
    unfold stepW
    rw [el]
    have : (learnCl newCl 1).2 ≠ 0 := by decide
    unfold putCl
    rw [if_pos this, if_neg this]
   rw [e2]
   exact ⟨⟨gf, A.up, A.ep⟩, At.trans gt, by rw [hc]; rfl⟩
end
section
set_option linter.unusedSimpArgs false
set_option linter.unusedVariables false
structure RestsW (w : Wor) (H : Int) (i : Nat) (p : Int) (b : Book) : Prop where
 all : AllUp w H
 i3 : i < 3
 cl : cliAt w.c i = ⟨H, 0, zeroE, 0, 0, p, b⟩
theorem happen_of {w : Wor} {x : Hap} {i : Nat} (h1 : ¬ (x.kind < 1 ∨ 15 < x.kind)) (h2 : ¬ (x.kind = 8 ∨ x.kind = 9 ∨ x.kind = 12 ∨ x.kind = 13)) (h3 : x.kind ≠ 10) (h4 : x.kind ≠ 11) (hi : i < 3) (cx : x.client = i) (h5 : ¬ (x.kind = 4 ∨ x.kind = 5 ∨ x.kind = 15)) :
    happenW w x = (if x.kind = 1 then (if x.e.kind = 3 then (w, 4) else putCl w i (wantCl (cliAt w.c i) x.e))
     else if x.kind = 2 then putCl w i (ringCl (cliAt w.c i) i x.job w.time)
     else if x.kind = 3 then (if w.tip = 60 then (w, 2) else if (placeCl (cliAt w.c i) w.tip).2 ≠ 0 then (w, (placeCl (cliAt w.c i) w.tip).2)
      else (⟨w.n, w.tip + 1, w.c.set i (placeCl (cliAt w.c i) w.tip).1, w.time⟩, 0))
     else if x.kind = 6 then putCl w i (fillCl (cliAt w.c i) x.n)
     else if x.kind = 7 then putCl w i (nextPl w (cliAt w.c i))
     else (setC w i newCl, 0)) := by
 unfold happenW ofClientW
 rw [if_neg h1, if_neg h2, if_neg h3, if_neg h4, if_neg (by omega), if_neg h5, cx, Int.toNat_natCast]
theorem fill_do {w : Wor} {H : Int} {i a : Nat} {p : Int} {b : Book} (h : RestsW w H i p b) (ha : a < 60) :
    happenW w (hapK 6 i a 0) = (setC w i ⟨H, 2, zeroE, a, 0, p, b⟩, 0) ∧ AllUp (setC w i ⟨H, 2, zeroE, a, 0, p, b⟩) H := by
 have hi := h.i3
 have hcl := (h.all.good.cli i hi).1
 have e : happenW w (hapK 6 i a 0) = (setC w i ⟨H, 2, zeroE, a, 0, p, b⟩, 0) := by
  rw [happen_of (i := i) (by unfold hapK; dsimp only; omega) (by unfold hapK; dsimp only; omega) (by unfold hapK; dsimp only; omega) (by unfold hapK; dsimp only; omega) hi rfl (by unfold hapK; dsimp only; omega)]
  unfold hapK
  dsimp only
  rw [if_neg (by omega), if_neg (by omega), if_neg (by omega), if_pos rfl]
  rw [h.cl] at hcl ⊢
  rw [(fillCl_rests hcl rfl (by omega) (by omega)).2.2.2]
  rfl
 refine ⟨e, ?_, h.all.up, h.all.ep⟩
 have := h.all.good.happen (x := hapK 6 i a 0) (by rw [e])
 rw [e] at this
 exact this
theorem fill_round {w : Wor} {H : Int} {i a : Nat} {p : Int} {b : Book} (h : RestsW w H i p b) (ha : a < 60) :
    ∃ y1 y2 y3, happenW (setC w i ⟨H, 2, zeroE, a, 0, p, b⟩) (hapK 4 i 0 0) = (y1, 0) ∧ happenW y1 (hapK 4 i 0 0) = (y2, 0) ∧ happenW y2 (hapK 4 i 0 0) = (y3, 0) ∧ RestsW y3 H i p b ∧ y3.time = w.time ∧
     (cellAt (nodAt y3.n 2).u.cells a).kind ≠ 4 ∧ ∀ k, k < 3 → ∀ b, b ≠ a → cellAt (nodAt y3.n k).u.cells b = cellAt (nodAt w.n k).u.cells b := by
 obtain ⟨_, hA⟩ := fill_do h ha
 have hl := h.all.good.c3
 have hi := h.i3
 obtain ⟨y1, y2, y3, e1, e2, e3, A, _, t, c, _, n, f⟩ := along_all (x := hapK 4 i 0 0) hA h.i3 ha rfl rfl (by rw [cliAt_setC (by omega), if_pos rfl]) (.inl rfl)
 exact ⟨y1, y2, y3, e1, e2, e3, ⟨A, h.i3, c⟩, t, n, f⟩
theorem play_round {w : Wor} {H : Int} {i : Nat} {p : Nat} {b : Book} (h : RestsW w H i p b) (hp : p ≤ 60) :
    (p < 60 ∧ (cellAt (nodAt w.n 2).u.cells p).kind ≠ 4 ∧ ∃ b', happenW w (hapK 7 i 0 0) = (setC w i ⟨H, 0, zeroE, 0, 0, (p + 1 : Nat), b'⟩, 0) ∧ RestsW (setC w i ⟨H, 0, zeroE, 0, 0, (p + 1 : Nat), b'⟩) H i (p + 1 : Nat) b') ∨
    ((p = 60 ∨ (cellAt (nodAt w.n 2).u.cells p).kind = 4) ∧ (happenW w (hapK 7 i 0 0)).2 ≠ 0) := by
 have hi := h.i3
 have hl := h.all.good.c3
 have hcl := (h.all.good.cli i hi).1
 have e0 : happenW w (hapK 7 i 0 0) = putCl w i (nextPl w (cliAt w.c i)) := by
  rw [happen_of (i := i) (by unfold hapK; dsimp only; omega) (by unfold hapK; dsimp only; omega) (by unfold hapK; dsimp only; omega) (by unfold hapK; dsimp only; omega) hi rfl (by unfold hapK; dsimp only; omega)]
  unfold hapK
  dsimp only
  rw [if_neg (by omega), if_neg (by omega), if_neg (by omega), if_neg (by omega), if_pos rfl]
 have bad : ∀ {r : Cli × Int}, r.2 ≠ 0 → (putCl w i r).2 ≠ 0 := fun {r} hr => by
  unfold putCl; rw [if_pos hr]; exact hr
 rw [e0]
 rw [h.cl] at hcl ⊢
 by_cases h6 : p = 60
 · right
   refine ⟨.inl h6, bad ?_⟩
   unfold nextPl
   rw [if_pos (by dsimp only; omega)]
   simp
 · have hr : readC (unitsN w.n) (p : Int) = if (cellAt (nodAt w.n 2).u.cells p).kind = 4 then (zeroE, 7) else (cellAt (nodAt w.n 2).u.cells p, 0) := by
    unfold readC
    simp only [Int.toNat_natCast, uniAt_units]
    rw [if_neg (by simp [checkC_iff.2 h.all.good.chain]), if_neg (by omega)]
   unfold nextPl
   rw [if_neg (by dsimp only; omega), if_neg (by simp [h.all.up 2 (by omega)])]
   dsimp only
   rw [hr]
   by_cases h4 : (cellAt (nodAt w.n 2).u.cells p).kind = 4
   · right
     refine ⟨.inr h4, bad ?_⟩
     rw [if_pos h4]
     simp
   · left
     rw [if_neg h4]
     have he := h.all.good.cellOk (k := 2) (a := p) (by omega) (by omega) h4
     have hgb := (checkCl_iff.1 hcl).2.2.2.2.2
     have ea : applyB b (cellAt (nodAt w.n 2).u.cells p) = (stepB b (cellAt (nodAt w.n 2).u.cells p), 0) := by
      unfold applyB; rw [if_neg (by simp [checkB_iff.2 hgb]), if_neg (by simp [he])]
     have epl : playCl ⟨H, 0, zeroE, 0, 0, p, b⟩ (cellAt (nodAt w.n 2).u.cells p) = (⟨H, 0, zeroE, 0, 0, (p + 1 : Nat), stepB b (cellAt (nodAt w.n 2).u.cells p)⟩, 0) := by
      unfold playCl
      rw [if_neg (by simp [hcl]), if_neg (by dsimp only; omega)]
      dsimp only
      rw [ea, if_neg (by simp)]
      simp
     dsimp only
     rw [if_neg (by simp), epl]
     have e1 : putCl w i ((⟨H, 0, zeroE, 0, 0, (p + 1 : Nat), stepB b (cellAt (nodAt w.n 2).u.cells p)⟩, 0) : Cli × Int) = (setC w i ⟨H, 0, zeroE, 0, 0, (p + 1 : Nat), stepB b (cellAt (nodAt w.n 2).u.cells p)⟩, 0) := by
      unfold putCl; rw [if_neg (by simp)]
     refine ⟨by omega, h4, _, e1, ⟨⟨?_, h.all.up, h.all.ep⟩, hi, by rw [cliAt_setC (by omega), if_pos rfl]⟩⟩
     have hpl := playCl_keeps (c := ⟨H, 0, zeroE, 0, 0, p, b⟩) (x := cellAt (nodAt w.n 2).u.cells p) (by rw [epl])
     have hok : OkCl w.n ⟨H, 0, zeroE, 0, 0, (p + 1 : Nat), stepB b (cellAt (nodAt w.n 2).u.cells p)⟩ := by
      refine ⟨?_, fun h => by simp at h⟩
      have := hpl.2.2.2.2
      rw [ea] at this
      simpa using this
     exact h.all.good.setC hok
end
section
set_option linter.unusedSimpArgs false
set_option linter.unusedVariables false
theorem tip_do {w : Wor} {me t ep : Int} (h0 : 0 ≤ t) (h1 : t ≤ 60) : happenW w (hapK 10 me t ep) = (⟨w.n, t, w.c, w.time⟩, 0) := by
 unfold happenW hapK
 dsimp only
 rw [if_neg (by omega), if_neg (by omega), if_pos rfl, if_neg (by omega)]
theorem RestsW.tip {w : Wor} {H : Int} {i : Nat} {p : Int} {b : Book} {t : Int} (h : RestsW w H i p b) (h0 : 0 ≤ t) (h1 : t ≤ 60) : RestsW ⟨w.n, t, w.c, w.time⟩ H i p b := by
 have g := h.all.good
 exact ⟨⟨⟨g.n3, g.c3, h0, h1, g.t0, g.t1, g.node, g.fit, g.cli⟩, h.all.up, h.all.ep⟩, h.i3, h.cl⟩
theorem ring_do {w : Wor} {H : Int} {i : Nat} {p : Int} {b : Book} {j : Job} (h : RestsW w H i p b) (hj : j ∈ b.jobs) (hd : j.next ≤ w.time) :
    happenW w ⟨2, i, 0, j.id, 0, zeroE⟩ = (setC w i ⟨H, 1, ⟨3, j.id, 0, j.next, i⟩, 0, 0, p, b⟩, 0) ∧ checkE ⟨3, j.id, 0, j.next, i⟩ = 0 := by
 have hi := h.i3
 have g := h.all.good
 have hcl := (g.cli i hi).1
 have t0 := g.t0; have t1 := g.t1
 rw [h.cl] at hcl
 have hgb := (checkCl_iff.1 hcl).2.2.2.2.2
 have hbad := hgb.ok j hj
 unfold badJ at hbad
 have he : checkE ⟨3, j.id, 0, j.next, i⟩ = 0 := by
  unfold checkE
  simp
  omega
 refine ⟨?_, he⟩
 rw [happen_of (i := i) (by dsimp only; omega) (by dsimp only; omega) (by dsimp only; omega) (by dsimp only; omega) hi rfl (by dsimp only; omega)]
 dsimp only
 rw [if_neg (by omega), if_pos rfl, h.cl]
 have hf : b.jobs.find? (fun y => decide (y.id = j.id)) = some j := by
  cases hf : b.jobs.find? (fun y => decide (y.id = j.id)) with
  | none => rw [List.find?_eq_none] at hf; exact absurd (hf j hj) (by simp)
  | some y =>
    have hy := List.mem_of_find?_eq_some hf
    have hp : y.id = j.id := by simpa using List.find?_some hf
    obtain ⟨a, ha⟩ := List.mem_iff_getElem?.1 hj
    obtain ⟨c, hc⟩ := List.mem_iff_getElem?.1 hy
    have e1 := findB_at hgb.ord ha
    have e2 := findB_at hgb.ord hc
    rw [hp, e1] at e2
    have : a = c := by omega
    subst this
    rw [ha] at hc
    exact hc.symm
 have er : ringCl ⟨H, 0, zeroE, 0, 0, p, b⟩ i j.id w.time = (⟨H, 1, ⟨3, j.id, 0, j.next, i⟩, 0, 0, p, b⟩, 0) := by
  unfold ringCl ringM
  dsimp only
  rw [if_neg (by simp [hcl]), if_neg (by simp), if_neg (by omega), hf]
  dsimp only
  rw [if_pos hd]
  unfold wantCl
  rw [if_neg (by simp [restsCl_iff.2 ⟨hcl, rfl⟩]), if_neg (by simp [he]), if_neg (by simp)]
 rw [er]
 unfold putCl
 rw [if_neg (by simp)]
theorem place_do {w : Wor} {H : Int} {i t : Nat} {p : Int} {b : Book} {e : Entry} (hA : AllUp w H) (hi : i < 3) (hc : cliAt w.c i = ⟨H, 1, e, 0, 0, p, b⟩) (ht : w.tip = t) (h6 : t < 60) :
    happenW w (hapK 3 i 0 0) = (⟨w.n, w.tip + 1, w.c.set i ⟨H, 2, e, t, 0, p, b⟩, w.time⟩, 0) ∧ AllUp ⟨w.n, w.tip + 1, w.c.set i ⟨H, 2, e, t, 0, p, b⟩, w.time⟩ H := by
 have hcl := (hA.good.cli i hi).1
 rw [hc] at hcl
 have ep : placeCl ⟨H, 1, e, 0, 0, p, b⟩ w.tip = (⟨H, 2, e, t, 0, p, b⟩, 0) := by
  unfold placeCl
  rw [if_neg (by simp [hcl]), if_neg (by simp), if_neg (by omega), ht]
 have e1 : happenW w (hapK 3 i 0 0) = (⟨w.n, w.tip + 1, w.c.set i ⟨H, 2, e, t, 0, p, b⟩, w.time⟩, 0) := by
  rw [happen_of (i := i) (by unfold hapK; dsimp only; omega) (by unfold hapK; dsimp only; omega) (by unfold hapK; dsimp only; omega) (by unfold hapK; dsimp only; omega) hi rfl (by unfold hapK; dsimp only; omega)]
  unfold hapK
  dsimp only
  rw [if_neg (by omega), if_neg (by omega), if_pos rfl, if_neg (by omega), hc, ep, if_neg (by simp)]
 refine ⟨e1, ?_, hA.up, hA.ep⟩
 have := hA.good.happen (x := hapK 3 i 0 0) (by rw [e1])
 rw [e1] at this
 exact this
end
section
set_option linter.unusedSimpArgs false
set_option linter.unusedVariables false
theorem log_has {w : Wor} (h : GoodW w) {a : Nat} (ha : a < (logOf w).length) : a < 60 ∧ (cellAt (nodAt w.n 2).u.cells a).kind ≠ 4 := by
 have l2 := (h.unitOk (k := 2) (by omega)).len
 have := log_cells ha
 exact ⟨by omega, this.2⟩
theorem log_stop {w : Wor} (h : GoodW w) (hl : (logOf w).length < 60) : (cellAt (nodAt w.n 2).u.cells (logOf w).length).kind = 4 := by
 have l2 := (h.unitOk (k := 2) (by omega)).len
 exact log_end (by rw [l2]; exact hl)
theorem log_more {w y : Wor} (h : GoodW w) (h' : GoodW y) (hn : (cellAt (nodAt y.n 2).u.cells (logOf w).length).kind ≠ 4)
    (hf : ∀ b, b ≠ (logOf w).length → cellAt (nodAt y.n 2).u.cells b = cellAt (nodAt w.n 2).u.cells b) (hl : (logOf w).length < 60) : (logOf w).length + 1 ≤ (logOf y).length := by
 rcases Nat.lt_or_ge (logOf w).length (logOf y).length with hlt | hge
 · exact hlt
 · have hs := log_stop h' (by omega)
   rcases Nat.lt_or_ge (logOf y).length (logOf w).length with h1 | h1
   · rw [hf _ (by omega)] at hs
     exact absurd hs (log_has h h1).2
   · rw [show (logOf y).length = (logOf w).length by omega] at hs
     exact absurd hs hn
structure ComesI (w : Wor) (H : Int) (i p : Nat) (b : Book) : Prop where
 rests : RestsW w H i p b
 le : p ≤ (logOf w).length
theorem ComesI.good {w : Wor} {H : Int} {i p : Nat} {b : Book} (h : ComesI w H i p b) : GoodW w := h.rests.all.good
theorem comes_start {w : Wor} {i : Nat} (h : GoodW w) (hi : i < 3) : ∃ H, ComesI (startW w i) H i 0 Book.none := by
 obtain ⟨H, hA, _, hc⟩ := start_all h hi
 exact ⟨H, ⟨⟨hA, hi, by rw [hc]; rfl⟩, Nat.zero_le _⟩⟩
theorem comes_fill {w : Wor} {H : Int} {i p : Nat} {b : Book} (h : ComesI w H i p b) {a : Nat} {l : List Nat} (hh : holesOf w = a :: l) :
    ∃ y0 y1 y2 y3, happenW w (hapK 6 i a 0) = (y0, 0) ∧ happenW y0 (hapK 4 i 0 0) = (y1, 0) ∧ happenW y1 (hapK 4 i 0 0) = (y2, 0) ∧ happenW y2 (hapK 4 i 0 0) = (y3, 0) ∧ ComesI y3 H i p b ∧ (logOf w).length + 1 ≤ (logOf y3).length := by
 have g := h.good
 have hl := holes_law g
 have ea := hl.2.2.1 a l hh
 have hm : a ∈ holesOf w := by rw [hh]; simp
 have ht := tail_le (cs := (nodAt w.n 0).u.cells)
 have l0 := (g.unitOk (k := 0) (by omega)).len
 have ha : a < 60 := by
  unfold holesOf at hm
  rw [List.mem_filter, List.mem_range] at hm
  omega
 obtain ⟨y1, y2, y3, e1, e2, e3, R, ht3, hn, hf⟩ := fill_round h.rests ha
 have hmore := log_more g R.all.good (by rw [← ea]; exact hn) (fun c hc => hf 2 (by omega) c (by omega)) (by omega)
 exact ⟨_, y1, y2, y3, (fill_do h.rests ha).1, e1, e2, e3, ⟨R, by have := h.le; omega⟩, hmore⟩
theorem comes_play {w : Wor} {H : Int} {i p : Nat} {b : Book} (h : ComesI w H i p b) :
    (p < (logOf w).length ∧ ∃ y b', happenW w (hapK 7 i 0 0) = (y, 0) ∧ ComesI y H i (p + 1) b' ∧ logOf y = logOf w) ∨ (p = (logOf w).length ∧ (happenW w (hapK 7 i 0 0)).2 ≠ 0) := by
 have g := h.good
 have hle := h.le
 have h60 := g.logLen
 rcases play_round h.rests (by omega) with ⟨h1, h2, b', e, R⟩ | ⟨h1, h2⟩
 · have hlt : p < (logOf w).length := by
    rcases Nat.lt_or_ge p (logOf w).length with hlt | hge
    · exact hlt
    · have e1 : p = (logOf w).length := by omega
      have := log_stop g (by omega)
      rw [← e1] at this
      exact absurd this h2
   exact .inl ⟨hlt, _, b', e, ⟨R, hlt⟩, rfl⟩
 · right
   refine ⟨?_, h2⟩
   rcases Nat.lt_or_ge p (logOf w).length with hlt | hge
   · have := log_has g hlt
     rcases h1 with h1 | h1
     · omega
     · exact absurd h1 this.2
   · omega
theorem comes_ring {w : Wor} {H : Int} {i p : Nat} {b : Book} (h : ComesI w H i p b) (h0 : holesOf w = []) (h6 : (logOf w).length < 60) {j : Job} (hj : j ∈ b.jobs) (hd : j.next ≤ w.time) :
    ∃ w1 w2 w3 y1 y2 y3, happenW w (hapK 10 i (logOf w).length 0) = (w1, 0) ∧ happenW w1 ⟨2, i, 0, j.id, 0, zeroE⟩ = (w2, 0) ∧ happenW w2 (hapK 3 i 0 0) = (w3, 0) ∧
     happenW w3 (hapK 4 i 0 0) = (y1, 0) ∧ happenW y1 (hapK 4 i 0 0) = (y2, 0) ∧ happenW y2 (hapK 4 i 0 0) = (y3, 0) ∧ ComesI y3 H i p b ∧ (logOf w).length + 1 ≤ (logOf y3).length := by
 have g := h.good
 have hi := h.rests.i3
 have hL := (holes_law g).2.1 h0
 have l0 := (g.unitOk (k := 0) (by omega)).len
 have hb0 : (cellAt (nodAt w.n 0).u.cells (logOf w).length).kind = 4 := by
  by_cases h4 : (cellAt (nodAt w.n 0).u.cells (logOf w).length).kind = 4
  · exact h4
  · have := (lt_tail (cs := (nodAt w.n 0).u.cells) (k := (logOf w).length)).2 ⟨_, Nat.le_refl _, by omega, h4⟩
    omega
 obtain ⟨L, eL⟩ : ∃ L, L = (logOf w).length := ⟨_, rfl⟩
 rw [← eL] at hb0 h6 ⊢
 have R1 := h.rests.tip (t := (L : Int)) (by omega) (by omega)
 have e1 := tip_do (w := w) (me := i) (t := (L : Int)) (ep := 0) (by omega) (by omega)
 obtain ⟨e2, he⟩ := ring_do R1 hj hd
 have A2 : AllUp (setC ⟨w.n, L, w.c, w.time⟩ i ⟨H, 1, ⟨3, j.id, 0, j.next, i⟩, 0, 0, p, b⟩) H := by
  refine ⟨?_, R1.all.up, R1.all.ep⟩
  have := R1.all.good.happen (x := ⟨2, i, 0, j.id, 0, zeroE⟩) (by rw [e2])
  rw [e2] at this
  exact this
 have hcl := R1.all.good.c3
 have hc2 : cliAt (setC ⟨w.n, L, w.c, w.time⟩ i ⟨H, 1, ⟨3, j.id, 0, j.next, i⟩, 0, 0, p, b⟩).c i = ⟨H, 1, ⟨3, j.id, 0, j.next, i⟩, 0, 0, p, b⟩ := by
  rw [cliAt_setC (by omega), if_pos rfl]
 obtain ⟨e3, A3⟩ := place_do (t := L) A2 hi hc2 rfl h6
 obtain ⟨y1, y2, y3, f1, f2, f3, A, _, _, c, _, n, f⟩ := along_all (x := hapK 4 i 0 0) (a := L) (e := ⟨3, j.id, 0, j.next, i⟩) (p := p) (b := b) A3 hi h6 rfl rfl
  (by
   show cliAt ((w.c.set i ⟨H, 1, ⟨3, j.id, 0, j.next, i⟩, 0, 0, p, b⟩).set i ⟨H, 2, ⟨3, j.id, 0, j.next, i⟩, L, 0, p, b⟩) i = _
   rw [cliAt_set (by have := g.c3; rw [List.length_set]; omega), if_pos rfl]) (.inr hb0)
 have hmore := log_more g A.good (by rw [← eL]; exact n) (fun c hc => f 2 (by omega) c (by omega)) (by omega)
 exact ⟨_, _, _, y1, y2, y3, e1, e2, e3, f1, f2, f3, ⟨⟨A, hi, c⟩, by have := h.le; omega⟩, by omega⟩
theorem count_none {l : List Job} {t : Int} (h : dueL l t = []) : countL l t = 0 := by
 have hf : l.filter (fun j => !decide (t < j.next)) = [] := by
  have e : (dueL l t).length = (l.filter (fun j => !decide (t < j.next))).length := by unfold dueL; rw [isort_length]
  rw [h] at e
  exact List.eq_nil_of_length_eq_zero e.symm
 have hall : ∀ j ∈ l, t < j.next := fun j hj => by
  rw [List.filter_eq_nil_iff] at hf
  have := hf j hj
  simpa using this
 clear h hf
 induction l with
 | nil => rfl
 | cons j l ih =>
   rw [countL, ih (fun x hx => hall x (by simp [hx]))]
   have := hall j (by simp)
   unfold cntJ
   rw [if_neg (by omega)]
   rfl
theorem due_mem {l : List Job} {t : Int} {x : Job} (h : x ∈ dueL l t) : x ∈ l ∧ x.next ≤ t := by
 unfold dueL at h
 have := (isort_perm _ _).mem_iff.1 h
 rw [List.mem_filter] at this
 exact ⟨this.1, by simpa using this.2⟩
theorem comes_book {w : Wor} {H : Int} {i p : Nat} {b : Book} (h : ComesI w H i p b) : checkD b w.time = 0 := by
 have g := h.good
 have hcl := (g.cli i h.rests.i3).1
 have t0 := g.t0; have t1 := g.t1
 rw [h.rests.cl] at hcl
 have hgb := (checkCl_iff.1 hcl).2.2.2.2.2
 unfold checkD
 rw [if_neg (by simp [checkB_iff.2 hgb]), if_neg (by omega)]
theorem log_full {w : Wor} (h : GoodW w) (h0 : holesOf w = []) : tailU (nodAt w.n 0).u.cells = (logOf w).length := ((holes_law h).2.1 h0).symm
end
section
set_option linter.unusedSimpArgs false
set_option linter.unusedVariables false
open Go.RowKit
attribute [local go_sem ↓] Go.wp_at_zero Go.wp_at_succ
def DOV (zm zw : Nat) : Value := .func (.func 36) #[] #[.pointer (some ⟨zm, 0, none⟩), .pointer (some ⟨zw, 0, none⟩)]
def ComesS (w0 : World) (zw zm zd : Nat) (me : Int) (x : Wor) (w : World) : Prop :=
 Onto w0 w ∧ GoodW x ∧ ∃ A c C d ns cs, Bx w zw [.slice A 3 c, .int .i64 x.tip, .slice C 3 d, .int .i64 x.time] ∧ WBox w zw ∧ WR w A 3 C 3 ns cs ∧ wor ns x.tip cs x.time = x ∧ Bx w zm [.int .i64 me] ∧ Bx w zd [DOV zm zw]
theorem ComesS.onto {w0 w w' : World} {zw zm zd : Nat} {me : Int} {x : Wor} (h : ComesS w0 zw zm zd me x w) (b : Onto w w') : ComesS w0 zw zm zd me x w' := by
 obtain ⟨on, g, A, c, C, d, ns, cs, h1, h2, h3, h4, h5, h6⟩ := h
 exact ⟨on.to b, g, A, c, C, d, ns, cs, h1.onto b, h2.onto b, h3.onto b, h4, h5.onto b, h6.onto b⟩
theorem ComesS.zlt {w0 w : World} {zw zm zd : Nat} {me : Int} {x : Wor} (I : ComesS w0 zw zm zd me x w) : zw < w.heap.size := by
 obtain ⟨_, _, _, _, _, _, _, _, Z, _, _, _, _, _⟩ := I; exact Z.lt
theorem step_ok {w y : Wor} {x : Hap} (h : happenW w x = (y, 0)) : stepW w x = y := by unfold stepW; rw [h, if_pos rfl]
theorem ComesF_calls (wb : World) (x : Wor) (w : World) (A : Option Addr) (n c : Nat) (C : Option Addr) (m d : Nat) (ns : List NV) (cs : List CV) (h : Hap) (on : Onto wb w) (R : WR w A n C m ns cs) :
    Calls Tryz.prog 35 (#[.agg #[.slice A n c, .int .i64 (happenW x h).1.tip, .slice C m d, .int .i64 (happenW x h).1.time]] ++ #[]) w fun e w' => e = .returned (.bool true) ∧ Onto wb w' ∧ w.grownBy w' none := by
 show Calls Tryz.prog 35 #[.agg #[.slice A n c, .int .i64 (happenW x h).1.tip, .slice C m d, .int .i64 (happenW x h).1.time]] w _
 go_enter Tryz.func35, Tryz.ntmps35
 go_wp2_with fail
 go_ret
 exact ⟨rfl, on.new _, gb_of ((Onto.rfl' w).new _) none⟩
set_option maxHeartbeats 8000000 in
set_option maxRecDepth 100000 in
theorem ComesDo_calls (w0 : World) (E : Env w0) (zw zm zd : Nat) (me : Int) (h1 : w0.heap.size ≤ zw) (h2 : zw ≠ zm) (h3 : zw ≠ zd) (x : Wor) (kd cl nn jb ep : Int) (y : Entry) (w : World) (I : ComesS w0 zw zm zd me x w) :
    Calls Tryz.prog 36 #[.agg #[.int .i64 kd, .int .i64 cl, .int .i64 nn, .int .i64 jb, .int .i64 ep, .int .i64 y.kind, .int .i64 y.job, .int .i64 y.every, .int .i64 y.time, .int .i64 y.client], .pointer (some ⟨zm, 0, none⟩), .pointer (some ⟨zw, 0, none⟩)] w fun e w' =>
     e = .returned (.bool (decide ((happenW x ⟨kd, me, nn, jb, ep, y⟩).2 = 0))) ∧ ComesS w0 zw zm zd me (stepW x ⟨kd, me, nn, jb, ep, y⟩) w' ∧ Turn w w' zw := by
 obtain ⟨on, g, A, c, C, d, ns, cs, Z, WZ, R, hw, M, D⟩ := I
 obtain ⟨q, hq⟩ : ∃ q, q = (happenW x ⟨kd, me, nn, jb, ep, y⟩).2 := ⟨_, rfl⟩
 obtain ⟨v, hv⟩ : ∃ v, v = (happenW x ⟨kd, me, nn, jb, ep, y⟩).1 := ⟨_, rfl⟩
 obtain ⟨r, hr⟩ : ∃ r, r = stepW x ⟨kd, me, nn, jb, ep, y⟩ := ⟨_, rfl⟩
 obtain ⟨p, hp⟩ : ∃ p, p = doW x ⟨kd, me, nn, jb, ep, y⟩ := ⟨_, rfl⟩
 have hgr : GoodW r := by rw [hr]; exact g.step
 have hp1 : p = if q = 0 then (v, 0) else (zeroW, q) := by
  rw [hp, hq, hv]
  unfold doW
  rw [if_neg (by simp [checkW_iff.2 g])]
  by_cases h : (happenW x ⟨kd, me, nn, jb, ep, y⟩).2 = 0
  · rw [if_neg (by simp [h]), if_pos h]
  · rw [if_pos h, if_neg h]
 have hr1 : r = if q = 0 then v else x := by rw [hr, hq, hv]; rfl
 rw [← hq, ← hr]
 have HP := Lib.hid hp; have HP1 := Lib.hid hp1; have HR1 := Lib.hid hr1; have HW := Lib.hid hw; have HG := Lib.hid g; have HGR := Lib.hid hgr
 clear hp hp1 hr1 hw g hgr hq hv hr
 have hzl0 := Z.lt
 go_enter Tryz.func36, Tryz.ntmps36
 go_upto_region 1 with fail
 refine wp_box1 (v1 := [.int .i64 kd, .int .i64 cl, .int .i64 nn, .int .i64 jb, .int .i64 ep, .int .i64 y.kind, .int .i64 y.job, .int .i64 y.every, .int .i64 y.time, .int .i64 y.client]) rfl fun w1 ob X => ?_
 have m0 := (M.onto ob).at_ 0 rfl; have x1 := X.at_ 1 rfl; have f1 := X.froz 1
 have hxs : w.heap.size ≤ w.heap.size := Nat.le_refl _
 generalize hzX : w.heap.size = zx at X x1 f1 ⊢
 rw [hzX] at hxs
 have hxs : w.heap.size ≤ zx := by omega
 clear hzX
 go_upto_region 2 with fail
 have X2 : Bx (w1.setCell ⟨zx, 1, none⟩ (.int .i64 me)) zx [.int .i64 kd, .int .i64 me, .int .i64 nn, .int .i64 jb, .int .i64 ep, .int .i64 y.kind, .int .i64 y.job, .int .i64 y.every, .int .i64 y.time, .int .i64 y.client] := X.put1 (j := 1) (by simp) _
 have ob2 : Onto w (w1.setCell ⟨zx, 1, none⟩ (.int .i64 me)) := ob.put (p := ⟨zx, 1, none⟩) hxs _
 clear m0 x1 f1 X ob hxs
 try change Code.wp _ _ _ _ (w1.setCell ⟨zx, 1, none⟩ (.int .i64 me))
 generalize (w1.setCell ⟨zx, 1, none⟩ (.int .i64 me)) = w2 at X2 ob2 ⊢
 replace Z := Z.onto ob2; replace M := M.onto ob2; replace D := D.onto ob2; replace WZ := WZ.onto ob2; replace R := R.onto ob2; replace on := on.to ob2
 have hzl : zw < w.heap.size := hzl0
 have onw := ob2
 clear ob2 hzl0
 have z0 := Z.at_ 0 rfl; have z1 := Z.at_ 1 rfl; have z2 := Z.at_ 2 rfl; have z3 := Z.at_ 3 rfl
 have y0 := X2.at_ 0 rfl; have y1 := X2.at_ 1 rfl; have y2 := X2.at_ 2 rfl; have y3 := X2.at_ 3 rfl; have y4 := X2.at_ 4 rfl; have y5 := X2.at_ 5 rfl; have y6 := X2.at_ 6 rfl; have y7 := X2.at_ 7 rfl; have y8 := X2.at_ 8 rfl; have y9 := X2.at_ 9 rfl
 go_wp2_with fail
 refine Calls.mono (WDo_calls A 3 c x.tip C 3 d x.time ns cs kd me nn jb ep y _ (E.onto on) R) ?_
 rw [HW.out, ← HP.out]
 clear z0 z1 z2 z3 y0 y1 y2 y3 y4 y5 y6 y7 y8 y9 X2
 by_cases h0 : q = 0
 · rw [show p = (v, 0) by rw [HP1.out, if_pos h0]]
   have hrv : r = v := by rw [HR1.out, if_pos h0]
   rintro e w3 ⟨A1, n1, c1, C1, m1, d1, ns1, cs1, rfl, R1, e1, e2, b⟩
   dsimp only at e1 e2 ⊢
   subst h0
   subst hrv
   have hw1 : wor ns1 r.tip cs1 r.time = r := wor_of e1 e2
   obtain ⟨rfl, rfl, _⟩ := small_of R1 (by rw [hw1]; exact HGR.out)
   have HW1 := Lib.hid hw1
   replace Z := Z.onto b; replace M := M.onto b; replace D := D.onto b; replace WZ := WZ.onto b; replace on := on.to b; replace onw := onw.to b
   clear e1 e2 hw1 R b HP HP1 HR1 HW
   go_upto_region 3 with fail
   refine wp_box1 (v1 := [.slice A1 3 c1, .int .i64 r.tip, .slice C1 3 d1, .int .i64 r.time]) rfl fun w4 b Y => ?_
   generalize w3.heap.size = zy at Y ⊢
   replace Z := Z.onto b; replace M := M.onto b; replace D := D.onto b; replace WZ := WZ.onto b; replace on := on.to b; replace onw := onw.to b; replace R1 := R1.onto b
   clear b
   have z0 := Z.at_ 0 rfl; have z1 := Z.at_ 1 rfl; have z2 := Z.at_ 2 rfl; have z3 := Z.at_ 3 rfl
   have f0 := Z.froz 0; have f1 := Z.froz 1; have f2 := Z.froz 2; have f3 := Z.froz 3
   have y0 := Y.at_ 0 rfl; have y1 := Y.at_ 1 rfl; have y2 := Y.at_ 2 rfl; have y3 := Y.at_ 3 rfl
   go_wp2_with fail
   go_ret
   have t := Turn.four (w := w4) (z := zw) (.slice A1 3 c1) (.int .i64 r.tip) (.slice C1 3 d1) (.int .i64 r.time)
   exact ⟨ret_bool (by simp), ⟨on.four h1 _ _ _ _, HGR.out, A1, c1, C1, d1, ns1, cs1, Z.four _ _ _ _, WZ.store _ _ _ _ _ _ _ _, WZ.all R1 t, HW1.out, M.grown t (by intro e; injection e with e; exact h2 e.symm), D.grown t (by intro e; injection e with e; exact h3 e.symm)⟩, Turn.to (Turn.of onw zw) t hzl⟩
 · rw [show p = (zeroW, q) by rw [HP1.out, if_neg h0]]
   have hrv : r = x := by rw [HR1.out, if_neg h0]
   rintro e w3 ⟨A1, n1, c1, C1, m1, d1, ns1, cs1, rfl, R1, e1, e2, b⟩
   dsimp only at e1 e2 ⊢
   have HRV := Lib.hid hrv
   have hq : (q == 0) = false := by simpa using h0
   replace Z := Z.onto b; replace M := M.onto b; replace D := D.onto b; replace WZ := WZ.onto b; replace on := on.to b; replace onw := onw.to b; replace R := R.onto b
   clear R1 e1 e2 b hrv
   go_upto_region 3 with fail
   refine wp_box1 (v1 := [.slice A1 n1 c1, .int .i64 zeroW.tip, .slice C1 m1 d1, .int .i64 zeroW.time]) rfl fun w4 b Y => ?_
   replace Z := Z.onto b; replace M := M.onto b; replace D := D.onto b; replace WZ := WZ.onto b; replace on := on.to b; replace onw := onw.to b; replace R := R.onto b
   clear b Y
   go_wp2_with fail
   go_ret
   rw [HRV.out]
   exact ⟨ret_bool (by simp [h0]), ⟨on, HG.out, A, c, C, d, ns, cs, Z, WZ, R, HW.out, M, D⟩, Turn.of onw zw⟩
theorem ComesOk_calls (w0 : World) (E : Env w0) (zw zm zd : Nat) (me : Int) (h1 : w0.heap.size ≤ zw) (h2 : zw ≠ zm) (h3 : zw ≠ zd) (x y : Wor) (kd cl nn jb ep : Int) (h : happenW x ⟨kd, me, nn, jb, ep, zeroE⟩ = (y, 0)) (w : World) (I : ComesS w0 zw zm zd me x w) :
    Calls Tryz.prog 36 #[.agg #[.int .i64 kd, .int .i64 cl, .int .i64 nn, .int .i64 jb, .int .i64 ep, .int .i64 0, .int .i64 0, .int .i64 0, .int .i64 0, .int .i64 0], .pointer (some ⟨zm, 0, none⟩), .pointer (some ⟨zw, 0, none⟩)] w fun e w' =>
     e = .returned (.bool true) ∧ ComesS w0 zw zm zd me y w' ∧ Turn w w' zw := by
 refine Calls.mono (ComesDo_calls w0 E zw zm zd me h1 h2 h3 x kd cl nn jb ep zeroE w I) ?_
 rw [h, step_ok h]
 rintro e w' ⟨rfl, I', t⟩
 exact ⟨rfl, I', t⟩
set_option maxHeartbeats 8000000 in
set_option maxRecDepth 100000 in
theorem ComesAlong_calls (w0 : World) (E : Env w0) (zw zm zd : Nat) (me : Int) (h1 : w0.heap.size ≤ zw) (h2 : zw ≠ zm) (h3 : zw ≠ zd) (ys : Nat → Wor) (hy : ∀ j, j < 3 → happenW (ys j) (hapK 4 me 0 0) = (ys (j + 1), 0)) (w : World) (I : ComesS w0 zw zm zd me (ys 0) w) :
    Calls Tryz.prog 37 #[.pointer (some ⟨zd, 0, none⟩)] w fun e w' => e = .returned (.bool true) ∧ ComesS w0 zw zm zd me (ys 3) w' ∧ Turn w w' zw := by
 have hzw := I.zlt
 have HY := Lib.hid hy
 clear hy
 go_enter Tryz.func37, Tryz.ntmps37
 go_wp2_with fail
 go_loopg [2] 3 (fun g s2 wr => ∃ j : Nat, j ≤ 3 ∧ 3 - j ≤ g ∧ s2 = .int .i64 j ∧ ComesS w0 zw zm zd me (ys j) wr ∧ Turn w wr zw)
 case atStart => exact ⟨0, by omega, by omega, rfl, I, Turn.rfl' _ _⟩
 case round =>
  clear I
  obtain ⟨j, hj, hg, rfl, I, tw⟩ := hrel
  by_cases hlt : j < 3
  · obtain ⟨on, gd, A, c, C, d, ns, cs, Z, WZ, R, hw, M, D⟩ := I
    have d0 : wr.cell? ⟨zd, 0, none⟩ = some (.func (.func 36) #[] #[.pointer (some ⟨zm, 0, none⟩), .pointer (some ⟨zw, 0, none⟩)]) := D.at_ 0 rfl
    have I : ComesS w0 zw zm zd me (ys j) wr := ⟨on, gd, A, c, C, d, ns, cs, Z, WZ, R, hw, M, D⟩
    have I := Lib.hid I
    clear on gd Z WZ R hw M D
    go_wp2_with fail
    refine Calls.mono (ComesDo_calls w0 E zw zm zd me h1 h2 h3 (ys j) 4 0 0 0 0 zeroE _ I.out) ?_
    rw [show happenW (ys j) ⟨4, me, 0, 0, 0, zeroE⟩ = (ys (j + 1), 0) from HY.out j hlt, show stepW (ys j) ⟨4, me, 0, 0, 0, zeroE⟩ = ys (j + 1) from step_ok (HY.out j hlt)]
    rintro e w1 ⟨rfl, I1, t1⟩
    have tw1 := Turn.to tw t1 hzw
    have HTW := Lib.hid tw1
    clear t1 tw tw1
    have HI := Lib.hid I1
    clear I I1 d0
    go_wp2_with fail
    go_roundg (3 - (j + 1))
    case measure => omega
    case rel => exact ⟨j + 1, by omega, Nat.le_refl _, by go_num, HI.out, HTW.out⟩
  · obtain rfl : j = 3 := by omega
    go_wp2_with fail
    go_ret
    exact ⟨rfl, I, tw⟩
end
section
set_option linter.unusedSimpArgs false
set_option linter.unusedVariables false
open Go.RowKit
theorem div_num {j : Job} {t : Int} (hj : ¬ badJ j) (h1 : 0 ≤ t) (h2 : t ≤ 100000) (h3 : j.next ≤ t) : IntKind.i64.wrap ((t - j.next).tdiv j.every) = (t - j.next) / j.every ∧ 0 ≤ (t - j.next) / j.every ∧ (t - j.next) / j.every ≤ 100000 := by
 unfold badJ at hj
 have e : (t - j.next).tdiv j.every = (t - j.next) / j.every := Int.tdiv_eq_ediv_of_nonneg (by omega)
 have h4 : (t - j.next) / j.every ≤ (t - j.next) := Int.ediv_le_self _ (by omega)
 have h5 : 0 ≤ (t - j.next) / j.every := Int.ediv_nonneg (by omega) (by omega)
 rw [e, IntKind.wrap_i64]
 omega
set_option maxHeartbeats 4000000 in
set_option maxRecDepth 100000 in
theorem Count_calls (A A' : Option Addr) (n c m d : Nat) (b : Book) (t : Int) (w : World) (h : S w 3 A n (b.jobs.map encJ)) (h' : S w 3 A' m (b.rung.map encR)) :
    Calls Tryz.prog 41 #[.agg #[.slice A n c, .slice A' m d], .int .i64 t] w fun e w' => e = .returned (.tuple #[.int .i64 (if checkD b t = 0 then countL b.jobs t else 0), .int .i64 (checkD b t)]) ∧ Onto w w' := by
 obtain ⟨r, hr⟩ : ∃ r, r = checkD b t := ⟨_, rfl⟩
 rw [← hr]
 have HR := Lib.hid hr
 by_cases h0 : r = 0
 · obtain ⟨hg, ht0, ht1⟩ := checkD_good (h0 ▸ hr.symm)
   have hl : b.jobs.length = n := by have := h.len; simpa using this
   have hn6 : n ≤ 6 := by have := hg.nj; omega
   subst h0
   rw [if_pos rfl]
   have HL := Lib.hid hl
   obtain ⟨fin, hfin⟩ : ∃ fin, fin = countL b.jobs t := ⟨_, rfl⟩
   rw [← hfin]
   have HF := Lib.hid hfin
   clear hr hl hfin
   go_enter Tryz.func41, Tryz.ntmps41
   go_wp2_with fail
   refine Calls.mono (dcheck_calls A A' n c m d b t _ (h.new _) (h'.new _)) ?_
   rintro e w1 ⟨rfl, hb1⟩
   rw [← HR.out]
   have q0 : w1.cell? ⟨w.heap.size, 0, none⟩ = some (.slice A n c) := cellB hb1 (by simp [go_sem])
   have h01 : Onto w w1 := ((Below.refl _ _).alloc (Nat.le_refl _) _).trans (hb1.mono (by simp))
   have z0 : w.heap.size < w1.heap.size := World.block_lt_of_cell? _ _ q0
   have hS := h.onto h01
   clear hb1 h h'
   go_wp2_with fail
   go_loopw [7, 19] (fun s7 s wr => ∃ k : Nat, ∃ a : Int, k ≤ n ∧ s = .int .i64 k ∧ s7 = .int .i64 a ∧ 0 ≤ a ∧ a ≤ k * 100001 ∧ Onto w1 wr ∧ Hid (a = countL (b.jobs.take k) t)) (fun _ s _ => n - (intOf s).toNat)
   case atStart => exact ⟨0, 0, Nat.zero_le _, rfl, rfl, by omega, by omega, Below.refl _ _, rfl⟩
   case round =>
    obtain ⟨k, a, hk, rfl, rfl, ha0, ha1, hbr, HA⟩ := hrel
    by_cases hlt : k < n
    · obtain ⟨bb, off, x, rfl, hb, hx, c0, c1, c2⟩ := (hS.onto hbr).atJ hlt
      have hbx := hg.ok x (List.mem_of_getElem? hx)
      have hct := countL_take hx t
      rw [← HA.out] at hct
      have hbd := cntJ_bd hbx ht1
      have HX := Lib.hid hx; have HC := Lib.hid hct; have HB := Lib.hid hbx
      clear hx hct
      have hal : Onto wr (wr.alloc (Obj.cells #[.int .i64 x.id, .int .i64 x.every, .int .i64 x.next] 88)) := (Below.refl _ _).alloc (Nat.le_refl _) _
      by_cases hle : x.next ≤ t
      · obtain ⟨hd, hd0, hd1⟩ := div_num hbx ht0 ht1 hle
        have hcn : cntJ t x = (t - x.next) / x.every + 1 := by unfold cntJ; rw [if_pos hle]
        have HCN := Lib.hid hcn
        unfold badJ at hbx
        have hx0 : 0 ≤ x.next := by omega
        have hx1 : x.next ≤ 100100 := by omega
        have hx2 : 1 ≤ x.every := by omega
        have hx3 : x.every ≤ 100 := by omega
        have hte : ¬ x.every = 0 := by omega
        have HD := Lib.hid hd
        clear hcn hbx hd hbd
        go_wp2_with fail
        go_roundw
        case measure => simp [intOf] <;> omega
        case rel => exact ⟨k + 1, a + ((t - x.next) / x.every + 1), by omega, by go_num, by first | rfl | (simp [HD.out]; done) | (go_num), by omega, by omega, Onto.to hbr hal, by show _ = _; rw [HC.out, HCN.out]⟩
      · have hcn : cntJ t x = 0 := by unfold cntJ; rw [if_neg hle]
        have HCN := Lib.hid hcn
        have hd : decide (x.next ≤ t) = false := by simpa using hle
        clear hcn hle hbx hbd
        go_wp2_with fail
        go_roundw
        case measure => simp [intOf] <;> omega
        case rel => exact ⟨k + 1, a, by omega, by go_num, rfl, by omega, by omega, Onto.to hbr hal, by show _ = _; rw [HC.out, HCN.out]; omega⟩
    · obtain rfl : k = n := by omega
      have hfin : a = fin := by rw [HA.out, HF.out, List.take_of_length_le (by rw [HL.out]; omega)]
      have HFin := Lib.hid hfin
      clear hfin
      go_wp2_with fail
      go_ret2
      refine ⟨?_, Onto.to h01 hbr⟩
      show Ending.returned (.tuple #[.int .i64 a, .int .i64 0]) = _
      rw [HFin.out]
 · rw [if_neg h0]
   have hr0 : (r != 0) = true := by simpa using h0
   clear h0 hr
   go_enter Tryz.func41, Tryz.ntmps41
   go_wp2_with fail
   refine Calls.mono (dcheck_calls A A' n c m d b t _ (h.new _) (h'.new _)) ?_
   rintro e w1 ⟨rfl, hb1⟩
   rw [← HR.out]
   have h01 : Onto w w1 := ((Below.refl _ _).alloc (Nat.le_refl _) _).trans (hb1.mono (by simp))
   clear h h' hb1
   go_wp2_with fail
   go_ret2
   exact ⟨rfl, h01⟩
end
section
set_option linter.unusedSimpArgs false
set_option linter.unusedVariables false
open Go.RowKit
attribute [local go_sem ↓] Go.wp_at_zero Go.wp_at_succ
def IBox (w : World) (e : Nat) : Prop := ∃ a T fr, w.heap[e]? = some (.cells #[.int .i64 a] T fr)
section
variable {w w' : World} {e k n : Nat} {A : Option Addr} {rows : List (List Value)}
theorem IBox.onto (h : IBox w e) (b : Onto w w') : IBox w' e := by
 obtain ⟨a, T, fr, h⟩ := h
 exact ⟨a, T, fr, (b.block e (Array.getElem?_eq_some_iff.1 h).1).trans h⟩
theorem IBox.made (w : World) (a : Int) (T : TypeId) : IBox (w.alloc (.cells #[.int .i64 a] T)) w.heap.size := ⟨a, T, _, heap_alloc_new w _⟩
theorem IBox.off2 (h : IBox w e) (hs : S w k A n rows) (hr : ∀ r ∈ rows, ∃ u, r[1]? = some u) : OffN n e A := fun hn a ea hb => by
 obtain ⟨x, T, fr, h⟩ := h
 obtain ⟨b, off, e', _, hc⟩ := hs.2.2 hn
 rw [ea] at e'; injection e' with e'; subst e'
 simp only at hb; subst hb
 have h0 : 0 < rows.length := by rw [hs.1]; exact hn
 obtain ⟨u, h1⟩ := hr rows[0] (List.getElem_mem h0)
 have g1 := hc 0 1 _ _ (List.getElem?_eq_getElem h0) h1
 rw [cell_of_row w b _ _ _ _ h] at g1
 simp at g1
theorem IBox.off1 (h : IBox w e) {l : List UInt8} (hs : S w 1 A n (l.map encB)) : OffN n e A := fun hn a ea hb => by
 obtain ⟨x, T, fr, h⟩ := h
 obtain ⟨b, off, y, e', _, _, hc⟩ := Sl.at_ hs hn
 have g1 := hc 0 (.int .u8 y.toNat) rfl
 rw [ea] at e'; injection e' with e'; subst e'
 simp only at hb; subst hb
 rw [cell_of_row w b _ _ _ _ h] at g1
 match off with
 | 0 => simp at g1
 | o + 1 => simp at g1
theorem IBox.far {n m : Nat} {A C : Option Addr} {ns : List NV} {cs : List CV} (h : IBox w e) (R : WR w A n C m ns cs) (t : Turn w w' e) : WR w' A n C m ns cs :=
 ⟨R.nr.grown t (fun g e' => by injection e' with e'; subst e'; exact h.off2 R.nr (fun r hr => by obtain ⟨x, _, rfl⟩ := List.mem_map.1 hr; exact ⟨_, rfl⟩)), R.cr.grown t (fun g e' => by injection e' with e'; subst e'; exact h.off2 R.cr (fun r hr => by obtain ⟨x, _, rfl⟩ := List.mem_map.1 hr; exact ⟨_, rfl⟩)),
  fun v hv => (R.ni v hv).grown t ⟨h.off2 (R.ni v hv).cells (fun r hr => by obtain ⟨x, _, rfl⟩ := List.mem_map.1 hr; exact ⟨_, rfl⟩), h.off1 (R.ni v hv).disk.safe, h.off1 (R.ni v hv).disk.wait⟩,
  fun v hv => (R.ci v hv).grown t ⟨h.off2 (R.ci v hv).jobs (fun r hr => by obtain ⟨x, _, rfl⟩ := List.mem_map.1 hr; exact ⟨_, rfl⟩), h.off2 (R.ci v hv).rung (fun r hr => by obtain ⟨x, _, rfl⟩ := List.mem_map.1 hr; exact ⟨_, rfl⟩)⟩⟩
end
def bW (x : Wor) (me : Int) : Nat → Wor
 | 0 => x
 | j + 1 => stepW (bW x me j) (hapK 13 me j 0)
def hW (x : Wor) (me : Int) : Nat → Int
 | 0 => 1
 | j + 1 => max (hW x me j) (nodAt (bW x me (j + 1)).n j).u.ep
def sW (x : Wor) (me H : Int) : Nat → Wor
 | 0 => x
 | j + 1 => stepW (sW x me H j) (hapK 8 me j H)
theorem bW3 (x : Wor) (me : Int) : bW x me 3 = bootsW x me := rfl
theorem hW3 (x : Wor) (me : Int) : hW x me 3 = highW x me := rfl
theorem sW3 (x : Wor) (me H : Int) : sW x me H 3 = sealsW x me H := rfl
theorem ComesS.opens {w0 w : World} {zw zm zd i p : Nat} {H : Int} {b : Book} {x : Wor} (I : ComesS w0 zw zm zd i x w) (hi : i < 3) (hc : cliAt x.c i = ⟨H, 0, zeroE, 0, 0, p, b⟩) :
    ∃ (bn on_ c bc oc d : Nat) (ns : List NV) (cs : List CV) (v : NV) (u : CV), WR w (some ⟨bn, on_, none⟩) 3 (some ⟨bc, oc, none⟩) 3 ns cs ∧ Hid (wor ns x.tip cs x.time = x) ∧
     w.cell? ⟨zw, 0, none⟩ = some (.slice (some ⟨bn, on_, none⟩) 3 c) ∧ w.cell? ⟨zw, 1, none⟩ = some (.int .i64 x.tip) ∧ w.cell? ⟨zw, 2, none⟩ = some (.slice (some ⟨bc, oc, none⟩) 3 d) ∧ w.cell? ⟨zw, 3, none⟩ = some (.int .i64 x.time) ∧
     w.cell? ⟨zm, 0, none⟩ = some (.int .i64 i) ∧ w.cell? ⟨zd, 0, none⟩ = some (.func (.func 36) #[] #[.pointer (some ⟨zm, 0, none⟩), .pointer (some ⟨zw, 0, none⟩)]) ∧
     w.cell? ⟨bn, on_, none⟩ = some (.int .i64 v.x.u.ep) ∧ w.cell? ⟨bn, on_ + 1, none⟩ = some (.slice v.A v.n v.c) ∧ S w 5 v.A v.n ((nodAt x.n 0).u.cells.map encE) ∧ v.n ≤ 60 ∧
     w.cell? ⟨bc, oc + i * 12 + 9, none⟩ = some (.int .i64 p) ∧ w.cell? ⟨bc, oc + i * 12 + 10, none⟩ = some (.slice u.A u.n u.c) ∧ w.cell? ⟨bc, oc + i * 12 + 11, none⟩ = some (.slice u.G u.m u.d) ∧
     S w 3 u.A u.n (b.jobs.map encJ) ∧ S w 3 u.G u.m (b.rung.map encR) := by
 obtain ⟨on, gd, A, c, C, d, ns, cs, Z, WZ, R, hw, M, D⟩ := I
 obtain ⟨bn, on_, v, rfl, _, hv, vi, n0, n1, _, _, _⟩ := R.atN (i := 0) (by omega)
 obtain ⟨bc, oc, u, rfl, _, hu, ui, _, _, _, _, _, _, _, _, _, c9, c10, c11⟩ := R.atC hi
 have ev : nodAt x.n 0 = v.x := by rw [← hw]; exact nodAt_ns hv
 have eu : u.x = ⟨H, 0, zeroE, 0, 0, p, b⟩ := by rw [← hc, ← hw]; exact (cliAt_cs hu).symm
 have hl := (gd.unitOk (k := 0) (by omega)).len
 have hl2 := vi.cells.len
 rw [ev] at hl
 refine ⟨bn, on_, c, bc, oc, d, ns, cs, v, u, R, Lib.hid hw, Z.at_ 0 rfl, Z.at_ 1 rfl, Z.at_ 2 rfl, Z.at_ 3 rfl, M.at_ 0 rfl, D.at_ 0 rfl, by simpa using n0, by simpa using n1, by rw [ev]; exact vi.cells, by simp at hl2; omega, ?_, c10, c11, ?_, ?_⟩
 · rw [c9, eu]
 · have := ui.jobs; rw [eu] at this; exact this
 · have := ui.rung; rw [eu] at this; exact this
theorem ComesS.dov {w0 w : World} {zw zm zd : Nat} {me : Int} {x : Wor} (I : ComesS w0 zw zm zd me x w) : w.cell? ⟨zd, 0, none⟩ = some (.func (.func 36) #[] #[.pointer (some ⟨zm, 0, none⟩), .pointer (some ⟨zw, 0, none⟩)]) := by
 obtain ⟨_, _, _, _, _, _, _, _, _, _, _, _, _, D⟩ := I; exact D.at_ 0 rfl
theorem ComesS.on {w0 w : World} {zw zm zd : Nat} {me : Int} {x : Wor} (I : ComesS w0 zw zm zd me x w) : Onto w0 w := I.1
theorem ComesS.gd {w0 w : World} {zw zm zd : Nat} {me : Int} {x : Wor} (I : ComesS w0 zw zm zd me x w) : GoodW x := I.2.1
set_option maxHeartbeats 16000000 in
set_option maxRecDepth 100000 in
theorem StoryComes_calls (A0 : Option Addr) (k i0 : Nat) (l : List Hap) (me : Int) (w : World) (E0 : Env w) (SL : S w 10 A0 k (l.map encH)) (hki : k ≤ i0) (him : i0 ≤ maxLen) :
    Calls Tryz.prog 11 #[.slice A0 k i0, .int .i64 me] w fun e w' => e = .returned (.bool true) ∧ Onto w w' := by
 go_enter Tryz.func11, Tryz.ntmps11
 go_upto_region 1 with fail
 have M : Bx (w.alloc (Obj.cells #[.int .i64 me] 3)) w.heap.size [.int .i64 me] := Bx.made _ _ _
 have IM := IBox.made w me 3
 have on0 := (Onto.rfl' w).new (Obj.cells #[.int .i64 me] 3)
 try change Code.wp _ _ _ _ (w.alloc (Obj.cells #[.int .i64 me] 3))
 generalize (w.alloc (Obj.cells #[.int .i64 me] 3)) = w1 at *
 have E := E0.onto on0
 replace SL := SL.onto on0
 have hwm : w.heap.size ≤ w.heap.size := Nat.le_refl _
 generalize hzm : w.heap.size = zm at M IM ⊢
 rw [hzm] at hwm
 have hwm : w.heap.size ≤ zm := by omega
 clear hzm
 have Y : Plays (fun _ w' => Onto w1 w') 35 #[] none A0 k l w1 :=
  ⟨Onto.rfl' w1, fun x w1 w2 h b => h.to b, fun x w2 w3 z hz2 h hw t => below_grown h h.size t (fun g hg => by injection hg with hg; subst hg; exact hz2), fun x w2 h => E.onto h, fun x w2 h => SL.onto h,
   fun x w2 w3 A n C m ns cs h R t => ⟨R.nr.grown t (fun g e => by cases e), R.cr.grown t (fun g e => by cases e), fun v hv => (R.ni v hv).gr t (fun g e => by cases e), fun v hv => (R.ci v hv).gr t (fun g e => by cases e)⟩, fun b e => (by cases e), fun _ _ => (by kernel_rfl),
   fun x w2 A n c C m d ns cs h hp hg hx R hw => ComesF_calls w1 x w2 A n c C m d ns cs h hp R⟩
 have HY := Lib.hid Y
 clear Y
 go_wp2_with fail
 refine Calls.mono (Played_calls (fun _ w' => Onto w1 w') 35 #[] none A0 k i0 l w1 hki HY.out) ?_
 rintro e w2 ⟨x, A, n, c, C, m, d, ns, cs, rfl, on, hG, R, hw⟩
 have on : Onto w1 w2 := on
 have hg0 := hG
 rw [← hw] at hg0
 obtain ⟨rfl, rfl, _⟩ := small_of R hg0
 have HW := Lib.hid hw; have HG := Lib.hid hG
 clear HY SL hw hG hg0
 replace M := M.onto on; replace IM := IM.onto on
 go_upto_region 2 with fail
 have Z : Bx (w2.alloc (Obj.cells #[.slice A 3 c, .int .i64 x.tip, .slice C 3 d, .int .i64 x.time] 25)) w2.heap.size [.slice A 3 c, .int .i64 x.tip, .slice C 3 d, .int .i64 x.time] := Bx.made _ _ _
 have WZ := WBox.made w2 A C 3 c 3 d x.tip x.time 25
 have ob := (Onto.rfl' w2).new (Obj.cells #[.slice A 3 c, .int .i64 x.tip, .slice C 3 d, .int .i64 x.time] 25)
 try change Code.wp _ _ _ _ (w2.alloc (Obj.cells #[.slice A 3 c, .int .i64 x.tip, .slice C 3 d, .int .i64 x.time] 25))
 have h2 := M.lt
 have h1 := (on0.to on).size
 replace M := M.onto ob; replace IM := IM.onto ob; replace R := R.onto ob; replace on := on.to ob
 clear ob
 generalize (w2.alloc (Obj.cells #[.slice A 3 c, .int .i64 x.tip, .slice C 3 d, .int .i64 x.time] 25)) = w3 at *
 generalize w2.heap.size = zw at *
 have h2 : zw ≠ zm := by omega
 go_wp2_with fail
 refine Calls.mono (told_calls _ (E.onto on)) ?_
 rintro e w4 ⟨rfl, b⟩
 replace Z := Z.onto b; replace WZ := WZ.onto b; replace M := M.onto b; replace IM := IM.onto b; replace R := R.onto b; replace on := on0.to (on.to b)
 clear b on0 E
 obtain ⟨i, hi, hi3⟩ : ∃ i : Nat, me % 3 = (i : Int) ∧ i < 3 := ⟨(me % 3).toNat, by omega, by omega⟩
 have HI := Lib.hid hi
 clear hi
 have m0 := M.at_ 0 rfl; have f0 := M.froz 0
 go_wp2_with fail
 refine Calls.mono (at_calls me 3 _ (by omega) (by omega)) ?_
 rw [HI.out]
 rintro e w5 ⟨rfl, rfl⟩
 go_upto_region 5 with fail
 have t := (Turn.rfl' w4 zm).put (p := ⟨zm, 0, none⟩) rfl (.int .i64 ↑i)
 replace Z := Z.grown t (by intro e; injection e with e; exact h2 e)
 replace WZ := WZ.turn t h2
 replace R := IM.far R t
 replace M : Bx (w4.setCell ⟨zm, 0, none⟩ (.int .i64 ↑i)) zm [.int .i64 ↑i] := M.put1 (j := 0) (by simp) _
 replace on := on.put (p := ⟨zm, 0, none⟩) hwm (.int .i64 ↑i)
 clear t m0 f0 IM hwm
 generalize (w4.setCell ⟨zm, 0, none⟩ (.int .i64 ↑i)) = w5 at *
 go_upto_region 6 with fail
 refine wp_box1 (v1 := [.func (.func 36) #[] #[.pointer (some ⟨zm, 0, none⟩), .pointer (some ⟨zw, 0, none⟩)]]) rfl fun w6 ob D => ?_
 have h3 := Z.lt
 generalize w5.heap.size = zd at D h3 ⊢
 have h3 : zw ≠ zd := by omega
 have I : ComesS w zw zm zd ↑i x w6 := ⟨on.to ob, HG.out, A, c, C, d, ns, cs, Z.onto ob, WZ.onto ob, R.onto ob, HW.out, M.onto ob, D⟩
 clear Z WZ R M on ob D
 go_wp2_with fail
 go_loopg [8, 9, 36] 3 (fun g s8 s9 s36 wr => ∃ j : Nat, j ≤ 3 ∧ 3 - j ≤ g ∧ s36 = .int .i64 j ∧ s8 = .int .i64 (hW x ↑i j) ∧ ComesS w zw zm zd ↑i (bW x ↑i j) wr)
 case atStart => exact ⟨0, by omega, by omega, rfl, rfl, I⟩
 case round =>
  clear I
  obtain ⟨j, hj, hgk, rfl, rfl, I⟩ := hrel
  by_cases hlt : j < 3
  · have d0 := I.dov
    have HI0 := Lib.hid I
    clear I
    go_wp2_with fail
    refine Calls.mono (ComesDo_calls w E0 zw zm zd ↑i h1 h2 h3 (bW x ↑i j) 13 0 ↑j 0 0 zeroE _ HI0.out) ?_
    rintro e w7 ⟨rfl, I, _⟩
    replace I : ComesS w zw zm zd ↑i (bW x ↑i (j + 1)) w7 := I
    clear HI0 d0
    obtain ⟨on, gd, A, c, C, d, ns, cs, Z, WZ, R, hw, M, D⟩ := I
    obtain ⟨bn, on_, v, rfl, _, hv, vi, n0, _, _, _, _⟩ := R.atN hlt
    have ev : (nodAt (bW x ↑i (j + 1)).n j).u.ep = v.x.u.ep := by rw [← hw]; exact congrArg (fun n => n.u.ep) (nodAt_ns hv)
    rw [← ev] at n0
    have hhw : hW x ↑i (j + 1) = max (hW x ↑i j) (nodAt (bW x ↑i (j + 1)).n j).u.ep := rfl
    have I : ComesS w zw zm zd ↑i (bW x ↑i (j + 1)) w7 := ⟨on, gd, _, c, C, d, ns, cs, Z, WZ, R, hw, M, D⟩
    have HI0 := Lib.hid I
    have z0 := Z.at_ 0 rfl
    generalize (nodAt (bW x ↑i (j + 1)).n j).u.ep = ep1 at n0 hhw
    have HHW := Lib.hid hhw
    clear on gd Z WZ R hw M D hv vi ev I hhw
    go_wp2_with fail
    go_roundg (3 - (j + 1))
    case measure => omega
    case rel => exact ⟨j + 1, by omega, Nat.le_refl _, by go_num, by rw [HHW.out], HI0.out⟩
  · obtain rfl : j = 3 := by omega
    replace I : ComesS w zw zm zd ↑i (bootsW x ↑i) wr := I
    rw [hW3]
    obtain ⟨Hh, hHh⟩ : ∃ Hh, Hh = highW x ↑i := ⟨_, rfl⟩
    rw [← hHh]
    have HHH := Lib.hid hHh
    clear hHh hj hgk hlt
    generalize wr = w7 at *
    go_wp2_with fail
    go_loopg [10, 53] 3 (fun g s10 s53 wr => ∃ j : Nat, j ≤ 3 ∧ 3 - j ≤ g ∧ s53 = .int .i64 j ∧ ComesS w zw zm zd ↑i (sW (bootsW x ↑i) ↑i Hh j) wr)
    case atStart => exact ⟨0, by omega, by omega, rfl, I⟩
    case round =>
     clear I
     obtain ⟨j, hj, hgk, rfl, I⟩ := hrel
     by_cases hlt : j < 3
     · have d0 := I.dov
       have HI0 := Lib.hid I
       clear I
       go_wp2_with fail
       refine Calls.mono (ComesDo_calls w E0 zw zm zd ↑i h1 h2 h3 (sW (bootsW x ↑i) ↑i Hh j) 8 0 ↑j 0 Hh zeroE _ HI0.out) ?_
       rintro e w8 ⟨rfl, I, _⟩
       replace I : ComesS w zw zm zd ↑i (sW (bootsW x ↑i) ↑i Hh (j + 1)) w8 := I
       have HI1 := Lib.hid I
       clear HI0 d0 I
       go_wp2_with fail
       go_roundg (3 - (j + 1))
       case measure => omega
       case rel => exact ⟨j + 1, by omega, Nat.le_refl _, by go_num, HI1.out⟩
     · obtain rfl : j = 3 := by omega
       replace I : ComesS w zw zm zd ↑i (sealsW (bootsW x ↑i) ↑i Hh) wr := I
       rw [HHH.out] at I
       have d0 := I.dov
       have HI0 := Lib.hid I
       clear I hj hgk hlt
       go_wp2_with fail
       refine Calls.mono (ComesDo_calls w E0 zw zm zd ↑i h1 h2 h3 _ 14 0 0 0 0 zeroE _ HI0.out) ?_
       rintro e w8 ⟨rfl, I, _⟩
       have d1 := I.dov
       have HI1 := Lib.hid I
       clear I HI0 d0
       go_wp2_with fail
       refine Calls.mono (ComesDo_calls w E0 zw zm zd ↑i h1 h2 h3 _ 9 0 0 0 0 zeroE _ HI1.out) ?_
       rintro e w9 ⟨rfl, I, _⟩
       replace I : ComesS w zw zm zd ↑i (startW x i) w9 := I
       clear HI1 d1
       obtain ⟨HE, hc⟩ := comes_start HG.out hi3
       have HC := Lib.hid hc
       clear hc
       go_upto_block 4 with fail
       go_cut [12, 13, 14, 15] from 69 to 171 (fun s12 s13 s14 s15 wx => ∃ (p : Nat) (y : Wor) (b : Book), Hid (ComesS w zw zm zd ↑i y wx) ∧ Hid (ComesI y HE i p b) ∧ Hid (holesOf y = []) ∧ Hid (p = (logOf y).length) ∧ Hid (dueL b.jobs y.time = [] ∨ p = 60 ∨ b.rung.length = 60))
       case first =>
        go_wp2_with fail
        go_loopg [12, 13, 14, 15, 69] 180 (fun g s12 s13 s14 s15 s69 wr => ∃ (r p : Nat) (y : Wor) (b : Book), r ≤ 180 ∧ 180 - r ≤ g ∧ s69 = .int .i64 r ∧ Hid (ComesS w zw zm zd ↑i y wr) ∧ Hid (ComesI y HE i p b) ∧ (60 - (logOf y).length) + (60 - p) + r ≤ 120)
        case atStart => exact ⟨0, 0, _, _, by omega, by omega, rfl, Lib.hid I, HC, by omega⟩
        case round =>
         clear I HC
         obtain ⟨r, p, y, b, hr, hgr, rfl, HI, HC, hm⟩ := hrel
         have hlt : r < 180 := by omega
         have HGY := Lib.hid HI.out.gd
         obtain ⟨Lg, hLg⟩ : ∃ L, L = (logOf y).length := ⟨_, rfl⟩
         have hL60 : Lg ≤ 60 := by rw [hLg]; exact HGY.out.logLen
         rw [← hLg] at hm
         have HLG := Lib.hid hLg
         clear hLg
         obtain ⟨bn, on_, c1, bc, oc, d1, ns1, cs1, v, u, R, HW1, z0, z1, z2, z3, m0, d0, n0, n1, SN, hvn, c9, c10, c11, SJ, SR⟩ := HI.out.opens hi3 HC.out.rests.cl
         go_wp2_with fail
         refine Calls.mono (SHoles_calls (some ⟨bn, on_, none⟩) 3 c1 y.tip (some ⟨bc, oc, none⟩) 3 d1 y.time ns1 cs1 _ (E0.onto HI.out.on) R) ?_
         rw [HW1.out, holesW_fine HGY.out]
         rintro e wa ⟨Bh, bh, yh, rfl, SH, _, _, ob, _⟩
         replace SH : S wa 1 Bh bh ((holesOf y).map fun k : Nat => encI k) := SH
         replace HI := Lib.hid (HI.out.onto ob)
         clear z0 z1 z2 z3 m0 d0 n0 n1 SN hvn c9 c10 c11 SJ SR R HW1 ob
         have hbl : (holesOf y).length = bh := by have := SH.len; simpa using this
         cases hh : holesOf y with
         | cons a l2 =>
           rw [hh] at SH hbl
           have hb1 : 0 < bh := by rw [← hbl]; simp
           obtain ⟨bo, oo, k0, hBh, _, hk0, ck⟩ := Sl.at_ SH hb1
           have hk0 : a = k0 := by simpa using hk0
           subst hk0
           have ck := ck 0 _ rfl
           have ck : wa.cell? ⟨bo, oo, none⟩ = some (.int .i64 (a : Int)) := by simpa using ck
           subst hBh
           obtain ⟨y0, y1, y2, y3, e0, e1, e2, e3, hC3, hm3⟩ := comes_fill HC.out hh
           have hys : ∀ j, j < 3 → happenW ((fun j : Nat => match j with | 0 => y0 | 1 => y1 | 2 => y2 | _ => y3) j) (hapK 4 ↑i 0 0) = ((fun j : Nat => match j with | 0 => y0 | 1 => y1 | 2 => y2 | _ => y3) (j + 1), 0) := fun j hj => by
            rcases lt3 hj with rfl | rfl | rfl
            · exact e1
            · exact e2
            · exact e3
           have HYS := Lib.hid hys; have HE0 := Lib.hid e0; have HC3 := Lib.hid hC3
           rw [← HLG.out] at hm3
           have hL3 := hC3.good.logLen
           have d0 := HI.out.dov
           clear hys e0 e1 e2 e3 hC3 SH hbl hh HGY
           go_upto_region 27 with fail
           go_region_law (first
            | (go_simp; go_at_call 36; refine Calls.mono (ComesDo_calls w E0 zw zm zd ↑i h1 h2 h3 y 6 0 ↑a 0 0 zeroE _ (HI.out.onto (by with_reducible (first | exact Onto.rfl' _ | exact (Onto.rfl' _).draw | (repeat (first | exact Onto.rfl' _ | refine Onto.draw ?_ | refine Onto.new ?_ _)))))) ?_; rw [show happenW y ⟨6, ↑i, ↑a, 0, 0, zeroE⟩ = (y0, 0) from HE0.out, show stepW y ⟨6, ↑i, ↑a, 0, 0, zeroE⟩ = y0 from step_ok HE0.out]; rintro e wq ⟨rfl, I1, _⟩; have HI1 := Lib.hid I1; clear I1)
            | (go_simp; go_at_call 37; refine Calls.mono (ComesAlong_calls w E0 zw zm zd ↑i h1 h2 h3 (fun j : Nat => match j with | 0 => y0 | 1 => y1 | 2 => y2 | _ => y3) HYS.out _ (HI1.out.onto (by with_reducible (first | exact Onto.rfl' _ | exact (Onto.rfl' _).draw | (repeat (first | exact Onto.rfl' _ | refine Onto.draw ?_ | refine Onto.new ?_ _)))))) ?_; rintro e wq2 ⟨rfl, I2, _⟩; have HI2 : Hid (ComesS w zw zm zd ↑i y3 wq2) := Lib.hid I2; clear I2))
           all_goals
            go_wp2_with fail
            go_roundg (180 - (r + 1))
            case measure => omega
            case rel => exact ⟨r + 1, p, y3, b, by omega, Nat.le_refl _, by go_num, Lib.hid (HI2.out.onto (by with_reducible (first | exact Onto.rfl' _ | exact (Onto.rfl' _).draw | (repeat (first | exact Onto.rfl' _ | refine Onto.draw ?_ | refine Onto.new ?_ _))))), HC3, by omega⟩
         | nil =>
           rw [hh] at SH hbl
           obtain rfl : bh = 0 := by simpa using hbl.symm
           have HH := Lib.hid hh
           have d0 := HI.out.dov
           clear SH hbl hh
           go_wp2_with fail
           refine Calls.mono (ComesDo_calls w E0 zw zm zd ↑i h1 h2 h3 y 7 0 0 0 0 zeroE _ HI.out) ?_
           rcases comes_play HC.out with ⟨hp, y1, b1, e1, hC1, hlog⟩ | ⟨hp, hne⟩
           · rw [show happenW y ⟨7, ↑i, 0, 0, 0, zeroE⟩ = (y1, 0) from e1, show stepW y ⟨7, ↑i, 0, 0, 0, zeroE⟩ = y1 from step_ok e1]
             rintro e wb ⟨rfl, I1, _⟩
             have HI1 := Lib.hid I1; have HC1 := Lib.hid hC1
             rw [← HLG.out] at hp
             have hlog : (logOf y1).length = Lg := by rw [hlog]; exact HLG.out.symm
             clear I1 hC1 HI HC d0 e1
             go_wp2_with fail
             go_roundg (180 - (r + 1))
             case measure => omega
             case rel => exact ⟨r + 1, p + 1, y1, b1, by omega, Nat.le_refl _, by go_num, HI1, HC1, by omega⟩
           · rw [show stepW y ⟨7, ↑i, 0, 0, 0, zeroE⟩ = y by unfold stepW; exact if_neg hne, show decide ((happenW y ⟨7, ↑i, 0, 0, 0, zeroE⟩).2 = 0) = false from decide_eq_false (show ¬ ((happenW y ⟨7, ↑i, 0, 0, 0, zeroE⟩).2 = 0) from hne)]
             rintro e wb ⟨rfl, I1, _⟩
             have HI1 := Lib.hid I1
             rw [← HLG.out] at hp
             subst hp
             clear I1 HI d0 hne
             obtain ⟨bn, on_, c1, bc, oc, d1, ns1, cs1, v, u, R, HW1, z0, z1, z2, z3, m0, d0, n0, n1, SN, hvn, c9, c10, c11, SJ, SR⟩ := HI1.out.opens hi3 HC.out.rests.cl
             have hck := comes_book HC.out
             have hzb : zw < wb.heap.size := World.block_lt_of_cell? wb _ z2
             have h9 : ∀ w', Onto wb w' → zw < w'.heap.size := fun w' h => Nat.lt_of_lt_of_le hzb h.size
             have HCK := Lib.hid hck
             have hz2 : ∀ w', Onto wb w' → w'.cell? ⟨zw, 2, none⟩ = some (.slice (some ⟨bc, oc, none⟩) 3 d1) := fun w' h => cellB h z2
             have hz3 : ∀ w', Onto wb w' → w'.cell? ⟨zw, 3, none⟩ = some (.int .i64 y.time) := fun w' h => cellB h z3
             have hm0 : ∀ w', Onto wb w' → w'.cell? ⟨zm, 0, none⟩ = some (.int .i64 ↑i) := fun w' h => cellB h m0
             have hc10 : ∀ w', Onto wb w' → w'.cell? ⟨bc, oc + i * 12 + 10, none⟩ = some (.slice u.A u.n u.c) := fun w' h => cellB h c10
             have hc11 : ∀ w', Onto wb w' → w'.cell? ⟨bc, oc + i * 12 + 11, none⟩ = some (.slice u.G u.m u.d) := fun w' h => cellB h c11
             have hi3' : (i : Int) < 3 := by omega
             have QJ := Lib.hid SJ; have QR := Lib.hid SR
             clear z0 z1 z2 z3 m0 d0 n0 n1 SN hvn c9 c10 c11 R HW1 hck SJ SR
             go_upto_region 30 with fail
             go_cut [13, 14] (fun s13 s14 wx => ∃ (P : Option Addr) (p1 q1 : Nat), s14 = .slice P p1 q1 ∧ s13 = .int .i64 0 ∧ S wx 3 P p1 ((dueL b.jobs y.time).map encJ) ∧ OffN p1 zw P ∧ Hid (ComesS w zw zm zd ↑i y wx))
             case first =>
              go_region_held3 (fun w' => Onto wb w')
               (((with_reducible (repeat (first | exact Onto.rfl' _ | exact b6 | refine Onto.draw ?_ | refine Onto.new ?_ _))); done))
               (first
               | (go_at_call 39; refine Calls.mono (Due_calls u.A u.G u.n u.c u.m u.d b y.time _ (QJ.out.onto (by with_reducible (first | exact Onto.rfl' _ | exact (Onto.rfl' _).draw | (repeat (first | exact Onto.rfl' _ | refine Onto.draw ?_ | refine Onto.new ?_ _))))) (QR.out.onto (by with_reducible (first | exact Onto.rfl' _ | exact (Onto.rfl' _).draw | (repeat (first | exact Onto.rfl' _ | refine Onto.draw ?_ | refine Onto.new ?_ _)))))) ?_; rw [HCK.out, if_pos rfl]; rintro e w6 ⟨P, p1, q1, rfl, SP, ob, fP, _, _⟩; have oP : OffN p1 zw P := fP.offN (h9 _ (by with_reducible (first | exact Onto.rfl' _ | exact (Onto.rfl' _).draw | (repeat (first | exact Onto.rfl' _ | refine Onto.draw ?_ | refine Onto.new ?_ _))))); have b6 : Onto wb w6 := Onto.to (by with_reducible (first | exact Onto.rfl' _ | exact (Onto.rfl' _).draw | (repeat (first | exact Onto.rfl' _ | refine Onto.draw ?_ | refine Onto.new ?_ _)))) ob; clear ob)
               | fail)
              all_goals
               go_wp2_with fail
               go_meet
               exact ⟨P, p1, q1, rfl, rfl, SP.onto (by with_reducible (first | exact Onto.rfl' _ | exact (Onto.rfl' _).draw | (repeat (first | exact Onto.rfl' _ | refine Onto.draw ?_ | refine Onto.new ?_ _)))), oP, Lib.hid (HI1.out.onto (b6.to (by with_reducible (first | exact Onto.rfl' _ | exact (Onto.rfl' _).draw | (repeat (first | exact Onto.rfl' _ | refine Onto.draw ?_ | refine Onto.new ?_ _))))))⟩
             case rest =>
              clear hz2 hz3 hm0 hc10 hc11 QJ QR HI1 h9 hzb
              obtain ⟨P, p1, q1, rfl, rfl, SP, oP, HI⟩ := hcut
              obtain ⟨bn, on_, c1, bc, oc, d1, ns1, cs1, v, u, R, HW1, z0, z1, z2, z3, m0, d0, n0, n1, SN, hvn, c9, c10, c11, SJ, SR⟩ := HI.out.opens hi3 HC.out.rests.cl
              go_wp2_with fail
              refine Calls.mono (UTail_calls v.x.u.ep v.A v.n v.c (nodAt y.n 0).u.cells _ SN (by omega)) ?_
              rw [tailF_eq _ rfl, log_full HGY.out HH.out, ← HLG.out]
              rintro e wd ⟨rfl, ob⟩
              replace HI := Lib.hid (HI.out.onto ob); replace SP := SP.onto ob
              have HW0 := HW1
              clear z0 z1 z2 z3 m0 d0 n0 n1 SN hvn c9 c10 c11 SJ SR R HW1 ob HW0
              obtain ⟨bn, on_, c1, bc, oc, d1, ns1, cs1, v, u, R, HW1, z0, z1, z2, z3, m0, d0, n0, n1, SN, hvn, c9, c10, c11, SJ, SR⟩ := HI.out.opens hi3 HC.out.rests.cl
              have hum : b.rung.length = u.m := by have := SR.len; simpa using this
              have hnl : (dueL b.jobs y.time).length = p1 := by have := SP.len; simpa using this
              have HUM := Lib.hid hum; have HNL := Lib.hid hnl
              clear hum hnl SN n0 n1 hvn SJ SR c10
              by_cases hbk : p1 = 0 ∨ p = 60 ∨ b.rung.length = 60
              · have HBK : Hid (dueL b.jobs y.time = [] ∨ p = 60 ∨ b.rung.length = 60) := Lib.hid (hbk.imp (fun h => List.eq_nil_of_length_eq_zero (HNL.out.trans h)) id)
                have hfin : ∃ (p : Nat) (y : Wor) (b : Book), Hid (ComesS w zw zm zd ↑i y wd) ∧ Hid (ComesI y HE i p b) ∧ Hid (holesOf y = []) ∧ Hid (p = (logOf y).length) ∧ Hid (dueL b.jobs y.time = [] ∨ p = 60 ∨ b.rung.length = 60) := ⟨p, y, b, HI, HC, HH, HLG, HBK⟩
                have HFIN := Lib.hid hfin
                clear hfin HBK
                by_cases hp1 : p1 = 0
                · subst hp1
                  clear hbk
                  by_cases h6 : p < 60
                  · go_wp2_with fail
                    go_meet
                    exact HFIN.out
                  · obtain rfl : p = 60 := by omega
                    go_wp2_with fail
                    go_meet
                    exact HFIN.out
                · have hp0 : (p1 == 0) = false := by simpa using hp1
                  by_cases h6 : p < 60
                  · have hu6 : u.m = 60 := by rw [← HUM.out]; omega
                    rw [hu6] at c11
                    clear hbk hu6
                    go_wp2_with fail
                    go_meet
                    exact HFIN.out
                  · obtain rfl : p = 60 := by omega
                    clear hbk
                    go_wp2_with fail
                    go_meet
                    exact HFIN.out
              · have hp1 : 0 < p1 := by omega
                have h6 : p < 60 := by omega
                have hu6 : ¬ (u.m = 60) := by rw [← HUM.out]; omega
                have hp0 : ((p1 : Int) == 0) = false := by simp; omega
                have hu0 : ((u.m : Int) == 60) = false := by simp; omega
                have hp6 : ((p : Int) == 60) = false := by simp; omega
                obtain ⟨_, _, j, -, _, hj, _, _, _⟩ := Sl.atJ SP hp1
                obtain ⟨hj1, hj2⟩ := due_mem (List.mem_of_getElem? hj)
                obtain ⟨x1, x2, x3, y1, y2, y3, e1, e2, e3, f1, f2, f3, hC3, hm3⟩ := comes_ring HC.out HH.out (by rw [← HLG.out]; exact h6) hj1 hj2
                rw [← HLG.out] at e1 hm3
                have hL3 := hC3.good.logLen
                have hys : ∀ j, j < 3 → happenW ((fun j : Nat => match j with | 0 => x3 | 1 => y1 | 2 => y2 | _ => y3) j) (hapK 4 ↑i 0 0) = ((fun j : Nat => match j with | 0 => x3 | 1 => y1 | 2 => y2 | _ => y3) (j + 1), 0) := fun j hj => by
                 rcases lt3 hj with rfl | rfl | rfl
                 · exact f1
                 · exact f2
                 · exact f3
                have HYS := Lib.hid hys; have HE1 := Lib.hid e1; have HE2 := Lib.hid e2; have HE3 : Hid (happenW x2 ⟨3, ↑i, 0, 0, 0, zeroE⟩ = (x3, 0)) := Lib.hid e3; have HC3 := Lib.hid hC3; have HJ := Lib.hid hj
                clear hbk hj hj1 hj2 e1 e2 e3 f1 f2 f3 hC3 hys
                go_wp2_with fail
                refine Calls.mono (ComesDo_calls w E0 zw zm zd ↑i h1 h2 h3 y 10 0 ↑p 0 0 zeroE _ HI.out) ?_
                rw [show happenW y ⟨10, ↑i, ↑p, 0, 0, zeroE⟩ = (x1, 0) from HE1.out, show stepW y ⟨10, ↑i, ↑p, 0, 0, zeroE⟩ = x1 from step_ok HE1.out]
                rintro e wg ⟨rfl, I1, tz⟩
                replace SP := SP.grown tz (fun g e => by injection e with e; subst e; exact oP)
                have d1 := I1.dov
                have HI1 := Lib.hid I1
                clear I1 tz z0 z1 z2 z3 m0 d0 c9 c11 R HW1 hp0 hu0 hp6 hu6 HI
                obtain ⟨bj, oj, j2, hP, _, hj2, a0, _, _⟩ := Sl.atJ SP hp1
                obtain rfl : j2 = j := by have := HJ.out; rw [hj2] at this; injection this
                have a0 : wg.cell? ⟨bj, oj, none⟩ = some (.int .i64 j2.id) := by simpa using a0
                have hbj : bj ≠ zw := oP hp1 _ hP
                subst hP
                have hzg : zw < wg.heap.size := HI1.out.zlt
                have hdd : ∀ w', Turn wg w' zw → w'.cell? ⟨zd, 0, none⟩ = some (.func (.func 36) #[] #[.pointer (some ⟨zm, 0, none⟩), .pointer (some ⟨zw, 0, none⟩)]) := fun w' h => grow_cell h d1 (by intro e; injection e with e; exact h3 e.symm)
                have haa : ∀ w', Turn wg w' zw → w'.cell? ⟨bj, oj, none⟩ = some (.int .i64 j2.id) := fun w' h => grow_cell h a0 (by intro e; injection e with e; exact hbj e)
                clear hj2 SP HJ a0 d1 oP
                go_upto_region 36 with fail
                go_region_held3 (fun w' => Turn wg w' zw)
                 ((with_reducible (repeat (first | exact Turn.rfl' _ _ | exact tq3 | exact tq2 | exact tq | refine gb_draw ?_)); done))
                 (first
                 | (go_at_call 36; (with_reducible refine Calls.mono (ComesOk_calls w E0 zw zm zd ↑i h1 h2 h3 x1 x2 2 0 0 j2.id 0 HE2.out _ (HI1.out.onto (by with_reducible (first | exact Onto.rfl' _ | exact (Onto.rfl' _).draw | (repeat (first | exact Onto.rfl' _ | refine Onto.draw ?_ | refine Onto.new ?_ _)))))) ?_); rintro e wq ⟨rfl, I2, t2⟩; have tq : Turn wg wq zw := Turn.to (by with_reducible (repeat (first | exact Turn.rfl' _ _ | exact tq3 | exact tq2 | exact tq | refine gb_draw ?_))) t2 hzg; have HI2 := Lib.hid I2; clear I2 t2)
                 | (go_at_call 36; (with_reducible refine Calls.mono (ComesOk_calls w E0 zw zm zd ↑i h1 h2 h3 x2 x3 3 0 0 0 0 HE3.out _ (HI2.out.onto (by with_reducible (first | exact Onto.rfl' _ | exact (Onto.rfl' _).draw | (repeat (first | exact Onto.rfl' _ | refine Onto.draw ?_ | refine Onto.new ?_ _)))))) ?_); rintro e wq2 ⟨rfl, I3, t3⟩; have tq2 : Turn wg wq2 zw := Turn.to (by with_reducible (repeat (first | exact Turn.rfl' _ _ | exact tq3 | exact tq2 | exact tq | refine gb_draw ?_))) t3 hzg; have HI3 := Lib.hid I3; clear I3 t3)
                 | (go_at_call 37; (with_reducible refine Calls.mono (ComesAlong_calls w E0 zw zm zd ↑i h1 h2 h3 (fun j : Nat => match j with | 0 => x3 | 1 => y1 | 2 => y2 | _ => y3) HYS.out _ (HI3.out.onto (by with_reducible (first | exact Onto.rfl' _ | exact (Onto.rfl' _).draw | (repeat (first | exact Onto.rfl' _ | refine Onto.draw ?_ | refine Onto.new ?_ _)))))) ?_); rintro e wq3 ⟨rfl, I4, t4⟩; have tq3 : Turn wg wq3 zw := Turn.to (by with_reducible (repeat (first | exact Turn.rfl' _ _ | exact tq3 | exact tq2 | exact tq | refine gb_draw ?_))) t4 hzg; have HI4 : Hid (ComesS w zw zm zd ↑i y3 wq3) := Lib.hid I4; clear I4 t4)
                 | fail)
                all_goals
                 go_wp2_with fail
                 go_roundg (180 - (r + 1))
                 case measure => omega
                 case rel => exact ⟨r + 1, p, y3, b, by omega, Nat.le_refl _, by go_num, Lib.hid (HI4.out.onto (by with_reducible (first | exact Onto.rfl' _ | exact (Onto.rfl' _).draw | (repeat (first | exact Onto.rfl' _ | refine Onto.draw ?_ | refine Onto.new ?_ _))))), HC3, by omega⟩
       case rest =>
        obtain ⟨p, y, b, HI, HC, HH, HLG, HBK⟩ := hcut
        have HGY := Lib.hid HI.out.gd
        have HCK := Lib.hid (comes_book HC.out)
        obtain ⟨bn, on_, c1, bc, oc, d1, ns1, cs1, v, u, R, HW1, z0, z1, z2, z3, m0, d0, n0, n1, SN, hvn, c9, c10, c11, SJ, SR⟩ := HI.out.opens hi3 HC.out.rests.cl
        clear m0 d0 n0 n1 SN hvn c9 c10 c11 SJ SR
        go_wp2_with fail
        refine Calls.mono (SHoles_calls (some ⟨bn, on_, none⟩) 3 c1 y.tip (some ⟨bc, oc, none⟩) 3 d1 y.time ns1 cs1 _ (E0.onto HI.out.on) R) ?_
        rw [HW1.out, holesW_fine HGY.out]
        rintro e we ⟨Bh, bh, yh, rfl, SH, _, _, ob, _⟩
        replace SH : S we 1 Bh bh ((holesOf y).map fun k : Nat => encI k) := SH
        have hbl : (holesOf y).length = bh := by have := SH.len; simpa using this
        rw [HH.out] at hbl
        obtain rfl : bh = 0 := by simpa using hbl.symm
        replace HI := Lib.hid (HI.out.onto ob)
        clear z0 z1 z2 z3 R HW1 ob SH hbl
        obtain ⟨bn, on_, c1, bc, oc, d1, ns1, cs1, v, u, R, HW1, z0, z1, z2, z3, m0, d0, n0, n1, SN, hvn, c9, c10, c11, SJ, SR⟩ := HI.out.opens hi3 HC.out.rests.cl
        have hz2 : ∀ w', Onto we w' → w'.cell? ⟨zw, 2, none⟩ = some (.slice (some ⟨bc, oc, none⟩) 3 d1) := fun w' h => cellB h z2
        have hz3 : ∀ w', Onto we w' → w'.cell? ⟨zw, 3, none⟩ = some (.int .i64 y.time) := fun w' h => cellB h z3
        have hm0 : ∀ w', Onto we w' → w'.cell? ⟨zm, 0, none⟩ = some (.int .i64 ↑i) := fun w' h => cellB h m0
        have hc10 : ∀ w', Onto we w' → w'.cell? ⟨bc, oc + i * 12 + 10, none⟩ = some (.slice u.A u.n u.c) := fun w' h => cellB h c10
        have hc11 : ∀ w', Onto we w' → w'.cell? ⟨bc, oc + i * 12 + 11, none⟩ = some (.slice u.G u.m u.d) := fun w' h => cellB h c11
        have hi3' : (i : Int) < 3 := by omega
        have QJ := Lib.hid SJ; have QR := Lib.hid SR
        obtain ⟨cn, hcn⟩ : ∃ cn, cn = countL b.jobs y.time := ⟨_, rfl⟩
        have HCN := Lib.hid hcn
        clear z0 z1 z2 z3 m0 d0 n0 n1 SN hvn c9 c10 c11 R HW1 SJ SR hcn
        go_upto_region 40 with fail
        go_cut [18, 19] (fun s18 s19 wx => s18 = .int .i64 cn ∧ s19 = .int .i64 0 ∧ Hid (ComesS w zw zm zd ↑i y wx))
        case first =>
         go_region_held3 (fun w' => Onto we w')
          (((with_reducible (repeat (first | exact Onto.rfl' _ | exact b6 | refine Onto.draw ?_ | refine Onto.new ?_ _))); done))
          (first
          | (go_at_call 41; refine Calls.mono (Count_calls u.A u.G u.n u.c u.m u.d b y.time _ (QJ.out.onto (by with_reducible (first | exact Onto.rfl' _ | exact (Onto.rfl' _).draw | (repeat (first | exact Onto.rfl' _ | refine Onto.draw ?_ | refine Onto.new ?_ _))))) (QR.out.onto (by with_reducible (first | exact Onto.rfl' _ | exact (Onto.rfl' _).draw | (repeat (first | exact Onto.rfl' _ | refine Onto.draw ?_ | refine Onto.new ?_ _)))))) ?_; rw [HCK.out, if_pos rfl, ← HCN.out]; rintro e w6 ⟨rfl, ob⟩; have b6 : Onto we w6 := Onto.to (by with_reducible (first | exact Onto.rfl' _ | exact (Onto.rfl' _).draw | (repeat (first | exact Onto.rfl' _ | refine Onto.draw ?_ | refine Onto.new ?_ _)))) ob; clear ob)
          | fail)
         all_goals
          go_wp2_with fail
          go_meet
          exact ⟨rfl, rfl, Lib.hid (HI.out.onto (b6.to (by with_reducible (first | exact Onto.rfl' _ | exact (Onto.rfl' _).draw | (repeat (first | exact Onto.rfl' _ | refine Onto.draw ?_ | refine Onto.new ?_ _))))))⟩
        case rest =>
         clear hz2 hz3 hm0 hc10 hc11 QJ QR HI
         obtain ⟨rfl, rfl, HI⟩ := hcut
         obtain ⟨bn, on_, c1, bc, oc, d1, ns1, cs1, v, u, R, HW1, z0, z1, z2, z3, m0, d0, n0, n1, SN, hvn, c9, c10, c11, SJ, SR⟩ := HI.out.opens hi3 HC.out.rests.cl
         clear m0 d0 n0 n1 SN hvn c9 c10 c11 SJ SR
         go_wp2_with fail
         refine Calls.mono (SLog_calls (some ⟨bn, on_, none⟩) 3 c1 y.tip (some ⟨bc, oc, none⟩) 3 d1 y.time ns1 cs1 _ (E0.onto HI.out.on) R) ?_
         rw [HW1.out, logW_fine HGY.out]
         rintro e wf ⟨Bl, bl, yl, rfl, SLg, _, _, ob, _⟩
         replace SLg : S wf 5 Bl bl ((logOf y).map encE) := SLg
         have hll : bl = p := by have := SLg.len; rw [HLG.out]; simpa using this.symm
         replace HI := Lib.hid (HI.out.onto ob)
         clear z0 z1 z2 z3 R HW1 ob SLg
         subst hll
         obtain ⟨bn, on_, c1, bc, oc, d1, ns1, cs1, v, u, R, HW1, z0, z1, z2, z3, m0, d0, n0, n1, SN, hvn, c9, c10, c11, SJ, SR⟩ := HI.out.opens hi3 HC.out.rests.cl
         have hum : u.m = b.rung.length := by have := SR.len; simpa using this.symm
         have HUM := Lib.hid hum
         clear z0 z1 z3 d0 n0 n1 SN hvn c9 c10 SJ SR R HW1 hum
         by_cases hcn : cn = 0
         · subst hcn
           go_wp2_with fail
           go_ret
           exact ⟨rfl, HI.out.on⟩
         · have hcn0 : (cn == 0) = false := by simpa using hcn
           by_cases h6 : bl = 60
           · subst h6
             go_wp2_with fail
             go_ret
             exact ⟨rfl, HI.out.on⟩
           · have h60 : (bl == 60) = false := by simpa using h6
             have hu6 : u.m = 60 := by
              rcases HBK.out with h | h | h
              · exact absurd (HCN.out.trans (count_none h)) hcn
              · exact absurd h h6
              · exact HUM.out.trans h
             rw [hu6] at c11
             go_wp2_with fail
             go_ret
             exact ⟨rfl, HI.out.on⟩
end
end Go.Proofs.YtmppkaoonncddaaGreatDoor
