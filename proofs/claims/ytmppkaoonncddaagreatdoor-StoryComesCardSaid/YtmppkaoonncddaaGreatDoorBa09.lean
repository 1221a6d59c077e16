/- Part 9 of the proof: WWrite, WTear, WHap, WPower, WOfUnit, WCopy, WOff, WUnits, WBehind, WCheckN. -/
import Derived.Test.YtmppkaoonncddaaGreatDoorBa08
import Derived.Test.YtmppkaoonncddaaGreatDoorBa04
import Derived.Test.YtmppkaoonncddaaGreatDoorBa05
import Derived.Deep.RegionLaw
import Derived.Deep.DeepCutAuto
import Derived.Test.YtmppkaoonncddaaGreatDoorBa07
import Derived.Test.YtmppkaoonncddaaGreatDoorBa03
import Derived.Test.YtmppkaoonncddaaGreatDoorBa06
namespace Go.Proofs.YtmppkaoonncddaaGreatDoor
section
set_option linter.unusedSimpArgs false
set_option linter.unusedVariables false
open Go.RowKit
attribute [local go_sem ↓] Go.wp_at_zero Go.wp_at_succ
def NPost (w : World) (nb k : Nat) (rows : List (List Value)) (v : NV) (q : Nod × Int) (e : Ending) (w' : World) : Prop :=
 e = .returned (.int .i64 q.2) ∧ Turn w w' nb ∧ (q.2 = 0 → ∃ v', v'.x = q.1 ∧ v'.In w' ∧ Rx w' nb (rows.set k (encN v')) ∧ ∀ z, z < w.heap.size → v.off z → v'.off z)
theorem NPost.bad {w w' : World} {nb k : Nat} {rows : List (List Value)} {v : NV} {q : Nod × Int} (h : q.2 ≠ 0) (on : Onto w w') : NPost w nb k rows v q (.returned (.int .i64 q.2)) w' := ⟨rfl, Turn.of on nb, fun h' => absurd h' h⟩
section
variable {w : World} {nb k : Nat} {rows : List (List Value)} {v : NV}
theorem NV.cells_at (B : Rx w nb rows) (hk : ∀ x ∈ rows, x.length = 5) (hr : rows[k]? = some (encN v)) :
    w.cell? ⟨nb, k * 5, none⟩ = some (.int .i64 v.x.u.ep) ∧ w.cell? ⟨nb, k * 5 + 1, none⟩ = some (.slice v.A v.n v.c) ∧ w.cell? ⟨nb, k * 5 + 2, none⟩ = some (.slice v.F v.k v.i) ∧ w.cell? ⟨nb, k * 5 + 3, none⟩ = some (.slice v.G v.l v.j) ∧ w.cell? ⟨nb, k * 5 + 4, none⟩ = some (.bool v.x.up) :=
 ⟨Rx.at_ B hk hr 0 rfl, Rx.at_ B hk hr 1 rfl, Rx.at_ B hk hr 2 rfl, Rx.at_ B hk hr 3 rfl, Rx.at_ B hk hr 4 rfl⟩
theorem DK.put1 {A A' : Option Addr} {n c m d : Nat} {x : Dsk} {p : Addr} (h : DK w A n c A' m d x) (h1 : OffN n p.block A) (h2 : OffN m p.block A') (u : Value) : DK (w.setCell p u) A n c A' m d x := ⟨S.off h.safe h1 u, S.off h.wait h2 u, h.n_le, h.c_le, h.m_le, h.d_le⟩
end
set_option maxHeartbeats 8000000 in
set_option maxRecDepth 100000 in
theorem NWrite_calls (v : NV) (r : Rec) (w : World) (E : Env w) (nb k : Nat) (rows : List (List Value)) (B : Rx w nb rows) (hk : ∀ x ∈ rows, x.length = 5) (hr : rows[k]? = some (encN v)) (I : v.In w) (of : v.off nb) :
    Calls Tryz.prog 110 #[.pointer (some ⟨nb, k * 5, none⟩), .agg #[.int .i64 r.kind, .int .i64 r.at_, .int .i64 r.epoch, .int .i64 r.e.kind, .int .i64 r.e.job, .int .i64 r.e.every, .int .i64 r.e.time, .int .i64 r.e.client]] w (NPost w nb k rows v (writeN v.x r)) := by
 obtain ⟨N, hN⟩ : ∃ q, q = nextU v.x.u r := ⟨_, rfl⟩
 obtain ⟨P, hP⟩ : ∃ q, q = putK v.x.d r := ⟨_, rfl⟩
 obtain ⟨Y, hY⟩ : ∃ q, q = syncK P.1 := ⟨_, rfl⟩
 obtain ⟨q, hq⟩ : ∃ q, q = writeN v.x r := ⟨_, rfl⟩
 rw [← hq]
 unfold writeN at hq
 rw [← hN, ← hP, ← hY] at hq
 have HN := Lib.hid hN; have HP := Lib.hid hP; have HY := Lib.hid hY; have HQ := Lib.hid hq; have HR := Lib.hid hr; have HK := Lib.hid hk
 clear hN hP hY hq hr hk
 have hnw := Bx.lt B
 go_enter Tryz.func110, Tryz.ntmps110
 go_upto_region 1 with fail
 refine wp_box1 (v1 := [.int .i64 r.kind, .int .i64 r.at_, .int .i64 r.epoch, .int .i64 r.e.kind, .int .i64 r.e.job, .int .i64 r.e.every, .int .i64 r.e.time, .int .i64 r.e.client]) rfl fun w1 on R => ?_
 replace B := Bx.onto B on; replace I := I.onto on
 generalize hzr : w.heap.size = zr at R
 clear hzr
 obtain ⟨n0, n1, n2, n3, n4⟩ := NV.cells_at B HK.out HR.out
 have r0 := R.at_ 0 rfl; have r1 := R.at_ 1 rfl; have r2 := R.at_ 2 rfl; have r3 := R.at_ 3 rfl; have r4 := R.at_ 4 rfl; have r5 := R.at_ 5 rfl; have r6 := R.at_ 6 rfl; have r7 := R.at_ 7 rfl
 have hrl := R.lt; have hnl := Bx.lt B
 have hsz1 := on.size
 go_cut [5, 6] (fun s5 s6 wx => ∃ (p : Nat) (A1 : Option Addr) (k1 c1 : Nat), s5 = .pointer (some ⟨p, 0, none⟩) ∧ s6 = .int .i64 N.2 ∧ Bx wx p [.int .i64 N.1.ep, .slice A1 k1 c1] ∧ S wx 5 A1 k1 (N.1.cells.map encE) ∧ Fresh w1.heap.size A1 ∧ k1 ≤ c1 ∧ c1 ≤ maxLen ∧ Onto w1 wx ∧ w1.heap.size ≤ p)
 case first =>
  go_region_law (first
   | (go_simp; go_at_call 114; refine Calls.mono (UNext_calls v.x.u.ep v.A v.n v.c v.x.u.cells r.kind r.at_ r.epoch r.e _ (I.cells.onto (by with_reducible (first | exact Onto.rfl' _ | exact (Onto.rfl' _).draw | exact ((Onto.rfl' _).new _).draw | exact ((Onto.rfl' _).draw).new _)))) ?_; rw [show nextU ⟨v.x.u.ep, v.x.u.cells⟩ ⟨r.kind, r.at_, r.epoch, r.e⟩ = N from HN.out.symm]; unfold UPost; rintro e w2 ⟨A1, k1, c1, rfl, s1, ob, hkc1, hcm1, f1⟩; have b : Onto w1 w2 := Onto.to (by with_reducible (first | exact Onto.rfl' _ | exact (Onto.rfl' _).draw | exact ((Onto.rfl' _).new _).draw | exact ((Onto.rfl' _).draw).new _)) ob; have f1' : Fresh w1.heap.size A1 := fun a e => Nat.le_trans (Onto.sz (by with_reducible (first | exact Onto.rfl' _ | exact (Onto.rfl' _).draw | exact ((Onto.rfl' _).new _).draw | exact ((Onto.rfl' _).draw).new _))) (f1 a e); (first | (have Z5 : Bx w2 w1.heap.size [.int .i64 0, .slice none 0 0] := Bx.onto (Bx.draw (Bx.made w1 #[.int .i64 0, .slice none 0 0] 44)) ob; have z50 := Z5.at_ 0 rfl; have z51 := Z5.at_ 1 rfl; have f50 := Z5.froz 0; have f51 := Z5.froz 1; have oz : OffN k1 w1.heap.size A1 := f1.offN (by simp)) | skip)))
  all_goals
   go_wp2_with fail
   go_meet
   first
    | exact ⟨_, A1, k1, c1, rfl, rfl, Bx.made _ _ _, s1.new _, f1', hkc1, hcm1, b.new _, b.size⟩
    | exact ⟨_, A1, k1, c1, rfl, rfl, (Z5.put1 (j := 0) (by simp) _).put1 (j := 1) (by simp) _, S.off (S.off s1 oz _) oz _, f1', hkc1, hcm1, (b.put (Nat.le_refl _) _).put (Nat.le_refl _) _, Nat.le_refl _⟩
 case rest =>
  obtain ⟨p, A1, k1, c1, rfl, rfl, U, s1, f1, hkc1, hcm1, b, hp1⟩ := hcut
  have hnp : nb ≠ p := by omega
  replace B := Bx.onto B b; replace I := I.onto b; replace R := R.onto b; replace on := on.to b
  have f1w : Fresh w.heap.size A1 := fun a e => Nat.le_trans (by have := hsz1; omega) (f1 a e)
  clear b n0 n1 n2 n3 n4 r0 r1 r2 r3 r4 r5 r6 r7 hrl hnl f1
  by_cases h1 : N.2 = 0
  · have hq := HQ.out
    rw [if_neg (by simp [h1])] at hq
    replace HQ := Lib.hid hq
    rw [h1]
    clear hq h1
    go_upto_region 4 with fail
    obtain ⟨n0, n1, n2, n3, n4⟩ := NV.cells_at B HK.out HR.out
    have r0 := R.at_ 0 rfl; have r1 := R.at_ 1 rfl; have r2 := R.at_ 2 rfl; have r3 := R.at_ 3 rfl; have r4 := R.at_ 4 rfl; have r5 := R.at_ 5 rfl; have r6 := R.at_ 6 rfl; have r7 := R.at_ 7 rfl
    have hrl := R.lt; have hnl := Bx.lt B
    generalize wc = w3 at *
    go_cut [6, 7] (fun s6 s7 wx => ∃ (p : Nat) (F : Option Addr) (k i : Nat) (G : Option Addr) (l j : Nat), s7 = .pointer (some ⟨p, 0, none⟩) ∧ s6 = .int .i64 P.2 ∧ Bx wx p [.slice F k i, .slice G l j] ∧ DK wx F k i G l j P.1 ∧ Onto w3 wx ∧ w3.heap.size ≤ p)
    case first =>
     go_region_law (first
      | (go_simp; go_at_call 123; refine Calls.mono (DPut_calls v.F v.G v.k v.i v.l v.j v.x.d r _ (E.onto (on.to (by with_reducible (first | exact Onto.rfl' _ | exact (Onto.rfl' _).draw | exact ((Onto.rfl' _).new _).draw | exact ((Onto.rfl' _).draw).new _)))) (I.disk.onto (by with_reducible (first | exact Onto.rfl' _ | exact (Onto.rfl' _).draw | exact ((Onto.rfl' _).new _).draw | exact ((Onto.rfl' _).draw).new _)))) ?_; rw [show putK v.x.d r = P from HP.out.symm]; unfold DnPost; rintro e w4 ⟨F, k2, i, G, l, j, rfl, K2, fF, fG, ob⟩; have b : Onto w3 w4 := Onto.to (by with_reducible (first | exact Onto.rfl' _ | exact (Onto.rfl' _).draw | exact ((Onto.rfl' _).new _).draw | exact ((Onto.rfl' _).draw).new _)) ob; (first | (have Z5 : Bx w4 w3.heap.size [.slice none 0 0, .slice none 0 0] := Bx.onto (Bx.draw (Bx.made w3 #[.slice none 0 0, .slice none 0 0] 47)) ob; have z50 := Z5.at_ 0 rfl; have z51 := Z5.at_ 1 rfl; have f50 := Z5.froz 0; have f51 := Z5.froz 1; have oz : OffN k2 w3.heap.size F := fF.offN (by simp); have oz' : OffN l w3.heap.size G := fG.offN (by simp)) | skip)))
     all_goals
      go_wp2_with fail
      go_meet
      first
       | exact ⟨_, F, k2, i, G, l, j, rfl, rfl, Bx.made _ _ _, K2.onto ((Onto.rfl' _).new _), b.new _, b.size⟩
       | exact ⟨_, F, k2, i, G, l, j, rfl, rfl, (Z5.put1 (j := 0) (by simp) _).put1 (j := 1) (by simp) _, (K2.put1 oz oz' _).put1 oz oz' _, (b.put (Nat.le_refl _) _).put (Nat.le_refl _) _, Nat.le_refl _⟩
    case rest =>
     obtain ⟨pd, F, k2, i, G, l, j, rfl, rfl, V, K2, b, hpd⟩ := hcut
     have hnpd : nb ≠ pd := by omega
     have hppd : p ≠ pd := by have := U.lt; omega
     have hwpd : w.heap.size ≤ pd := by have := on.size; omega
     have fpd : Fresh w3.heap.size (some (⟨pd, 0, none⟩ : Addr)) := fun a e => by injection e with e; subst e; exact hpd
     have o1 : OffN k1 pd A1 := s1.offN hpd
     have oI : v.off pd := I.away hpd
     replace B := Bx.onto B b; replace I := I.onto b; replace U := U.onto b; replace s1 := s1.onto b; replace on := on.to b
     clear b n0 n1 n2 n3 n4 r0 r1 r2 r3 r4 r5 r6 r7 hrl hnl R
     by_cases h2 : P.2 = 0
     · have hq := HQ.out
       rw [if_neg (by simp [h2])] at hq
       replace HQ := Lib.hid hq
       rw [h2]
       clear hq h2
       go_upto_region 7 with fail
       generalize wc = w4 at *
       have v0 := V.at_ 0 rfl; have v1 := V.at_ 1 rfl
       go_wp2_with fail
       refine Calls.mono (DSync_calls F G k2 i l j P.1 _ (E.onto on) K2) ?_
       rw [show syncK P.1 = Y from HY.out.symm]
       unfold DnPost
       rintro e w5 ⟨F3, k3, i3, G3, l3, j3, rfl, K3, fF, fG, b⟩
       have hvl := V.lt
       have hnl := Bx.lt B
       have fFw : Fresh w.heap.size F3 := fun a e => Nat.le_trans on.size (fF a e)
       have fGw : Fresh w.heap.size G3 := fun a e => Nat.le_trans on.size (fG a e)
       have oF : OffN k3 pd F3 := fF.offN hvl
       have oG : OffN l3 pd G3 := fG.offN hvl
       replace B := Bx.onto B b; replace I := I.onto b; replace U := U.onto b; replace s1 := s1.onto b; replace on := on.to b; replace V := V.onto b
       clear b v0 v1 K2 fF fG
       go_upto_region 8 with (refine wpList_put V [.slice F3 k3 i3, .slice G3 l3 j3] 47 _ _ (by rfl) (by rfl) (by rfl) (by rfl) (by rfl) sizeD (by rfl) ?_)
       have V2 := V.put (us := [.slice F3 k3 i3, .slice G3 l3 j3]) rfl
       have U2 := U.off (us := [.slice F3 k3 i3, .slice G3 l3 j3]) (o := 0) hppd
       have B2 : Rx (w5.setCells pd 0 [.slice F3 k3 i3, .slice G3 l3 j3]) nb rows := Bx.off B hnpd
       have K4 := K3.puts (o := 0) (us := [.slice F3 k3 i3, .slice G3 l3 j3]) oF oG
       have s2 := put_S (w := w5) o1 (vs := [.slice F3 k3 i3, .slice G3 l3 j3]) (o := 0) s1
       have on2 := Onto.puts (b := pd) (o := 0) (us := [.slice F3 k3 i3, .slice G3 l3 j3]) hwpd on
       clear B U V K3 s1 on I
       try change Code.wp _ _ _ _ (w5.setCells pd 0 [.slice F3 k3 i3, .slice G3 l3 j3])
       generalize w5.setCells pd 0 [.slice F3 k3 i3, .slice G3 l3 j3] = w6 at *
       by_cases h3 : Y.2 = 0
       · have hq := HQ.out
         rw [if_neg (by simp [h3])] at hq
         rw [h3]
         have HQ2 := Lib.hid hq
         clear hq HQ h3
         go_upto_region 10 with fail
         have u0 := U2.at_ 0 rfl; have u1 := U2.at_ 1 rfl; have v0 := V2.at_ 0 rfl; have v1 := V2.at_ 1 rfl
         obtain ⟨n0, n1, n2, n3, n4⟩ := NV.cells_at B2 HK.out HR.out
         have f0 := Bx.froz B2 (k * 5); have f1 := Bx.froz B2 (k * 5 + 1); have f2 := Bx.froz B2 (k * 5 + 2); have f3 := Bx.froz B2 (k * 5 + 3)
         go_region
         go_wp2_with fail
         refine bodyPost_ret (v := .int .i64 0) (by simp [results, Tryz.results110, go_sem]) rfl ?_
         have hq := HQ2.out
         subst hq
         have hkr := (List.getElem?_eq_some_iff.1 HR.out).1
         have B3 : Rx w6 nb (rows.set k (encN v)) := by rw [set_self HR.out]; exact B2
         have B4 := Rx.cell1 (j := 0) B3 HK.out hkr rfl (by omega) (.int .i64 N.1.ep)
         have B5 := Rx.cell1 (j := 1) B4 HK.out hkr rfl (by omega) (.slice A1 k1 c1)
         have B6 := Rx.cell1 (j := 2) B5 HK.out hkr rfl (by omega) (.slice F3 k3 i3)
         have B7 := Rx.cell1 (j := 3) B6 HK.out hkr rfl (by omega) (.slice G3 l3 j3)
         have o1n : OffN k1 nb A1 := f1w.offN hnw
         have oFn : OffN k3 nb F3 := fFw.offN hnw
         have oGn : OffN l3 nb G3 := fGw.offN hnw
         have K5 := (((K4.put1 (p := ⟨nb, k * 5, none⟩) oFn oGn (.int .i64 N.1.ep)).put1 (p := ⟨nb, k * 5 + 1, none⟩) oFn oGn (.slice A1 k1 c1)).put1 (p := ⟨nb, k * 5 + 2, none⟩) oFn oGn (.slice F3 k3 i3)).put1 (p := ⟨nb, k * 5 + 2 + 1, none⟩) oFn oGn (.slice G3 l3 j3)
         exact ⟨rfl, ((((((Turn.of on2 nb).put rfl _).put rfl _).put rfl _).put rfl _).onto ((Onto.rfl' _).draw)), fun _ => ⟨⟨⟨N.1, Y.1, v.x.up⟩, A1, k1, c1, F3, k3, i3, G3, l3, j3⟩, rfl,
          ⟨S.off (S.off (S.off (S.off s2 o1n _) o1n _) o1n _) o1n _, K5.onto ((Onto.rfl' _).draw), hkc1, hcm1⟩, Bx.onto B7 ((Onto.rfl' _).draw), fun z hz _ => ⟨f1w.offN hz, fFw.offN hz, fGw.offN hz⟩⟩⟩
       · have hq := HQ.out
         rw [if_pos h3] at hq
         have HQ2 := Lib.hid hq
         have hd : (Y.2 != 0) = true := by simpa using h3
         have h2' : q.2 ≠ 0 := by rw [hq]; exact h3
         clear hq HQ
         go_wp2_with fail
         go_ret
         have e2 : Y.2 = q.2 := by rw [HQ2.out]
         rw [e2]
         exact NPost.bad h2' on2
     · have hq := HQ.out
       rw [if_pos h2] at hq
       have HQ2 := Lib.hid hq
       have hd : (P.2 != 0) = true := by simpa using h2
       have h2' : q.2 ≠ 0 := by rw [hq]; exact h2
       clear hq HQ
       go_wp2_with fail
       go_ret
       have e2 : P.2 = q.2 := by rw [HQ2.out]
       rw [e2]
       exact NPost.bad h2' on
  · have hq := HQ.out
    rw [if_pos h1] at hq
    have HQ2 := Lib.hid hq
    have hd : (N.2 != 0) = true := by simpa using h1
    have h2' : q.2 ≠ 0 := by rw [hq]; exact h1
    clear hq HQ
    go_wp2_with fail
    go_ret
    have e2 : N.2 = q.2 := by rw [HQ2.out]
    rw [e2]
    exact NPost.bad h2' on
end
section
set_option linter.unusedSimpArgs false
set_option linter.unusedVariables false
open Go.RowKit
attribute [local go_sem ↓] Go.wp_at_zero Go.wp_at_succ
set_option maxHeartbeats 8000000 in
set_option maxRecDepth 100000 in
theorem NTear_calls (v : NV) (r : Rec) (x : Int) (w : World) (E : Env w) (nb k : Nat) (rows : List (List Value)) (B : Rx w nb rows) (hk : ∀ x ∈ rows, x.length = 5) (hr : rows[k]? = some (encN v)) (I : v.In w) (of : v.off nb) :
    Calls Tryz.prog 119 #[.pointer (some ⟨nb, k * 5, none⟩), .agg #[.int .i64 r.kind, .int .i64 r.at_, .int .i64 r.epoch, .int .i64 r.e.kind, .int .i64 r.e.job, .int .i64 r.e.every, .int .i64 r.e.time, .int .i64 r.e.client], .int .i64 x] w (NPost w nb k rows v (tearN v.x r x)) := by
 obtain ⟨P, hP⟩ : ∃ q, q = putK v.x.d r := ⟨_, rfl⟩
 obtain ⟨Y, hY⟩ : ∃ q, q = crashK P.1 (keepK P.1 x) := ⟨_, rfl⟩
 obtain ⟨q, hq⟩ : ∃ q, q = tearN v.x r x := ⟨_, rfl⟩
 rw [← hq]
 unfold tearN at hq
 rw [← hP, ← hY] at hq
 have HP := Lib.hid hP; have HY := Lib.hid hY; have HQ := Lib.hid hq; have HR := Lib.hid hr; have HK := Lib.hid hk
 clear hP hY hq hr hk
 have hnw := Bx.lt B
 go_enter Tryz.func119, Tryz.ntmps119
 go_upto_region 1 with fail
 refine wp_box1 (v1 := [.int .i64 r.kind, .int .i64 r.at_, .int .i64 r.epoch, .int .i64 r.e.kind, .int .i64 r.e.job, .int .i64 r.e.every, .int .i64 r.e.time, .int .i64 r.e.client]) rfl fun w1 on R => ?_
 replace B := Bx.onto B on; replace I := I.onto on
 have hsz1 := on.size
 generalize hzr : w.heap.size = zr at R
 clear hzr
 have r0 := R.at_ 0 rfl
 by_cases h0 : r.kind = 0
 · have hq := HQ.out
   rw [if_pos h0] at hq
   have HQ2 := Lib.hid hq
   have hd : (r.kind == 0) = true := by simpa using h0
   have h2' : q.2 ≠ 0 := by rw [hq]; simp
   clear hq HQ
   go_wp2_with fail
   go_ret
   have e2 : (6 : Int) = q.2 := by rw [HQ2.out]
   rw [e2]
   exact NPost.bad h2' on
 · have hq := HQ.out
   rw [if_neg h0] at hq
   replace HQ := Lib.hid hq
   have hd : (r.kind == 0) = false := by simpa using h0
   clear hq
   go_upto_region 3 with fail
   clear hd h0 r0
   obtain ⟨n0, n1, n2, n3, n4⟩ := NV.cells_at B HK.out HR.out
   have r0 := R.at_ 0 rfl; have r1 := R.at_ 1 rfl; have r2 := R.at_ 2 rfl; have r3 := R.at_ 3 rfl; have r4 := R.at_ 4 rfl; have r5 := R.at_ 5 rfl; have r6 := R.at_ 6 rfl; have r7 := R.at_ 7 rfl
   have hrl := R.lt; have hnl := Bx.lt B
   go_cut [7, 8] (fun s7 s8 wx => ∃ (p : Nat) (F : Option Addr) (k i : Nat) (G : Option Addr) (l j : Nat), s7 = .pointer (some ⟨p, 0, none⟩) ∧ s8 = .int .i64 P.2 ∧ Bx wx p [.slice F k i, .slice G l j] ∧ DK wx F k i G l j P.1 ∧ Onto w1 wx ∧ w1.heap.size ≤ p)
   case first =>
    go_region_law (first
     | (go_simp; go_at_call 123; refine Calls.mono (DPut_calls v.F v.G v.k v.i v.l v.j v.x.d r _ (E.onto (on.to (by with_reducible (first | exact Onto.rfl' _ | exact (Onto.rfl' _).draw | exact ((Onto.rfl' _).new _).draw | exact ((Onto.rfl' _).draw).new _)))) (I.disk.onto (by with_reducible (first | exact Onto.rfl' _ | exact (Onto.rfl' _).draw | exact ((Onto.rfl' _).new _).draw | exact ((Onto.rfl' _).draw).new _)))) ?_; rw [show putK v.x.d r = P from HP.out.symm]; unfold DnPost; rintro e w4 ⟨F, k2, i, G, l, j, rfl, K2, fF, fG, ob⟩; have b : Onto w1 w4 := Onto.to (by with_reducible (first | exact Onto.rfl' _ | exact (Onto.rfl' _).draw | exact ((Onto.rfl' _).new _).draw | exact ((Onto.rfl' _).draw).new _)) ob; (first | (have Z5 : Bx w4 w1.heap.size [.slice none 0 0, .slice none 0 0] := Bx.onto (Bx.draw (Bx.made w1 #[.slice none 0 0, .slice none 0 0] 47)) ob; have z50 := Z5.at_ 0 rfl; have z51 := Z5.at_ 1 rfl; have f50 := Z5.froz 0; have f51 := Z5.froz 1; have oz : OffN k2 w1.heap.size F := fF.offN (by simp); have oz' : OffN l w1.heap.size G := fG.offN (by simp)) | skip)))
    all_goals
     go_wp2_with fail
     go_meet
     first
      | exact ⟨_, F, k2, i, G, l, j, rfl, rfl, Bx.made _ _ _, K2.onto ((Onto.rfl' _).new _), b.new _, b.size⟩
      | exact ⟨_, F, k2, i, G, l, j, rfl, rfl, (Z5.put1 (j := 0) (by simp) _).put1 (j := 1) (by simp) _, (K2.put1 oz oz' _).put1 oz oz' _, (b.put (Nat.le_refl _) _).put (Nat.le_refl _) _, Nat.le_refl _⟩
   case rest =>
    obtain ⟨pd, F, k2, i, G, l, j, rfl, rfl, V, K2, b, hpd⟩ := hcut
    have hnpd : nb ≠ pd := by omega
    have hwpd : w.heap.size ≤ pd := by omega
    have oI : v.off pd := I.away hpd
    replace B := Bx.onto B b; replace I := I.onto b; replace on := on.to b
    clear b n0 n1 n2 n3 n4 r0 r1 r2 r3 r4 r5 r6 r7 hrl hnl R
    by_cases h2 : P.2 = 0
    · have hq := HQ.out
      rw [if_neg (by simp [h2])] at hq
      replace HQ := Lib.hid hq
      rw [h2]
      clear hq h2
      go_upto_region 6 with fail
      generalize wc = w4 at *
      have v0 := V.at_ 0 rfl; have v1 := V.at_ 1 rfl
      have hlw := K2.m_eq
      have hkp : max (0 : Int) (min x (l : Int)) = keepK P.1 x := by unfold keepK; rw [hlw]
      have HLW := Lib.hid hlw
      have HKP := Lib.hid hkp
      clear hlw hkp
      go_wp2_with fail
      refine Calls.mono (DCrash_calls F G k2 i l j P.1 _ _ (E.onto on) K2) ?_
      rw [HKP.out, show crashK P.1 (keepK P.1 x) = Y from HY.out.symm]
      unfold DnPost
      rintro e w5 ⟨F3, k3, i3, G3, l3, j3, rfl, K3, fF, fG, b⟩
      have hvl := V.lt
      have hnl := Bx.lt B
      have fFw : Fresh w.heap.size F3 := fun a e => Nat.le_trans on.size (fF a e)
      have fGw : Fresh w.heap.size G3 := fun a e => Nat.le_trans on.size (fG a e)
      have oF : OffN k3 pd F3 := fF.offN hvl
      have oG : OffN l3 pd G3 := fG.offN hvl
      replace B := Bx.onto B b; replace I := I.onto b; replace on := on.to b; replace V := V.onto b
      clear b v0 v1 K2 fF fG
      go_upto_region 7 with (refine wpList_put V [.slice F3 k3 i3, .slice G3 l3 j3] 47 _ _ (by rfl) (by rfl) (by rfl) (by rfl) (by rfl) sizeD (by rfl) ?_)
      have V2 := V.put (us := [.slice F3 k3 i3, .slice G3 l3 j3]) rfl
      have I2 := I.puts (us := [.slice F3 k3 i3, .slice G3 l3 j3]) (o := 0) oI
      have B2 : Rx (w5.setCells pd 0 [.slice F3 k3 i3, .slice G3 l3 j3]) nb rows := Bx.off B hnpd
      have K4 := K3.puts (o := 0) (us := [.slice F3 k3 i3, .slice G3 l3 j3]) oF oG
      have on2 := Onto.puts (b := pd) (o := 0) (us := [.slice F3 k3 i3, .slice G3 l3 j3]) hwpd on
      clear B V K3 on I
      try change Code.wp _ _ _ _ (w5.setCells pd 0 [.slice F3 k3 i3, .slice G3 l3 j3])
      generalize w5.setCells pd 0 [.slice F3 k3 i3, .slice G3 l3 j3] = w6 at *
      by_cases h3 : Y.2 = 0
      · have hq := HQ.out
        rw [if_neg (by simp [h3])] at hq
        rw [h3]
        have HQ2 := Lib.hid hq
        clear hq HQ h3
        go_upto_region 9 with fail
        have v0 := V2.at_ 0 rfl; have v1 := V2.at_ 1 rfl
        obtain ⟨n0, n1, n2, n3, n4⟩ := NV.cells_at B2 HK.out HR.out
        have f2 := Bx.froz B2 (k * 5 + 2); have f3 := Bx.froz B2 (k * 5 + 3); have f4 := Bx.froz B2 (k * 5 + 4); have f5 := Bx.froz B2 (k * 5 + 2 + 1)
        go_wp2_with fail
        refine bodyPost_ret (v := .int .i64 0) (by simp [results, Tryz.results119, go_sem]) rfl ?_
        have hq := HQ2.out
        subst hq
        have hkr := (List.getElem?_eq_some_iff.1 HR.out).1
        have B3 : Rx w6 nb (rows.set k (encN v)) := by rw [set_self HR.out]; exact B2
        have B6 := Rx.cell1 (j := 2) B3 HK.out hkr rfl (by omega) (.slice F3 k3 i3)
        have B7 := Rx.cell1 (j := 3) B6 HK.out hkr rfl (by omega) (.slice G3 l3 j3)
        have B8 := Rx.cell1 (j := 4) B7 HK.out hkr rfl (by omega) (.bool false)
        have oFn : OffN k3 nb F3 := fFw.offN hnw
        have oGn : OffN l3 nb G3 := fGw.offN hnw
        have K5 := ((K4.put1 (p := ⟨nb, k * 5 + 2, none⟩) oFn oGn (.slice F3 k3 i3)).put1 (p := ⟨nb, k * 5 + 2 + 1, none⟩) oFn oGn (.slice G3 l3 j3)).put1 (p := ⟨nb, k * 5 + 4, none⟩) oFn oGn (.bool false)
        exact ⟨rfl, ((((Turn.of on2 nb).put rfl _).put rfl _).put rfl _), fun _ => ⟨⟨⟨v.x.u, Y.1, false⟩, v.A, v.n, v.c, F3, k3, i3, G3, l3, j3⟩, rfl,
         ⟨S.off (S.off (S.off I2.cells of.a _) of.a _) of.a _, K5, I2.le, I2.max⟩, B8, fun z hz hv => ⟨hv.a, fFw.offN hz, fGw.offN hz⟩⟩⟩
      · have hq := HQ.out
        rw [if_pos h3] at hq
        have HQ2 := Lib.hid hq
        have hd : (Y.2 != 0) = true := by simpa using h3
        have h2' : q.2 ≠ 0 := by rw [hq]; exact h3
        clear hq HQ
        go_wp2_with fail
        go_ret
        have e2 : Y.2 = q.2 := by rw [HQ2.out]
        rw [e2]
        exact NPost.bad h2' on2
    · have hq := HQ.out
      rw [if_pos h2] at hq
      have HQ2 := Lib.hid hq
      have hd : (P.2 != 0) = true := by simpa using h2
      have h2' : q.2 ≠ 0 := by rw [hq]; exact h2
      clear hq HQ
      go_wp2_with fail
      go_ret
      have e2 : P.2 = q.2 := by rw [HQ2.out]
      rw [e2]
      exact NPost.bad h2' on
end
section
set_option linter.unusedSimpArgs false
set_option linter.unusedVariables false
open Go.RowKit
structure Aw (K w0 w : World) (z nb cb : Nat) : Prop where
 on : Onto w0 w
 kp : Kp K w z nb cb
section
variable {K w0 w w' : World} {z nb cb : Nat}
theorem Aw.to (h : Aw K w0 w z nb cb) (b : Onto w w') : Aw K w0 w' z nb cb := ⟨h.on.to b, h.kp.onto b⟩
theorem Aw.new (h : Aw K w0 w z nb cb) (o : Obj) : Aw K w0 (w.alloc o) z nb cb := h.to ((Onto.rfl' w).new o)
theorem Aw.draws (h : Aw K w0 w z nb cb) (q : Nat) : Aw K w0 (w.drewN q) z nb cb := h.to ((Onto.rfl' w).draws q)
theorem Aw.draw (h : Aw K w0 w z nb cb) : Aw K w0 w.drew z nb cb := h.to ((Onto.rfl' w).draw)
theorem Aw.upN (h : Aw K w0 w z nb cb) (t : Turn w w' nb) (hn : w0.heap.size ≤ nb) : Aw K w0 w' z nb cb := ⟨Turn.up h.on t hn, h.kp.turn t (.inr (.inl rfl))⟩
end
def HPost (K w0 : World) (z nb cN cb cC : Nat) (q : Wor × Int) (e : Ending) (w' : World) : Prop :=
 e = .returned (.int .i64 q.2) ∧ Aw K w0 w' z nb cb ∧ (q.2 = 0 → ∃ ns cs, WM K w0 w' z nb cN cb cC ns q.1.tip cs q.1.time ∧ nods ns = q.1.n ∧ clis cs = q.1.c)
section
variable {K w0 w w' : World} {z nb cN cb cC k : Nat} {ns : List NV} {cs : List CV} {tip time : Int} {q : Wor × Int}
theorem HPost.bad (h : q.2 ≠ 0) (on : Aw K w0 w' z nb cb) : HPost K w0 z nb cN cb cC q (.returned (.int .i64 q.2)) w' := ⟨rfl, on, fun h' => absurd h' h⟩
theorem HPost.bad' {e : Int} (he : e = q.2) (h : q.2 ≠ 0) (on : Aw K w0 w' z nb cb) : HPost K w0 z nb cN cb cC q (.returned (.int .i64 e)) w' := he ▸ HPost.bad h on
theorem WM.aw (h : WM K w0 w z nb cN cb cC ns tip cs time) : Aw K w0 w z nb cb := ⟨h.f.on, h.kp⟩
theorem WM.onAll (h : WM K w0 w z nb cN cb cC ns tip cs time) : Onto w0 w := h.f.on
theorem WM.nextN (h : WM K w0 w z nb cN cb cC ns tip cs time) {v : NV} (t : Turn w w' nb) (hr : Rx w' nb ((ns.map encN).set k (encN v))) (hi : v.In w') (h1 : v.off nb) (h2 : v.off cb) (h3 : v.off z) (h4 : ∀ b, b < w0.heap.size → v.off b) : WM K w0 w' z nb cN cb cC (ns.set k v) tip cs time :=
 h.setN t (by rw [List.map_set]; exact hr) ⟨hi, h1, h2⟩ h3 h4
theorem WM.nextC (h : WM K w0 w z nb cN cb cC ns tip cs time) {v : CV} (t : Turn w w' cb) (hr : Rx w' cb ((cs.map encC).set k (encC v))) (hi : v.In w') (h1 : v.off nb) (h2 : v.off cb) (h3 : v.off z) (h4 : ∀ b, b < w0.heap.size → v.off b) : WM K w0 w' z nb cN cb cC ns tip (cs.set k v) time :=
 h.setC t (by rw [List.map_set]; exact hr) ⟨hi, h1, h2⟩ h3 h4
theorem HPost.ok (h : WM K w0 w z nb cN cb cC ns tip cs time) (hq : q = (wor ns tip cs time, 0)) : HPost K w0 z nb cN cb cC q (.returned (.int .i64 0)) w := by
 subst hq
 exact ⟨rfl, h.aw, fun _ => ⟨ns, cs, h, rfl, rfl⟩⟩
theorem wor_setN {v : NV} : setN (wor ns tip cs time) k v.x = wor (ns.set k v) tip cs time := by simp [setN, wor, nods, List.map_set]
theorem wor_setC {v : CV} : setC (wor ns tip cs time) k v.x = wor ns tip (cs.set k v) time := by simp [setC, wor, clis, List.map_set]
theorem WM.lts (h : WM K w0 w z nb cN cb cC ns tip cs time) : z < w.heap.size ∧ nb < w.heap.size ∧ cb < w.heap.size := ⟨h.bx.lt, Bx.lt h.f.nr, Bx.lt h.f.cr⟩
theorem nodAt_ns {v : NV} (h : ns[k]? = some v) : nodAt (nods ns) k = v.x := nodAt_eq (by simp [nods, h])
theorem cliAt_cs {v : CV} (h : cs[k]? = some v) : cliAt (clis cs) k = v.x := cliAt_eq (by simp [clis, h])
theorem row_ns {v : NV} (h : ns[k]? = some v) : (ns.map encN)[k]? = some (encN v) := by simp [h]
theorem row_cs {v : CV} (h : cs[k]? = some v) : (cs.map encC)[k]? = some (encC v) := by simp [h]
end
end
section
set_option linter.unusedSimpArgs false
set_option linter.unusedVariables false
open Go.RowKit
attribute [local go_sem ↓] Go.wp_at_zero Go.wp_at_succ
theorem sizeN : (Tryz.prog.info? 49).map (·.size) = some 5 := by kernel_rfl
set_option maxHeartbeats 8000000 in
set_option maxRecDepth 100000 in
theorem WPower_calls (K w0 : World) (z nb cN cb cC : Nat) (ns : List NV) (tip : Int) (cs : List CV) (time : Int) (x : Hap) (i : Nat) (w : World) (E : Env w) (H : WM K w0 w z nb cN cb cC ns tip cs time) (hi : i < 3) (hx : x.n = i) (hxk : x.kind = 12 ∨ x.kind = 13) :
    Calls Tryz.prog 109 #[.pointer (some ⟨z, 0, none⟩), .agg #[.int .i64 x.kind, .int .i64 x.client, .int .i64 x.n, .int .i64 x.job, .int .i64 x.epoch, .int .i64 x.e.kind, .int .i64 x.e.job, .int .i64 x.e.every, .int .i64 x.e.time, .int .i64 x.e.client]] w (HPost K w0 z nb cN cb cC (powerW (wor ns tip cs time) x)) := by
 obtain ⟨v, hv, I, oz, on1, oc, n0, n1, n2, n3, n4⟩ : ∃ v, ns[i]? = some v ∧ v.In w ∧ v.off z ∧ v.off nb ∧ v.off cb ∧
  w.cell? ⟨nb, i * 5, none⟩ = some (.int .i64 v.x.u.ep) ∧ w.cell? ⟨nb, i * 5 + 1, none⟩ = some (.slice v.A v.n v.c) ∧ w.cell? ⟨nb, i * 5 + 2, none⟩ = some (.slice v.F v.k v.i) ∧ w.cell? ⟨nb, i * 5 + 3, none⟩ = some (.slice v.G v.l v.j) ∧ w.cell? ⟨nb, i * 5 + 4, none⟩ = some (.bool v.x.up) := by
  obtain ⟨v, h1, h2, h3, h4, h5⟩ := H.f.atN hi
  exact ⟨v, h1, h2, H.nz v (List.mem_of_getElem? h1), h3, h4, h5⟩
 clear n0 n1 n2 n3 n4
 have FV := Lib.hid (H.fN v (List.mem_of_getElem? hv))
 obtain ⟨R, hR⟩ : ∃ q, q = recoverK v.x.d := ⟨_, rfl⟩
 obtain ⟨U, hU⟩ : ∃ q, q = unitL R.2.1 := ⟨_, rfl⟩
 obtain ⟨q, hq⟩ : ∃ q, q = powerW (wor ns tip cs time) x := ⟨_, rfl⟩
 rw [← hq]
 unfold powerW bootN at hq
 rw [hx, show ((i : Nat) : Int).toNat = i by omega, show (wor ns tip cs time).n = nods ns from rfl, nodAt_ns hv, ← hR, ← hU] at hq
 have HR := Lib.hid hR; have HU := Lib.hid hU; have HQ := Lib.hid hq; have HV := Lib.hid hv
 have HX := Lib.hid hx; have HXK := Lib.hid hxk
 clear hR hU hq hv hx hxk
 have hi3 : (i : Int) < 3 := by omega
 go_enter Tryz.func109, Tryz.ntmps109
 go_upto_region 1 with fail
 refine wp_box1 (v1 := [.int .i64 x.kind, .int .i64 x.client, .int .i64 x.n, .int .i64 x.job, .int .i64 x.epoch, .int .i64 x.e.kind, .int .i64 x.e.job, .int .i64 x.e.every, .int .i64 x.e.time, .int .i64 x.e.client]) rfl fun w1 on X => ?_
 replace H := H.onto on; replace E := E.onto on; replace I := I.onto on
 generalize hzx : w.heap.size = zx at X
 clear hzx on
 have x0 := X.at_ 0 rfl; have x2 := X.at_ 2 rfl
 rw [HX.out] at x2
 have z0 := H.bx.at_ 0 rfl
 obtain ⟨n0, n1, n2, n3, n4⟩ := NV.cells_at H.f.nr (encN_len ns) (row_ns HV.out)
 go_quiet (fail)
 go_upto_region 2 with fail
 generalize hd : World.drewN w1 _ = w2
 have od : Onto w1 w2 := by rw [← hd]; exact (Onto.rfl' w1).draws _
 clear hd
 replace H := H.onto od; replace I := I.onto od; replace E := E.onto od
 replace X := X.onto od; replace x0 := cellB od x0; replace n0 := cellB od n0; replace n1 := cellB od n1; replace n2 := cellB od n2; replace n3 := cellB od n3; replace n4 := cellB od n4
 clear od z0 x2
 rcases HXK.out with hk | hk
 · rw [hk] at x0
   rcases Bool.eq_false_or_eq_true v.x.up with hu | hu
   · rw [hu] at n4
     have hq := HQ.out
     rw [hu, hk, if_neg (by decide), if_pos rfl] at hq
     have HQ2 := Lib.hid hq
     have f4 := Bx.froz H.f.nr (i * 5 + 4)
     clear hq HQ HXK hk hu
     go_quiet (fail)
     go_wp2_with fail
     refine bodyPost_ret (v := .int .i64 0) (by simp [results, Tryz.results109, go_sem]) rfl ?_
     generalize hd : World.drewN w2 _ = w3
     have od : Onto w2 w3 := by rw [← hd]; exact (Onto.rfl' w2).draws _
     clear hd
     replace H := H.onto od; replace I := I.onto od; replace E := E.onto od
     have hq := HQ2.out
     have B3 : Rx w3 nb ((ns.map encN).set i (encN v)) := by rw [set_self (row_ns HV.out)]; exact H.f.nr
     have B4 := Rx.cell1 (j := 4) B3 (encN_len ns) (by rw [List.length_map, H.f.nl]; exact hi) rfl (by omega) (.bool false)
     have H2 := H.nextN (v := ⟨⟨v.x.u, v.x.d, false⟩, v.A, v.n, v.c, v.F, v.k, v.i, v.G, v.l, v.j⟩) ((Turn.rfl' _ nb).put rfl _) B4 ⟨(I.put on1 _).cells, (I.put on1 _).disk, I.le, I.max⟩ ⟨on1.a, on1.f, on1.g⟩ ⟨oc.a, oc.f, oc.g⟩ ⟨oz.a, oz.f, oz.g⟩ (fun b hb => ⟨(FV.out b hb).a, (FV.out b hb).f, (FV.out b hb).g⟩)
     exact HPost.ok H2 (hq.trans (by rw [← wor_setN]))
   · rw [hu] at n4
     have hq := HQ.out
     rw [hu, hk, if_pos (by decide)] at hq
     have HQ2 := Lib.hid hq
     clear hq HQ HXK hk hu
     go_quiet (fail)
     go_wp2_with fail
     go_ret
     exact HPost.bad' (by rw [HQ2.out]) (by rw [HQ2.out]; simp) (H.aw.draws _)
 · rw [hk] at x0
   rcases Bool.eq_false_or_eq_true v.x.up with hu | hu
   · rw [hu] at n4
     have hq := HQ.out
     rw [hu, hk, if_pos (by decide)] at hq
     have HQ2 := Lib.hid hq
     clear hq HQ HXK hk hu
     go_quiet (fail)
     go_wp2_with fail
     go_ret
     exact HPost.bad' (by rw [HQ2.out]) (by rw [HQ2.out]; simp) (H.aw.draws _)
   · rw [hu] at n4
     have hq := HQ.out
     rw [hu, hk, if_neg (by decide), if_neg (by decide)] at hq
     replace HQ := Lib.hid hq
     clear hq HXK hk hu
     go_quiet (fail)
     go_upto_region 7 with fail
     generalize hd : World.drewN w2 _ = w3
     have od : Onto w2 w3 := by rw [← hd]; exact (Onto.rfl' w2).draws _
     clear hd
     replace H := H.onto od; replace I := I.onto od; replace E := E.onto od
     replace X := X.onto od
     clear od x0 n0 n1 n2 n3 n4
     obtain ⟨n0, n1, n2, n3, n4⟩ := NV.cells_at H.f.nr (encN_len ns) (row_ns HV.out)
     have hz3w := H.onAll.size; have hz3 := H.lts
     have hws := H.onAll.size
     go_wp2_with fail
     refine Calls.mono (DRecover_calls v.F v.G v.k v.i v.l v.j v.x.d _ E I.disk) ?_
     rw [show recoverK v.x.d = R from HR.out.symm]
     unfold RvPost
     rintro e w4 ⟨F, k2, i2, G, l2, j2, L, ln, ly, rfl, K2, sL, _, _, fF, fG, _, b⟩
     replace H := H.onto b; replace I := I.onto b; replace E := E.onto b
     have hs34 := b.size
     clear b n0 n1 n2 n3 n4 X
     go_upto_region 8 with fail
     refine wp_box1 (v1 := [.slice F k2 i2, .slice G l2 j2]) rfl fun w5 b D => ?_
     replace H := H.onto b; replace I := I.onto b; replace E := E.onto b; replace K2 := K2.onto b; replace sL := sL.onto b
     have hs35 := Nat.le_trans hs34 b.size
     clear b
     generalize w4.heap.size = zd at *
     by_cases h1 : R.2.2 = 0
     · have hq := HQ.out
       rw [if_neg (by simp [h1])] at hq
       replace HQ := Lib.hid hq
       rw [h1]
       clear hq h1
       go_wp2_with fail
       refine Calls.mono (UReplay2_calls L ln ly R.2.1 _ sL) ?_
       rw [show unitL R.2.1 = U from HU.out.symm]
       unfold URPost2
       rintro e w6 ⟨A1, m1, c1, rfl, s1, b, f1, hmc, hcm⟩
       have hz5w := H.onAll.size; have hz5 := H.lts
       have f1' : Fresh w3.heap.size A1 := fun a e => by have := f1 a e; have := hs35; omega
       replace H := H.onto b; replace I := I.onto b; replace E := E.onto b; replace K2 := K2.onto b; replace D := D.onto b
       clear b sL f1
       go_upto_region 11 with fail
       refine wp_box1 (v1 := [.int .i64 U.1.ep, .slice A1 m1 c1]) rfl fun w7 b V => ?_
       replace H := H.onto b; replace I := I.onto b; replace E := E.onto b; replace K2 := K2.onto b; replace D := D.onto b; replace s1 := s1.onto b
       clear b
       generalize w6.heap.size = zu at *
       by_cases h2 : U.2 = 0
       · have hq := HQ.out
         rw [if_neg (by simp [h2])] at hq
         have HQ2 := Lib.hid hq
         rw [h2]
         clear hq HQ h2
         go_upto_region 13 with fail
         have v0 := V.at_ 0 rfl; have v1 := V.at_ 1 rfl; have d0 := D.at_ 0 rfl; have d1 := D.at_ 1 rfl
         have HB := Lib.hid H.f.nr
         have hlen : i * 5 + 5 ≤ (ns.map encN).flatten.length := by rw [flatten_length (encN_len ns), List.length_map, H.f.nl]; omega
         go_upto_region 14 with (refine wpList_putM HB.out (i * 5) [.int .i64 U.1.ep, .slice A1 m1 c1, .slice F k2 i2, .slice G l2 j2, .bool true] 49 _ _ (by rfl) (by rfl) (by rfl) (by rfl) (by simpa using hlen) sizeN (by rfl) ?_)
         have B4 : Rx (w7.setCells nb (i * 5) [.int .i64 U.1.ep, .slice A1 m1 c1, .slice F k2 i2, .slice G l2 j2, .bool true]) nb ((ns.map encN).set i (encN ⟨⟨U.1, R.1, true⟩, A1, m1, c1, F, k2, i2, G, l2, j2⟩)) := Rx.put H.f.nr (encN_len ns) (row_ns HV.out) rfl
         have on1' : NV.off nb ⟨⟨U.1, R.1, true⟩, A1, m1, c1, F, k2, i2, G, l2, j2⟩ := ⟨f1'.offN hz3.2.1, fF.offN hz3.2.1, fG.offN hz3.2.1⟩
         have I2 : NV.In w7 ⟨⟨U.1, R.1, true⟩, A1, m1, c1, F, k2, i2, G, l2, j2⟩ := ⟨s1, K2, hmc, hcm⟩
         have H2 := H.nextN (v := ⟨⟨U.1, R.1, true⟩, A1, m1, c1, F, k2, i2, G, l2, j2⟩) ((Turn.rfl' _ nb).puts) B4 (I2.puts on1') on1' ⟨f1'.offN hz3.2.2, fF.offN hz3.2.2, fG.offN hz3.2.2⟩ ⟨f1'.offN hz3.1, fF.offN hz3.1, fG.offN hz3.1⟩ (fun b hb => ⟨f1'.offN (Nat.lt_of_lt_of_le hb hz3w), fF.offN (Nat.lt_of_lt_of_le hb hz3w), fG.offN (Nat.lt_of_lt_of_le hb hz3w)⟩)
         go_wp2_with fail
         go_ret
         have hq := HQ2.out
         exact HPost.ok H2 (hq.trans (by rw [← wor_setN]))
       · have hq := HQ.out
         rw [if_pos h2] at hq
         have HQ2 := Lib.hid hq
         have hd : (U.2 != 0) = true := by simpa using h2
         have h2' : q.2 ≠ 0 := by rw [hq]; exact h2
         clear hq HQ
         go_wp2_with fail
         go_ret
         exact HPost.bad' (by rw [HQ2.out]) h2' H.aw
     · have hq := HQ.out
       rw [if_pos h1] at hq
       have HQ2 := Lib.hid hq
       have hd : (R.2.2 != 0) = true := by simpa using h1
       have h2' : q.2 ≠ 0 := by rw [hq]; exact h1
       clear hq HQ
       go_wp2_with fail
       go_ret
       exact HPost.bad' (by rw [HQ2.out]) h2' H.aw
end
section
set_option linter.unusedSimpArgs false
set_option linter.unusedVariables false
open Go.RowKit
attribute [local go_sem ↓] Go.wp_at_zero Go.wp_at_succ
theorem sizeCl : (Tryz.prog.info? 41).map (·.size) = some 12 := by kernel_rfl
/-! A client is stored whole: one step. -/
def stCl (p v : Value) : Sem Unit := Instr.storeAt 41 p v
theorem stCl_eq (p v : Value) : Instr.storeAt 41 p v = stCl p v := rfl
theorem run_stCl {w : World} {z o : Nat} {a b c d e f g h i j : Int} {A A' : Option Addr} {n m k l : Nat} (ht : w.there z o 12) :
    (stCl (.pointer (some ⟨z, o, none⟩)) (.agg #[.int .i64 a, .int .i64 b, .int .i64 c, .int .i64 d, .int .i64 e, .int .i64 f, .int .i64 g, .int .i64 h, .int .i64 i, .int .i64 j, .slice A n k, .slice A' m l])).run Tryz.prog w =
     .ok () (w.setCells z o [.int .i64 a, .int .i64 b, .int .i64 c, .int .i64 d, .int .i64 e, .int .i64 f, .int .i64 g, .int .i64 h, .int .i64 i, .int .i64 j, .slice A n k, .slice A' m l]) :=
 run_storeAt_mid (P := Tryz.prog) w z o 41 _ ht sizeCl (all_oneCell_toArray (List.all_eq_true.1 rfl))
theorem there_cl {w : World} {cs : Array Value} {t : TypeId} (h : 12 ≤ cs.size) : (w.alloc (.cells cs t)).there w.heap.size 0 12 := (Bx.made w cs t).there (by simpa using h)
theorem there_cl0 {w : World} {t : TypeId} : (w.alloc (.cells #[.int .i64 0, .int .i64 0, .int .i64 0, .int .i64 0, .int .i64 0, .int .i64 0, .int .i64 0, .int .i64 0, .int .i64 0, .int .i64 0, .slice none 0 0, .slice none 0 0] t)).there w.heap.size 0 12 := there_cl (by simp)
theorem there_clW (w : World) {t : TypeId} : (w.alloc (.cells #[.int .i64 0, .int .i64 0, .int .i64 0, .int .i64 0, .int .i64 0, .int .i64 0, .int .i64 0, .int .i64 0, .int .i64 0, .int .i64 0, .slice none 0 0, .slice none 0 0] t)).there w.heap.size 0 12 = True := eq_true there_cl0
theorem CV.cells_at {w : World} {cb k : Nat} {rows : List (List Value)} {c : CV} (B : Rx w cb rows) (hk : ∀ x ∈ rows, x.length = 12) (hr : rows[k]? = some (encC c)) :
    w.cell? ⟨cb, k * 12, none⟩ = some (.int .i64 c.x.epoch) ∧ w.cell? ⟨cb, k * 12 + 1, none⟩ = some (.int .i64 c.x.doing) ∧ w.cell? ⟨cb, k * 12 + 2, none⟩ = some (.int .i64 c.x.e.kind) ∧ w.cell? ⟨cb, k * 12 + 3, none⟩ = some (.int .i64 c.x.e.job) ∧ w.cell? ⟨cb, k * 12 + 4, none⟩ = some (.int .i64 c.x.e.every) ∧ w.cell? ⟨cb, k * 12 + 5, none⟩ = some (.int .i64 c.x.e.time) ∧ w.cell? ⟨cb, k * 12 + 6, none⟩ = some (.int .i64 c.x.e.client) ∧ w.cell? ⟨cb, k * 12 + 7, none⟩ = some (.int .i64 c.x.at_) ∧ w.cell? ⟨cb, k * 12 + 8, none⟩ = some (.int .i64 c.x.link) ∧ w.cell? ⟨cb, k * 12 + 9, none⟩ = some (.int .i64 c.x.played) ∧ w.cell? ⟨cb, k * 12 + 10, none⟩ = some (.slice c.A c.n c.c) ∧ w.cell? ⟨cb, k * 12 + 11, none⟩ = some (.slice c.G c.m c.d) :=
 ⟨Rx.at_ B hk hr 0 rfl, Rx.at_ B hk hr 1 rfl, Rx.at_ B hk hr 2 rfl, Rx.at_ B hk hr 3 rfl, Rx.at_ B hk hr 4 rfl, Rx.at_ B hk hr 5 rfl, Rx.at_ B hk hr 6 rfl, Rx.at_ B hk hr 7 rfl, Rx.at_ B hk hr 8 rfl, Rx.at_ B hk hr 9 rfl, Rx.at_ B hk hr 10 rfl, Rx.at_ B hk hr 11 rfl⟩
theorem WM.storeC {K w0 w : World} {z nb cN cb cC k : Nat} {ns : List NV} {cs : List CV} {tip time : Int} {c v : CV} (h : WM K w0 w z nb cN cb cC ns tip cs time) (hc : cs[k]? = some c) (hi : v.In w) (h1 : v.off nb) (h2 : v.off cb) (h3 : v.off z) (h4 : ∀ b, b < w0.heap.size → v.off b) {us : List Value} (hu : us = encC v) : WM K w0 (w.setCells cb (k * 12) us) z nb cN cb cC ns tip (cs.set k v) time := by
 subst hu
 exact h.nextC ((Turn.rfl' _ cb).puts) (Rx.put h.f.cr (encC_len cs) (row_cs hc) rfl) (hi.puts h2) h1 h2 h3 h4
attribute [local go_sem ↓] stCl_eq
attribute [local go_sem] run_stCl there_clW
set_option maxHeartbeats 16000000 in
set_option maxRecDepth 100000 in
theorem WOfUnit_calls (K w0 : World) (z nb cN cb cC : Nat) (ns : List NV) (tip : Int) (cs : List CV) (time : Int) (kd cl nn jb ep : Int) (y : Entry) (w : World) (E : Env w) (H : WM K w0 w z nb cN cb cC ns tip cs time) (hk : kd = 8 ∨ kd = 9 ∨ kd = 12 ∨ kd = 13) :
    Calls Tryz.prog 85 #[.pointer (some ⟨z, 0, none⟩), .agg #[.int .i64 kd, .int .i64 cl, .int .i64 nn, .int .i64 jb, .int .i64 ep, .int .i64 y.kind, .int .i64 y.job, .int .i64 y.every, .int .i64 y.time, .int .i64 y.client]] w (HPost K w0 z nb cN cb cC (ofUnitW (wor ns tip cs time) ⟨kd, cl, nn, jb, ep, y⟩)) := by
 by_cases hn : nn < 0 ∨ 3 ≤ nn
 · have hq : ofUnitW (wor ns tip cs time) ⟨kd, cl, nn, jb, ep, y⟩ = (wor ns tip cs time, 5) := by unfold ofUnitW; rw [if_pos hn]
   have HQ := Lib.hid hq
   rw [hq]
   clear hq hk
   have z0 := H.bx.at_ 0 rfl
   have hz := H.lts
   rcases Decidable.em (nn < 0) with h1 | h1
   · clear hn
     go_enter Tryz.func85, Tryz.ntmps85
     go_upto_region 1 with fail
     go_quiet (fail)
     go_wp2_with fail
     go_ret
     exact HPost.bad' rfl (by simp) ((H.aw.new _).draws _)
   · have h2 : 3 ≤ nn := by omega
     clear hn
     go_enter Tryz.func85, Tryz.ntmps85
     go_upto_region 1 with fail
     go_quiet (fail)
     go_wp2_with fail
     go_ret
     exact HPost.bad' rfl (by simp) ((H.aw.new _).draws _)
 · obtain ⟨i, rfl⟩ : ∃ i : Nat, nn = (i : Int) := ⟨nn.toNat, by omega⟩
   have hi : i < 3 := by omega
   clear hn
   obtain ⟨q, hq⟩ : ∃ q, q = ofUnitW (wor ns tip cs time) ⟨kd, cl, i, jb, ep, y⟩ := ⟨_, rfl⟩
   rw [← hq]
   obtain ⟨v, hv, I, on1, oc, _⟩ := H.f.atN hi
   have oz := H.nz v (List.mem_of_getElem? hv)
   have FV := Lib.hid (H.fN v (List.mem_of_getElem? hv))
   unfold ofUnitW at hq
   dsimp only at hq
   rw [if_neg (by omega)] at hq
   have hti : ((i : Nat) : Int).toNat = i := by omega
   simp only [hti, show (wor ns tip cs time).n = nods ns from rfl, nodAt_ns hv] at hq
   have HQ := Lib.hid hq; have HV := Lib.hid hv; have HK := Lib.hid hk
   have hi3 : (i : Int) < 3 := by omega
   clear hq hv hk
   go_enter Tryz.func85, Tryz.ntmps85
   go_upto_region 1 with fail
   refine wp_box1 (v1 := [.int .i64 kd, .int .i64 cl, .int .i64 ↑i, .int .i64 jb, .int .i64 ep, .int .i64 y.kind, .int .i64 y.job, .int .i64 y.every, .int .i64 y.time, .int .i64 y.client]) rfl fun w1 b X => ?_
   replace H := H.onto b; replace E := E.onto b; replace I := I.onto b
   generalize hzx : w.heap.size = zx at X
   clear hzx b
   have x0 := X.at_ 0 rfl; have x2 := X.at_ 2 rfl
   have z0 := H.bx.at_ 0 rfl
   go_quiet (fail)
   go_upto_region 3 with fail
   generalize hd : World.drewN w1 _ = w2
   have od : Onto w1 w2 := by rw [← hd]; exact (Onto.rfl' w1).draws _
   clear hd
   replace H := H.onto od; replace E := E.onto od; replace X := X.onto od
   replace I := I.onto od
   clear od
   clear x0 x2 z0
   rcases HK.out with hk | hk | hk | hk
   · subst hk
     have hq := HQ.out
     rw [if_neg (by decide)] at hq
     replace HQ := Lib.hid hq
     clear hq HK
     have x0 := X.at_ 0 rfl; have x2 := X.at_ 2 rfl; have x4 := X.at_ 4 rfl; have z0 := H.bx.at_ 0 rfl
     have n4 := (NV.cells_at H.f.nr (encN_len ns) (row_ns HV.out)).2.2.2.2
     go_upto_region 7 with fail
     rcases Bool.eq_false_or_eq_true v.x.up with hu | hu
     · have hq := HQ.out
       rw [hu, if_neg (by decide)] at hq
       replace HQ := Lib.hid hq
       rw [hu] at n4
       clear hq hu
       have hq := HQ.out
       rw [if_pos rfl] at hq
       replace HQ := Lib.hid hq
       clear hq
       go_quiet (fail)
       go_upto_region 10 with fail
       generalize hd : World.drewN w2 _ = w3
       have od : Onto w2 w3 := by rw [← hd]; exact (Onto.rfl' w2).draws _
       clear hd
       replace H := H.onto od; replace E := E.onto od; replace X := X.onto od
       replace I := I.onto od; replace x2 := cellB od x2; replace x4 := cellB od x4; replace z0 := cellB od z0
       clear od
       go_region_law (first
        | (go_simp; go_at_call 110; refine Calls.mono (NWrite_calls v ⟨2, 0, ep, zeroE⟩ _ (E.onto (by with_reducible (first | exact Onto.rfl' _ | exact (Onto.rfl' _).draw | exact ((Onto.rfl' _).new _).draw | exact ((Onto.rfl' _).draw).new _))) nb i (ns.map encN) (Bx.onto H.f.nr (by with_reducible (first | exact Onto.rfl' _ | exact (Onto.rfl' _).draw | exact ((Onto.rfl' _).new _).draw | exact ((Onto.rfl' _).draw).new _))) (encN_len ns) (row_ns HV.out) (I.onto (by with_reducible (first | exact Onto.rfl' _ | exact (Onto.rfl' _).draw | exact ((Onto.rfl' _).new _).draw | exact ((Onto.rfl' _).draw).new _))) on1) ?_; unfold NPost; rintro e w4 ⟨rfl, t, hok⟩; have t' : Turn w3 w4 nb := Turn.to (Turn.of (by with_reducible (first | exact Onto.rfl' _ | exact (Onto.rfl' _).draw | exact ((Onto.rfl' _).new _).draw | exact ((Onto.rfl' _).draw).new _)) nb) t H.lts.2.1))
       all_goals
        have hz3w := H.onAll.size; have hz3 := H.lts
        have onw := H.aw.upN t' H.f.hn
        have hq := HQ.out
        go_wp2_with fail
        refine bodyPost_ret (v := .int .i64 (writeN v.x ⟨2, 0, ep, zeroE⟩).2) (by simp [results, Tryz.results85, go_sem]) rfl ?_
        refine ⟨by rw [hq], onw, fun h0 => ?_⟩
        obtain ⟨v', hx, hi', hr, hoff⟩ := hok (by have := h0; rw [hq] at this; exact this)
        have hlt : ∀ b, b < w3.heap.size → v.off b → v'.off b := fun b hb => hoff b (by first | exact hb | (simp; omega))
        refine ⟨ns.set i v', cs, ?_, ?_, ?_⟩
        · rw [hq]
          exact H.nextN t' hr hi' (hlt nb hz3.2.1 on1) (hlt cb hz3.2.2 oc) (hlt z hz3.1 oz) (fun b hb => hlt b (Nat.lt_of_lt_of_le hb hz3w) (FV.out b hb))
        · rw [hq]; simp [setN, wor, nods, List.map_set, hx]
        · rw [hq]; rfl
     · have hq := HQ.out
       rw [hu, if_pos rfl] at hq
       have HQ2 := Lib.hid hq
       rw [hu] at n4
       clear hq HQ hu
       go_quiet (fail)
       go_wp2_with fail
       go_ret
       exact HPost.bad' (by rw [HQ2.out]) (by rw [HQ2.out]; simp) (H.aw.draws _)
   · subst hk
     have hq := HQ.out
     rw [if_neg (by decide)] at hq
     replace HQ := Lib.hid hq
     clear hq HK
     have x0 := X.at_ 0 rfl; have x2 := X.at_ 2 rfl; have x4 := X.at_ 4 rfl; have z0 := H.bx.at_ 0 rfl
     have n4 := (NV.cells_at H.f.nr (encN_len ns) (row_ns HV.out)).2.2.2.2
     go_upto_region 7 with fail
     rcases Bool.eq_false_or_eq_true v.x.up with hu | hu
     · have hq := HQ.out
       rw [hu, if_neg (by decide)] at hq
       replace HQ := Lib.hid hq
       rw [hu] at n4
       clear hq hu
       have hq := HQ.out
       rw [if_neg (by decide)] at hq
       replace HQ := Lib.hid hq
       clear hq
       go_quiet (fail)
       go_upto_region 11 with fail
       generalize hd : World.drewN w2 _ = w3
       have od : Onto w2 w3 := by rw [← hd]; exact (Onto.rfl' w2).draws _
       clear hd
       replace H := H.onto od; replace E := E.onto od; replace X := X.onto od
       replace I := I.onto od; replace x2 := cellB od x2; replace z0 := cellB od z0; replace x0 := cellB od x0
       clear od
       clear x0 x4 n4
       have x1 := X.at_ 1 rfl
       have z2 := H.bx.at_ 2 rfl
       by_cases hc : cl < 0 ∨ 3 ≤ cl
       · have hq := HQ.out
         rw [if_pos hc] at hq
         have HQ2 := Lib.hid hq
         clear hq HQ
         rcases Decidable.em (cl < 0) with h1 | h1
         · clear hc
           go_quiet (fail)
           go_wp2_with fail
           go_ret
           exact HPost.bad' (by rw [HQ2.out]) (by rw [HQ2.out]; simp) (H.aw.draws _)
         · have h2 : 3 ≤ cl := by omega
           clear hc
           go_quiet (fail)
           go_wp2_with fail
           go_ret
           exact HPost.bad' (by rw [HQ2.out]) (by rw [HQ2.out]; simp) (H.aw.draws _)
       · obtain ⟨m, rfl⟩ : ∃ m : Nat, cl = (m : Int) := ⟨cl.toNat, by omega⟩
         have hm : m < 3 := by omega
         have hm3 : (m : Int) < 3 := by omega
         obtain ⟨c, hcv, J, on2, oc2, _⟩ := H.f.atC hm
         have oz2 := H.cz c (List.mem_of_getElem? hcv)
         have hq := HQ.out
         rw [if_neg hc] at hq
         have htm : ((m : Nat) : Int).toNat = m := by omega
         simp only [htm, show (wor ns tip cs time).c = clis cs from rfl, cliAt_cs hcv] at hq
         replace HQ := Lib.hid hq
         have HCV := Lib.hid hcv
         clear hq hc hcv
         go_quiet (fail)
         go_upto_region 13 with fail
         generalize hd : World.drewN w3 _ = w4
         have od : Onto w3 w4 := by rw [← hd]; exact (Onto.rfl' w3).draws _
         clear hd
         replace H := H.onto od; replace E := E.onto od; replace X := X.onto od
         replace I := I.onto od; replace J := J.onto od
         clear od
         clear x1 x2 z0 z2
         obtain ⟨r, hr⟩ : ∃ r, r = learnCl c.x v.x.u.ep := ⟨_, rfl⟩
         have hq := HQ.out
         unfold putCl at hq
         rw [← hr] at hq
         replace HQ := Lib.hid hq
         have HR := Lib.hid hr
         clear hq hr
         have x1 := X.at_ 1 rfl; have x2 := X.at_ 2 rfl; have z0 := H.bx.at_ 0 rfl; have z2 := H.bx.at_ 2 rfl
         have n0 := (NV.cells_at H.f.nr (encN_len ns) (row_ns HV.out)).1
         obtain ⟨c0, c1, c2, c3, c4, c5, c6, c7, c8, c9, c10, c11⟩ := CV.cells_at H.f.cr (encC_len cs) (row_cs HCV.out)
         have hz4w := H.onAll.size; have hz4 := H.lts; have hxl := X.lt
         go_cut [5, 6] (fun s5 s6 wx => ∃ (p : Nat) (A1 : Option Addr) (n1 k1 : Nat) (A2 : Option Addr) (n2 k2 : Nat), s5 = .pointer (some ⟨p, 0, none⟩) ∧ s6 = .int .i64 r.2 ∧ Bx wx p [.int .i64 r.1.epoch, .int .i64 r.1.doing, .int .i64 r.1.e.kind, .int .i64 r.1.e.job, .int .i64 r.1.e.every, .int .i64 r.1.e.time, .int .i64 r.1.e.client, .int .i64 r.1.at_, .int .i64 r.1.link, .int .i64 r.1.played, .slice A1 n1 k1, .slice A2 n2 k2] ∧ S wx 3 A1 n1 (r.1.b.jobs.map encJ) ∧ S wx 3 A2 n2 (r.1.b.rung.map encR) ∧ n1 ≤ k1 ∧ n2 ≤ k2 ∧ Fresh w4.heap.size A1 ∧ Fresh w4.heap.size A2 ∧ Onto w4 wx)
         case first =>
          have hz0 : ∀ w', Onto w4 w' → w'.cell? ⟨z, 0, none⟩ = some (.slice (some ⟨nb, 0, none⟩) 3 cN) := fun w' h => cellB h z0; have hz2 : ∀ w', Onto w4 w' → w'.cell? ⟨z, 2, none⟩ = some (.slice (some ⟨cb, 0, none⟩) 3 cC) := fun w' h => cellB h z2; have hx1 : ∀ w', Onto w4 w' → w'.cell? ⟨zx, 1, none⟩ = some (.int .i64 m) := fun w' h => cellB h x1; have hx2 : ∀ w', Onto w4 w' → w'.cell? ⟨zx, 2, none⟩ = some (.int .i64 i) := fun w' h => cellB h x2; have hn0 : ∀ w', Onto w4 w' → w'.cell? ⟨nb, i * 5, none⟩ = some (.int .i64 v.x.u.ep) := fun w' h => cellB h n0; have hc0 : ∀ w', Onto w4 w' → w'.cell? ⟨cb, m * 12, none⟩ = some (.int .i64 c.x.epoch) := fun w' h => cellB h c0; have hc1 : ∀ w', Onto w4 w' → w'.cell? ⟨cb, m * 12 + 1, none⟩ = some (.int .i64 c.x.doing) := fun w' h => cellB h c1; have hc2 : ∀ w', Onto w4 w' → w'.cell? ⟨cb, m * 12 + 2, none⟩ = some (.int .i64 c.x.e.kind) := fun w' h => cellB h c2; have hc3 : ∀ w', Onto w4 w' → w'.cell? ⟨cb, m * 12 + 3, none⟩ = some (.int .i64 c.x.e.job) := fun w' h => cellB h c3; have hc4 : ∀ w', Onto w4 w' → w'.cell? ⟨cb, m * 12 + 4, none⟩ = some (.int .i64 c.x.e.every) := fun w' h => cellB h c4; have hc5 : ∀ w', Onto w4 w' → w'.cell? ⟨cb, m * 12 + 5, none⟩ = some (.int .i64 c.x.e.time) := fun w' h => cellB h c5; have hc6 : ∀ w', Onto w4 w' → w'.cell? ⟨cb, m * 12 + 6, none⟩ = some (.int .i64 c.x.e.client) := fun w' h => cellB h c6; have hc7 : ∀ w', Onto w4 w' → w'.cell? ⟨cb, m * 12 + 7, none⟩ = some (.int .i64 c.x.at_) := fun w' h => cellB h c7; have hc8 : ∀ w', Onto w4 w' → w'.cell? ⟨cb, m * 12 + 8, none⟩ = some (.int .i64 c.x.link) := fun w' h => cellB h c8; have hc9 : ∀ w', Onto w4 w' → w'.cell? ⟨cb, m * 12 + 9, none⟩ = some (.int .i64 c.x.played) := fun w' h => cellB h c9; have hc10 : ∀ w', Onto w4 w' → w'.cell? ⟨cb, m * 12 + 10, none⟩ = some (.slice c.A c.n c.c) := fun w' h => cellB h c10; have hc11 : ∀ w', Onto w4 w' → w'.cell? ⟨cb, m * 12 + 11, none⟩ = some (.slice c.G c.m c.d) := fun w' h => cellB h c11
          clear c0 c1 c2 c3 c4 c5 c6 c7 c8 c9 c10 c11 n0 x1 x2 z0 z2
          obtain ⟨zz, hzz⟩ : ∃ zz, w4.heap.size = zz := ⟨_, rfl⟩
          go_region_held3 (fun w' => Onto w4 w')
           (((with_reducible (repeat (first | exact Onto.rfl' _ | exact b | refine Onto.draw ?_ | refine Onto.new ?_ _ | refine Onto.puts (Nat.le_of_eq hzz) ?_ | refine Onto.puts (Onto.sz b) ?_))); done))
           (first
           | (go_at_call 111; refine Calls.mono (ClLearn_calls c.x.epoch c.x.doing c.x.at_ c.x.link c.x.played c.x.e c.A c.G c.n c.c c.m c.d c.x.b v.x.u.ep _ (J.jobs.onto (by with_reducible (first | exact Onto.rfl' _ | exact (Onto.rfl' _).draw | exact ((Onto.rfl' _).new _).draw | exact ((Onto.rfl' _).draw).new _))) (J.rung.onto (by with_reducible (first | exact Onto.rfl' _ | exact (Onto.rfl' _).draw | exact ((Onto.rfl' _).new _).draw | exact ((Onto.rfl' _).draw).new _)))) ?_; rw [show learnCl ⟨c.x.epoch, c.x.doing, c.x.e, c.x.at_, c.x.link, c.x.played, c.x.b⟩ v.x.u.ep = r from HR.out.symm]; unfold ClPost; rintro e w5 ⟨A1, n1, k1, A2, n2, k2, rfl, s1, s2, ob, hk1, hk2, f1, f2⟩; have b : Onto w4 w5 := Onto.to (by with_reducible (first | exact Onto.rfl' _ | exact (Onto.rfl' _).draw | exact ((Onto.rfl' _).new _).draw | exact ((Onto.rfl' _).draw).new _)) ob; have f1' : Fresh w4.heap.size A1 := (fun a e => Nat.le_trans (Onto.sz (by with_reducible (first | exact Onto.rfl' _ | exact (Onto.rfl' _).draw | exact ((Onto.rfl' _).new _).draw | exact ((Onto.rfl' _).draw).new _))) (f1 a e)); have f2' : Fresh w4.heap.size A2 := (fun a e => Nat.le_trans (Onto.sz (by with_reducible (first | exact Onto.rfl' _ | exact (Onto.rfl' _).draw | exact ((Onto.rfl' _).new _).draw | exact ((Onto.rfl' _).draw).new _))) (f2 a e)); have P6 : Bx ((w5.alloc (.cells #[.int .i64 0, .int .i64 0, .int .i64 0, .int .i64 0, .int .i64 0, .int .i64 0, .int .i64 0, .int .i64 0, .int .i64 0, .int .i64 0, .slice none 0 0, .slice none 0 0] 41)).setCells w5.heap.size 0 [.int .i64 r.1.epoch, .int .i64 r.1.doing, .int .i64 r.1.e.kind, .int .i64 r.1.e.job, .int .i64 r.1.e.every, .int .i64 r.1.e.time, .int .i64 r.1.e.client, .int .i64 r.1.at_, .int .i64 r.1.link, .int .i64 r.1.played, .slice A1 n1 k1, .slice A2 n2 k2]) w5.heap.size [.int .i64 r.1.epoch, .int .i64 r.1.doing, .int .i64 r.1.e.kind, .int .i64 r.1.e.job, .int .i64 r.1.e.every, .int .i64 r.1.e.time, .int .i64 r.1.e.client, .int .i64 r.1.at_, .int .i64 r.1.link, .int .i64 r.1.played, .slice A1 n1 k1, .slice A2 n2 k2] := (Bx.made w5 #[.int .i64 0, .int .i64 0, .int .i64 0, .int .i64 0, .int .i64 0, .int .i64 0, .int .i64 0, .int .i64 0, .int .i64 0, .int .i64 0, .slice none 0 0, .slice none 0 0] 41).put rfl; have s16 := put_S (w := w5) (s1.offN (Nat.le_refl _)) (vs := [.int .i64 r.1.epoch, .int .i64 r.1.doing, .int .i64 r.1.e.kind, .int .i64 r.1.e.job, .int .i64 r.1.e.every, .int .i64 r.1.e.time, .int .i64 r.1.e.client, .int .i64 r.1.at_, .int .i64 r.1.link, .int .i64 r.1.played, .slice A1 n1 k1, .slice A2 n2 k2]) (o := 0) (s1.new (.cells #[.int .i64 0, .int .i64 0, .int .i64 0, .int .i64 0, .int .i64 0, .int .i64 0, .int .i64 0, .int .i64 0, .int .i64 0, .int .i64 0, .slice none 0 0, .slice none 0 0] 41)); have s26 := put_S (w := w5) (s2.offN (Nat.le_refl _)) (vs := [.int .i64 r.1.epoch, .int .i64 r.1.doing, .int .i64 r.1.e.kind, .int .i64 r.1.e.job, .int .i64 r.1.e.every, .int .i64 r.1.e.time, .int .i64 r.1.e.client, .int .i64 r.1.at_, .int .i64 r.1.link, .int .i64 r.1.played, .slice A1 n1 k1, .slice A2 n2 k2]) (o := 0) (s2.new (.cells #[.int .i64 0, .int .i64 0, .int .i64 0, .int .i64 0, .int .i64 0, .int .i64 0, .int .i64 0, .int .i64 0, .int .i64 0, .int .i64 0, .slice none 0 0, .slice none 0 0] 41)); have on6 : Onto w4 ((w5.alloc (.cells #[.int .i64 0, .int .i64 0, .int .i64 0, .int .i64 0, .int .i64 0, .int .i64 0, .int .i64 0, .int .i64 0, .int .i64 0, .int .i64 0, .slice none 0 0, .slice none 0 0] 41)).setCells w5.heap.size 0 [.int .i64 r.1.epoch, .int .i64 r.1.doing, .int .i64 r.1.e.kind, .int .i64 r.1.e.job, .int .i64 r.1.e.every, .int .i64 r.1.e.time, .int .i64 r.1.e.client, .int .i64 r.1.at_, .int .i64 r.1.link, .int .i64 r.1.played, .slice A1 n1 k1, .slice A2 n2 k2]) := Onto.puts (Onto.sz b) (b.new _); (first | (have Z5 : Bx w5 zz [.int .i64 0, .int .i64 0, .int .i64 0, .int .i64 0, .int .i64 0, .int .i64 0, .int .i64 0, .int .i64 0, .int .i64 0, .int .i64 0, .slice none 0 0, .slice none 0 0] := hzz ▸ Bx.onto (Bx.draw (Bx.made w4 #[.int .i64 0, .int .i64 0, .int .i64 0, .int .i64 0, .int .i64 0, .int .i64 0, .int .i64 0, .int .i64 0, .int .i64 0, .int .i64 0, .slice none 0 0, .slice none 0 0] 41)) ob; have hst := Z5.there (n := 12) (by simp); have oz : OffN n1 zz A1 := f1.offN (by simp; omega); have oz' : OffN n2 zz A2 := f2.offN (by simp; omega); have P5 : Bx (w5.setCells zz 0 [.int .i64 r.1.epoch, .int .i64 r.1.doing, .int .i64 r.1.e.kind, .int .i64 r.1.e.job, .int .i64 r.1.e.every, .int .i64 r.1.e.time, .int .i64 r.1.e.client, .int .i64 r.1.at_, .int .i64 r.1.link, .int .i64 r.1.played, .slice A1 n1 k1, .slice A2 n2 k2]) zz [.int .i64 r.1.epoch, .int .i64 r.1.doing, .int .i64 r.1.e.kind, .int .i64 r.1.e.job, .int .i64 r.1.e.every, .int .i64 r.1.e.time, .int .i64 r.1.e.client, .int .i64 r.1.at_, .int .i64 r.1.link, .int .i64 r.1.played, .slice A1 n1 k1, .slice A2 n2 k2] := Z5.put rfl; have s15 := put_S (w := w5) oz (vs := [.int .i64 r.1.epoch, .int .i64 r.1.doing, .int .i64 r.1.e.kind, .int .i64 r.1.e.job, .int .i64 r.1.e.every, .int .i64 r.1.e.time, .int .i64 r.1.e.client, .int .i64 r.1.at_, .int .i64 r.1.link, .int .i64 r.1.played, .slice A1 n1 k1, .slice A2 n2 k2]) (o := 0) s1; have s25 := put_S (w := w5) oz' (vs := [.int .i64 r.1.epoch, .int .i64 r.1.doing, .int .i64 r.1.e.kind, .int .i64 r.1.e.job, .int .i64 r.1.e.every, .int .i64 r.1.e.time, .int .i64 r.1.e.client, .int .i64 r.1.at_, .int .i64 r.1.link, .int .i64 r.1.played, .slice A1 n1 k1, .slice A2 n2 k2]) (o := 0) s2; have on5 : Onto w4 (w5.setCells zz 0 [.int .i64 r.1.epoch, .int .i64 r.1.doing, .int .i64 r.1.e.kind, .int .i64 r.1.e.job, .int .i64 r.1.e.every, .int .i64 r.1.e.time, .int .i64 r.1.e.client, .int .i64 r.1.at_, .int .i64 r.1.link, .int .i64 r.1.played, .slice A1 n1 k1, .slice A2 n2 k2]) := Onto.puts (Nat.le_of_eq hzz) b) | skip))
           | fail)
          all_goals
           go_wp2_with fail
           go_meet
           first
            | with_reducible exact ⟨_, A1, n1, k1, A2, n2, k2, rfl, rfl, P6, s16, s26, hk1, hk2, f1', f2', on6⟩
            | with_reducible exact ⟨_, A1, n1, k1, A2, n2, k2, rfl, rfl, P5, s15, s25, hk1, hk2, f1', f2', on5⟩
         case rest =>
          obtain ⟨p, A1, n1, k1, A2, n2, k2, rfl, rfl, V, s1, s2, hk1, hk2, f1, f2, b⟩ := hcut
          clear c0 c1 c2 c3 c4 c5 c6 c7 c8 c9 c10 c11 n0 x1 x2 z0 z2
          replace H := H.onto b; replace E := E.onto b; replace X := X.onto b
          clear b
          generalize wc = w5 at *
          by_cases h1 : r.2 = 0
          · have hq := HQ.out
            rw [if_neg (by simp [h1])] at hq
            have HQ2 := Lib.hid hq
            rw [h1]
            clear hq HQ h1
            go_upto_region 15 with fail
            have x1 := X.at_ 1 rfl; have z2 := H.bx.at_ 2 rfl
            have v0 := V.at_ 0 rfl; have v1 := V.at_ 1 rfl; have v2 := V.at_ 2 rfl; have v3 := V.at_ 3 rfl; have v4 := V.at_ 4 rfl; have v5 := V.at_ 5 rfl; have v6 := V.at_ 6 rfl; have v7 := V.at_ 7 rfl; have v8 := V.at_ 8 rfl; have v9 := V.at_ 9 rfl; have v10 := V.at_ 10 rfl; have v11 := V.at_ 11 rfl
            have hzlw := H.onAll.size; have hzl := H.lts; have hvl := V.lt
            have HB := Lib.hid H.f.cr
            have hlen : m * 12 + 12 ≤ (cs.map encC).flatten.length := by rw [flatten_length (encC_len cs), List.length_map, H.f.cl]; omega
            have hth : w5.there cb (m * 12) 12 := Bx.thereM H.f.cr hlen
            go_region
            all_goals
             go_wp2_with fail
             refine bodyPost_ret (v := .int .i64 0) (by simp [results, Tryz.results85, go_sem]) rfl ?_
             have hq := HQ2.out
             have H1 := H.onto ((Onto.rfl' w5).draw)
             have H2 := H1.storeC HCV.out (v := ⟨r.1, A1, n1, k1, A2, n2, k2⟩) ⟨s1.draw, s2.draw, hk1, hk2⟩ ⟨f1.offN hz4.2.1, f2.offN hz4.2.1⟩ ⟨f1.offN hz4.2.2, f2.offN hz4.2.2⟩ ⟨f1.offN hz4.1, f2.offN hz4.1⟩ (fun b hb => ⟨f1.offN (Nat.lt_of_lt_of_le hb hz4w), f2.offN (Nat.lt_of_lt_of_le hb hz4w)⟩) (us := [.int .i64 r.1.epoch, .int .i64 r.1.doing, .int .i64 r.1.e.kind, .int .i64 r.1.e.job, .int .i64 r.1.e.every, .int .i64 r.1.e.time, .int .i64 r.1.e.client, .int .i64 r.1.at_, .int .i64 r.1.link, .int .i64 r.1.played, .slice A1 n1 k1, .slice A2 n2 k2]) rfl
             have hq3 : q = (wor ns tip (cs.set m ⟨r.1, A1, n1, k1, A2, n2, k2⟩) time, 0) := hq.trans (by rw [← wor_setC])
             exact HPost.ok H2 hq3
          · have hq := HQ.out
            rw [if_pos h1] at hq
            have HQ2 := Lib.hid hq
            have hd : (r.2 != 0) = true := by simpa using h1
            have hd2 : (r.2 == 0) = false := by simpa using h1
            have h2' : q.2 ≠ 0 := by rw [hq]; exact h1
            clear hq HQ h1
            go_wp2_with fail
            go_ret
            exact HPost.bad' (by rw [HQ2.out]) h2' H.aw
     · have hq := HQ.out
       rw [hu, if_pos rfl] at hq
       have HQ2 := Lib.hid hq
       rw [hu] at n4
       clear hq HQ hu
       go_quiet (fail)
       go_wp2_with fail
       go_ret
       exact HPost.bad' (by rw [HQ2.out]) (by rw [HQ2.out]; simp) (H.aw.draws _)
   · subst hk
     have hq := HQ.out
     rw [if_pos (by decide)] at hq
     replace HQ := Lib.hid hq
     clear hq HK
     have x0 := X.at_ 0 rfl; have x1 := X.at_ 1 rfl; have x2 := X.at_ 2 rfl; have x3 := X.at_ 3 rfl; have x4 := X.at_ 4 rfl; have x5 := X.at_ 5 rfl; have x6 := X.at_ 6 rfl; have x7 := X.at_ 7 rfl; have x8 := X.at_ 8 rfl; have x9 := X.at_ 9 rfl
     go_wp2_with fail
     refine Calls.mono (WPower_calls K w0 z nb cN cb cC ns tip cs time ⟨12, cl, i, jb, ep, y⟩ i _ E H hi rfl (by simp)) ?_
     rw [← HQ.out]
     rintro e w3 ⟨rfl, h1, h2⟩
     go_wp2_with fail
     go_ret
     exact ⟨rfl, h1, h2⟩
   · subst hk
     have hq := HQ.out
     rw [if_pos (by decide)] at hq
     replace HQ := Lib.hid hq
     clear hq HK
     have x0 := X.at_ 0 rfl; have x1 := X.at_ 1 rfl; have x2 := X.at_ 2 rfl; have x3 := X.at_ 3 rfl; have x4 := X.at_ 4 rfl; have x5 := X.at_ 5 rfl; have x6 := X.at_ 6 rfl; have x7 := X.at_ 7 rfl; have x8 := X.at_ 8 rfl; have x9 := X.at_ 9 rfl
     go_wp2_with fail
     refine Calls.mono (WPower_calls K w0 z nb cN cb cC ns tip cs time ⟨13, cl, i, jb, ep, y⟩ i _ E H hi rfl (by simp)) ?_
     rw [← HQ.out]
     rintro e w3 ⟨rfl, h1, h2⟩
     go_wp2_with fail
     go_ret
     exact ⟨rfl, h1, h2⟩
end
section
set_option linter.unusedSimpArgs false
set_option linter.unusedVariables false
open Go.RowKit
attribute [local go_sem ↓] Go.wp_at_zero Go.wp_at_succ
attribute [local go_sem ↓] stCl_eq
attribute [local go_sem] run_stCl there_clW
theorem encN_one (ns : List NV) : ∀ r ∈ ns.map encN, ∀ u ∈ r, u.oneCell' = true := fun r hr u hu => by
 obtain ⟨v, _, rfl⟩ := List.mem_map.1 hr
 simp only [encN, List.mem_cons, List.not_mem_nil, or_false] at hu
 rcases hu with rfl | rfl | rfl | rfl | rfl <;> rfl
theorem encC_one (cs : List CV) : ∀ r ∈ cs.map encC, ∀ u ∈ r, u.oneCell' = true := fun r hr u hu => by
 obtain ⟨v, _, rfl⟩ := List.mem_map.1 hr
 simp only [encC, List.mem_cons, List.not_mem_nil, or_false] at hu
 rcases hu with rfl | rfl | rfl | rfl | rfl | rfl | rfl | rfl | rfl | rfl | rfl | rfl <;> rfl
theorem Own.rx {w : World} {base E k n c : Nat} {A : Option Addr} {rows : List (List Value)} (h : Own w base E k (.slice A n c) n rows) (hn : 0 < n) : ∃ g, A = some ⟨g, 0, none⟩ ∧ base ≤ g ∧ g < w.heap.size ∧ Rx w g rows ∧ n ≤ c ∧ c ≤ maxLen := by
 obtain ⟨g, cur, rfl, h1, h2, h3, _⟩ := h.open_ hn
 exact ⟨g, rfl, h1, (h.1.lt g rfl).2, ⟨fun j v hv => by simpa [Addr.add_lit] using h.1.cells (g := g) rfl j v hv, ⟨cur, E, h3⟩⟩, h.le_cap, h.cap_max⟩
structure Small (ns : List NV) (cs : List CV) : Prop where
 n : ∀ v ∈ ns, v.n = 60 ∧ v.k ≤ 30000 ∧ v.l ≤ 30000
 c : ∀ v ∈ cs, v.n ≤ 1000000 ∧ v.m ≤ 1000000
set_option maxHeartbeats 16000000 in
set_option maxRecDepth 100000 in
theorem WCopy_calls (A : Option Addr) (c : Nat) (tip : Int) (C : Option Addr) (d : Nat) (time : Int) (ns : List NV) (cs : List CV) (w : World) (R : WR w A 3 C 3 ns cs) (hs : Small ns cs) :
    Calls Tryz.prog 44 #[.agg #[.slice A 3 c, .int .i64 tip, .slice C 3 d, .int .i64 time]] w fun e w' => ∃ nb cN cb cC ns' cs', e = .returned (.agg #[.slice (some ⟨nb, 0, none⟩) 3 cN, .int .i64 tip, .slice (some ⟨cb, 0, none⟩) 3 cC, .int .i64 time]) ∧
     nods ns' = nods ns ∧ clis cs' = clis cs ∧ WF w w' nb cN cb cC ns' cs' ∧ (∀ v ∈ ns', v.fresh w.heap.size) ∧ (∀ v ∈ cs', v.fresh w.heap.size) := by
 have HS := Lib.hid hs
 have hnl := R.nlen; have hcl := R.clen
 have HNL := Lib.hid hnl; have HCL := Lib.hid hcl
 clear hs hnl hcl
 have ozn : ∀ v ∈ ns, v.off w.heap.size := fun v hv => (R.ni v hv).away (Nat.le_refl _)
 have ozc : ∀ v ∈ cs, v.off w.heap.size := fun v hv => (R.ci v hv).away (Nat.le_refl _)
 go_enter Tryz.func44, Tryz.ntmps44
 go_upto_region 1 with fail
 have on := ((Onto.rfl' w).new (Obj.cells #[.slice A 3 c, .int .i64 tip, .slice C 3 d, .int .i64 time] 25)).new (Obj.cells #[.slice none 0 0, .int .i64 0, .slice none 0 0, .int .i64 0] 25)
 have Z : Bx ((w.alloc (Obj.cells #[.slice A 3 c, .int .i64 tip, .slice C 3 d, .int .i64 time] 25)).alloc (Obj.cells #[.slice none 0 0, .int .i64 0, .slice none 0 0, .int .i64 0] 25)) w.heap.size [.slice A 3 c, .int .i64 tip, .slice C 3 d, .int .i64 time] := (Bx.made _ _ _).new _
 have Q : Bx ((w.alloc (Obj.cells #[.slice A 3 c, .int .i64 tip, .slice C 3 d, .int .i64 time] 25)).alloc (Obj.cells #[.slice none 0 0, .int .i64 0, .slice none 0 0, .int .i64 0] 25)) (w.heap.size + 1) [.slice none 0 0, .int .i64 0, .slice none 0 0, .int .i64 0] := by
  have := Bx.made (w.alloc (Obj.cells #[.slice A 3 c, .int .i64 tip, .slice C 3 d, .int .i64 time] 25)) #[.slice none 0 0, .int .i64 0, .slice none 0 0, .int .i64 0] 25
  simpa using this
 replace R := R.onto on
 change Code.wp _ _ _ _ ((w.alloc (Obj.cells #[.slice A 3 c, .int .i64 tip, .slice C 3 d, .int .i64 time] 25)).alloc (Obj.cells #[.slice none 0 0, .int .i64 0, .slice none 0 0, .int .i64 0] 25))
 generalize ((w.alloc (Obj.cells #[.slice A 3 c, .int .i64 tip, .slice C 3 d, .int .i64 time] 25)).alloc (Obj.cells #[.slice none 0 0, .int .i64 0, .slice none 0 0, .int .i64 0] 25)) = w1 at *
 obtain ⟨z, hz⟩ : ∃ z, z = w.heap.size := ⟨_, rfl⟩
 obtain ⟨z', hz'⟩ : ∃ z', z' = w.heap.size + 1 := ⟨_, rfl⟩
 rw [← hz] at Z; rw [← hz'] at Q
 rw [← hz] at ozn ozc
 have OZN := Lib.hid ozn; have OZC := Lib.hid ozc
 clear ozn ozc
 have hzw : w.heap.size ≤ z := by omega
 have hzw' : w.heap.size ≤ z' := by omega
 have hzz : z ≠ z' := by omega
 rw [← hz', ← hz]
 clear hz hz'
 have hzl := Z.lt; have hql := Q.lt
 have z0 := Z.at_ 0 rfl; have z2 := Z.at_ 2 rfl
 have fz0 := Z.froz 0; have fz2 := Z.froz 2
 go_cut [] (fun wx => ∃ nb cN cb cC, Bx wx z [.slice (some ⟨nb, 0, none⟩) 3 cN, .int .i64 tip, .slice (some ⟨cb, 0, none⟩) 3 cC, .int .i64 time] ∧ Bx wx z' [.slice none 0 0, .int .i64 0, .slice none 0 0, .int .i64 0] ∧ WF w wx nb cN cb cC ns cs ∧ w1.heap.size ≤ nb ∧ w1.heap.size ≤ cb)
 case first =>
  go_region_law (first
   | (go_simp; go_at_call 79; refine Calls.mono (CloneD_calls _ A 3 c _ (Nat.le_refl _) (ns.map encN) (R.nr.onto (by with_reducible (first | exact Onto.rfl' _ | exact (Onto.rfl' _).draw))) (encN_one ns) (by omega)) ?_; rintro e w2 ⟨A1, c1, rfl, own1, ob⟩; have b2 : Onto w1 w2 := Onto.to (by with_reducible (first | exact Onto.rfl' _ | exact (Onto.rfl' _).draw)) ob; have y0 := cellB b2 z0; have y2 := cellB b2 z2; have own1' := own1.lower (b' := w1.heap.size) (Onto.sz (by with_reducible (first | exact Onto.rfl' _ | exact (Onto.rfl' _).draw))))
   | (go_simp; go_at_call 80; refine Calls.mono (CloneC_calls _ C 3 d _ (Nat.le_refl _) (cs.map encC) ((R.cr.onto b2).onto (by with_reducible (first | exact Onto.rfl' _ | exact (Onto.rfl' _).draw))) (encC_one cs) (by omega)) ?_; rintro e w3 ⟨C1, d1, rfl, own2, ob2⟩; have b23 : Onto w2 w3 := Onto.to (by with_reducible (first | exact Onto.rfl' _ | exact (Onto.rfl' _).draw)) ob2; have b3 : Onto w1 w3 := Onto.to b2 b23; have x0 := cellB b3 z0; have x2 := cellB b3 z2; have g0 := frozB b3 z0 fz0; have g2 := frozB b3 z2 fz2; have own2' := own2.lower (b' := w2.heap.size) (Onto.sz (by with_reducible (first | exact Onto.rfl' _ | exact (Onto.rfl' _).draw)))))
  all_goals
   go_wp2_with fail
   go_meet
   obtain ⟨nb, rfl, hn1, hn2, rn, kn1, kn2⟩ := own1'.rx (by omega)
   obtain ⟨cb, rfl, hc1, hc2, rc, kc1, kc2⟩ := own2'.rx (by omega)
   have hs1 := on.size
   have hb2 := b2.size
   have hnz : nb ≠ z := by omega
   have hcz : cb ≠ z := by omega
   have hnc : nb ≠ cb := by omega
   have AN : ∀ b, w1.heap.size ≤ b → ∀ v ∈ ns, v.off b := fun b hb v hv => (R.ni v hv).away hb
   have AC : ∀ b, w1.heap.size ≤ b → ∀ v ∈ cs, v.off b := fun b hb v hv => (R.ci v hv).away hb
   have OZ : ∀ v ∈ ns, v.off z := OZN.out
   have OC : ∀ v ∈ cs, v.off z := OZC.out
   have Z3 := ((Z.onto b3).put1 (j := 0) (by simp) (.slice (some ⟨nb, 0, none⟩) 3 c1)).put1 (j := 2) (by simp) (.slice (some ⟨cb, 0, none⟩) 3 d1)
   have Q3 := ((Q.onto b3).off1 (p := ⟨z, 0, none⟩) (Ne.symm hzz) (.slice (some ⟨nb, 0, none⟩) 3 c1)).off1 (p := ⟨z, 2, none⟩) (Ne.symm hzz) (.slice (some ⟨cb, 0, none⟩) 3 d1)
   have rn3 := ((Bx.onto rn b23).off1 (p := ⟨z, 0, none⟩) hnz (.slice (some ⟨nb, 0, none⟩) 3 c1)).off1 (p := ⟨z, 2, none⟩) hnz (.slice (some ⟨cb, 0, none⟩) 3 d1)
   have rc3 := (Bx.off1 rc (p := ⟨z, 0, none⟩) hcz (.slice (some ⟨nb, 0, none⟩) 3 c1)).off1 (p := ⟨z, 2, none⟩) hcz (.slice (some ⟨cb, 0, none⟩) 3 d1)
   exact ⟨nb, c1, cb, d1, Z3, Q3, ⟨rn3, rc3, HNL.out, HCL.out, fun v hv => ⟨(((R.ni v hv).onto b3).put (p := ⟨z, 0, none⟩) (OZ v hv) _).put (p := ⟨z, 2, none⟩) (OZ v hv) _, AN nb hn1 v hv, AN cb (by omega) v hv⟩,
    fun v hv => ⟨(((R.ci v hv).onto b3).put (p := ⟨z, 0, none⟩) (OC v hv) _).put (p := ⟨z, 2, none⟩) (OC v hv) _, AC nb hn1 v hv, AC cb (by omega) v hv⟩, by omega, by omega, hnc, ⟨kn1, kn2⟩, ⟨kc1, kc2⟩, ((on.to b3).put hzw _).put hzw _⟩, hn1, by omega⟩
 case rest =>
  obtain ⟨nb, cN, cb, cC, Z2, Q2, F, hn1, hc1⟩ := hcut
  clear z0 z2 fz0 fz2 Z Q R on
  generalize wc = w4 at *
  have z0 := Z2.at_ 0 rfl
  go_wp2_with fail
  clear z0
  go_loopg [18] 3 (fun g s18 wr => ∃ (k : Nat) (ns1 : List NV), k ≤ 3 ∧ 3 - k ≤ g ∧ s18 = .int .i64 k ∧ Hid (nods ns1 = nods ns) ∧ Bx wr z [.slice (some ⟨nb, 0, none⟩) 3 cN, .int .i64 tip, .slice (some ⟨cb, 0, none⟩) 3 cC, .int .i64 time] ∧ Bx wr z' [.slice none 0 0, .int .i64 0, .slice none 0 0, .int .i64 0] ∧ WF w wr nb cN cb cC ns1 cs ∧ Hid (∀ j v, j < k → ns1[j]? = some v → v.fresh nb) ∧ Hid (∀ v ∈ ns1, v.n = 60 ∧ v.k ≤ 30000 ∧ v.l ≤ 30000))
  case atStart => exact ⟨0, ns, by omega, by omega, rfl, rfl, Z2, Q2, F, fun j v hj => absurd hj (Nat.not_lt_zero _), HS.out.n⟩
  case round =>
   clear Z2 Q2 F
   obtain ⟨k, ns1, hk, hg, rfl, HNS, Z2, Q2, F, HF, HM⟩ := hrel
   by_cases hlt : k < 3
   · obtain ⟨v, hv, I, on1, oc, n0, n1, n2, n3, n4⟩ := F.atN hlt
     have hsm := HM.out v (List.mem_of_getElem? hv)
     have HV := Lib.hid hv; have HSM := Lib.hid hsm
     have hkn : k < (ns1.map encN).length := by rw [List.length_map, F.nl]; exact hlt
     clear hv hsm
     go_upto_region 5 with fail
     refine wp_box1 (v1 := [.int .i64 v.x.u.ep, .slice v.A v.n v.c, .slice v.F v.k v.i, .slice v.G v.l v.j, .bool v.x.up]) rfl fun w5 b B => ?_
     have hzr := Z2.lt; have hnr := Bx.lt F.nr; have hcr := Bx.lt F.cr; have hqr := Q2.lt
     replace Z2 := Z2.onto b; replace Q2 := Q2.onto b; replace F := F.onto b; replace I := I.onto b
     clear b n0 n1 n2 n3 n4
     generalize wr.heap.size = zb at *
     have z0 := Z2.at_ 0 rfl; have b0 := B.at_ 0 rfl; have b1 := B.at_ 1 rfl
     obtain ⟨n0, n1, n2, n3, n4⟩ := NV.cells_at F.nr (encN_len ns1) (row_ns HV.out)
     have f0 := Bx.froz F.nr (k * 5); have f1 := Bx.froz F.nr (k * 5 + 1)
     have hw5 := F.on.size; have hnw := Bx.lt F.nr; have hzw5 := Z2.lt; have hbw5 := B.lt
     have CU : ∀ w', Onto w5 w' → Calls Tryz.prog 81 #[.agg #[.int .i64 v.x.u.ep, .slice v.A v.n v.c]] w' fun e w2 => ∃ A' c', e = .returned (.agg #[.int .i64 v.x.u.ep, .slice A' v.n c']) ∧ M w2 w'.heap.size 5 A' v.n (v.x.u.cells.map encE) ∧ Onto w' w2 ∧ v.n ≤ c' ∧ c' ≤ maxLen := fun w' h => UCopy_calls v.x.u.ep v.A v.n v.c v.x.u.cells w' (I.cells.onto h) (by have := HSM.out.1; omega)
     go_cut [] (fun wx => ∃ A2 c2, Bx wx z [.slice (some ⟨nb, 0, none⟩) 3 cN, .int .i64 tip, .slice (some ⟨cb, 0, none⟩) 3 cC, .int .i64 time] ∧ Bx wx z' [.slice none 0 0, .int .i64 0, .slice none 0 0, .int .i64 0] ∧ Bx wx zb [.int .i64 v.x.u.ep, .slice v.A v.n v.c, .slice v.F v.k v.i, .slice v.G v.l v.j, .bool v.x.up] ∧ WF w wx nb cN cb cC (ns1.set k ⟨v.x, A2, v.n, c2, v.F, v.k, v.i, v.G, v.l, v.j⟩) cs ∧ Fresh nb A2)
     case first =>
      have hz0 : ∀ w', Turn w5 w' nb → w'.cell? ⟨z, 0, none⟩ = some (.slice (some ⟨nb, 0, none⟩) 3 cN) := fun w' h => grow_cell h z0 (by intro e; injection e with e; simp only at e; omega); have hb0 : ∀ w', Turn w5 w' nb → w'.cell? ⟨zb, 0, none⟩ = some (.int .i64 v.x.u.ep) := fun w' h => grow_cell h b0 (by intro e; injection e with e; simp only at e; omega); have hb1 : ∀ w', Turn w5 w' nb → w'.cell? ⟨zb, 1, none⟩ = some (.slice v.A v.n v.c) := fun w' h => grow_cell h b1 (by intro e; injection e with e; simp only at e; omega)
      go_region_held3 (fun w' => Turn w5 w' nb)
       (((with_reducible (repeat (first | exact Turn.rfl' _ _ | exact t6 | refine Turn.put ?_ rfl _ | refine Turn.onto ?_ ((Onto.rfl' _).draw)))); done))
       (first
       | (go_at_call 81; with_reducible refine Calls.mono (CU _ (by with_reducible (first | exact Onto.rfl' _ | exact (Onto.rfl' _).draw))) ?_; rintro e w6 ⟨A2, c2, rfl, mA, ob, hc1', hc2'⟩; have b6 : Onto w5 w6 := Onto.to (by with_reducible (first | exact Onto.rfl' _ | exact (Onto.rfl' _).draw)) ob; have y0 := cellB b6 z0; have m0 := cellB b6 n0; have m1 := cellB b6 n1; have g0 := frozB b6 n0 f0; have g1 := frozB b6 n1 f1; have fA : Fresh w5.heap.size A2 := mA.fresh (by have := HSM.out.1; omega) (Onto.sz (by with_reducible (first | exact Onto.rfl' _ | exact (Onto.rfl' _).draw))); have t6 : Turn w5 w6 nb := Turn.of b6 nb)
       | fail)
      all_goals
       go_wp2_with fail
       go_meet
       have F6 := F.onto b6
       have B3 : Rx w6 nb ((ns1.map encN).set k (encN v)) := by rw [set_self (row_ns HV.out)]; exact F6.nr
       have B4 := Rx.cell1 (j := 0) B3 (encN_len ns1) hkn rfl (by omega) (.int .i64 v.x.u.ep)
       have B5 := Rx.cell1 (j := 1) B4 (encN_len ns1) hkn rfl (by omega) (.slice A2 v.n c2)
       have oA : OffN v.n nb A2 := fA.offN hnw
       have oAc : OffN v.n cb A2 := fA.offN (Bx.lt F.cr)
       have I6 := ((I.onto b6).put (p := ⟨nb, k * 5, none⟩) on1 (.int .i64 v.x.u.ep)).put (p := ⟨nb, k * 5 + 1, none⟩) on1 (.slice A2 v.n c2)
       have s6 := S.off (S.off mA.sl (p := ⟨nb, k * 5, none⟩) oA (.int .i64 v.x.u.ep)) (p := ⟨nb, k * 5 + 1, none⟩) oA (.slice A2 v.n c2)
       have F7 := F6.setN (k := k) (v := ⟨v.x, A2, v.n, c2, v.F, v.k, v.i, v.G, v.l, v.j⟩) (((Turn.rfl' _ nb).put rfl (.int .i64 v.x.u.ep)).put rfl (.slice A2 v.n c2)) (by rw [List.map_set]; exact B5) ⟨⟨s6, I6.disk, hc1', hc2'⟩, ⟨oA, on1.f, on1.g⟩, ⟨oAc, oc.f, oc.g⟩⟩
       have Z7 := ((Z2.onto b6).off1 (p := ⟨nb, k * 5, none⟩) (by show z ≠ nb; omega) (.int .i64 v.x.u.ep)).off1 (p := ⟨nb, k * 5 + 1, none⟩) (by show z ≠ nb; omega) (.slice A2 v.n c2)
       have Q7 := ((Q2.onto b6).off1 (p := ⟨nb, k * 5, none⟩) (by show z' ≠ nb; omega) (.int .i64 v.x.u.ep)).off1 (p := ⟨nb, k * 5 + 1, none⟩) (by show z' ≠ nb; omega) (.slice A2 v.n c2)
       have B7 := ((B.onto b6).off1 (p := ⟨nb, k * 5, none⟩) (by show zb ≠ nb; omega) (.int .i64 v.x.u.ep)).off1 (p := ⟨nb, k * 5 + 1, none⟩) (by show zb ≠ nb; omega) (.slice A2 v.n c2)
       have fAw : Fresh nb A2 := fun a e => Nat.le_trans (Nat.le_of_lt hnw) (fA a e)
       first
        | with_reducible exact ⟨A2, c2, Z7, Q7, B7, F7, fAw⟩
        | exact ⟨A2, c2, Z7.draw, Q7.draw, B7.draw, F7.onto ((Onto.rfl' _).draw), fAw⟩
     case rest =>
      obtain ⟨A2, c2, Z7, Q7, B7, F7, fAw⟩ := hcut
      clear z0 b0 b1 n0 n1 n2 n3 n4 f0 f1 CU Z2 Q2 B F I hw5 hnw hzw5 hbw5
      generalize wc = w5' at *
      have Z2 := Z7; have Q2 := Q7; have B := B7; have F := F7
      clear Z7 Q7 B7 F7
      have hvs : (ns1.set k ⟨v.x, A2, v.n, c2, v.F, v.k, v.i, v.G, v.l, v.j⟩)[k]? = some ⟨v.x, A2, v.n, c2, v.F, v.k, v.i, v.G, v.l, v.j⟩ := by rw [List.getElem?_set, if_pos rfl, if_pos (by simpa using hkn)]
      have HVS := Lib.hid hvs
      have hI := (F.ni _ (List.mem_of_getElem? hvs)).1
      have hsm := HSM.out
      have CF : ∀ w', Onto w5' w' → Calls Tryz.prog 82 #[.slice v.F v.k v.i] w' fun e w2 => ∃ A' c', e = .returned (.slice A' v.k c') ∧ Own w2 w'.heap.size 5 1 (.slice A' v.k c') v.k (v.x.d.safe.map encB) ∧ Onto w' w2 := fun w' h => CloneB_calls w' v.F v.k v.i _ (Nat.le_refl _) (v.x.d.safe.map encB) (hI.disk.safe.onto h) (encB_one _) (by omega)
      have CG : ∀ w', Onto w5' w' → Calls Tryz.prog 82 #[.slice v.G v.l v.j] w' fun e w2 => ∃ A' c', e = .returned (.slice A' v.l c') ∧ Own w2 w'.heap.size 5 1 (.slice A' v.l c') v.l (v.x.d.wait.map encB) ∧ Onto w' w2 := fun w' h => CloneB_calls w' v.G v.l v.j _ (Nat.le_refl _) (v.x.d.wait.map encB) (hI.disk.wait.onto h) (encB_one _) (by omega)
      clear hvs hI hsm
      go_upto_region 6 with fail
      have z0 := Z2.at_ 0 rfl; have b2 := B.at_ 2 rfl; have b3 := B.at_ 3 rfl
      obtain ⟨n0, n1, n2, n3, n4⟩ := NV.cells_at F.nr (encN_len _) (row_ns HVS.out)
      have f2 := Bx.froz F.nr (k * 5 + 2); have f3 := Bx.froz F.nr (k * 5 + 2 + 1)
      have hw5 := F.on.size; have hnw := Bx.lt F.nr; have hzw5 := Z2.lt; have hbw5 := B.lt
      have hz0 : ∀ w', Turn w5' w' nb → w'.cell? ⟨z, 0, none⟩ = some (.slice (some ⟨nb, 0, none⟩) 3 cN) := fun w' h => grow_cell h z0 (by intro e; injection e with e; simp only at e; omega); have hb2 : ∀ w', Turn w5' w' nb → w'.cell? ⟨zb, 2, none⟩ = some (.slice v.F v.k v.i) := fun w' h => grow_cell h b2 (by intro e; injection e with e; simp only at e; omega); have hb3 : ∀ w', Turn w5' w' nb → w'.cell? ⟨zb, 3, none⟩ = some (.slice v.G v.l v.j) := fun w' h => grow_cell h b3 (by intro e; injection e with e; simp only at e; omega)
      go_region_held3 (fun w' => Turn w5' w' nb)
       (((with_reducible (repeat (first | exact Turn.rfl' _ _ | exact t7 | exact t6 | refine Turn.put ?_ rfl _ | refine Turn.onto ?_ ((Onto.rfl' _).draw)))); done))
       (first
       | (go_at_call 82; with_reducible refine Calls.mono (CF _ (by with_reducible (first | exact Onto.rfl' _ | exact (Onto.rfl' _).draw))) ?_; rintro e w6 ⟨F2, i2, rfl, own1, ob⟩; have b6 : Onto w5' w6 := Onto.to (by with_reducible (first | exact Onto.rfl' _ | exact (Onto.rfl' _).draw)) ob; have y0 := cellB b6 z0; have y3 := cellB b6 b3; have fF : Fresh w5'.heap.size F2 := own1.fresh (Onto.sz (by with_reducible (first | exact Onto.rfl' _ | exact (Onto.rfl' _).draw))); have t6 : Turn w5' w6 nb := Turn.of b6 nb)
       | (go_at_call 82; with_reducible refine Calls.mono (CG _ (b6.to (by with_reducible (first | exact Onto.rfl' _ | exact (Onto.rfl' _).draw)))) ?_; rintro e w7 ⟨G2, j2, rfl, own2, ob7⟩; have b67 : Onto w6 w7 := Onto.to (by with_reducible (first | exact Onto.rfl' _ | exact (Onto.rfl' _).draw)) ob7; have b7 : Onto w5' w7 := Onto.to b6 b67; have x0 := cellB b7 z0; have m2 := cellB b7 n2; have m3 := cellB b7 n3; have g2 := frozB b7 n2 f2; have g3 := frozB b7 n3 f3; have fG : Fresh w5'.heap.size G2 := own2.fresh (by have := b6.size; have := Onto.sz (w := w6) (by with_reducible (first | exact Onto.rfl' _ | exact (Onto.rfl' _).draw)); omega); have t7 : Turn w5' w7 nb := Turn.of b7 nb)
       | fail)
      all_goals
       have hkn2 : k < ((ns1.set k ⟨v.x, A2, v.n, c2, v.F, v.k, v.i, v.G, v.l, v.j⟩).map encN).length := by simpa using hkn
       have F6 := F.onto b7
       have B3 : Rx w7 nb (((ns1.set k ⟨v.x, A2, v.n, c2, v.F, v.k, v.i, v.G, v.l, v.j⟩).map encN).set k (encN ⟨v.x, A2, v.n, c2, v.F, v.k, v.i, v.G, v.l, v.j⟩)) := by rw [set_self (row_ns HVS.out)]; exact F6.nr
       have B4 := Rx.cell1 (j := 2) B3 (encN_len _) hkn2 rfl (by omega) (.slice F2 v.k i2)
       have B5 := Rx.cell1 (j := 3) B4 (encN_len _) hkn2 rfl (by omega) (.slice G2 v.l j2)
       have oF : OffN v.k nb F2 := fF.offN hnw
       have oG : OffN v.l nb G2 := fG.offN hnw
       have oFc : OffN v.k cb F2 := fF.offN (Bx.lt F.cr)
       have oGc : OffN v.l cb G2 := fG.offN (Bx.lt F.cr)
       have hI := F6.ni _ (List.mem_of_getElem? HVS.out)
       have s1 := S.off (S.off (S.onto own1.sl b67) (p := ⟨nb, k * 5 + 2, none⟩) oF (.slice F2 v.k i2)) (p := ⟨nb, k * 5 + 2 + 1, none⟩) oF (.slice G2 v.l j2)
       have s2 := S.off (S.off own2.sl (p := ⟨nb, k * 5 + 2, none⟩) oG (.slice F2 v.k i2)) (p := ⟨nb, k * 5 + 2 + 1, none⟩) oG (.slice G2 v.l j2)
       have s3 := S.off (S.off hI.1.cells (p := ⟨nb, k * 5 + 2, none⟩) hI.2.1.a (.slice F2 v.k i2)) (p := ⟨nb, k * 5 + 2 + 1, none⟩) hI.2.1.a (.slice G2 v.l j2)
       have F7 := F6.setN (k := k) (v := ⟨v.x, A2, v.n, c2, F2, v.k, i2, G2, v.l, j2⟩) (((Turn.rfl' _ nb).put rfl (.slice F2 v.k i2)).put rfl (.slice G2 v.l j2)) (by rw [List.map_set]; exact B5) ⟨⟨s3, ⟨s1, s2, own1.le_cap, own1.cap_max, own2.le_cap, own2.cap_max⟩, hI.1.le, hI.1.max⟩, ⟨hI.2.1.a, oF, oG⟩, ⟨hI.2.2.a, oFc, oGc⟩⟩
       rw [List.set_set] at F7
       have Z7 := ((Z2.onto b7).off1 (p := ⟨nb, k * 5 + 2, none⟩) (by show z ≠ nb; omega) (.slice F2 v.k i2)).off1 (p := ⟨nb, k * 5 + 2 + 1, none⟩) (by show z ≠ nb; omega) (.slice G2 v.l j2)
       have Q7 := ((Q2.onto b7).off1 (p := ⟨nb, k * 5 + 2, none⟩) (by show z' ≠ nb; omega) (.slice F2 v.k i2)).off1 (p := ⟨nb, k * 5 + 2 + 1, none⟩) (by show z' ≠ nb; omega) (.slice G2 v.l j2)
       have fFw : Fresh nb F2 := fun a e => Nat.le_trans (Nat.le_of_lt hnw) (fF a e)
       have fGw : Fresh nb G2 := fun a e => Nat.le_trans (Nat.le_of_lt hnw) (fG a e)
       clear hz0 hb2 hb3 t6 t7 z0 b2 b3 n0 n1 n2 n3 n4 f2 f3 CF CG Z2 Q2 B F y0 y3 x0 m2 m3 g2 g3 b6 b7 b67
       go_wp2_with fail
       go_roundg (3 - (k + 1))
       case measure => omega
       case rel =>
        refine ⟨k + 1, ns1.set k ⟨v.x, A2, v.n, c2, F2, v.k, i2, G2, v.l, j2⟩, by omega, Nat.le_refl _, by go_num, Lib.hid ?_, Z7, Q7, F7, Lib.hid ?_, Lib.hid ?_⟩
        · rw [← HNS.out]
          simp only [nods, List.map_set]
          obtain ⟨h2, h3⟩ := List.getElem?_eq_some_iff.1 HV.out
          rw [← h3]
          have : (ns1.map NV.x).set k ((ns1.map NV.x)[k]'(by simpa using h2)) = ns1.map NV.x := List.set_getElem_self _
          simpa using this
        · intro j u hj hu
          rw [List.getElem?_set] at hu
          by_cases hjk : k = j
          · rw [if_pos hjk, if_pos (by simpa using hkn)] at hu
            injection hu with hu
            subst hu
            exact ⟨fAw, fFw, fGw⟩
          · rw [if_neg hjk] at hu
            exact HF.out j u (by omega) hu
        · intro u hu
          rcases List.mem_or_eq_of_mem_set hu with hu | rfl
          · exact HM.out u hu
          · exact HSM.out
   · obtain rfl : k = 3 := by omega
     have hfr : ∀ v ∈ ns1, v.fresh nb := fun v hv => by
      obtain ⟨i, hi, rfl⟩ := List.getElem_of_mem hv
      have h3 := F.nl
      exact HF.out i _ (by omega) (List.getElem?_eq_getElem hi)
     have HFR := Lib.hid hfr
     clear hfr HF HM
     have z2 := Z2.at_ 2 rfl
     go_wp2_with fail
     clear z2
     go_loopg [49] 3 (fun g s49 wr => ∃ (k : Nat) (cs1 : List CV), k ≤ 3 ∧ 3 - k ≤ g ∧ s49 = .int .i64 k ∧ Hid (clis cs1 = clis cs) ∧ Bx wr z [.slice (some ⟨nb, 0, none⟩) 3 cN, .int .i64 tip, .slice (some ⟨cb, 0, none⟩) 3 cC, .int .i64 time] ∧ Bx wr z' [.slice none 0 0, .int .i64 0, .slice none 0 0, .int .i64 0] ∧ WF w wr nb cN cb cC ns1 cs1 ∧ Hid (∀ j v, j < k → cs1[j]? = some v → v.fresh nb) ∧ Hid (∀ v ∈ cs1, v.n ≤ 1000000 ∧ v.m ≤ 1000000))
     case atStart => exact ⟨0, cs, by omega, by omega, rfl, rfl, Z2, Q2, F, fun j v hj => absurd hj (Nat.not_lt_zero _), HS.out.c⟩
     case round =>
      clear Z2 Q2 F
      obtain ⟨k, cs1, hk, hg, rfl, HCS, Z2, Q2, F, HF, HM⟩ := hrel
      by_cases hlt : k < 3
      · obtain ⟨v, hv, I, on1, oc, hcells⟩ := F.atC hlt
        have hsm := HM.out v (List.mem_of_getElem? hv)
        have HV := Lib.hid hv; have HSM := Lib.hid hsm
        have hkn : k < (cs1.map encC).length := by rw [List.length_map, F.cl]; exact hlt
        clear hv hsm hcells
        obtain ⟨c0, c1, c2, c3, c4, c5, c6, c7, c8, c9, c10, c11⟩ := CV.cells_at F.cr (encC_len cs1) (row_cs HV.out)
        go_upto_region 11 with fail
        have b : Onto wr ((wr.alloc (Obj.cells #[.int .i64 0, .int .i64 0, .int .i64 0, .int .i64 0, .int .i64 0, .int .i64 0, .int .i64 0, .int .i64 0, .int .i64 0, .int .i64 0, .slice none 0 0, .slice none 0 0] 41)).setCells wr.heap.size 0 [.int .i64 v.x.epoch, .int .i64 v.x.doing, .int .i64 v.x.e.kind, .int .i64 v.x.e.job, .int .i64 v.x.e.every, .int .i64 v.x.e.time, .int .i64 v.x.e.client, .int .i64 v.x.at_, .int .i64 v.x.link, .int .i64 v.x.played, .slice v.A v.n v.c, .slice v.G v.m v.d]) := Onto.puts (Nat.le_refl _) ((Onto.rfl' wr).new _)
        have B : Bx ((wr.alloc (Obj.cells #[.int .i64 0, .int .i64 0, .int .i64 0, .int .i64 0, .int .i64 0, .int .i64 0, .int .i64 0, .int .i64 0, .int .i64 0, .int .i64 0, .slice none 0 0, .slice none 0 0] 41)).setCells wr.heap.size 0 [.int .i64 v.x.epoch, .int .i64 v.x.doing, .int .i64 v.x.e.kind, .int .i64 v.x.e.job, .int .i64 v.x.e.every, .int .i64 v.x.e.time, .int .i64 v.x.e.client, .int .i64 v.x.at_, .int .i64 v.x.link, .int .i64 v.x.played, .slice v.A v.n v.c, .slice v.G v.m v.d]) wr.heap.size [.int .i64 v.x.epoch, .int .i64 v.x.doing, .int .i64 v.x.e.kind, .int .i64 v.x.e.job, .int .i64 v.x.e.every, .int .i64 v.x.e.time, .int .i64 v.x.e.client, .int .i64 v.x.at_, .int .i64 v.x.link, .int .i64 v.x.played, .slice v.A v.n v.c, .slice v.G v.m v.d] := Bx.put (us := [.int .i64 v.x.epoch, .int .i64 v.x.doing, .int .i64 v.x.e.kind, .int .i64 v.x.e.job, .int .i64 v.x.e.every, .int .i64 v.x.e.time, .int .i64 v.x.e.client, .int .i64 v.x.at_, .int .i64 v.x.link, .int .i64 v.x.played, .slice v.A v.n v.c, .slice v.G v.m v.d]) (vs := [.int .i64 0, .int .i64 0, .int .i64 0, .int .i64 0, .int .i64 0, .int .i64 0, .int .i64 0, .int .i64 0, .int .i64 0, .int .i64 0, .slice none 0 0, .slice none 0 0]) (Bx.made _ _ _) rfl
        have hzr := Z2.lt; have hnr := Bx.lt F.nr; have hcr := Bx.lt F.cr; have hqr := Q2.lt
        replace Z2 := Z2.onto b; replace Q2 := Q2.onto b; replace F := F.onto b; replace I := I.onto b
        clear b c0 c1 c2 c3 c4 c5 c6 c7 c8 c9 c10 c11
        try change Code.wp _ _ _ _ ((wr.alloc (Obj.cells #[.int .i64 0, .int .i64 0, .int .i64 0, .int .i64 0, .int .i64 0, .int .i64 0, .int .i64 0, .int .i64 0, .int .i64 0, .int .i64 0, .slice none 0 0, .slice none 0 0] 41)).setCells wr.heap.size 0 [.int .i64 v.x.epoch, .int .i64 v.x.doing, .int .i64 v.x.e.kind, .int .i64 v.x.e.job, .int .i64 v.x.e.every, .int .i64 v.x.e.time, .int .i64 v.x.e.client, .int .i64 v.x.at_, .int .i64 v.x.link, .int .i64 v.x.played, .slice v.A v.n v.c, .slice v.G v.m v.d])
        generalize ((wr.alloc (Obj.cells #[.int .i64 0, .int .i64 0, .int .i64 0, .int .i64 0, .int .i64 0, .int .i64 0, .int .i64 0, .int .i64 0, .int .i64 0, .int .i64 0, .slice none 0 0, .slice none 0 0] 41)).setCells wr.heap.size 0 [.int .i64 v.x.epoch, .int .i64 v.x.doing, .int .i64 v.x.e.kind, .int .i64 v.x.e.job, .int .i64 v.x.e.every, .int .i64 v.x.e.time, .int .i64 v.x.e.client, .int .i64 v.x.at_, .int .i64 v.x.link, .int .i64 v.x.played, .slice v.A v.n v.c, .slice v.G v.m v.d]) = w5 at *
        generalize wr.heap.size = zb at *
        have z2 := Z2.at_ 2 rfl
        have b0 := B.at_ 0 rfl; have b1 := B.at_ 1 rfl; have b2 := B.at_ 2 rfl; have b3 := B.at_ 3 rfl; have b4 := B.at_ 4 rfl; have b5 := B.at_ 5 rfl; have b6 := B.at_ 6 rfl; have b7 := B.at_ 7 rfl; have b8 := B.at_ 8 rfl; have b9 := B.at_ 9 rfl; have b10 := B.at_ 10 rfl; have b11 := B.at_ 11 rfl
        have hw5 := F.on.size; have hcw := Bx.lt F.cr; have hnw5 : nb < w5.heap.size := Bx.lt F.nr; have hzw5 := Z2.lt; have hbw5 := B.lt
        have hz2 : ∀ w', Turn w5 w' cb → w'.cell? ⟨z, 2, none⟩ = some (.slice (some ⟨cb, 0, none⟩) 3 cC) := fun w' h => grow_cell h z2 (by intro e; injection e with e; simp only at e; omega); have hb0 : ∀ w', Turn w5 w' cb → w'.cell? ⟨zb, 0, none⟩ = some (.int .i64 v.x.epoch) := fun w' h => grow_cell h b0 (by intro e; injection e with e; simp only at e; omega); have hb1 : ∀ w', Turn w5 w' cb → w'.cell? ⟨zb, 1, none⟩ = some (.int .i64 v.x.doing) := fun w' h => grow_cell h b1 (by intro e; injection e with e; simp only at e; omega); have hb2 : ∀ w', Turn w5 w' cb → w'.cell? ⟨zb, 2, none⟩ = some (.int .i64 v.x.e.kind) := fun w' h => grow_cell h b2 (by intro e; injection e with e; simp only at e; omega); have hb3 : ∀ w', Turn w5 w' cb → w'.cell? ⟨zb, 3, none⟩ = some (.int .i64 v.x.e.job) := fun w' h => grow_cell h b3 (by intro e; injection e with e; simp only at e; omega); have hb4 : ∀ w', Turn w5 w' cb → w'.cell? ⟨zb, 4, none⟩ = some (.int .i64 v.x.e.every) := fun w' h => grow_cell h b4 (by intro e; injection e with e; simp only at e; omega); have hb5 : ∀ w', Turn w5 w' cb → w'.cell? ⟨zb, 5, none⟩ = some (.int .i64 v.x.e.time) := fun w' h => grow_cell h b5 (by intro e; injection e with e; simp only at e; omega); have hb6 : ∀ w', Turn w5 w' cb → w'.cell? ⟨zb, 6, none⟩ = some (.int .i64 v.x.e.client) := fun w' h => grow_cell h b6 (by intro e; injection e with e; simp only at e; omega); have hb7 : ∀ w', Turn w5 w' cb → w'.cell? ⟨zb, 7, none⟩ = some (.int .i64 v.x.at_) := fun w' h => grow_cell h b7 (by intro e; injection e with e; simp only at e; omega); have hb8 : ∀ w', Turn w5 w' cb → w'.cell? ⟨zb, 8, none⟩ = some (.int .i64 v.x.link) := fun w' h => grow_cell h b8 (by intro e; injection e with e; simp only at e; omega); have hb9 : ∀ w', Turn w5 w' cb → w'.cell? ⟨zb, 9, none⟩ = some (.int .i64 v.x.played) := fun w' h => grow_cell h b9 (by intro e; injection e with e; simp only at e; omega); have hb10 : ∀ w', Turn w5 w' cb → w'.cell? ⟨zb, 10, none⟩ = some (.slice v.A v.n v.c) := fun w' h => grow_cell h b10 (by intro e; injection e with e; simp only at e; omega); have hb11 : ∀ w', Turn w5 w' cb → w'.cell? ⟨zb, 11, none⟩ = some (.slice v.G v.m v.d) := fun w' h => grow_cell h b11 (by intro e; injection e with e; simp only at e; omega)
        clear z2 b0 b1 b2 b3 b4 b5 b6 b7 b8 b9 b10 b11
        have hlen : k * 12 + 12 ≤ (cs1.map encC).flatten.length := by rw [flatten_length (encC_len cs1), List.length_map, F.cl]; omega
        go_region_held3 (fun w' => Turn w5 w' cb)
         (((with_reducible (repeat (first | exact Turn.rfl' _ _ | exact t6 | refine Turn.puts ?_ | refine Turn.onto ?_ ((Onto.rfl' _).draw)))); done))
         (first
         | (go_at_call 83; refine Calls.mono (ClCopy_calls v.x.epoch v.x.doing v.x.at_ v.x.link v.x.played v.x.e v.A v.G v.n v.c v.m v.d v.x.b _ (I.jobs.onto (by with_reducible (first | exact Onto.rfl' _ | exact (Onto.rfl' _).draw))) (I.rung.onto (by with_reducible (first | exact Onto.rfl' _ | exact (Onto.rfl' _).draw))) HSM.out.1 HSM.out.2) ?_; rintro e w6 ⟨A1, k1, A2, k2, rfl, s1, s2, ob, hk1, hk2, f1, f2⟩; have bb : Onto w5 w6 := Onto.to (by with_reducible (first | exact Onto.rfl' _ | exact (Onto.rfl' _).draw)) ob; have t6 : Turn w5 w6 cb := Turn.of bb cb; have hst : w6.there cb (k * 12) 12 := Bx.thereM (Bx.onto F.cr bb) hlen)
         | fail)
        have F6 := F.onto bb
        have o1 : OffN v.n cb A1 := f1.offN hcw
        have o2 : OffN v.m cb A2 := f2.offN hcw
        have o1n : OffN v.n nb A1 := f1.offN hnw5
        have o2n : OffN v.m nb A2 := f2.offN hnw5
        have F7 := F6.setC (k := k) (v := ⟨v.x, A1, v.n, k1, A2, v.m, k2⟩) ((Turn.rfl' _ cb).puts (us := [.int .i64 v.x.epoch, .int .i64 v.x.doing, .int .i64 v.x.e.kind, .int .i64 v.x.e.job, .int .i64 v.x.e.every, .int .i64 v.x.e.time, .int .i64 v.x.e.client, .int .i64 v.x.at_, .int .i64 v.x.link, .int .i64 v.x.played, .slice A1 v.n k1, .slice A2 v.m k2]) (o := k * 12)) (by rw [List.map_set]; exact Rx.put F6.cr (encC_len cs1) (row_cs HV.out) rfl) ⟨⟨put_S (w := w6) o1 s1, put_S (w := w6) o2 s2, hk1, hk2⟩, ⟨o1n, o2n⟩, ⟨o1, o2⟩⟩
        have Z7 := (Z2.onto bb).off (b := cb) (o := k * 12) (us := [.int .i64 v.x.epoch, .int .i64 v.x.doing, .int .i64 v.x.e.kind, .int .i64 v.x.e.job, .int .i64 v.x.e.every, .int .i64 v.x.e.time, .int .i64 v.x.e.client, .int .i64 v.x.at_, .int .i64 v.x.link, .int .i64 v.x.played, .slice A1 v.n k1, .slice A2 v.m k2]) (by show z ≠ cb; omega)
        have Q7 := (Q2.onto bb).off (b := cb) (o := k * 12) (us := [.int .i64 v.x.epoch, .int .i64 v.x.doing, .int .i64 v.x.e.kind, .int .i64 v.x.e.job, .int .i64 v.x.e.every, .int .i64 v.x.e.time, .int .i64 v.x.e.client, .int .i64 v.x.at_, .int .i64 v.x.link, .int .i64 v.x.played, .slice A1 v.n k1, .slice A2 v.m k2]) (by show z' ≠ cb; omega)
        have f1w : Fresh nb A1 := fun a e => Nat.le_trans (Nat.le_of_lt hnw5) (f1 a e)
        have f2w : Fresh nb A2 := fun a e => Nat.le_trans (Nat.le_of_lt hnw5) (f2 a e)
        clear Z2 Q2 B F F6 I t6 hst s1 s2 bb hz2 hb0 hb1 hb2 hb3 hb4 hb5 hb6 hb7 hb8 hb9 hb10 hb11
        try change Exit.inBlock _ _ _ _ (w6.setCells cb (k * 12) [.int .i64 v.x.epoch, .int .i64 v.x.doing, .int .i64 v.x.e.kind, .int .i64 v.x.e.job, .int .i64 v.x.e.every, .int .i64 v.x.e.time, .int .i64 v.x.e.client, .int .i64 v.x.at_, .int .i64 v.x.link, .int .i64 v.x.played, .slice A1 v.n k1, .slice A2 v.m k2])
        generalize (w6.setCells cb (k * 12) [.int .i64 v.x.epoch, .int .i64 v.x.doing, .int .i64 v.x.e.kind, .int .i64 v.x.e.job, .int .i64 v.x.e.every, .int .i64 v.x.e.time, .int .i64 v.x.e.client, .int .i64 v.x.at_, .int .i64 v.x.link, .int .i64 v.x.played, .slice A1 v.n k1, .slice A2 v.m k2]) = w7 at *
        go_wp2_with fail
        go_roundg (3 - (k + 1))
        case measure => omega
        case rel =>
         refine ⟨k + 1, cs1.set k ⟨v.x, A1, v.n, k1, A2, v.m, k2⟩, by omega, Nat.le_refl _, by go_num, Lib.hid ?_, Z7, Q7, F7, Lib.hid ?_, Lib.hid ?_⟩
         · rw [← HCS.out]
           simp only [clis, List.map_set]
           obtain ⟨h2, h3⟩ := List.getElem?_eq_some_iff.1 HV.out
           rw [← h3]
           have : (cs1.map CV.x).set k ((cs1.map CV.x)[k]'(by simpa using h2)) = cs1.map CV.x := List.set_getElem_self _
           simpa using this
         · intro j u hj hu
           rw [List.getElem?_set] at hu
           by_cases hjk : k = j
           · rw [if_pos hjk, if_pos (by simpa using hkn)] at hu
             injection hu with hu
             subst hu
             exact ⟨f1w, f2w⟩
           · rw [if_neg hjk] at hu
             exact HF.out j u (by omega) hu
         · intro u hu
           rcases List.mem_or_eq_of_mem_set hu with hu | rfl
           · exact HM.out u hu
           · exact HSM.out
      · obtain rfl : k = 3 := by omega
        have hfc : ∀ v ∈ cs1, v.fresh nb := fun v hv => by
         obtain ⟨i, hi, rfl⟩ := List.getElem_of_mem hv
         have h3 := F.cl
         exact HF.out i _ (by omega) (List.getElem?_eq_getElem hi)
        have HFC := Lib.hid hfc
        clear hfc HF HM
        have z0 := Z2.at_ 0 rfl; have z1 := Z2.at_ 1 rfl; have z2 := Z2.at_ 2 rfl; have z3 := Z2.at_ 3 rfl
        have q0 := Q2.at_ 0 rfl; have q1 := Q2.at_ 1 rfl; have q2 := Q2.at_ 2 rfl; have q3 := Q2.at_ 3 rfl
        have g0 := Q2.froz 0; have g1 := Q2.froz 1; have g2 := Q2.froz 2; have g3 := Q2.froz 3
        have hnr := Bx.lt F.nr; have hcr := Bx.lt F.cr
        go_wp2_with fail
        have hzn : z' ≠ nb := by omega
        have hzc : z' ≠ cb := by omega
        have hzlt : z' < nb := by omega
        have hwn := F.hn
        have F9 := F.turn (z := z') ((((Turn.rfl' wr z').put (p := ⟨z', 0, none⟩) rfl (.slice (some ⟨nb, 0, none⟩) 3 cN)).put (p := ⟨z', 1, none⟩) rfl (.int .i64 tip)).put (p := ⟨z', 2, none⟩) rfl (.slice (some ⟨cb, 0, none⟩) 3 cC) |>.put (p := ⟨z', 3, none⟩) rfl (.int .i64 time)) hzw' hzn hzc (fun v hv => (HFR.out v hv).off hzlt) (fun v hv => (HFC.out v hv).off hzlt)
        refine bodyPost_ret (v := .agg #[.slice (some ⟨nb, 0, none⟩) 3 cN, .int .i64 tip, .slice (some ⟨cb, 0, none⟩) 3 cC, .int .i64 time]) (by simp [results, Tryz.results44, go_sem, q0, q1, q2, q3, g0, g1, g2, g3]) rfl ?_
        refine ⟨nb, cN, cb, cC, ns1, cs1, rfl, HNS.out, HCS.out, F9, fun v hv => ?_, fun v hv => ?_⟩
        · exact ⟨fun a e => Nat.le_trans hwn ((HFR.out v hv).a a e), fun a e => Nat.le_trans hwn ((HFR.out v hv).f a e), fun a e => Nat.le_trans hwn ((HFR.out v hv).g a e)⟩
        · exact ⟨fun a e => Nat.le_trans hwn ((HFC.out v hv).a a e), fun a e => Nat.le_trans hwn ((HFC.out v hv).g a e)⟩
end
section
set_option linter.unusedSimpArgs false
set_option linter.unusedVariables false
open Go.RowKit
def WBox (w : World) (e : Nat) : Prop := ∃ A n c t C m d s T fr, w.heap[e]? = some (.cells #[.slice A n c, .int .i64 t, .slice C m d, .int .i64 s] T fr)
section
variable {w w' : World} {e k n : Nat} {A : Option Addr} {rows : List (List Value)}
theorem WBox.onto (h : WBox w e) (b : Onto w w') : WBox w' e := by
 obtain ⟨A, n, c, t, C, m, d, s, T, fr, h⟩ := h
 exact ⟨A, n, c, t, C, m, d, s, T, fr, (b.block e (Array.getElem?_eq_some_iff.1 h).1).trans h⟩
theorem WBox.made (w : World) (A C : Option Addr) (n c m d : Nat) (t s : Int) (T : TypeId) : WBox (w.alloc (.cells #[.slice A n c, .int .i64 t, .slice C m d, .int .i64 s] T)) w.heap.size :=
 ⟨A, n, c, t, C, m, d, s, T, _, heap_alloc_new w _⟩
theorem WBox.turn {z : Nat} (h : WBox w e) (t : Turn w w' z) (hne : e ≠ z) : WBox w' e := by
 obtain ⟨A, n, c, t0, C, m, d, s, T, fr, h⟩ := h
 exact ⟨A, n, c, t0, C, m, d, s, T, fr, (t.block e (Array.getElem?_eq_some_iff.1 h).1 (by intro e'; injection e' with e'; exact hne e')).trans h⟩
theorem WBox.gr {row : Option Nat} (h : WBox w e) (t : w.grownBy w' row) (hne : some e ≠ row) : WBox w' e := by
 obtain ⟨A, n, c, t0, C, m, d, s, T, fr, h⟩ := h
 exact ⟨A, n, c, t0, C, m, d, s, T, fr, (t.block e (Array.getElem?_eq_some_iff.1 h).1 hne).trans h⟩
theorem NV.In.gr {row : Option Nat} {v : NV} (h : v.In w) (b : w.grownBy w' row) (f : ∀ g, row = some g → v.off g) : v.In w' :=
 ⟨h.cells.grown b (fun g e => (f g e).a), h.disk.grown b (fun g e => (f g e).f) (fun g e => (f g e).g), h.le, h.max⟩
theorem CV.In.gr {row : Option Nat} {v : CV} (h : v.In w) (b : w.grownBy w' row) (f : ∀ g, row = some g → v.off g) : v.In w' :=
 ⟨h.jobs.grown b (fun g e => (f g e).a), h.rung.grown b (fun g e => (f g e).g), h.le, h.le'⟩
structure Away (b nb cb : Nat) (ns : List NV) (cs : List CV) : Prop where
 n : nb ≠ b
 c : cb ≠ b
 ni : ∀ v ∈ ns, v.off b
 ci : ∀ v ∈ cs, v.off b
theorem WR.gr {row : Option Nat} {nb cb : Nat} {ns : List NV} {cs : List CV} (R : WR w (some ⟨nb, 0, none⟩) 3 (some ⟨cb, 0, none⟩) 3 ns cs) (t : w.grownBy w' row) (h : ∀ b, row = some b → Away b nb cb ns cs) : WR w' (some ⟨nb, 0, none⟩) 3 (some ⟨cb, 0, none⟩) 3 ns cs :=
 ⟨R.nr.grown t (fun g e => by intro _ a ha; injection ha with ha; subst ha; exact (h g e).n), R.cr.grown t (fun g e => by intro _ a ha; injection ha with ha; subst ha; exact (h g e).c), fun v hv => (R.ni v hv).gr t (fun g e => (h g e).ni v hv), fun v hv => (R.ci v hv).gr t (fun g e => (h g e).ci v hv)⟩
theorem WR.far {nb cb : Nat} {ns : List NV} {cs : List CV} (R : WR w (some ⟨nb, 0, none⟩) 3 (some ⟨cb, 0, none⟩) 3 ns cs) {b : Nat} (hb : w.heap.size ≤ b) : Away b nb cb ns cs :=
 ⟨fun e => R.nr.offN hb (by omega) _ rfl e, fun e => R.cr.offN hb (by omega) _ rfl e, fun v hv => (R.ni v hv).away hb, fun v hv => (R.ci v hv).away hb⟩
theorem WBox.store (h : WBox w e) (A C : Option Addr) (n c m d : Nat) (t s : Int) : WBox ((((w.setCell ⟨e, 0, none⟩ (.slice A n c)).setCell ⟨e, 1, none⟩ (.int .i64 t)).setCell ⟨e, 2, none⟩ (.slice C m d)).setCell ⟨e, 3, none⟩ (.int .i64 s)) e := by
 obtain ⟨A', n', c', t', C', m', d', s', T, fr, h⟩ := h
 refine ⟨A, n, c, t, C, m, d, s, T, fr, ?_⟩
 simp [World.setCell, Array.getElem?_modify, h]
theorem WBox.two (h : WBox w e) {o : Nat} {a b : Int} (h1 : w.cell? ⟨e, o, none⟩ = some (.int .i64 a)) (h2 : w.cell? ⟨e, o + 1, none⟩ = some (.int .i64 b)) : False := by
 obtain ⟨A, n, c, t, C, m, d, s, T, fr, h⟩ := h
 rw [cell_of_row w e _ _ _ _ h] at h1 h2
 match o with
 | 0 => simp at h1
 | 1 => simp at h2
 | 2 => simp at h1
 | 3 => simp at h2
 | o + 4 => simp at h1
theorem WBox.byte (h : WBox w e) {o : Nat} {a : Int} (h1 : w.cell? ⟨e, o, none⟩ = some (.int .u8 a)) : False := by
 obtain ⟨A, n, c, t, C, m, d, s, T, fr, h⟩ := h
 rw [cell_of_row w e _ _ _ _ h] at h1
 match o with
 | 0 => simp at h1
 | 1 => simp at h1
 | 2 => simp at h1
 | 3 => simp at h1
 | o + 4 => simp at h1
theorem WBox.off2 (h : WBox w e) (hs : S w k A n rows) (hr : ∀ r ∈ rows, ∃ a b, r[0]? = some (.int .i64 a) ∧ r[1]? = some (.int .i64 b)) : OffN n e A := fun hn a ea hb => by
 obtain ⟨b, off, e', _, hc⟩ := hs.2.2 hn
 rw [ea] at e'; injection e' with e'; subst e'
 simp only at hb; subst hb
 have h0 : 0 < rows.length := by rw [hs.1]; exact hn
 obtain ⟨x, y, h1, h2⟩ := hr rows[0] (List.getElem_mem h0)
 have g1 := hc 0 0 _ _ (List.getElem?_eq_getElem h0) h1
 have g2 := hc 0 1 _ _ (List.getElem?_eq_getElem h0) h2
 simp only [Nat.zero_mul, Nat.add_zero] at g1 g2
 exact h.two g1 g2
theorem WBox.off1 (h : WBox w e) {l : List UInt8} (hs : S w 1 A n (l.map encB)) : OffN n e A := fun hn a ea hb => by
 obtain ⟨b, off, e', _, hc⟩ := hs.2.2 hn
 rw [ea] at e'; injection e' with e'; subst e'
 simp only at hb; subst hb
 have hl : l.length = n := by have := hs.1; simpa using this
 have h0 : 0 < l.length := by omega
 have g1 := hc 0 0 (encB l[0]) _ (by rw [List.getElem?_map, List.getElem?_eq_getElem h0]; rfl) rfl
 exact h.byte g1
theorem WBox.node (h : WBox w e) {v : NV} (I : v.In w) : v.off e :=
 ⟨h.off2 I.cells (fun r hr => by obtain ⟨x, _, rfl⟩ := List.mem_map.1 hr; exact ⟨_, _, rfl, rfl⟩), h.off1 I.disk.safe, h.off1 I.disk.wait⟩
theorem WBox.wr (h : WBox w e) {nb cb : Nat} {ns : List NV} {cs : List CV} (R : WR w (some ⟨nb, 0, none⟩) 3 (some ⟨cb, 0, none⟩) 3 ns cs) (t : Turn w w' e) (hn : nb ≠ e) (hc : cb ≠ e) (hN : ∀ v ∈ ns, v.off e) (hC : ∀ v ∈ cs, v.off e) : WR w' (some ⟨nb, 0, none⟩) 3 (some ⟨cb, 0, none⟩) 3 ns cs :=
 ⟨R.nr.grown t (fun g e' => by injection e' with e'; subst e'; intro _ a ha; injection ha with ha; subst ha; exact hn), R.cr.grown t (fun g e' => by injection e' with e'; subst e'; intro _ a ha; injection ha with ha; subst ha; exact hc), fun v hv => (R.ni v hv).grown t (hN v hv), fun v hv => (R.ci v hv).grown t (hC v hv)⟩
theorem WBox.client (h : WBox w e) {v : CV} (I : v.In w) : v.off e :=
 ⟨h.off2 I.jobs (fun r hr => by obtain ⟨x, _, rfl⟩ := List.mem_map.1 hr; exact ⟨_, _, rfl, rfl⟩), h.off2 I.rung (fun r hr => by obtain ⟨x, _, rfl⟩ := List.mem_map.1 hr; exact ⟨_, _, rfl, rfl⟩)⟩
end
end
section
set_option linter.unusedSimpArgs false
set_option linter.unusedVariables false
open Go.RowKit
def NV.uv (v : NV) : UV := ⟨v.x.u.ep, v.A, v.n, v.c, v.x.u.cells⟩
theorem uv_unis (ns : List NV) : unis (ns.map NV.uv) = unitsN (nods ns) := by simp [unis, unitsN, nods, Function.comp_def, NV.uv, UV.u]
theorem WR.us {w : World} {A C : Option Addr} {n m : Nat} {ns : List NV} {cs : List CV} (h : WR w A n C m ns cs) {B : Option Addr} {b : Nat} (hr : S w 2 B b ((ns.map NV.uv).map encU)) : Us w B b (ns.map NV.uv) :=
 ⟨hr, fun v hv => by obtain ⟨u, hu, rfl⟩ := List.mem_map.1 hv; exact (h.ni u hu).cells, fun v hv => by obtain ⟨u, hu, rfl⟩ := List.mem_map.1 hv; exact ⟨(h.ni u hu).le, (h.ni u hu).max⟩⟩
theorem uinfo : (Tryz.prog.info? 44).map (fun i => (i.zero, i.size, i.bytes)) = some (some (.agg #[.int .i64 0, .slice none 0 0]), 2, 32) := by kernel_rfl
set_option maxHeartbeats 4000000 in
set_option maxRecDepth 100000 in
theorem units_calls (A : Option Addr) (n c : Nat) (tip : Int) (C : Option Addr) (m d : Nat) (time : Int) (ns : List NV) (cs : List CV) (w : World) (R : WR w A n C m ns cs) (hn : n ≤ 100) :
    Calls Tryz.prog 107 #[.agg #[.slice A n c, .int .i64 tip, .slice C m d, .int .i64 time]] w fun e w' => ∃ B b y, e = .returned (.slice B b y) ∧ Us w' B b (ns.map NV.uv) ∧ Onto w w' := by
 have hl := R.nlen
 have HL := Lib.hid hl
 clear hl
 go_enter Tryz.func107, Tryz.ntmps107
 go_wp2_with fail
 go_loopg [3, 9] n (fun g s3 s9 wr => ∃ (k y : Nat) (B : Option Addr), k ≤ n ∧ n - k ≤ g ∧ s9 = .int .i64 k ∧ s3 = .slice B k y ∧ Hid (Own wr w.heap.size 44 2 (.slice B k y) k ((ns.take k).map fun v => encU v.uv)) ∧ Onto w wr)
 case atStart => exact ⟨0, 0, none, Nat.zero_le _, Nat.le_refl _, rfl, rfl, Own.nil _ _ _ _, by repeat (first | exact Onto.rfl' _ | refine Onto.new ?_ _)⟩
 case round =>
  obtain ⟨k, y, B, hk, hg, rfl, rfl, HO, on⟩ := hrel
  have hol := HO.out.lt
  by_cases hlt : k < n
  · obtain ⟨b, off, v, rfl, hb, hv, vi, d0, d1, d2, d3, d4⟩ := (R.onto on).atN hlt
    have hsw := on.size
    obtain ⟨i0, hi0, hzz0, hzz1, hzz2⟩ := info_parts uinfo
    have HI0 := Lib.hid hi0; have HZ0 := Lib.hid hzz0; have HZ1 := Lib.hid hzz1; have HZ2 := Lib.hid hzz2
    have HV := Lib.hid hv
    clear hi0 hzz0 hzz1 hzz2 hv vi
    go_upto_region 5 with fail
    refine wp_box1 (v1 := [.int .i64 v.x.u.ep, .slice v.A v.n v.c, .slice v.F v.k v.i, .slice v.G v.l v.j, .bool v.x.up]) rfl fun w5 ob BV => ?_
    have HO5 := Lib.hid (HO.out.below ob)
    replace on := on.to ob
    clear HO ob d0 d1 d2 d3 d4 hb
    generalize wr.heap.size = zr at *
    have b0 := BV.at_ 0 rfl; have b1 := BV.at_ 1 rfl
    have hs5 := on.size
    have hnew : Sl (w5.alloc (Obj.cells #[.int .i64 v.x.u.ep, .slice v.A v.n v.c] 44)) (w5.heap.size + 1) 2 (some ⟨w5.heap.size, 0, none⟩) 1 [encU v.uv] := by
     have := Sl.block (w := w5.alloc (Obj.cells #[.int .i64 v.x.u.ep, .slice v.A v.n v.c] 44)) (k := 2) [encU v.uv] (heap_alloc_new w5 _) (by simp [encU]) rfl
     simpa using this
    have HNEW := Lib.hid hnew
    clear hnew
    go_wp2_with (at_builtin; refine wpList_append_sl _ rfl _ _ 155 rfl w.heap.size 44 i0 _ 2 32 Tryz.underlying155 HI0.out HZ0.out HZ1.out HZ2.out rfl (by decide) (.slice B k y) k ((ns.take k).map fun v => encU v.uv) (by rfl) (HO5.out.alloc _) (w5.heap.size + 1) (some ⟨w5.heap.size, 0, none⟩) 1 1 [encU v.uv] (by rfl) HNEW.out (by simp [encU, Value.oneCell']) (by unfold maxLen; omega) (by omega) (by simp; omega) ?_)
    intro v8 w8 own8 grow8 hv8
    obtain ⟨A8, c8, rfl, _, _⟩ := own8.slice
    have on8 : Onto w w8 := below_grown (on.new _) (by simp; omega) grow8 (fun g hg => (HO5.out.lt g hg).1)
    have HO8 := Lib.hid own8
    clear own8 grow8 hv8 HO5 HNEW HI0 HZ0 HZ1 HZ2 b0 b1 BV on
    go_wp2_with fail
    go_roundg (n - (k + 1))
    case measure => omega
    case rel =>
     refine ⟨k + 1, c8, A8, by omega, Nat.le_refl _, by go_num, rfl, ?_, on8⟩
     refine Lib.hid ?_
     have e : (ns.take (k + 1)).map (fun v => encU v.uv) = (ns.take k).map (fun v => encU v.uv) ++ [encU v.uv] := by
      obtain ⟨h2, rfl⟩ := List.getElem?_eq_some_iff.1 HV.out
      rw [List.take_add_one, HV.out, List.map_append]; rfl
     rw [e]
     first | exact HO8.out | (rw [List.map_take]; exact HO8.out)
  · obtain rfl : k = n := by omega
    have hall : (ns.take k).map (fun v => encU v.uv) = (ns.map NV.uv).map encU := by
     rw [List.take_of_length_le (by have := HL.out; omega), List.map_map]; rfl
    have HA := Lib.hid hall
    have RW := R.onto on
    have HR := Lib.hid RW
    clear hall R RW
    go_wp2_with fail
    go_ret
    refine ⟨B, k, y, rfl, HR.out.us ?_, on⟩
    rw [← HA.out]
    exact HO.out.sl
end
section
set_option linter.unusedSimpArgs false
set_option linter.unusedVariables false
open Go.RowKit
set_option maxHeartbeats 4000000 in
set_option maxRecDepth 100000 in
theorem behind_calls (ep ep' : Int) (A A' : Option Addr) (c d : Nat) (us vs : List Entry) (w : World) (h : S w 5 A 60 (us.map encE)) (h' : S w 5 A' 60 (vs.map encE)) :
    Calls Tryz.prog 54 #[.agg #[.int .i64 ep, .slice A 60 c], .agg #[.int .i64 ep', .slice A' 60 d]] w fun e w' => e = .returned (.bool (decide (fitC vs us))) ∧ Onto w w' := by
 obtain ⟨r, hr⟩ : ∃ r, r = decide (fitC vs us) := ⟨_, rfl⟩
 rw [← hr]
 have HR := Lib.hid hr
 have hne := neqE
 clear hr
 go_enter Tryz.func54, Tryz.ntmps54
 go_upto_region 1 with fail
 have o1 := ((Onto.rfl' w).new (Obj.cells #[.int .i64 ep, .slice A 60 c] 44)).new (Obj.cells #[.int .i64 ep', .slice A' 60 d] 44)
 have BU : Bx ((w.alloc (Obj.cells #[.int .i64 ep, .slice A 60 c] 44)).alloc (Obj.cells #[.int .i64 ep', .slice A' 60 d] 44)) w.heap.size [.int .i64 ep, .slice A 60 c] := (Bx.made _ _ _).new _
 have BV : Bx ((w.alloc (Obj.cells #[.int .i64 ep, .slice A 60 c] 44)).alloc (Obj.cells #[.int .i64 ep', .slice A' 60 d] 44)) (w.heap.size + 1) [.int .i64 ep', .slice A' 60 d] := by
  have := Bx.made (w.alloc (Obj.cells #[.int .i64 ep, .slice A 60 c] 44)) #[.int .i64 ep', .slice A' 60 d] 44
  simpa using this
 replace h := h.onto o1; replace h' := h'.onto o1
 change Code.wp _ _ _ _ ((w.alloc (Obj.cells #[.int .i64 ep, .slice A 60 c] 44)).alloc (Obj.cells #[.int .i64 ep', .slice A' 60 d] 44))
 generalize ((w.alloc (Obj.cells #[.int .i64 ep, .slice A 60 c] 44)).alloc (Obj.cells #[.int .i64 ep', .slice A' 60 d] 44)) = w1 at *
 generalize hzu : w.heap.size = zu at BU BV
 clear hzu
 have u1 := BU.at_ 1 rfl
 have v1 := BV.at_ 1 rfl
 go_wp2_with fail
 go_loopw [10] (fun s ws => ∃ k : Nat, k ≤ 60 ∧ s = .int .i64 k ∧ Onto w1 ws ∧ Hid (∀ j, j < k → (cellAt us j).kind = 4 ∨ cellAt vs j = cellAt us j)) (fun s _ => 60 - (intOf s).toNat)
 case atStart => exact ⟨0, by omega, rfl, Below.refl _ _, fun j hj => absurd hj (Nat.not_lt_zero _)⟩
 case round =>
  obtain ⟨k, hk, rfl, hbs, HJ⟩ := hrel
  by_cases hkl : k < 60
  · obtain ⟨b1, off1, x, hA1, hz1, hx, c0, c1, c2, c3, c4⟩ := (h.onto hbs).atE hkl
    obtain ⟨b2, off2, y, hA2, hz2, hy, d0, d1, d2, d3, d4⟩ := (h'.onto hbs).atE hkl
    have ev2 := cellB hbs v1
    have hz3 := World.block_lt_of_cell? _ _ ev2
    simp only at hz3
    rw [hA2] at ev2
    rw [hA1]
    have HX := Lib.hid (cellAt_eq hx); have HY := Lib.hid (cellAt_eq hy)
    have hal2 : Onto wr (wr.alloc (Obj.cells #[.int .i64 x.kind, .int .i64 x.job, .int .i64 x.every, .int .i64 x.time, .int .i64 x.client] 27)) := (Below.refl _ _).alloc (Nat.le_refl _) _
    have hkk : (k : Int) < 60 := by omega
    clear hx hy u1 v1 BU BV hA1 hA2
    by_cases h4 : x.kind = 4
    · have hd : (x.kind != 4) = false := by simp [h4]
      have HH := Lib.hid h4
      clear h4
      go_wp2_with fail
      go_quiet (fail)
      go_wp2_with fail
      go_roundw
      case measure => simp [intOf] <;> omega
      case rel =>
       refine ⟨k + 1, by omega, by go_num, Onto.to hbs (Onto.draws hal2 _), ?_⟩
       show ∀ j, _
       intro j hj
       by_cases hjk : j = k
       · subst hjk; rw [HX.out]; exact .inl HH.out
       · exact HJ.out j (by omega)
    · have hd : (x.kind != 4) = true := by simpa using h4
      by_cases hxy : y = x
      · have hd2 : (!(y.kind == x.kind && y.job == x.job && y.every == x.every && y.time == x.time && y.client == x.client)) = false := by simp [hxy]
        have HH := Lib.hid hxy
        clear h4 hxy
        go_wp2_with fail
        go_quiet (fail)
        go_wp2_with fail
        go_roundw
        case measure => simp [intOf] <;> omega
        case rel =>
         refine ⟨k + 1, by omega, by go_num, Onto.to hbs (Onto.draws hal2 _), ?_⟩
         show ∀ j, _
         intro j hj
         by_cases hjk : j = k
         · subst hjk; rw [HX.out, HY.out]; exact .inr HH.out
         · exact HJ.out j (by omega)
      · have hd2 : (!(y.kind == x.kind && y.job == x.job && y.every == x.every && y.time == x.time && y.client == x.client)) = true := by
         rw [entry_eq_iff] at hxy
         simp only [Bool.not_eq_true', Bool.and_eq_false_iff, beq_eq_false_iff_ne]
         omega
        have hfin : false = r := by
         rw [HR.out, eq_comm, decide_eq_false_iff_not]
         intro hf
         have := hf k hkl
         rw [show cellAt us k = x from HX.out, show cellAt vs k = y from HY.out] at this
         rcases this with e | e
         · exact h4 e
         · exact hxy e
        have HF := Lib.hid hfin
        clear h4 hxy hfin
        go_wp2_with fail
        go_quiet (fail)
        go_wp2_with fail
        go_ret
        exact ⟨ret_bool HF.out, Onto.to o1 (Onto.to hbs (Onto.draws hal2 _))⟩
  · obtain rfl : k = 60 := by omega
    have hfin : true = r := by
     rw [HR.out, eq_comm, decide_eq_true_eq]
     exact HJ.out
    have HF := Lib.hid hfin
    clear hfin
    go_wp2_with fail
    go_ret
    exact ⟨ret_bool HF.out, Onto.to o1 hbs⟩
end
section
set_option linter.unusedSimpArgs false
set_option linter.unusedVariables false
open Go.RowKit
attribute [local go_sem ↓] Go.wp_at_zero Go.wp_at_succ
theorem URPost2.bad {w w' : World} {q : Int} {v : Value} (h : v = .tuple #[.agg #[.int .i64 0, .slice none 0 0], .int .i64 q]) (on : Onto w w') : URPost2 w zeroU q (.returned v) w' := ⟨none, 0, 0, by rw [h]; rfl, Sl.nil, on, Fresh.none_ _, by omega, by simp [maxLen]⟩
theorem DK.safe_only {w : World} {A A' : Option Addr} {n c m d : Nat} {x : Dsk} (h : DK w A n c A' m d x) : DK w A n c none 0 0 ⟨x.safe, []⟩ := ⟨h.safe, Sl.nil, h.n_le, h.c_le, by omega, by simp [maxLen]⟩
set_option maxHeartbeats 8000000 in
set_option maxRecDepth 100000 in
theorem wcheck_calls (v : NV) (w : World) (E : Env w) (I : v.In w) :
    Calls Tryz.prog 53 #[.agg #[.int .i64 v.x.u.ep, .slice v.A v.n v.c, .slice v.F v.k v.i, .slice v.G v.l v.j, .bool v.x.up]] w (URPost2 w (checkN v.x).1 (checkN v.x).2) := by
 obtain ⟨q, hq⟩ : ∃ q, q = checkK v.x.d := ⟨_, rfl⟩
 obtain ⟨R1, hR1⟩ : ∃ q, q = recoverK ⟨v.x.d.safe, []⟩ := ⟨_, rfl⟩
 obtain ⟨U1, hU1⟩ : ∃ q, q = unitL R1.2.1 := ⟨_, rfl⟩
 obtain ⟨R2, hR2⟩ : ∃ q, q = recoverK v.x.d := ⟨_, rfl⟩
 obtain ⟨r, hr⟩ : ∃ r, r = checkN v.x := ⟨_, rfl⟩
 rw [← hr]
 unfold checkN at hr
 rw [← hq, ← hR1, ← hU1, ← hR2] at hr
 have hm := I.disk.m_eq
 rw [← hm] at hr
 have HQ := Lib.hid hq; have HR1 := Lib.hid hR1; have HU1 := Lib.hid hU1; have HR2 := Lib.hid hR2; have HR := Lib.hid hr
 have hcl : v.x.u.cells.length = v.n := by have := I.cells.len; simpa using this
 have hn6 : v.n ≤ 9223372036854775807 := by have := I.le; have := I.max; unfold maxLen at *; omega
 have HN6 := Lib.hid hn6
 have hl6 : v.l ≤ 9223372036854775807 := by have := I.disk.m_le; have := I.disk.d_le; unfold maxLen at *; omega
 clear hq hR1 hU1 hR2 hr hm hcl hn6
 go_enter Tryz.func53, Tryz.ntmps53
 go_upto_region 1 with fail
 have on := ((Onto.rfl' w).new (Obj.cells #[.int .i64 v.x.u.ep, .slice v.A v.n v.c, .slice v.F v.k v.i, .slice v.G v.l v.j, .bool v.x.up] 49)).new (Obj.cells #[.int .i64 0, .slice none 0 0] 44)
 have B : Bx ((w.alloc (Obj.cells #[.int .i64 v.x.u.ep, .slice v.A v.n v.c, .slice v.F v.k v.i, .slice v.G v.l v.j, .bool v.x.up] 49)).alloc (Obj.cells #[.int .i64 0, .slice none 0 0] 44)) w.heap.size [.int .i64 v.x.u.ep, .slice v.A v.n v.c, .slice v.F v.k v.i, .slice v.G v.l v.j, .bool v.x.up] := (Bx.made _ _ _).new _
 have Z : Bx ((w.alloc (Obj.cells #[.int .i64 v.x.u.ep, .slice v.A v.n v.c, .slice v.F v.k v.i, .slice v.G v.l v.j, .bool v.x.up] 49)).alloc (Obj.cells #[.int .i64 0, .slice none 0 0] 44)) (w.heap.size + 1) [.int .i64 0, .slice none 0 0] := by
  have := Bx.made (w.alloc (Obj.cells #[.int .i64 v.x.u.ep, .slice v.A v.n v.c, .slice v.F v.k v.i, .slice v.G v.l v.j, .bool v.x.up] 49)) #[.int .i64 0, .slice none 0 0] 44
  simpa using this
 have hz1 : w.heap.size ≤ w.heap.size + 1 := by omega
 have hz2 : w.heap.size ≠ w.heap.size + 1 := by omega
 change Code.wp _ _ _ _ ((w.alloc (Obj.cells #[.int .i64 v.x.u.ep, .slice v.A v.n v.c, .slice v.F v.k v.i, .slice v.G v.l v.j, .bool v.x.up] 49)).alloc (Obj.cells #[.int .i64 0, .slice none 0 0] 44))
 generalize ((w.alloc (Obj.cells #[.int .i64 v.x.u.ep, .slice v.A v.n v.c, .slice v.F v.k v.i, .slice v.G v.l v.j, .bool v.x.up] 49)).alloc (Obj.cells #[.int .i64 0, .slice none 0 0] 44)) = w1 at *
 generalize w.heap.size + 1 = z at Z hz1 hz2
 generalize hzb : w.heap.size = zb at B hz2
 clear hzb
 replace I := I.onto on
 have b2 := B.at_ 2 rfl; have b3 := B.at_ 3 rfl
 go_wp2_with fail
 refine Calls.mono (DCheck_calls v.F v.G v.k v.i v.l v.j v.x.d _ (E.onto on) I.disk) ?_
 rintro e w2 ⟨rfl, b⟩
 rw [show checkK v.x.d = q from HQ.out.symm]
 replace on := on.to b; replace B := B.onto b; replace Z := Z.onto b; replace I := I.onto b
 clear b b2 b3
 by_cases hq0 : q = 0
 · subst hq0
   have hr := HR.out
   rw [if_neg (by simp)] at hr
   replace HR := Lib.hid hr
   clear hr
   go_upto_region 4 with fail
   have b0 := B.at_ 0 rfl; have b1 := B.at_ 1 rfl; have b2 := B.at_ 2 rfl; have b3 := B.at_ 3 rfl; have b4 := B.at_ 4 rfl
   have c0 := Z.at_ 0 rfl; have c1 := Z.at_ 1 rfl; have g0 := Z.froz 0; have g1 := Z.froz 1
   by_cases hup : v.x.up = true ∧ 0 < v.l
   · have hr := HR.out
     rw [if_pos hup] at hr
     have HR2 := Lib.hid hr
     obtain ⟨hu1, hu2⟩ := hup
     have hu3 : (0 : Int) < (v.l : Int) := by omega
     clear hr HR
     rw [hu1] at b4
     go_wp2_with fail
     refine bodyPost_ret (v := .tuple #[.agg #[.int .i64 0, .slice none 0 0], .int .i64 4]) (by simp [results, Tryz.results53, go_sem, c0, c1, g0, g1]) rfl ?_
     rw [HR2.out]
     exact URPost2.bad rfl ((on.put hz1 _).put hz1 _)
   · have hr := HR.out
     rw [if_neg hup] at hr
     replace HR := Lib.hid hr
     clear hr
     have hup2 : v.x.up = false ∨ (v.x.up = true ∧ v.l = 0) := by
      rcases Bool.eq_false_or_eq_true v.x.up with h | h
      · exact .inr ⟨h, Nat.eq_zero_of_not_pos fun h0 => hup ⟨h, h0⟩⟩
      · exact .inl h
     clear hup
     rcases hup2 with hu1 | ⟨hu1, hu2⟩
     · rw [hu1] at b4
       go_upto_region 6 with fail
       clear hu1
       clear c0 c1 g0 g1 b0 b1 b3 b4
       go_wp2_with fail
       refine Calls.mono (DRecover_calls v.F none v.k v.i 0 0 ⟨v.x.d.safe, []⟩ _ (E.onto on) I.disk.safe_only) ?_
       rw [show recoverK ⟨v.x.d.safe, []⟩ = R1 from HR1.out.symm]
       unfold RvPost
       rintro e w3 ⟨F1, k1, i1, G1, l1, j1, L, ln, ly, rfl, _, sL, _, _, _, _, _, b⟩
       replace on := on.to b; replace B := B.onto b; replace Z := Z.onto b; replace I := I.onto b
       clear b b2
       go_upto_region 7 with fail
       have ob := (Onto.rfl' w3).new (Obj.cells #[.slice F1 k1 i1, .slice G1 l1 j1] 47)
       replace on := on.to ob; replace B := B.onto ob; replace Z := Z.onto ob; replace I := I.onto ob; replace sL := sL.onto ob
       clear ob
       try change Code.wp _ _ _ _ (w3.alloc (Obj.cells #[.slice F1 k1 i1, .slice G1 l1 j1] 47))
       generalize (w3.alloc (Obj.cells #[.slice F1 k1 i1, .slice G1 l1 j1] 47)) = w4 at *
       generalize w3.heap.size = zd at *
       go_wp2_with fail
       refine Calls.mono (UReplay2_calls L ln ly R1.2.1 _ sL) ?_
       rw [show unitL R1.2.1 = U1 from HU1.out.symm]
       unfold URPost2
       rintro e w5 ⟨A1, n1, c1, rfl, s1, b, _, _, _⟩
       replace on := on.to b; replace B := B.onto b; replace Z := Z.onto b; replace I := I.onto b
       clear b sL
       go_upto_region 8 with fail
       refine wp_box1 (v1 := [.int .i64 U1.1.ep, .slice A1 n1 c1]) rfl fun w6 ob X => ?_
       replace on := on.to ob; replace B := B.onto ob; replace Z := Z.onto ob; replace I := I.onto ob; replace s1 := s1.onto ob
       clear ob
       generalize w5.heap.size = zx at *
       have hn1 : n1 ≤ 60 := by have := s1.len; have h2 := unitL_len R1.2.1; rw [← HU1.out] at h2; simp at this; omega
       have hn16 : n1 ≤ 9223372036854775807 := by omega
       have HN1 := Lib.hid hn16
       clear hn1 hn16
       obtain ⟨q2, hq2⟩ : ∃ q, q = U1.2 := ⟨_, rfl⟩
       rw [← hq2]
       have hr := HR.out
       rw [← hq2] at hr
       replace HR := Lib.hid hr
       clear hr hq2
       have b0 := B.at_ 0 rfl; have b1 := B.at_ 1 rfl; have x0 := X.at_ 0 rfl; have x1 := X.at_ 1 rfl
       by_cases hq20 : q2 = 0
       · subst hq20
         go_wp2_with fail
         refine Calls.mono (USame_calls U1.1.ep v.x.u.ep A1 v.A n1 c1 v.n v.c U1.1.cells v.x.u.cells _ s1 I.cells HN1.out) ?_
         rintro e w7 ⟨rfl, b⟩
         replace on := on.to b; replace B := B.onto b; replace Z := Z.onto b; replace I := I.onto b
         clear b b0 b1 x0 x1 X s1
         have hr := HR.out
         rw [if_neg (by simp)] at hr
         by_cases hs : U1.1 = v.x.u
         · rw [if_neg (by simpa using hs)] at hr
           have HR2' := Lib.hid hr
           have hsd : decide ((⟨U1.1.ep, U1.1.cells⟩ : Uni) = ⟨v.x.u.ep, v.x.u.cells⟩) = true := by rw [decide_eq_true_eq]; exact hs
           rw [hsd]
           clear hr HR hs hsd
           have b2 := B.at_ 2 rfl; have b3 := B.at_ 3 rfl
           go_wp2_with fail
           refine Calls.mono (DRecover_calls v.F v.G v.k v.i v.l v.j v.x.d _ (E.onto on) I.disk) ?_
           rw [show recoverK v.x.d = R2 from HR2.out.symm]
           unfold RvPost
           rintro e w8 ⟨F2, k2, i2, G2, l2, j2, L2, ln2, ly2, rfl, _, sL, _, _, _, _, _, b⟩
           replace on := on.to b; replace Z := Z.onto b
           clear b b2 b3 B I
           go_wp2_with fail
           refine Calls.mono (UReplay2_calls L2 ln2 ly2 R2.2.1 _ sL) ?_
           rw [← HR2'.out]
           unfold URPost2
           rintro e w9 ⟨A3, n3, c3, rfl, s3, b, f3, hc3, hm3⟩
           have hzl := Z.lt
           have o3 : OffN n3 z A3 := f3.offN hzl
           have f3' : Fresh w.heap.size A3 := fun a e => Nat.le_trans on.size (f3 a e)
           replace on := on.to b; replace Z := Z.onto b
           clear b sL f3
           have c0 := Z.at_ 0 rfl; have c1 := Z.at_ 1 rfl; have g0 := Z.froz 0; have g1 := Z.froz 1
           go_wp2_with fail
           refine bodyPost_ret (v := .tuple #[.agg #[.int .i64 r.1.ep, .slice A3 n3 c3], .int .i64 r.2]) (by simp [results, Tryz.results53, go_sem, c0, c1, g0, g1]) rfl ?_
           exact ⟨A3, n3, c3, rfl, S.off (S.off s3 o3 _) o3 _, (on.put hz1 _).put hz1 _, f3', hc3, hm3⟩
         · rw [if_pos (by simpa using hs)] at hr
           have HR2' := Lib.hid hr
           have hsd : decide ((⟨U1.1.ep, U1.1.cells⟩ : Uni) = ⟨v.x.u.ep, v.x.u.cells⟩) = false := by
            rw [decide_eq_false_iff_not]; exact hs
           rw [hsd]
           clear hr HR hs hsd
           have c0 := Z.at_ 0 rfl; have c1 := Z.at_ 1 rfl; have g0 := Z.froz 0; have g1 := Z.froz 1
           go_wp2_with fail
           refine bodyPost_ret (v := .tuple #[.agg #[.int .i64 0, .slice none 0 0], .int .i64 4]) (by simp [results, Tryz.results53, go_sem, c0, c1, g0, g1]) rfl ?_
           rw [HR2'.out]
           exact URPost2.bad rfl ((on.put hz1 _).put hz1 _)
       · have hr := HR.out
         rw [if_pos hq20] at hr
         have HR2' := Lib.hid hr
         have hqd : (q2 != 0) = true := by simpa using hq20
         have hqe : (q2 == 0) = false := by simpa using hq20
         clear hr HR hq20
         have c0 := Z.at_ 0 rfl; have c1 := Z.at_ 1 rfl; have g0 := Z.froz 0; have g1 := Z.froz 1
         go_wp2_with fail
         refine bodyPost_ret (v := .tuple #[.agg #[.int .i64 0, .slice none 0 0], .int .i64 q2]) (by simp [results, Tryz.results53, go_sem, c0, c1, g0, g1]) rfl ?_
         rw [HR2'.out]
         exact URPost2.bad rfl ((on.put hz1 _).put hz1 _)
     · rw [hu1] at b4; rw [hu2] at b3
       go_upto_region 6 with fail
       clear hu1 hu2
       clear c0 c1 g0 g1 b0 b1 b3 b4
       go_wp2_with fail
       refine Calls.mono (DRecover_calls v.F none v.k v.i 0 0 ⟨v.x.d.safe, []⟩ _ (E.onto on) I.disk.safe_only) ?_
       rw [show recoverK ⟨v.x.d.safe, []⟩ = R1 from HR1.out.symm]
       unfold RvPost
       rintro e w3 ⟨F1, k1, i1, G1, l1, j1, L, ln, ly, rfl, _, sL, _, _, _, _, _, b⟩
       replace on := on.to b; replace B := B.onto b; replace Z := Z.onto b; replace I := I.onto b
       clear b b2
       go_upto_region 7 with fail
       have ob := (Onto.rfl' w3).new (Obj.cells #[.slice F1 k1 i1, .slice G1 l1 j1] 47)
       replace on := on.to ob; replace B := B.onto ob; replace Z := Z.onto ob; replace I := I.onto ob; replace sL := sL.onto ob
       clear ob
       try change Code.wp _ _ _ _ (w3.alloc (Obj.cells #[.slice F1 k1 i1, .slice G1 l1 j1] 47))
       generalize (w3.alloc (Obj.cells #[.slice F1 k1 i1, .slice G1 l1 j1] 47)) = w4 at *
       generalize w3.heap.size = zd at *
       go_wp2_with fail
       refine Calls.mono (UReplay2_calls L ln ly R1.2.1 _ sL) ?_
       rw [show unitL R1.2.1 = U1 from HU1.out.symm]
       unfold URPost2
       rintro e w5 ⟨A1, n1, c1, rfl, s1, b, _, _, _⟩
       replace on := on.to b; replace B := B.onto b; replace Z := Z.onto b; replace I := I.onto b
       clear b sL
       go_upto_region 8 with fail
       refine wp_box1 (v1 := [.int .i64 U1.1.ep, .slice A1 n1 c1]) rfl fun w6 ob X => ?_
       replace on := on.to ob; replace B := B.onto ob; replace Z := Z.onto ob; replace I := I.onto ob; replace s1 := s1.onto ob
       clear ob
       generalize w5.heap.size = zx at *
       have hn1 : n1 ≤ 60 := by have := s1.len; have h2 := unitL_len R1.2.1; rw [← HU1.out] at h2; simp at this; omega
       have hn16 : n1 ≤ 9223372036854775807 := by omega
       have HN1 := Lib.hid hn16
       clear hn1 hn16
       obtain ⟨q2, hq2⟩ : ∃ q, q = U1.2 := ⟨_, rfl⟩
       rw [← hq2]
       have hr := HR.out
       rw [← hq2] at hr
       replace HR := Lib.hid hr
       clear hr hq2
       have b0 := B.at_ 0 rfl; have b1 := B.at_ 1 rfl; have x0 := X.at_ 0 rfl; have x1 := X.at_ 1 rfl
       by_cases hq20 : q2 = 0
       · subst hq20
         go_wp2_with fail
         refine Calls.mono (USame_calls U1.1.ep v.x.u.ep A1 v.A n1 c1 v.n v.c U1.1.cells v.x.u.cells _ s1 I.cells HN1.out) ?_
         rintro e w7 ⟨rfl, b⟩
         replace on := on.to b; replace B := B.onto b; replace Z := Z.onto b; replace I := I.onto b
         clear b b0 b1 x0 x1 X s1
         have hr := HR.out
         rw [if_neg (by simp)] at hr
         by_cases hs : U1.1 = v.x.u
         · rw [if_neg (by simpa using hs)] at hr
           have HR2' := Lib.hid hr
           have hsd : decide ((⟨U1.1.ep, U1.1.cells⟩ : Uni) = ⟨v.x.u.ep, v.x.u.cells⟩) = true := by rw [decide_eq_true_eq]; exact hs
           rw [hsd]
           clear hr HR hs hsd
           have b2 := B.at_ 2 rfl; have b3 := B.at_ 3 rfl
           go_wp2_with fail
           refine Calls.mono (DRecover_calls v.F v.G v.k v.i v.l v.j v.x.d _ (E.onto on) I.disk) ?_
           rw [show recoverK v.x.d = R2 from HR2.out.symm]
           unfold RvPost
           rintro e w8 ⟨F2, k2, i2, G2, l2, j2, L2, ln2, ly2, rfl, _, sL, _, _, _, _, _, b⟩
           replace on := on.to b; replace Z := Z.onto b
           clear b b2 b3 B I
           go_wp2_with fail
           refine Calls.mono (UReplay2_calls L2 ln2 ly2 R2.2.1 _ sL) ?_
           rw [← HR2'.out]
           unfold URPost2
           rintro e w9 ⟨A3, n3, c3, rfl, s3, b, f3, hc3, hm3⟩
           have hzl := Z.lt
           have o3 : OffN n3 z A3 := f3.offN hzl
           have f3' : Fresh w.heap.size A3 := fun a e => Nat.le_trans on.size (f3 a e)
           replace on := on.to b; replace Z := Z.onto b
           clear b sL f3
           have c0 := Z.at_ 0 rfl; have c1 := Z.at_ 1 rfl; have g0 := Z.froz 0; have g1 := Z.froz 1
           go_wp2_with fail
           refine bodyPost_ret (v := .tuple #[.agg #[.int .i64 r.1.ep, .slice A3 n3 c3], .int .i64 r.2]) (by simp [results, Tryz.results53, go_sem, c0, c1, g0, g1]) rfl ?_
           exact ⟨A3, n3, c3, rfl, S.off (S.off s3 o3 _) o3 _, (on.put hz1 _).put hz1 _, f3', hc3, hm3⟩
         · rw [if_pos (by simpa using hs)] at hr
           have HR2' := Lib.hid hr
           have hsd : decide ((⟨U1.1.ep, U1.1.cells⟩ : Uni) = ⟨v.x.u.ep, v.x.u.cells⟩) = false := by
            rw [decide_eq_false_iff_not]; exact hs
           rw [hsd]
           clear hr HR hs hsd
           have c0 := Z.at_ 0 rfl; have c1 := Z.at_ 1 rfl; have g0 := Z.froz 0; have g1 := Z.froz 1
           go_wp2_with fail
           refine bodyPost_ret (v := .tuple #[.agg #[.int .i64 0, .slice none 0 0], .int .i64 4]) (by simp [results, Tryz.results53, go_sem, c0, c1, g0, g1]) rfl ?_
           rw [HR2'.out]
           exact URPost2.bad rfl ((on.put hz1 _).put hz1 _)
       · have hr := HR.out
         rw [if_pos hq20] at hr
         have HR2' := Lib.hid hr
         have hqd : (q2 != 0) = true := by simpa using hq20
         have hqe : (q2 == 0) = false := by simpa using hq20
         clear hr HR hq20
         have c0 := Z.at_ 0 rfl; have c1 := Z.at_ 1 rfl; have g0 := Z.froz 0; have g1 := Z.froz 1
         go_wp2_with fail
         refine bodyPost_ret (v := .tuple #[.agg #[.int .i64 0, .slice none 0 0], .int .i64 q2]) (by simp [results, Tryz.results53, go_sem, c0, c1, g0, g1]) rfl ?_
         rw [HR2'.out]
         exact URPost2.bad rfl ((on.put hz1 _).put hz1 _)
 · have hr := HR.out
   rw [if_pos hq0] at hr
   have HR2 := Lib.hid hr
   have hqd : (q != 0) = true := by simpa using hq0
   clear hr HR hq0
   have c0 := Z.at_ 0 rfl; have c1 := Z.at_ 1 rfl; have g0 := Z.froz 0; have g1 := Z.froz 1
   go_wp2_with fail
   refine bodyPost_ret (v := .tuple #[.agg #[.int .i64 0, .slice none 0 0], .int .i64 q]) (by simp [results, Tryz.results53, go_sem, c0, c1, g0, g1]) rfl ?_
   rw [HR2.out]
   exact URPost2.bad rfl ((on.put hz1 _).put hz1 _)
end
end Go.Proofs.YtmppkaoonncddaaGreatDoor
