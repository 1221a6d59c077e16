/- The law DiskKeeps' walk. -/
import Derived.Test.YtdcegdonppfbkaaDoorWriteK
import Derived.Test.YtdcegdonppfbkaaDoorRowsQ
import Derived.Test.YtdcegdonppfbkaaDoorEqQ
import Derived.IntWalk
namespace Go.Proofs.YtdcegdonppfbkaaDoor
set_option linter.unusedSimpArgs false
set_option linter.unusedVariables false
open Go.RowKit
attribute [local go_sem ↓] Go.wp_at_zero Go.wp_at_succ

theorem DK.offs {w : World} {A A' : Option Addr} {n c m d z : Nat} {x : Dsk} (h : DK w A n c A' m d x) (hz : w.heap.size ≤ z) : OffN n z A ∧ OffN m z A' := ⟨h.safe.offN hz, h.wait.offN hz⟩
set_option maxHeartbeats 16000000 in
set_option maxRecDepth 100000 in
theorem DiskKeeps_calls (A0 : Option Addr) (n0 c0 : Nat) (l0 : List Rec) (A1 : Option Addr) (n1 c1 : Nat) (l1 : List Rec) (nn : Int) (w : World) (E : Env w) (h0 : S w 8 A0 n0 (l0.map encQ)) (hnc0 : n0 ≤ c0) (hcm0 : c0 ≤ maxLen) (h1 : S w 8 A1 n1 (l1.map encQ)) (hnc1 : n1 ≤ c1) (hcm1 : c1 ≤ maxLen) :
    Calls Tryd.prog 9 #[.slice A0 n0 c0, .slice A1 n1 c1, .int .i64 nn] w fun e w' => e = .returned (.bool true) ∧ Onto w w' := by
  obtain ⟨P, hP⟩ : ∃ v, v = writeK noK (l0.take 20) := ⟨_, rfl⟩
  obtain ⟨D1, hD1⟩ : ∃ v, v = (syncK P.1).1 := ⟨_, rfl⟩
  obtain ⟨Q, hQ⟩ : ∃ v, v = writeK D1 (l1.take 20) := ⟨_, rfl⟩
  obtain ⟨D2, hD2⟩ : ∃ v, v = (crashK Q.1 (nn % ((Q.1.wait.length : Int) + 1))).1 := ⟨_, rfl⟩
  obtain ⟨R, hR⟩ : ∃ v, v = recoverK D2 := ⟨_, rfl⟩
  have hlaw := keeps_law l0 l1 nn
  simp only [← hP, ← hD1, ← hQ, ← hD2, ← hR] at hlaw
  obtain ⟨k1, k2, k3, k4, k5, k6, k7, k8, k9, k10⟩ := hlaw
  have hck : checkK Q.1 = 0 := by
    refine Decidable.byContradiction fun hne => hne ?_
    have := k2
    unfold crashK at this
    rw [if_pos hne] at this
    exact this
  have hbQ := decB _ hck
  have HP := Lib.hid hP.symm; have HQ := Lib.hid hQ.symm
  have HS : Hid (syncK P.1 = (D1, 0)) := Lib.hid (Prod.ext hD1.symm k1)
  have HC : Hid (crashK Q.1 (nn % ((Q.1.wait.length : Int) + 1)) = (D2, 0)) := Lib.hid (Prod.ext hD2.symm k2)
  have HR : Hid (recoverK D2 = (R.1, R.2.1, 0)) := Lib.hid (by rw [← hR]; exact Prod.ext rfl (Prod.ext rfl k3))
  have H6 := Lib.hid k6; have H7 := Lib.hid k7; have H8 := Lib.hid k8
  clear hck hP hQ hD1 hD2 hR k1 k2 k3 k6 k7 k8
  go_enter Tryd.func9, Tryd.ntmps9
  go_wp2_with fail
  refine Calls.mono (filed_calls _ E) ?_
  rintro e w1 ⟨rfl, on⟩
  go_upto_region 5 with fail
  have ob := (Onto.rfl' w1).new (Obj.cells #[.slice none 0 0, .slice none 0 0] 53)
  have B : Bx (w1.alloc (Obj.cells #[.slice none 0 0, .slice none 0 0] 53)) w1.heap.size [.slice none 0 0, .slice none 0 0] := Bx.made _ _ _
  have hzw := on.size
  replace on := on.to ob
  clear ob
  try change Code.wp _ _ _ _ (w1.alloc (Obj.cells #[.slice none 0 0, .slice none 0 0] 53))
  generalize (w1.alloc (Obj.cells #[.slice none 0 0, .slice none 0 0] 53)) = w2 at *
  generalize w1.heap.size = z at *
  go_wp2_with fail
  refine Calls.mono (Write_calls w E A0 n0 c0 l0 h0 hnc0 hcm0 z hzw w2 on none none 0 0 0 0 noK B (DK.none_ _) (fun h => absurd h (by omega)) (fun h => absurd h (by omega))) ?_
  rw [HP.out]
  unfold WkPost
  rintro e w3 ⟨Ba, ba, ya, F, k, i, G, m, j, rfl, B3, K3, oF, oG, ownA, on3, _⟩
  have hz3 := B3.lt
  have offA : OffN ba z Ba := ownA.fresh (Nat.le_refl _) |>.offN B.lt
  have LA : Hid (ba = P.2.length) := Lib.hid (by have := ownA.2.1; simpa using this.symm)
  have sA : S w3 8 Ba ba (P.2.map encQ) := ownA.sl
  have bya := ownA.le_cap
  have byM := ownA.cap_max
  clear B ownA on
  have on := on3; clear on3
  go_upto_region 6 with fail
  have b0 := B3.at_ 0 rfl; have b1 := B3.at_ 1 rfl
  go_wp2_with fail
  refine Calls.mono (DSync_calls F G k i m j P.1 _ (E.onto on) K3) ?_
  rw [HS.out]
  rintro e w4 ⟨F4, k4', i4, G4, m4, j4, rfl, K4, fF, fG, b⟩
  dsimp only
  replace on := on.to b; replace B3 := B3.onto b; replace sA := sA.onto b
  clear b b0 b1 K3 oF oG
  go_upto_region 7 with (refine wpList_put B3 [.slice F4 k4' i4, .slice G4 m4 j4] 53 _ _ (by rfl) (by rfl) (by rfl) (by rfl) (by rfl) sizeD (by rfl) ?_)
  have B4 := B3.put (us := [.slice F4 k4' i4, .slice G4 m4 j4]) rfl
  have oF := fF.offN (n := k4') hz3; have oG := fG.offN (n := m4) hz3
  have K5 := K4.puts (o := 0) (us := [.slice F4 k4' i4, .slice G4 m4 j4]) oF oG
  replace sA := put_S (w := w) offA (vs := [.slice F4 k4' i4, .slice G4 m4 j4]) (o := 0) sA
  replace on := Onto.puts (b := z) (o := 0) (us := [.slice F4 k4' i4, .slice G4 m4 j4]) hzw on
  clear B3 K4 fF fG
  generalize World.setCells _ z 0 [.slice F4 k4' i4, .slice G4 m4 j4] = w5 at B4 K5 on sA ⊢
  have hz5 := B4.lt
  go_wp2_with fail
  refine Calls.mono (Write_calls w E A1 n1 c1 l1 h1 hnc1 hcm1 z hzw w5 on F4 G4 k4' i4 m4 j4 D1 B4 K5 oF oG) ?_
  rw [HQ.out]
  unfold WkPost
  rintro e w6 ⟨Bb, bb, yb, F, k, i, G, m, j, rfl, B6, K6, oF, oG, ownB, on6, gb⟩
  replace sA := sA.grown gb (fun b' e => by injection e with e; subst e; exact offA)
  have hz6 := B6.lt
  have offB : OffN bb z Bb := ownB.fresh (Nat.le_refl _) |>.offN hz5
  have LB : Hid (bb = Q.2.length) := Lib.hid (by have := ownB.2.1; simpa using this.symm)
  have sB : S w6 8 Bb bb (Q.2.map encQ) := ownB.sl
  have byb := ownB.le_cap
  have bybM := ownB.cap_max
  clear B4 K5 ownB on gb
  have on := on6; clear on6
  go_upto_region 10 with fail
  have b0 := B6.at_ 0 rfl; have b1 := B6.at_ 1 rfl
  have f0 := B6.froz 0; have f1 := B6.froz 1
  have hmQ : m = Q.1.wait.length := K6.m_eq
  have hmj := K6.m_le; have hjM := K6.d_le
  have HC2 : Hid (crashK Q.1 (nn % ((m : Int) + 1)) = (D2, 0)) := Lib.hid (by rw [hmQ]; exact HC.out)
  have HmQ := Lib.hid hmQ
  have hm3 : m ≤ 30000 := by omega
  clear hmQ HC hbQ
  unfold maxLen at hjM byM bybM
  have hw1 : IntKind.i64.wrap ((m : Int) + 1) = (m : Int) + 1 := IntWalk.i64_in _ (by omega)
  go_region_law (first
    | (go_simp; go_at_call 37; refine Calls.mono (at_calls nn ((m : Int) + 1) _ (by omega) (by omega)) ?_; rintro e w' ⟨rfl, rfl⟩)
    | (go_simp; go_at_call 36; refine Calls.mono (DCrash_calls F G k i m j Q.1 (nn % ((m : Int) + 1)) _ (E.onto (by with_reducible (first | exact on | exact on.draw))) (K6.onto (by with_reducible (first | exact Onto.rfl' _ | exact (Onto.rfl' _).draw)))) ?_; rw [HC2.out]; unfold DnPost; rintro e w7 ⟨F7, k7, i7, G7, m7, j7, rfl, K7, fF, fG, b⟩; have b67 : Onto w6 w7 := Onto.to (by with_reducible (first | exact Onto.rfl' _ | exact (Onto.rfl' _).draw)) b; have B7 := B6.onto b67; have p0 := B7.at_ 0 rfl; have p1 := B7.at_ 1 rfl; have f0' := B7.froz 0; have f1' := B7.froz 1))
  all_goals
    have on7 := on.to b67
    have B8 := (B7.put1 (j := 0) (by simp) (.slice F7 k7 i7)).put1 (j := 1) (by simp) (.slice G7 m7 j7)
    have oF7 : OffN k7 z F7 := fF.offN hz6; have oG7 : OffN m7 z G7 := fG.offN hz6
    have K8 := (K7.put1 (p := ⟨z, 0, none⟩) oF7 oG7 (.slice F7 k7 i7)).put1 (p := ⟨z, 1, none⟩) oF7 oG7 (.slice G7 m7 j7)
    have sA8 := S.off (S.off (sA.onto b67) (p := ⟨z, 0, none⟩) offA (.slice F7 k7 i7)) (p := ⟨z, 1, none⟩) offA (.slice G7 m7 j7)
    have sB8 := S.off (S.off (sB.onto b67) (p := ⟨z, 0, none⟩) offB (.slice F7 k7 i7)) (p := ⟨z, 1, none⟩) offB (.slice G7 m7 j7)
    have on8 := (on7.put (p := ⟨z, 0, none⟩) hzw (.slice F7 k7 i7)).put (p := ⟨z, 1, none⟩) hzw (.slice G7 m7 j7)
    simp only [List.set_cons_zero, List.set_cons_succ] at B8
    clear p0 p1 f0' f1' b0 b1 f0 f1 B7 B6 K7 K6 sA sB on on7 b67 b fF fG oF oG hz3 hz5 hz6 HmQ hw1 hm3 HC2 hmj hjM oF7 oG7
    generalize ((w7.setCell ⟨z, 0, none⟩ (.slice F7 k7 i7)).setCell ⟨z, 1, none⟩ (.slice G7 m7 j7)) = w8 at B8 K8 sA8 sB8 on8 ⊢
    have b0 := B8.at_ 0 rfl; have b1 := B8.at_ 1 rfl
    dsimp only at K8
    go_wp2_with fail
    refine Calls.mono (DRecover_calls F7 G7 k7 i7 m7 j7 D2 _ (E.onto on8) K8) ?_
    rw [HR.out]
    unfold RvPost
    rintro e w9 ⟨F9, k9', i9, G9, m9, j9, L9, b9, y9, rfl, K9, s9, hby9, hyM9, fF, fG, fL, b⟩
    dsimp only at K9 s9
    dsimp only
    replace on8 := on8.to b; replace sA8 := sA8.onto b; replace sB8 := sB8.onto b
    clear b b0 b1 B8 K8
    go_upto_region 14 with fail
    have ob := (Onto.rfl' w9).new (Obj.cells #[.slice F9 k9' i9, .slice G9 m9 j9] 53)
    have B9 : Bx (w9.alloc (Obj.cells #[.slice F9 k9' i9, .slice G9 m9 j9] 53)) w9.heap.size [.slice F9 k9' i9, .slice G9 m9 j9] := Bx.made _ _ _
    replace on8 := on8.to ob; replace sA8 := sA8.onto ob; replace sB8 := sB8.onto ob; replace K9 := K9.onto ob; replace s9 := s9.onto ob
    clear ob
    try change Code.wp _ _ _ _ (w9.alloc (Obj.cells #[.slice F9 k9' i9, .slice G9 m9 j9] 53))
    generalize (w9.alloc (Obj.cells #[.slice F9 k9' i9, .slice G9 m9 j9] 53)) = wa at *
    generalize w9.heap.size = zr at *
    have lA := LA.out; have lB := LB.out
    have l9 : b9 = R.2.1.length := by have := s9.len; simpa using this.symm
    have g1 : ¬ b9 < ba := by omega
    have g2 : ¬ ba + bb < b9 := by omega
    have g3 : decide ((b9 : Int) < (ba : Int)) = false := by simp; omega
    have g4 : decide ((ba : Int) + (bb : Int) < (b9 : Int)) = false := by simp; omega
    have g5 : ba ≤ 20 := by omega
    have g6 : bb ≤ 20 := by omega
    have G := Lib.hid l9; have GA := Lib.hid lA; have GB := Lib.hid lB
    clear l9 lA lB k4 k5 k9 k10
    go_wp2_with fail
    refine Calls.mono (ConcatQ_calls _ Ba Bb ba ya bb yb wa.heap.size 2 (P.2.map encQ) (Q.2.map encQ) (by simp [go_sem]) (by simp [go_sem]) (sA8.new _) (sB8.new _) (encQ_one _) (encQ_one _) (by omega)) ?_
    rintro e wb ⟨Cc, yc, rfl, ownC, b⟩
    have sC : S wb 8 Cc (ba + bb) (P.2.map encQ ++ Q.2.map encQ) := ownC.sl
    have hcc := ownC.le_cap
    have hcM := ownC.cap_max
    have bb' : Onto wa wb := Onto.to ((Onto.rfl' wa).new _) b
    replace on8 := on8.to bb'; replace K9 := K9.onto bb'; replace s9 := s9.onto bb'; replace B9 := B9.onto bb'
    have sT : S wb 8 Cc b9 (R.2.1.map encQ) := by
      have h1 := Sl.take sC (m := b9) (by omega)
      rw [← List.map_append, ← List.map_take, G.out, ← H6.out] at h1
      rw [G.out]; exact h1
    unfold maxLen at hcM
    clear sA8 sB8 ownC b bb' sC
    have i0 : (0 : Int) ≤ (b9 : Int) := by omega
    have i1 : (b9 : Int) ≤ (yc : Int) := by omega
    go_wp2_with fail
    refine Calls.mono (EqualQ_calls L9 Cc b9 b9 y9 yc wb.heap.size R.2.1 R.2.1 wb s9 sT (by omega)) ?_
    rintro e wd ⟨rfl, qd, rfl⟩
    have bd : Onto wb (wb.drewN qd) := (Onto.rfl' wb).draws qd
    replace on8 := on8.to bd; replace K9 := K9.onto bd; replace s9 := s9.onto bd; replace B9 := B9.onto bd
    clear sT bd i0 i1 hcc hcM
    rw [decide_eq_true (rfl : R.2.1 = R.2.1)]
    generalize wb.drewN qd = wd at *
    have b0 := B9.at_ 0 rfl; have b1 := B9.at_ 1 rfl
    go_upto_region 16 with fail
    go_wp2_with fail
    refine Calls.mono (DRecover_calls F9 G9 k9' i9 m9 j9 R.1 _ (E.onto on8) K9) ?_
    rw [H7.out]
    unfold RvPost
    rintro e we ⟨Fe, ke, ie, Ge, me, je, Le, be, ye, rfl, Ke, se, hbye, hyMe, fF, fG, fL, b⟩
    dsimp only at Ke se
    dsimp only
    replace on8 := on8.to b; replace s9 := s9.onto b; replace B9 := B9.onto b; replace K9 := K9.onto b
    clear b b0 b1
    go_upto_region 17 with fail
    have ob := (Onto.rfl' we).new (Obj.cells #[.slice Fe ke ie, .slice Ge me je] 53)
    have Be : Bx (we.alloc (Obj.cells #[.slice Fe ke ie, .slice Ge me je] 53)) we.heap.size [.slice Fe ke ie, .slice Ge me je] := Bx.made _ _ _
    replace on8 := on8.to ob; replace B9 := B9.onto ob; replace K9 := K9.onto ob; replace s9 := s9.onto ob; replace Ke := Ke.onto ob; replace se := se.onto ob
    clear ob
    try change Code.wp _ _ _ _ (we.alloc (Obj.cells #[.slice Fe ke ie, .slice Ge me je] 53))
    generalize (we.alloc (Obj.cells #[.slice Fe ke ie, .slice Ge me je] 53)) = wf at *
    generalize we.heap.size = zq at *
    have b0 := B9.at_ 0 rfl; have b1 := B9.at_ 1 rfl
    have q0 := Be.at_ 0 rfl; have q1 := Be.at_ 1 rfl
    go_wp2_with fail
    refine Calls.mono (DSame_calls Fe Ge ke ie me je R.1 F9 G9 k9' i9 m9 j9 R.1 _ Ke K9) ?_
    rw [decide_eq_true (rfl : R.1 = R.1)]
    rintro e wg ⟨rfl, b⟩
    replace on8 := on8.to b; replace B9 := B9.onto b; replace s9 := s9.onto b; replace se := se.onto b
    clear b b0 b1 q0 q1 Ke
    go_wp2_with fail
    refine Calls.mono (EqualQ_calls Le L9 be b9 ye y9 wg.heap.size R.2.1 R.2.1 wg se s9 (by have := se.len; simp at this; rw [← this, ← G.out]; omega)) ?_
    rw [decide_eq_true (rfl : R.2.1 = R.2.1)]
    rintro e wh ⟨rfl, qh, rfl⟩
    have bd : Onto wg (wg.drewN qh) := (Onto.rfl' wg).draws qh
    replace on8 := on8.to bd; replace B9 := B9.onto bd
    generalize wg.drewN qh = wh at *
    have b0 := B9.at_ 0 rfl; have b1 := B9.at_ 1 rfl
    have hm9 : m9 = 0 := by rw [K9.m_eq, H8.out]; rfl
    subst hm9
    have HON := Lib.hid on8
    clear on8
    go_wp2_with fail
    go_ret
    exact ⟨ret_bool (by simp), HON.out⟩
end Go.Proofs.YtdcegdonppfbkaaDoor
