/- The closed fact 'filed'. -/
import Derived.Test.YtdcegdonppfbkaaDoorDRec
import Derived.Test.YtdcegdonppfbkaaDoorDCrash
import Derived.Test.YtdcegdonppfbkaaDoorLawK
namespace Go.Proofs.YtdcegdonppfbkaaDoor
set_option linter.unusedSimpArgs false
set_option linter.unusedVariables false
open Go.RowKit

theorem DK.puts {w : World} {A A' : Option Addr} {n c m d z : Nat} {x : Dsk} (h : DK w A n c A' m d x) (h1 : OffN n z A) (h2 : OffN m z A') {us : List Value} {o : Nat} : DK (w.setCells z o us) A n c A' m d x :=
  ⟨put_S (w := w) h1 h.safe, put_S (w := w) h2 h.wait, h.n_le, h.c_le, h.m_le, h.d_le⟩
theorem Fresh.mono {lo lo' : Nat} {A : Option Addr} (h : Fresh lo A) (hl : lo' ≤ lo) : Fresh lo' A := fun a e => Nat.le_trans hl (h a e)
theorem fd_text : textR ⟨2, 0, 2, ⟨0, 0, 0, 0, 0⟩⟩ = [115, 101, 97, 108, 32, 50] ∧ textR ⟨2, 0, 3, ⟨0, 0, 0, 0, 0⟩⟩ = [115, 101, 97, 108, 32, 51] := by
  obtain ⟨_, h2, h3, _⟩ := itoa_small
  unfold textR
  rw [if_pos rfl, if_pos rfl, h2, h3]
  exact ⟨rfl, rfl⟩
theorem fd_ok : OkRs [⟨2, 0, 2, ⟨0, 0, 0, 0, 0⟩⟩] := OkRs.one (by decide)
theorem fd_txt : txt [⟨2, 0, 2, ⟨0, 0, 0, 0, 0⟩⟩] = [115, 101, 97, 108, 32, 50, 10] := by rw [txt, textP_cons, fd_text.1]; rfl
theorem fd_nil : checkK noK = 0 := checkK_of (l := []) (t := []) (fun x hx => by simp at hx) (by simp) (by simp [textP])
theorem fd_1 : putK noK ⟨2, 0, 2, ⟨0, 0, 0, 0, 0⟩⟩ = (⟨[], [115, 101, 97, 108, 32, 50, 10]⟩, 0) := by
  rw [putK_ok fd_nil (by decide) (by rw [fd_text.1]; simp [noK]), fd_text.1]; rfl
theorem fd_2 : syncK ⟨[], [115, 101, 97, 108, 32, 50, 10]⟩ = (⟨[115, 101, 97, 108, 32, 50, 10], []⟩, 0) := by
  have h := syncK_ok (l := []) (m := [⟨2, 0, 2, ⟨0, 0, 0, 0, 0⟩⟩]) (fun x hx => by simp at hx) fd_ok (by simp) (by rw [fd_txt]; simp [textP])
  rw [List.nil_append, fd_txt] at h
  exact h
theorem fd_c (t : List UInt8) (ht : t.length ≤ 100) : checkK ⟨[115, 101, 97, 108, 32, 50, 10], t⟩ = 0 := by
  have h := checkK_of (t := t) fd_ok (by simp) (by rw [fd_txt]; simp; omega)
  rwa [fd_txt] at h
theorem fd_3 : putK ⟨[115, 101, 97, 108, 32, 50, 10], []⟩ ⟨2, 0, 3, ⟨0, 0, 0, 0, 0⟩⟩ = (⟨[115, 101, 97, 108, 32, 50, 10], [115, 101, 97, 108, 32, 51, 10]⟩, 0) := by
  rw [putK_ok (fd_c [] (by simp)) (by decide) (by rw [fd_text.2]; simp), fd_text.2]; rfl
theorem fd_4 : crashK ⟨[115, 101, 97, 108, 32, 50, 10], [115, 101, 97, 108, 32, 51, 10]⟩ 4 = (⟨[115, 101, 97, 108, 32, 50, 10], [115, 101, 97, 108]⟩, 0) := by
  unfold crashK
  rw [if_neg (by simp [fd_c]), if_neg (by simp)]
  rfl
theorem fd_5 : recoverK ⟨[115, 101, 97, 108, 32, 50, 10], [115, 101, 97, 108]⟩ = (⟨[115, 101, 97, 108, 32, 50, 10], []⟩, [⟨2, 0, 2, ⟨0, 0, 0, 0, 0⟩⟩], 0) := by
  have h1 := linesK_all (most := 160) fd_ok (by simp)
  rw [fd_txt] at h1
  have h2 := linesK_part (l := []) (most := 159) (s := [115, 101, 97, 108]) (fun x hx => by simp at hx) (by simp) (by decide)
  unfold recoverK backK recsK
  rw [if_neg (by simp [fd_c])]
  dsimp only
  rw [h1]
  have h3 : linesK [115, 101, 97, 108] 159 = ([], 0, 9) := by simpa [textP] using h2
  simp [h3]

set_option maxHeartbeats 8000000 in
set_option maxRecDepth 100000 in
theorem filed_calls (w : World) (E : Env w) :
    Calls Tryd.prog 32 #[] w fun e w' => e = .returned (.bool true) ∧ Onto w w' := by
  go_enter Tryd.func32, Tryd.ntmps32
  go_wp2_with fail
  refine Calls.mono (DPut_calls none none 0 0 0 0 noK ⟨2, 0, 2, ⟨0, 0, 0, 0, 0⟩⟩ _ E (DK.none_ _)) ?_
  rw [fd_1]
  rintro e w1 ⟨F1, n1, c1, G1, m1, d1, rfl, K1, fF, fG, on⟩
  dsimp only
  go_upto_region 2 with fail
  have ob := (Onto.rfl' w1).new (Obj.cells #[.slice F1 n1 c1, .slice G1 m1 d1] 53)
  have B : Bx (w1.alloc (Obj.cells #[.slice F1 n1 c1, .slice G1 m1 d1] 53)) w1.heap.size [.slice F1 n1 c1, .slice G1 m1 d1] := Bx.made _ _ _
  have hzw := on.size
  replace on := on.to ob; replace K1 := K1.onto ob
  clear ob fF fG
  try change Code.wp _ _ _ _ (w1.alloc (Obj.cells #[.slice F1 n1 c1, .slice G1 m1 d1] 53))
  generalize (w1.alloc (Obj.cells #[.slice F1 n1 c1, .slice G1 m1 d1] 53)) = v1 at *
  generalize w1.heap.size = z at *
  have b0 := B.at_ 0 rfl; have b1 := B.at_ 1 rfl
  go_wp2_with fail
  refine Calls.mono (DSync_calls F1 G1 n1 c1 m1 d1 _ _ (E.onto on) K1) ?_
  rw [fd_2]
  rintro e w2 ⟨F2, n2, c2, G2, m2, d2, rfl, K2, fF, fG, b⟩
  dsimp only
  have hz2 := B.lt
  replace on := on.to b; replace B := B.onto b
  clear b b0 b1
  go_upto_region 3 with (refine wpList_put B [.slice F2 n2 c2, .slice G2 m2 d2] 53 _ _ (by rfl) (by rfl) (by rfl) (by rfl) (by rfl) sizeD (by rfl) ?_)
  have B' := B.put (us := [.slice F2 n2 c2, .slice G2 m2 d2]) rfl
  have K' := K2.puts (z := z) (o := 0) (us := [.slice F2 n2 c2, .slice G2 m2 d2]) (fF.offN hz2) (fG.offN hz2)
  replace on := Onto.puts (b := z) (o := 0) (us := [.slice F2 n2 c2, .slice G2 m2 d2]) hzw on
  clear B K2 fF fG hz2
  have B := B'; have K2 := K'
  clear B' K'
  generalize World.setCells _ z 0 [.slice F2 n2 c2, .slice G2 m2 d2] = v2 at B K2 on ⊢
  have b0 := B.at_ 0 rfl; have b1 := B.at_ 1 rfl
  go_wp2_with fail
  refine Calls.mono (DPut_calls F2 G2 n2 c2 m2 d2 _ ⟨2, 0, 3, ⟨0, 0, 0, 0, 0⟩⟩ _ (E.onto on) K2) ?_
  rw [fd_3]
  rintro e w3 ⟨F3, n3, c3, G3, m3, d3, rfl, K3, fF, fG, b⟩
  dsimp only
  have hz3 := B.lt
  replace on := on.to b; replace B := B.onto b
  clear b b0 b1
  go_upto_region 4 with (refine wpList_put B [.slice F3 n3 c3, .slice G3 m3 d3] 53 _ _ (by rfl) (by rfl) (by rfl) (by rfl) (by rfl) sizeD (by rfl) ?_)
  have B' := B.put (us := [.slice F3 n3 c3, .slice G3 m3 d3]) rfl
  have K' := K3.puts (z := z) (o := 0) (us := [.slice F3 n3 c3, .slice G3 m3 d3]) (fF.offN hz3) (fG.offN hz3)
  replace on := Onto.puts (b := z) (o := 0) (us := [.slice F3 n3 c3, .slice G3 m3 d3]) hzw on
  clear B K3 fF fG hz3
  have B := B'; have K3 := K'
  clear B' K'
  generalize World.setCells _ z 0 [.slice F3 n3 c3, .slice G3 m3 d3] = v3 at B K3 on ⊢
  have b0 := B.at_ 0 rfl; have b1 := B.at_ 1 rfl
  go_wp2_with fail
  refine Calls.mono (DCrash_calls F3 G3 n3 c3 m3 d3 _ 4 _ (E.onto on) K3) ?_
  rw [fd_4]
  rintro e w4 ⟨F4, n4, c4, G4, m4, d4, rfl, K4, fF, fG, b⟩
  dsimp only
  have hz4 := B.lt
  replace on := on.to b; replace B := B.onto b
  clear b b0 b1
  go_upto_region 5 with (refine wpList_put B [.slice F4 n4 c4, .slice G4 m4 d4] 53 _ _ (by rfl) (by rfl) (by rfl) (by rfl) (by rfl) sizeD (by rfl) ?_)
  have B' := B.put (us := [.slice F4 n4 c4, .slice G4 m4 d4]) rfl
  have K' := K4.puts (z := z) (o := 0) (us := [.slice F4 n4 c4, .slice G4 m4 d4]) (fF.offN hz4) (fG.offN hz4)
  replace on := Onto.puts (b := z) (o := 0) (us := [.slice F4 n4 c4, .slice G4 m4 d4]) hzw on
  clear B K4 fF fG hz4
  have B := B'; have K4 := K'
  clear B' K'
  generalize World.setCells _ z 0 [.slice F4 n4 c4, .slice G4 m4 d4] = v4 at B K4 on ⊢
  have b0 := B.at_ 0 rfl; have b1 := B.at_ 1 rfl
  go_wp2_with fail
  refine Calls.mono (DRecover_calls F4 G4 n4 c4 m4 d4 _ _ (E.onto on) K4) ?_
  rw [fd_5]
  rintro e w5 ⟨F5, n5, c5, G5, m5, d5, B5, k5, y5, rfl, K5, sB, hky, hym, fF, fG, fB, b⟩
  dsimp only
  have hz5 := B.lt
  replace on := on.to b; replace B := B.onto b
  clear b b0 b1
  go_upto_region 6 with (refine wpList_put B [.slice F5 n5 c5, .slice G5 m5 d5] 53 _ _ (by rfl) (by rfl) (by rfl) (by rfl) (by rfl) sizeD (by rfl) ?_)
  have B' := B.put (us := [.slice F5 n5 c5, .slice G5 m5 d5]) rfl
  have K' := K5.puts (z := z) (o := 0) (us := [.slice F5 n5 c5, .slice G5 m5 d5]) (fF.offN hz5) (fG.offN hz5)
  have sB' := put_S (w := w) (fB.offN hz5) (vs := [.slice F5 n5 c5, .slice G5 m5 d5]) (o := 0) sB
  replace on := Onto.puts (b := z) (o := 0) (us := [.slice F5 n5 c5, .slice G5 m5 d5]) hzw on
  clear B K5 fF fG hz5 sB
  generalize World.setCells _ z 0 [.slice F5 n5 c5, .slice G5 m5 d5] = v5 at B' K' sB' on ⊢
  have b0 := B'.at_ 0 rfl; have b1 := B'.at_ 1 rfl
  have cv := conv_bytes (c := c5) K'.safe
  have hm5 := K'.m_eq
  have hk5 := sB'.len
  simp at hm5 hk5
  subst hm5
  subst hk5
  obtain ⟨bb, off, x, rfl, hbb, hx, q0, q1, q2, q3, q4, q5, q6, q7⟩ := sB'.atQ (i := 0) (by omega)
  simp at hx
  subst hx
  simp only [Nat.zero_mul, Nat.add_zero] at q2
  clear q0 q1 q3 q4 q5 q6 q7 K' sB' B'
  go_wp2_with fail
  go_ret
  exact ⟨ret_bool (by simp), on⟩
end Go.Proofs.YtdcegdonppfbkaaDoor
