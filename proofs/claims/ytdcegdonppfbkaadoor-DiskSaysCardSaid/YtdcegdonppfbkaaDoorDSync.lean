/- disk.Sync, Crash, Recover. -/
import Derived.Test.YtdcegdonppfbkaaDoorDCheck
import Derived.Test.YtdcegdonppfbkaaDoorLive
import Derived.Test.YtdcegdonppfbkaaDoorDPut
namespace Go.Proofs.YtdcegdonppfbkaaDoor
set_option linter.unusedSimpArgs false
set_option linter.unusedVariables false
open Go.RowKit
attribute [local go_sem ↓] Go.wp_at_zero Go.wp_at_succ

theorem Own.puts {base E k n z : Nat} {v : Value} {rows : List (List Value)} (hz : z < base) : ∀ {us : List Value} {o : Nat} {w : World}, Own w base E k v n rows → Own (w.setCells z o us) base E k v n rows
  | [], _, _, h => h
  | u :: us, o, w, h => by rw [World.setCells]; exact Own.puts hz (h.setCell (by simpa using hz) u)
/-- A synced disk of one row. -/
theorem DK.one {w : World} {base n m c : Nat} {A : Option Addr} {a b : List UInt8} (h : Own w base 5 1 (.slice A (n + m) c) (n + m) (a.map encB ++ b.map encB)) : DK w A (n + m) c none 0 0 ⟨a ++ b, []⟩ :=
  ⟨by rw [show (⟨a ++ b, []⟩ : Dsk).safe.map encB = a.map encB ++ b.map encB by simp]; exact h.sl, Sl.nil, h.le_cap, h.cap_max, by omega, by simp [maxLen]⟩
set_option maxHeartbeats 8000000 in
set_option maxRecDepth 100000 in
theorem DSync_calls (A A' : Option Addr) (n c m d : Nat) (x : Dsk) (w : World) (E : Env w) (K : DK w A n c A' m d x) :
    Calls Tryd.prog 35 #[.agg #[.slice A n c, .slice A' m d]] w (DnPost w (syncK x)) := by
  obtain ⟨g, hg⟩ : ∃ g, g = checkK x := ⟨_, rfl⟩
  obtain ⟨h, hh⟩ : ∃ h, h = checkK ⟨x.safe ++ x.wait, []⟩ := ⟨_, rfl⟩
  obtain ⟨q, hq⟩ : ∃ q, q = syncK x := ⟨_, rfl⟩
  rw [← hq]
  unfold syncK at hq
  rw [← hg, ← hh] at hq
  have HG := Lib.hid hg; have HH := Lib.hid hh; have HQ := Lib.hid hq
  clear hg hh hq
  go_enter Tryd.func35, Tryd.ntmps35
  go_upto_region 1 with fail
  have B2 : Bx ((w.alloc (Obj.cells #[.slice A n c, .slice A' m d] 53)).alloc (Obj.cells #[.slice none 0 0, .slice none 0 0] 53)) w.heap.size [.slice A n c, .slice A' m d] := by
    have := ((Bx.made w #[.slice A n c, .slice A' m d] 53).new (Obj.cells #[.slice none 0 0, .slice none 0 0] 53))
    simpa using this
  have Bz : Bx ((w.alloc (Obj.cells #[.slice A n c, .slice A' m d] 53)).alloc (Obj.cells #[.slice none 0 0, .slice none 0 0] 53)) (w.heap.size + 1) [.slice none 0 0, .slice none 0 0] := by
    have := (Bx.made (w.alloc (Obj.cells #[.slice A n c, .slice A' m d] 53)) #[.slice none 0 0, .slice none 0 0] 53)
    simpa using this
  have on : Onto w ((w.alloc (Obj.cells #[.slice A n c, .slice A' m d] 53)).alloc (Obj.cells #[.slice none 0 0, .slice none 0 0] 53)) := ((Onto.rfl' w).new _).new _
  generalize ((w.alloc (Obj.cells #[.slice A n c, .slice A' m d] 53)).alloc (Obj.cells #[.slice none 0 0, .slice none 0 0] 53)) = w1 at *
  have hz' : w.heap.size ≤ w.heap.size + 1 := by omega
  have hzz : w.heap.size ≠ w.heap.size + 1 := by omega
  generalize w.heap.size + 1 = z at Bz hz' hzz ⊢
  generalize hz2 : w.heap.size = z2 at B2 hzz ⊢
  clear hz2
  have b0 := B2.at_ 0 rfl; have b1 := B2.at_ 1 rfl
  go_wp2_with fail
  refine Calls.mono (DCheck_calls A A' n c m d x _ (E.onto on) (K.onto on)) ?_
  rintro e w2 ⟨rfl, b⟩
  rw [show checkK x = g from HG.out.symm]
  replace on := on.to b; replace B2 := B2.onto b; replace Bz := Bz.onto b
  have hs2 := on.size
  clear b b0 b1
  by_cases hg0 : g = 0
  · have hbd : n + m ≤ 30000 := by rw [K.n_eq, K.m_eq]; exact decB x (by rw [← HG.out, hg0])
    have hn : n ≤ 30000 := by omega
    have hm : m ≤ 30000 := by omega
    have hq := HQ.out
    rw [if_neg (by simp [hg0])] at hq
    replace HQ := Lib.hid hq
    have HG0 := Lib.hid hg0
    subst hg0
    clear hq
    have b0 := B2.at_ 0 rfl; have b1 := B2.at_ 1 rfl
    have hzw : z < w2.heap.size := Bz.lt
    go_wp2_with fail
    refine Calls.mono (ConcatB_calls _ A A' n c m d _ 2 (x.safe.map encB) (x.wait.map encB) (by simp [go_sem]) (by simp [go_sem]) ((K.onto on).safe.new _) ((K.onto on).wait.new _) (encB_one _) (encB_one _) (by omega)) ?_
    rintro e w3 ⟨A1, c1, rfl, own1, b⟩
    have b3 : Onto w2 w3 := Onto.to ((Onto.rfl' w2).new _) b
    replace on := on.to b3; replace Bz := Bz.onto b3
    have o1 : Own w3 w2.heap.size 5 1 (.slice A1 (n + m) c1) (n + m) (x.safe.map encB ++ x.wait.map encB) := own1.lower (by simp)
    clear b b3 own1 b0 b1 B2
    go_upto_region 5 with fail
    have on5 := (Onto.rfl' w3).new (Obj.cells #[.slice A1 (n + m) c1, .slice none 0 0] 53)
    have B5 : Bx (w3.alloc (Obj.cells #[.slice A1 (n + m) c1, .slice none 0 0] 53)) w3.heap.size [.slice A1 (n + m) c1, .slice none 0 0] := Bx.made _ _ _
    replace on := on.to on5; replace Bz := Bz.onto on5; replace o1 := o1.below on5
    clear on5
    generalize (w3.alloc (Obj.cells #[.slice A1 (n + m) c1, .slice none 0 0] 53)) = w5 at *
    generalize w3.heap.size = z5 at *
    have b0 := B5.at_ 0 rfl; have b1 := B5.at_ 1 rfl
    go_wp2_with fail
    refine Calls.mono (DCheck_calls A1 none (n + m) c1 0 0 ⟨x.safe ++ x.wait, []⟩ _ (E.onto on) (DK.one o1)) ?_
    rintro e w6 ⟨rfl, b⟩
    rw [show checkK ⟨x.safe ++ x.wait, []⟩ = h from HH.out.symm]
    replace on := on.to b; replace B5 := B5.onto b; replace Bz := Bz.onto b; replace o1 := o1.below b
    clear b b0 b1
    by_cases hh0 : h = 0
    · have hq := HQ.out
      rw [if_neg (by simp [hh0])] at hq
      subst hq
      subst hh0
      have b0 := B5.at_ 0 rfl; have b1 := B5.at_ 1 rfl
      have HO := Lib.hid o1
      clear o1
      go_wp2_with (refine wpList_put Bz [.slice A1 (n + m) c1, .slice none 0 0] 53 _ _ (by rfl) (by rfl) (by rfl) (by rfl) (by rfl) sizeD (by rfl) ?_)
      have hF := Bz.put (us := [.slice A1 (n + m) c1, .slice none 0 0]) rfl
      have oF := Onto.puts (b := z) (o := 0) (us := [.slice A1 (n + m) c1, .slice none 0 0]) hz' on
      have HOF := Lib.hid (Own.puts (us := [.slice A1 (n + m) c1, .slice none 0 0]) (o := 0) hzw HO.out)
      clear HO
      generalize World.setCells _ z 0 [.slice A1 (n + m) c1, .slice none 0 0] = wF at hF oF HOF ⊢
      go_wp2_with fail
      have p0 := hF.at_ 0 rfl; have p1 := hF.at_ 1 rfl
      refine bodyPost_ret (v := .tuple #[.agg #[.slice A1 (n + m) c1, .slice none 0 0], .int .i64 0]) (by simp [results, Tryd.results35, go_sem, p0, p1]) rfl ⟨A1, n + m, c1, none, 0, 0, rfl, DK.one HOF.out, HOF.out.fresh hs2, Fresh.none_ _, oF⟩
    · have hq := HQ.out
      rw [if_pos hh0] at hq
      subst hq
      have hg1 : (h == 0) = false := by simp [hh0]
      have hg2 : (h != 0) = true := by simp [hh0]
      clear hh0
      go_wp2_with (refine wpList_put Bz [.slice none 0 0, .slice none 0 0] 53 _ _ (by rfl) (by rfl) (by rfl) (by rfl) (by rfl) sizeD (by rfl) ?_)
      have hF := Bz.put (us := [.slice none 0 0, .slice none 0 0]) rfl
      have oF := Onto.puts (b := z) (o := 0) (us := [.slice none 0 0, .slice none 0 0]) hz' on
      generalize World.setCells _ z 0 [.slice none 0 0, .slice none 0 0] = wF at hF oF ⊢
      go_wp2_with fail
      have p0 := hF.at_ 0 rfl; have p1 := hF.at_ 1 rfl
      refine bodyPost_ret (v := .tuple #[.agg #[.slice none 0 0, .slice none 0 0], .int .i64 h]) (by simp [results, Tryd.results35, go_sem, p0, p1]) rfl (DnPost.bad rfl oF)
  · have hq := HQ.out
    rw [if_pos hg0] at hq
    subst hq
    have hg1 : (g == 0) = false := by simp [hg0]
    have hg2 : (g != 0) = true := by simp [hg0]
    clear hg0
    go_wp2_with (refine wpList_put Bz [.slice none 0 0, .slice none 0 0] 53 _ _ (by rfl) (by rfl) (by rfl) (by rfl) (by rfl) sizeD (by rfl) ?_)
    have hF := Bz.put (us := [.slice none 0 0, .slice none 0 0]) rfl
    have oF := Onto.puts (b := z) (o := 0) (us := [.slice none 0 0, .slice none 0 0]) hz' on
    generalize World.setCells _ z 0 [.slice none 0 0, .slice none 0 0] = wF at hF oF ⊢
    go_wp2_with fail
    have p0 := hF.at_ 0 rfl; have p1 := hF.at_ 1 rfl
    refine bodyPost_ret (v := .tuple #[.agg #[.slice none 0 0, .slice none 0 0], .int .i64 g]) (by simp [results, Tryd.results35, go_sem, p0, p1]) rfl (DnPost.bad rfl oF)
end Go.Proofs.YtdcegdonppfbkaaDoor
