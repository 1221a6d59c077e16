/- disk.Crash. -/
import Derived.Test.YtdcegdonppfbkaaDoorDCheck
import Derived.Test.YtdcegdonppfbkaaDoorLive
import Derived.Test.YtdcegdonppfbkaaDoorDSync
namespace Go.Proofs.YtdcegdonppfbkaaDoor
set_option linter.unusedSimpArgs false
set_option linter.unusedVariables false
open Go.RowKit
attribute [local go_sem ↓] Go.wp_at_zero Go.wp_at_succ

set_option maxHeartbeats 8000000 in
set_option maxRecDepth 100000 in
theorem DCrash_calls (A A' : Option Addr) (n c m d : Nat) (x : Dsk) (k : Int) (w : World) (E : Env w) (K : DK w A n c A' m d x) :
    Calls Tryd.prog 36 #[.agg #[.slice A n c, .slice A' m d], .int .i64 k] w (DnPost w (crashK x k)) := by
  obtain ⟨g, hg⟩ : ∃ g, g = checkK x := ⟨_, rfl⟩
  obtain ⟨q, hq⟩ : ∃ q, q = crashK x k := ⟨_, rfl⟩
  rw [← hq]
  unfold crashK at hq
  rw [← hg, ← K.m_eq] at hq
  have HG := Lib.hid hg; have HQ := Lib.hid hq
  clear hg hq
  go_enter Tryd.func36, Tryd.ntmps36
  go_upto_region 1 with fail
  have B2 : Bx ((w.alloc (Obj.cells #[.slice A n c, .slice A' m d] 53)).alloc (Obj.cells #[.slice none 0 0, .slice none 0 0] 53)) w.heap.size [.slice A n c, .slice A' m d] := by
    have := ((Bx.made w #[.slice A n c, .slice A' m d] 53).new (Obj.cells #[.slice none 0 0, .slice none 0 0] 53))
    simpa using this
  have Bz : Bx ((w.alloc (Obj.cells #[.slice A n c, .slice A' m d] 53)).alloc (Obj.cells #[.slice none 0 0, .slice none 0 0] 53)) (w.heap.size + 1) [.slice none 0 0, .slice none 0 0] := by
    have := (Bx.made (w.alloc (Obj.cells #[.slice A n c, .slice A' m d] 53)) #[.slice none 0 0, .slice none 0 0] 53)
    simpa using this
  have on : Onto w ((w.alloc (Obj.cells #[.slice A n c, .slice A' m d] 53)).alloc (Obj.cells #[.slice none 0 0, .slice none 0 0] 53)) := ((Onto.rfl' w).new _).new _
  generalize ((w.alloc (Obj.cells #[.slice A n c, .slice A' m d] 53)).alloc (Obj.cells #[.slice none 0 0, .slice none 0 0] 53)) = w1 at *
  have hz' : w.heap.size ≤ w.heap.size + 1 := by omega
  have hzz : w.heap.size ≠ w.heap.size + 1 := by omega
  generalize w.heap.size + 1 = z at Bz hz' hzz ⊢
  generalize hz2 : w.heap.size = z2 at B2 hzz ⊢
  clear hz2
  have b0 := B2.at_ 0 rfl; have b1 := B2.at_ 1 rfl
  go_wp2_with fail
  refine Calls.mono (DCheck_calls A A' n c m d x _ (E.onto on) (K.onto on)) ?_
  rintro e w2 ⟨rfl, b⟩
  rw [show checkK x = g from HG.out.symm]
  replace on := on.to b; replace B2 := B2.onto b; replace Bz := Bz.onto b
  have hs2 := on.size
  clear b b0 b1
  by_cases hg0 : g = 0
  · have hbd : n + m ≤ 30000 := by rw [K.n_eq, K.m_eq]; exact decB x (by rw [← HG.out, hg0])
    have hn : n ≤ 30000 := by omega
    have hm : m ≤ 30000 := by omega
    have hq := HQ.out
    rw [if_neg (by simp [hg0])] at hq
    replace HQ := Lib.hid hq
    have HG0 := Lib.hid hg0
    subst hg0
    clear hq
    have b0 := B2.at_ 0 rfl; have b1 := B2.at_ 1 rfl
    have hmd : m ≤ d := K.m_le
    have hdm : d ≤ 9223372036854775807 := by have := K.d_le; unfold maxLen at this; omega
    by_cases hk0 : k < 0
    · have hq := HQ.out
      rw [if_pos (.inl hk0)] at hq
      subst hq
      go_wp2_with (refine wpList_put Bz [.slice none 0 0, .slice none 0 0] 53 _ _ (by rfl) (by rfl) (by rfl) (by rfl) (by rfl) sizeD (by rfl) ?_)
      have hF := Bz.put (us := [.slice none 0 0, .slice none 0 0]) rfl
      have oF := Onto.puts (b := z) (o := 0) (us := [.slice none 0 0, .slice none 0 0]) hz' on
      generalize World.setCells _ z 0 [.slice none 0 0, .slice none 0 0] = wF at hF oF ⊢
      go_wp2_with fail
      have p0 := hF.at_ 0 rfl; have p1 := hF.at_ 1 rfl
      refine bodyPost_ret (v := .tuple #[.agg #[.slice none 0 0, .slice none 0 0], .int .i64 3]) (by simp [results, Tryd.results36, go_sem, p0, p1]) rfl (DnPost.bad rfl oF)
    · by_cases hk1 : (m : Int) < k
      · have hq := HQ.out
        rw [if_pos (.inr hk1)] at hq
        subst hq
        go_wp2_with (refine wpList_put Bz [.slice none 0 0, .slice none 0 0] 53 _ _ (by rfl) (by rfl) (by rfl) (by rfl) (by rfl) sizeD (by rfl) ?_)
        have hF := Bz.put (us := [.slice none 0 0, .slice none 0 0]) rfl
        have oF := Onto.puts (b := z) (o := 0) (us := [.slice none 0 0, .slice none 0 0]) hz' on
        generalize World.setCells _ z 0 [.slice none 0 0, .slice none 0 0] = wF at hF oF ⊢
        go_wp2_with fail
        have p0 := hF.at_ 0 rfl; have p1 := hF.at_ 1 rfl
        refine bodyPost_ret (v := .tuple #[.agg #[.slice none 0 0, .slice none 0 0], .int .i64 3]) (by simp [results, Tryd.results36, go_sem, p0, p1]) rfl (DnPost.bad rfl oF)
      · have hq := HQ.out
        rw [if_neg (by omega)] at hq
        subst hq
        obtain ⟨j, rfl⟩ : ∃ j : Nat, k = (j : Int) := ⟨k.toNat, by omega⟩
        have hj : j ≤ m := by omega
        have i0 : (0 : Int) ≤ (j : Int) := by omega
        have i1 : (j : Int) ≤ (d : Int) := by omega
        have i2 : ¬ (m : Int) < (j : Int) := hk1
        have i3 : ¬ (j : Int) < 0 := hk0
        clear hk0 hk1
        go_upto_region 6 with fail
        have K3 := K.onto on
        have hsj : S w2 1 A' j ((x.wait.take j).map encB) := by rw [List.map_take]; exact Sl.take K3.wait hj
        have LV := Live.start w2 2
        have zb0 := Bz.at_ 0 rfl; have zb1 := Bz.at_ 1 rfl
        go_region_held3 (fun w' => w'.cell? ⟨z2, 0, none⟩ = some (.slice A n c) ∧ w'.cell? ⟨z2, 1, none⟩ = some (.slice A' m d))
          (first | exact ⟨cellB (Live.on (by with_reducible (first | exact LV | exact LV.draw))) b0, cellB (Live.on (by with_reducible (first | exact LV | exact LV.draw))) b1⟩ | exact ⟨(((B2.onto (Live.on (by with_reducible (first | exact LV | exact LV.draw)))).off1 (p := ⟨z, 0, none⟩) hzz _).off1 (p := ⟨z, 1, none⟩) hzz _).at_ 0 rfl, (((B2.onto (Live.on (by with_reducible (first | exact LV | exact LV.draw)))).off1 (p := ⟨z, 0, none⟩) hzz _).off1 (p := ⟨z, 1, none⟩) hzz _).at_ 1 rfl⟩ | fail)
          (first
            | (go_at_call 72; refine Calls.mono (CloneB_live (by with_reducible (first | exact LV | exact LV.draw)) 0 (by simp) A n c x.safe K3.safe (by omega)) ?_; rintro e w6 ⟨A1, c1, rfl, LV⟩; have Z := Bz.onto LV.on; have p0 := Z.at_ 0 rfl; have p1 := Z.at_ 1 rfl; have f0 := Z.froz 0; have f1 := Z.froz 1; clear Z)
            | (go_at_call 72; refine Calls.mono (CloneB_live (by with_reducible (first | exact LV | exact LV.draw)) 1 (by simp) A' j d (x.wait.take j) hsj (by omega)) ?_; rintro e w7 ⟨A2, c2, rfl, LV⟩; have Z := Bz.onto LV.on; have p0 := Z.at_ 0 rfl; have p1 := Z.at_ 1 rfl; have f0 := Z.froz 0; have f1 := Z.froz 1; clear Z)
            | fail)
        all_goals
          have hz3 : z < w2.heap.size := Bz.lt
          have o1 : Own _ w2.heap.size 5 1 (.slice A1 n c1) n (x.safe.map encB) := LV.own 0 _ rfl
          have o2 : Own _ w2.heap.size 5 1 (.slice A2 j c2) j ((x.wait.take j).map encB) := LV.own 1 _ rfl
          have on9 := on.to LV.on
          have HO1 := Lib.hid o1; have HO2 := Lib.hid o2; have HON := Lib.hid on9
          clear o1 o2 on9 LV
          go_wp2_with fail
          refine bodyPost_ret (v := .tuple #[.agg #[.slice A1 n c1, .slice A2 j c2], .int .i64 0]) (by simp [results, Tryd.results36, go_sem, p0, p1]) rfl ⟨A1, n, c1, A2, j, c2, rfl, ⟨((HO1.out.setCell (p := ⟨z, 0, none⟩) hz3 _).setCell (p := ⟨z, 1, none⟩) hz3 _).sl, ?_, HO1.out.le_cap, HO1.out.cap_max, HO2.out.le_cap, HO2.out.cap_max⟩, HO1.out.fresh hs2, HO2.out.fresh hs2, (HON.out.put hz' _).put hz' _⟩
          rw [Int.toNat_natCast]
          exact ((HO2.out.setCell (p := ⟨z, 0, none⟩) hz3 _).setCell (p := ⟨z, 1, none⟩) hz3 _).sl
  · have hq := HQ.out
    rw [if_pos hg0] at hq
    subst hq
    have hg1 : (g == 0) = false := by simp [hg0]
    have hg2 : (g != 0) = true := by simp [hg0]
    clear hg0
    go_wp2_with (refine wpList_put Bz [.slice none 0 0, .slice none 0 0] 53 _ _ (by rfl) (by rfl) (by rfl) (by rfl) (by rfl) sizeD (by rfl) ?_)
    have hF := Bz.put (us := [.slice none 0 0, .slice none 0 0]) rfl
    have oF := Onto.puts (b := z) (o := 0) (us := [.slice none 0 0, .slice none 0 0]) hz' on
    generalize World.setCells _ z 0 [.slice none 0 0, .slice none 0 0] = wF at hF oF ⊢
    go_wp2_with fail
    have p0 := hF.at_ 0 rfl; have p1 := hF.at_ 1 rfl
    refine bodyPost_ret (v := .tuple #[.agg #[.slice none 0 0, .slice none 0 0], .int .i64 g]) (by simp [results, Tryd.results36, go_sem, p0, p1]) rfl (DnPost.bad rfl oF)
end Go.Proofs.YtdcegdonppfbkaaDoor
