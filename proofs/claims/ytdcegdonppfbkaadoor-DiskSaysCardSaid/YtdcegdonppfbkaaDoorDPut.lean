/- disk.Put. -/
import Derived.Test.YtdcegdonppfbkaaDoorDCheck
import Derived.Test.YtdcegdonppfbkaaDoorLive
import Derived.Test.YtdcegdonppfbkaaDoorNBack
namespace Go.Proofs.YtdcegdonppfbkaaDoor
set_option linter.unusedSimpArgs false
set_option linter.unusedVariables false
open Go.RowKit
attribute [local go_sem ↓] Go.wp_at_zero Go.wp_at_succ

theorem sizeD : (Tryd.prog.info? 53).map (·.size) = some 2 := by kernel_rfl
theorem Live.litNl {w0 w : World} {L : List (Option Ent)} (h : Live w0 w L) {i : Nat} (hi : i < L.length) : Live w0 (w.alloc (.cells #[.int .u8 10] 5)) (L.set i (some ⟨.slice (some ⟨w.heap.size, 0, none⟩) 1 1, 5, 1, 1, [encB 10]⟩)) := h.litB hi 10
/-- A disk and an error. -/
def DnPost (w : World) (q : Dsk × Int) (e : Ending) (w' : World) : Prop := ∃ F k i F' l j, e = .returned (.tuple #[.agg #[.slice F k i, .slice F' l j], .int .i64 q.2]) ∧ DK w' F k i F' l j q.1 ∧ Fresh w.heap.size F ∧ Fresh w.heap.size F' ∧ Onto w w'
theorem DnPost.bad {w w' : World} {q : Int} {v : Value} (h : v = .tuple #[.agg #[.slice none 0 0, .slice none 0 0], .int .i64 q]) (on : Onto w w') : DnPost w (noK, q) (.returned v) w' := ⟨none, 0, 0, none, 0, 0, by rw [h], DK.none_ _, Fresh.none_ _, Fresh.none_ _, on⟩
theorem decB (x : Dsk) (h : checkK x = 0) : x.safe.length + x.wait.length ≤ 30000 := (checkK_iff.1 h).1

set_option maxHeartbeats 8000000 in
set_option maxRecDepth 100000 in
theorem DPut_calls (A A' : Option Addr) (n c m d : Nat) (x : Dsk) (r : Rec) (w : World) (E : Env w) (K : DK w A n c A' m d x) :
    Calls Tryd.prog 34 #[.agg #[.slice A n c, .slice A' m d], .agg #[.int .i64 r.kind, .int .i64 r.at_, .int .i64 r.epoch, .int .i64 r.e.kind, .int .i64 r.e.job, .int .i64 r.e.every, .int .i64 r.e.time, .int .i64 r.e.client]] w (DnPost w (putK x r)) := by
  obtain ⟨g, hg⟩ : ∃ g, g = checkK x := ⟨_, rfl⟩
  obtain ⟨T, hT⟩ : ∃ T, T = (printR r).1 := ⟨_, rfl⟩
  obtain ⟨h, hh⟩ : ∃ h, h = (printR r).2 := ⟨_, rfl⟩
  obtain ⟨q, hq⟩ : ∃ q, q = putK x r := ⟨_, rfl⟩
  rw [← hq]
  unfold putK at hq
  rw [← hg, ← hT, ← hh, ← K.n_eq, ← K.m_eq] at hq
  have hTl : T.length ≤ 100 := hT ▸ printR_len r
  have HG := Lib.hid hg; have HT := Lib.hid hT; have HH := Lib.hid hh; have HQ := Lib.hid hq
  clear hg hT hh hq
  go_enter Tryd.func34, Tryd.ntmps34
  go_upto_region 1 with fail
  have B2 : Bx (((w.alloc (Obj.cells #[.slice A n c, .slice A' m d] 53)).alloc (Obj.cells #[.int .i64 r.kind, .int .i64 r.at_, .int .i64 r.epoch, .int .i64 r.e.kind, .int .i64 r.e.job, .int .i64 r.e.every, .int .i64 r.e.time, .int .i64 r.e.client] 35)).alloc (Obj.cells #[.slice none 0 0, .slice none 0 0] 53)) w.heap.size [.slice A n c, .slice A' m d] := by
    have := (((Bx.made w #[.slice A n c, .slice A' m d] 53).new (Obj.cells #[.int .i64 r.kind, .int .i64 r.at_, .int .i64 r.epoch, .int .i64 r.e.kind, .int .i64 r.e.job, .int .i64 r.e.every, .int .i64 r.e.time, .int .i64 r.e.client] 35)).new (Obj.cells #[.slice none 0 0, .slice none 0 0] 53))
    simpa using this
  have B3 : Bx (((w.alloc (Obj.cells #[.slice A n c, .slice A' m d] 53)).alloc (Obj.cells #[.int .i64 r.kind, .int .i64 r.at_, .int .i64 r.epoch, .int .i64 r.e.kind, .int .i64 r.e.job, .int .i64 r.e.every, .int .i64 r.e.time, .int .i64 r.e.client] 35)).alloc (Obj.cells #[.slice none 0 0, .slice none 0 0] 53)) (w.heap.size + 1) [.int .i64 r.kind, .int .i64 r.at_, .int .i64 r.epoch, .int .i64 r.e.kind, .int .i64 r.e.job, .int .i64 r.e.every, .int .i64 r.e.time, .int .i64 r.e.client] := by
    have := ((Bx.made (w.alloc (Obj.cells #[.slice A n c, .slice A' m d] 53)) #[.int .i64 r.kind, .int .i64 r.at_, .int .i64 r.epoch, .int .i64 r.e.kind, .int .i64 r.e.job, .int .i64 r.e.every, .int .i64 r.e.time, .int .i64 r.e.client] 35).new (Obj.cells #[.slice none 0 0, .slice none 0 0] 53))
    simpa using this
  have Bz : Bx (((w.alloc (Obj.cells #[.slice A n c, .slice A' m d] 53)).alloc (Obj.cells #[.int .i64 r.kind, .int .i64 r.at_, .int .i64 r.epoch, .int .i64 r.e.kind, .int .i64 r.e.job, .int .i64 r.e.every, .int .i64 r.e.time, .int .i64 r.e.client] 35)).alloc (Obj.cells #[.slice none 0 0, .slice none 0 0] 53)) (w.heap.size + 2) [.slice none 0 0, .slice none 0 0] := by
    have := (Bx.made ((w.alloc (Obj.cells #[.slice A n c, .slice A' m d] 53)).alloc (Obj.cells #[.int .i64 r.kind, .int .i64 r.at_, .int .i64 r.epoch, .int .i64 r.e.kind, .int .i64 r.e.job, .int .i64 r.e.every, .int .i64 r.e.time, .int .i64 r.e.client] 35)) #[.slice none 0 0, .slice none 0 0] 53)
    simpa using this
  have on : Onto w (((w.alloc (Obj.cells #[.slice A n c, .slice A' m d] 53)).alloc (Obj.cells #[.int .i64 r.kind, .int .i64 r.at_, .int .i64 r.epoch, .int .i64 r.e.kind, .int .i64 r.e.job, .int .i64 r.e.every, .int .i64 r.e.time, .int .i64 r.e.client] 35)).alloc (Obj.cells #[.slice none 0 0, .slice none 0 0] 53)) := (((Onto.rfl' w).new _).new _).new _
  generalize (((w.alloc (Obj.cells #[.slice A n c, .slice A' m d] 53)).alloc (Obj.cells #[.int .i64 r.kind, .int .i64 r.at_, .int .i64 r.epoch, .int .i64 r.e.kind, .int .i64 r.e.job, .int .i64 r.e.every, .int .i64 r.e.time, .int .i64 r.e.client] 35)).alloc (Obj.cells #[.slice none 0 0, .slice none 0 0] 53)) = w1 at *
  have hz' : w.heap.size ≤ w.heap.size + 2 := by omega
  have hzz : w.heap.size ≠ w.heap.size + 2 := by omega
  generalize w.heap.size + 2 = z at Bz hz' hzz ⊢
  generalize w.heap.size + 1 = z3 at B3 ⊢
  generalize hz2 : w.heap.size = z2 at B2 hzz ⊢
  clear hz2
  have b0 := B2.at_ 0 rfl; have b1 := B2.at_ 1 rfl
  go_wp2_with fail
  refine Calls.mono (DCheck_calls A A' n c m d x _ (E.onto on) (K.onto on)) ?_
  rintro e w2 ⟨rfl, b⟩
  rw [show checkK x = g from HG.out.symm]
  replace on := on.to b; replace B2 := B2.onto b; replace B3 := B3.onto b; replace Bz := Bz.onto b
  clear b b0 b1
  by_cases hg0 : g = 0
  · have hbd : n + m ≤ 30000 := by rw [K.n_eq, K.m_eq]; exact decB x (by rw [← HG.out, hg0])
    have hn : n ≤ 30000 := by omega
    have hm : m ≤ 30000 := by omega
    have hq := HQ.out
    rw [if_neg (by simp [hg0])] at hq
    replace HQ := Lib.hid hq
    subst hg0
    clear hq
    have r0 := B3.at_ 0 rfl; have r1 := B3.at_ 1 rfl; have r2 := B3.at_ 2 rfl; have r3 := B3.at_ 3 rfl; have r4 := B3.at_ 4 rfl; have r5 := B3.at_ 5 rfl; have r6 := B3.at_ 6 rfl; have r7 := B3.at_ 7 rfl
    go_wp2_with fail
    refine Calls.mono (NPrint_calls r.kind r.at_ r.epoch r.e _ (E.onto on)) ?_
    rw [show (printR ⟨r.kind, r.at_, r.epoch, r.e⟩).1 = T from HT.out.symm, show (printR ⟨r.kind, r.at_, r.epoch, r.e⟩).2 = h from HH.out.symm]
    rintro e w3 ⟨rfl, b⟩
    replace on := on.to b; replace B2 := B2.onto b; replace Bz := Bz.onto b
    clear b r0 r1 r2 r3 r4 r5 r6 r7 B3
    by_cases hh0 : h = 0
    · have hq := HQ.out
      rw [if_neg (by simp [hh0])] at hq
      replace HQ := Lib.hid hq
      subst hh0
      clear hq
      have b0 := B2.at_ 0 rfl; have b1 := B2.at_ 1 rfl
      by_cases hf : 30000 < n + m + (T.length + 1)
      · have hd : (30000 : Int) - (n : Int) - (m : Int) < (T.length : Int) + 1 := by omega
        have hq := HQ.out
        rw [if_pos hf] at hq
        subst hq
        clear hf b0 b1
        have b0 := B2.at_ 0 rfl; have b1 := B2.at_ 1 rfl
        go_wp2_with (refine wpList_put Bz [.slice none 0 0, .slice none 0 0] 53 _ _ (by rfl) (by rfl) (by rfl) (by rfl) (by rfl) sizeD (by rfl) ?_)
        have hF := Bz.put (us := [.slice none 0 0, .slice none 0 0]) rfl
        have oF := Onto.puts (b := z) (o := 0) (us := [.slice none 0 0, .slice none 0 0]) hz' on
        generalize World.setCells _ z 0 [.slice none 0 0, .slice none 0 0] = wF at hF oF ⊢
        go_wp2_with fail
        have p0 := hF.at_ 0 rfl; have p1 := hF.at_ 1 rfl
        refine bodyPost_ret (v := .tuple #[.agg #[.slice none 0 0, .slice none 0 0], .int .i64 2]) (by simp [results, Tryd.results34, go_sem, p0, p1]) rfl (DnPost.bad rfl oF)
      · have hd : ¬ (30000 : Int) - (n : Int) - (m : Int) < (T.length : Int) + 1 := by omega
        have hq := HQ.out
        rw [if_neg hf] at hq
        subst hq
        clear hf
        go_upto_region 9 with fail
        have K3 := K.onto on
        have LV := Live.start w3 3
        have zb0 := Bz.at_ 0 rfl; have zb1 := Bz.at_ 1 rfl
        go_region_held3 (fun w' => w'.cell? ⟨z2, 0, none⟩ = some (.slice A n c) ∧ w'.cell? ⟨z2, 1, none⟩ = some (.slice A' m d))
          (first | exact ⟨cellB (Live.on (by with_reducible (first | exact LV | exact LV.draw | exact LV.litNl (i := 2) (by simp) | exact LV.draw.litNl (i := 2) (by simp) | exact (LV.litNl (i := 2) (by simp)).draw))) b0, cellB (Live.on (by with_reducible (first | exact LV | exact LV.draw | exact LV.litNl (i := 2) (by simp) | exact LV.draw.litNl (i := 2) (by simp) | exact (LV.litNl (i := 2) (by simp)).draw))) b1⟩ | exact ⟨(((B2.onto (Live.on (by with_reducible (first | exact LV | exact LV.draw | exact LV.litNl (i := 2) (by simp) | exact LV.draw.litNl (i := 2) (by simp) | exact (LV.litNl (i := 2) (by simp)).draw)))).off1 (p := ⟨z, 0, none⟩) hzz _).off1 (p := ⟨z, 1, none⟩) hzz _).at_ 0 rfl, (((B2.onto (Live.on (by with_reducible (first | exact LV | exact LV.draw | exact LV.litNl (i := 2) (by simp) | exact LV.draw.litNl (i := 2) (by simp) | exact (LV.litNl (i := 2) (by simp)).draw)))).off1 (p := ⟨z, 0, none⟩) hzz _).off1 (p := ⟨z, 1, none⟩) hzz _).at_ 1 rfl⟩ | fail)
          (first
            | (go_at_call 72; refine Calls.mono (CloneB_live (by with_reducible (first | exact LV | exact LV.draw | exact LV.litNl (i := 2) (by simp) | exact LV.draw.litNl (i := 2) (by simp) | exact (LV.litNl (i := 2) (by simp)).draw)) 0 (by simp) A n c x.safe K3.safe (by omega)) ?_; rintro e w6 ⟨A1, c1, rfl, LV⟩; have Z := Bz.onto LV.on; have p0 := Z.at_ 0 rfl; have p1 := Z.at_ 1 rfl; have f0 := Z.froz 0; have f1 := Z.froz 1; clear Z)
            | (go_at_call 72; refine Calls.mono (CloneB_live (by with_reducible (first | exact LV | exact LV.draw | exact LV.litNl (i := 2) (by simp) | exact LV.draw.litNl (i := 2) (by simp) | exact (LV.litNl (i := 2) (by simp)).draw)) 1 (by simp) A' m d x.wait K3.wait (by omega)) ?_; rintro e w7 ⟨A2, c2, rfl, LV⟩; have Z := Bz.onto LV.on; have p0 := Z.at_ 0 rfl; have p1 := Z.at_ 1 rfl; have f0 := Z.froz 0; have f1 := Z.froz 1; clear Z)
            | (refine step_app_str_live (by with_reducible (first | exact LV | exact LV.draw | exact LV.litNl (i := 2) (by simp) | exact LV.draw.litNl (i := 2) (by simp) | exact (LV.litNl (i := 2) (by simp)).draw)) (by rfl) _ _ (by rfl) 1 (.slice A2 m c2) m (x.wait.map encB) (by rfl) (by rfl) T (by rfl) (by omega) ?_; intro A3 c3 w8 LV; have Z := Bz.onto LV.on; have p0 := Z.at_ 0 rfl; have p1 := Z.at_ 1 rfl; have f0 := Z.froz 0; have f1 := Z.froz 1; clear Z)
            | (refine step_app_sl_live (by with_reducible (first | exact LV | exact LV.draw | exact LV.litNl (i := 2) (by simp) | exact LV.draw.litNl (i := 2) (by simp) | exact (LV.litNl (i := 2) (by simp)).draw)) (by rfl) _ _ 51 (by rfl) 5 1 1 (.int .u8 0) rinfoB Tryd.underlying51 rfl (by omega) 1 (.slice A3 (m + T.length) c3) (m + T.length) (x.wait.map encB ++ T.map encB) (by rfl) (by rfl) _ 1 1 [encB 10] (by rfl) (Live.sl (i := 2) (by with_reducible (first | exact LV | exact LV.draw | exact LV.litNl (i := 2) (by simp) | exact LV.draw.litNl (i := 2) (by simp) | exact (LV.litNl (i := 2) (by simp)).draw)) (by rfl)) (encB_one [10]) (by unfold maxLen; omega) (by omega) ?_; intro A5 c5 w9 LV; have Z := Bz.onto LV.on; have p0 := Z.at_ 0 rfl; have p1 := Z.at_ 1 rfl; have f0 := Z.froz 0; have f1 := Z.froz 1; clear Z)
            | fail)
        all_goals
          have hz3 : z < w3.heap.size := Bz.lt
          have o1 : Own _ w3.heap.size 5 1 (.slice A1 n c1) n (x.safe.map encB) := LV.own 0 _ rfl
          have o2 : Own _ w3.heap.size 5 1 (.slice A5 (m + T.length + 1) c5) (m + T.length + 1) (x.wait.map encB ++ T.map encB ++ [encB 10]) := LV.own 1 _ rfl
          have on9 := on.to LV.on
          have HO1 := Lib.hid o1; have HO2 := Lib.hid o2; have HON := Lib.hid on9
          clear o1 o2 on9 LV
          go_wp2_with fail
          refine bodyPost_ret (v := .tuple #[.agg #[.slice A1 n c1, .slice A5 (m + T.length + 1) c5], .int .i64 0]) (by simp [results, Tryd.results34, go_sem, p0, p1]) rfl ⟨A1, n, c1, A5, m + T.length + 1, c5, rfl, ⟨((HO1.out.setCell (p := ⟨z, 0, none⟩) hz3 _).setCell (p := ⟨z, 1, none⟩) hz3 _).sl, ?_, HO1.out.le_cap, HO1.out.cap_max, HO2.out.le_cap, HO2.out.cap_max⟩, HO1.out.fresh on.size, HO2.out.fresh on.size, (HON.out.put hz' _).put hz' _⟩
          rw [show (⟨x.safe, x.wait ++ T ++ [10]⟩ : Dsk).wait.map encB = x.wait.map encB ++ T.map encB ++ [encB 10] by simp]
          exact ((HO2.out.setCell (p := ⟨z, 0, none⟩) hz3 _).setCell (p := ⟨z, 1, none⟩) hz3 _).sl
    · have hq := HQ.out
      rw [if_pos hh0] at hq
      subst hq
      have hh1 : (h == 0) = false := by simp [hh0]
      have hh2 : (h != 0) = true := by simp [hh0]
      clear hh0
      go_wp2_with (refine wpList_put Bz [.slice none 0 0, .slice none 0 0] 53 _ _ (by rfl) (by rfl) (by rfl) (by rfl) (by rfl) sizeD (by rfl) ?_)
      have hF := Bz.put (us := [.slice none 0 0, .slice none 0 0]) rfl
      have oF := Onto.puts (b := z) (o := 0) (us := [.slice none 0 0, .slice none 0 0]) hz' on
      generalize World.setCells _ z 0 [.slice none 0 0, .slice none 0 0] = wF at hF oF ⊢
      go_wp2_with fail
      have p0 := hF.at_ 0 rfl; have p1 := hF.at_ 1 rfl
      refine bodyPost_ret (v := .tuple #[.agg #[.slice none 0 0, .slice none 0 0], .int .i64 h]) (by simp [results, Tryd.results34, go_sem, p0, p1]) rfl (DnPost.bad rfl oF)
  · have hq := HQ.out
    rw [if_pos hg0] at hq
    subst hq
    have hg1 : (g == 0) = false := by simp [hg0]
    have hg2 : (g != 0) = true := by simp [hg0]
    clear hg0
    go_wp2_with (refine wpList_put Bz [.slice none 0 0, .slice none 0 0] 53 _ _ (by rfl) (by rfl) (by rfl) (by rfl) (by rfl) sizeD (by rfl) ?_)
    have hF := Bz.put (us := [.slice none 0 0, .slice none 0 0]) rfl
    have oF := Onto.puts (b := z) (o := 0) (us := [.slice none 0 0, .slice none 0 0]) hz' on
    generalize World.setCells _ z 0 [.slice none 0 0, .slice none 0 0] = wF at hF oF ⊢
    go_wp2_with fail
    have p0 := hF.at_ 0 rfl; have p1 := hF.at_ 1 rfl
    refine bodyPost_ret (v := .tuple #[.agg #[.slice none 0 0, .slice none 0 0], .int .i64 g]) (by simp [results, Tryd.results34, go_sem, p0, p1]) rfl (DnPost.bad rfl oF)
end Go.Proofs.YtdcegdonppfbkaaDoor
