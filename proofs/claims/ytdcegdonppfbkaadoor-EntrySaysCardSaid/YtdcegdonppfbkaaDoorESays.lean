/- The law EntrySays' walk. -/
import Derived.Test.YtdcegdonppfbkaaDoorEBack
import Derived.Test.YtdcegdonppfbkaaDoorREText
import Derived.Test.YtdcegdonppfbkaaDoorRERead
namespace Go.Proofs.YtdcegdonppfbkaaDoor
set_option linter.unusedSimpArgs false
set_option linter.unusedVariables false
open Go.RowKit

theorem printE_err (x : Entry) : (printE x).2 = checkE x := by unfold printE; split <;> simp_all
set_option maxHeartbeats 4000000 in
set_option maxRecDepth 100000 in
theorem EntrySays_calls (x : Entry) (s : List UInt8) (w : World) (E : Env w) (hs : s.length ≤ 9223372036854775807) :
    Calls Tryd.prog 4 #[.agg #[.int .i64 x.kind, .int .i64 x.job, .int .i64 x.every, .int .i64 x.time, .int .i64 x.client], str s] w fun e w' => e = .returned (.bool true) ∧ Onto w w' := by
  obtain ⟨q, hq⟩ : ∃ q, q = checkE x := ⟨_, rfl⟩
  obtain ⟨P, hP⟩ : ∃ P, P = (printE x).1 := ⟨_, rfl⟩
  obtain ⟨y, hy⟩ : ∃ y, y = (parseE s).1 := ⟨_, rfl⟩
  obtain ⟨g, hg⟩ : ∃ g, g = (parseE s).2 := ⟨_, rfl⟩
  have hpe : (printE x).2 = q := by rw [printE_err, hq]
  have HQ := Lib.hid hq; have HP := Lib.hid hP; have HY := Lib.hid hy; have HG := Lib.hid hg; have HPE := Lib.hid hpe; have HS := Lib.hid hs
  clear hq hP hy hg hpe hs
  have he := eqlB y y
  have hez := eqlB zeroE zeroE
  have exx : eqB y y = true := by rw [eqB_eq]; simp
  have ezz : eqB zeroE zeroE = true := by rw [eqB_eq]; simp
  simp only [zeroE] at hez ezz
  go_enter Tryd.func4, Tryd.ntmps4
  go_upto_region 1 with fail
  have ob := (Onto.rfl' w).new (Obj.cells #[.int .i64 x.kind, .int .i64 x.job, .int .i64 x.every, .int .i64 x.time, .int .i64 x.client] 23)
  have BX : Bx (w.alloc (Obj.cells #[.int .i64 x.kind, .int .i64 x.job, .int .i64 x.every, .int .i64 x.time, .int .i64 x.client] 23)) w.heap.size [.int .i64 x.kind, .int .i64 x.job, .int .i64 x.every, .int .i64 x.time, .int .i64 x.client] := Bx.made _ _ _
  have on := ob
  clear ob
  try change Code.wp _ _ _ _ (w.alloc (Obj.cells #[.int .i64 x.kind, .int .i64 x.job, .int .i64 x.every, .int .i64 x.time, .int .i64 x.client] 23))
  generalize (w.alloc (Obj.cells #[.int .i64 x.kind, .int .i64 x.job, .int .i64 x.every, .int .i64 x.time, .int .i64 x.client] 23)) = v1 at *
  generalize w.heap.size = zx at *
  have x0 := BX.at_ 0 rfl; have x1 := BX.at_ 1 rfl; have x2 := BX.at_ 2 rfl; have x3 := BX.at_ 3 rfl; have x4 := BX.at_ 4 rfl
  go_wp2_with fail
  refine Calls.mono (EPrint_calls x _ (E.onto on)) ?_
  rw [show (printE x).1 = P from HP.out.symm, show (printE x).2 = q from HPE.out]
  rintro e v2 ⟨rfl, b⟩
  replace on := on.to b
  replace BX := BX.onto b
  clear b
  clear x0 x1 x2 x3 x4
  go_wp2_with fail
  refine Calls.mono (EParse_calls s _ (E.onto on) HS.out) ?_
  unfold EnPost
  rw [show (parseE s).1 = y from HY.out.symm, show (parseE s).2 = g from HG.out.symm]
  rintro e v3 ⟨rfl, b⟩
  replace on := on.to b
  replace BX := BX.onto b
  clear b
  go_upto_region 3 with fail
  have ob := (Onto.rfl' v3).new (Obj.cells #[.int .i64 y.kind, .int .i64 y.job, .int .i64 y.every, .int .i64 y.time, .int .i64 y.client] 23)
  have BY : Bx (v3.alloc (Obj.cells #[.int .i64 y.kind, .int .i64 y.job, .int .i64 y.every, .int .i64 y.time, .int .i64 y.client] 23)) v3.heap.size [.int .i64 y.kind, .int .i64 y.job, .int .i64 y.every, .int .i64 y.time, .int .i64 y.client] := Bx.made _ _ _
  replace on := on.to ob
  replace BX := BX.onto ob
  clear ob
  try change Code.wp _ _ _ _ (v3.alloc (Obj.cells #[.int .i64 y.kind, .int .i64 y.job, .int .i64 y.every, .int .i64 y.time, .int .i64 y.client] 23))
  generalize (v3.alloc (Obj.cells #[.int .i64 y.kind, .int .i64 y.job, .int .i64 y.every, .int .i64 y.time, .int .i64 y.client] 23)) = v4 at *
  generalize v3.heap.size = zy at *
  have x0 := BX.at_ 0 rfl; have x1 := BX.at_ 1 rfl; have x2 := BX.at_ 2 rfl; have x3 := BX.at_ 3 rfl; have x4 := BX.at_ 4 rfl
  go_wp2_with fail
  refine Calls.mono (RCE_calls x.kind x.job x.every x.time x.client _) ?_
  rw [show checkE ⟨x.kind, x.job, x.every, x.time, x.client⟩ = q from HQ.out.symm]
  rintro e v5 ⟨rfl, b⟩
  replace on := on.to b
  replace BX := BX.onto b
  replace BY := BY.onto b
  clear b
  clear x0 x1 x2 x3 x4
  by_cases hq0 : q = 0
  · subst hq0
    have hpx : P = textE x := by rw [HP.out]; unfold printE; rw [if_neg (by simp [← HQ.out])]
    have HPX := Lib.hid hpx
    clear hpx
    have x0 := BX.at_ 0 rfl; have x1 := BX.at_ 1 rfl; have x2 := BX.at_ 2 rfl; have x3 := BX.at_ 3 rfl; have x4 := BX.at_ 4 rfl
    go_wp2_with fail
    refine Calls.mono (EText_calls x.kind x.job x.every x.time x.client _ (E.onto on) HQ.out.symm) ?_
    rw [show textE ⟨x.kind, x.job, x.every, x.time, x.client⟩ = P from HPX.out.symm]
    rintro e v6 ⟨rfl, b⟩
    replace on := on.to b
    replace BX := BX.onto b
    replace BY := BY.onto b
    clear b
    clear x0 x1 x2 x3 x4
    go_wp2_with fail
    refine Calls.mono (worded_calls _ (E.onto on)) ?_
    rintro e v7 ⟨rfl, b⟩
    replace on := on.to b
    replace BX := BX.onto b
    replace BY := BY.onto b
    clear b
    have x0 := BX.at_ 0 rfl; have x1 := BX.at_ 1 rfl; have x2 := BX.at_ 2 rfl; have x3 := BX.at_ 3 rfl; have x4 := BX.at_ 4 rfl
    go_wp2_with fail
    refine Calls.mono (Check_calls x.kind x.job x.every x.time x.client _) ?_
    rw [show checkE ⟨x.kind, x.job, x.every, x.time, x.client⟩ = 0 from HQ.out.symm]
    rintro e v8 ⟨rfl, b⟩
    replace on := on.to b
    replace BX := BX.onto b
    replace BY := BY.onto b
    clear b
    clear x0 x1 x2 x3 x4
    go_upto_region 9 with fail
    by_cases hlong : 30000 < s.length
    · have hp : parseE s = (zeroE, 2) := by unfold parseE; rw [if_pos hlong]
      obtain rfl : y = zeroE := by rw [HY.out, hp]
      obtain rfl : g = 2 := by rw [HG.out, hp]
      have hl1 : (30000 : Int) < (s.length : Int) := by omega
      clear hp hlong he
      simp only [zeroE] at BY
      have y0 := BY.at_ 0 rfl; have y1 := BY.at_ 1 rfl; have y2 := BY.at_ 2 rfl; have y3 := BY.at_ 3 rfl; have y4 := BY.at_ 4 rfl
      go_wp2_with fail
      go_ret
      exact ⟨ret_bool (by simp [ezz]), on⟩
    · have hp : parseE s = readWs (cutc 32 s) := by unfold parseE; rw [if_neg hlong]
      have hl1 : ¬ (30000 : Int) < (s.length : Int) := by omega
      have hl2 : s.length ≤ 30000 := by omega
      have HP2 := Lib.hid hp
      have HL2 := Lib.hid hl2
      clear hp hlong hl2 hez ezz
      go_wp2_with fail
      refine Calls.mono (ERead_calls s _ (E.onto on) HL2.out) ?_
      rw [← HP2.out]
      unfold EnPost
      rw [show (parseE s).1 = y from HY.out.symm, show (parseE s).2 = g from HG.out.symm]
      rintro e v9 ⟨rfl, b⟩
      replace on := on.to b
      replace BX := BX.onto b
      replace BY := BY.onto b
      clear b
      go_upto_region 12 with fail
      have ob := (Onto.rfl' v9).new (Obj.cells #[.int .i64 y.kind, .int .i64 y.job, .int .i64 y.every, .int .i64 y.time, .int .i64 y.client] 23)
      have BR : Bx (v9.alloc (Obj.cells #[.int .i64 y.kind, .int .i64 y.job, .int .i64 y.every, .int .i64 y.time, .int .i64 y.client] 23)) v9.heap.size [.int .i64 y.kind, .int .i64 y.job, .int .i64 y.every, .int .i64 y.time, .int .i64 y.client] := Bx.made _ _ _
      replace on := on.to ob
      replace BX := BX.onto ob
      replace BY := BY.onto ob
      clear ob
      try change Code.wp _ _ _ _ (v9.alloc (Obj.cells #[.int .i64 y.kind, .int .i64 y.job, .int .i64 y.every, .int .i64 y.time, .int .i64 y.client] 23))
      generalize (v9.alloc (Obj.cells #[.int .i64 y.kind, .int .i64 y.job, .int .i64 y.every, .int .i64 y.time, .int .i64 y.client] 23)) = v10 at *
      generalize v9.heap.size = zr at *
      have y0 := BY.at_ 0 rfl; have y1 := BY.at_ 1 rfl; have y2 := BY.at_ 2 rfl; have y3 := BY.at_ 3 rfl; have y4 := BY.at_ 4 rfl
      have r0 := BR.at_ 0 rfl; have r1 := BR.at_ 1 rfl; have r2 := BR.at_ 2 rfl; have r3 := BR.at_ 3 rfl; have r4 := BR.at_ 4 rfl
      go_wp2_with fail
      go_ret
      exact ⟨ret_bool (by simp [exx]), on⟩
  · have hp0 : P = [] := by rw [HP.out]; unfold printE; rw [if_pos (by rw [← HQ.out]; exact hq0)]
    subst hp0
    have hq1 : (q == 0) = false := by simp [hq0]
    have hq2 : (q != 0) = true := by simp [hq0]
    clear hq0
    go_wp2_with fail
    refine Calls.mono (worded_calls _ (E.onto on)) ?_
    rintro e v6 ⟨rfl, b⟩
    replace on := on.to b
    replace BX := BX.onto b
    replace BY := BY.onto b
    clear b
    have x0 := BX.at_ 0 rfl; have x1 := BX.at_ 1 rfl; have x2 := BX.at_ 2 rfl; have x3 := BX.at_ 3 rfl; have x4 := BX.at_ 4 rfl
    go_wp2_with fail
    refine Calls.mono (Check_calls x.kind x.job x.every x.time x.client _) ?_
    rw [show checkE ⟨x.kind, x.job, x.every, x.time, x.client⟩ = q from HQ.out.symm]
    rintro e v7 ⟨rfl, b⟩
    replace on := on.to b
    replace BX := BX.onto b
    replace BY := BY.onto b
    clear b
    clear x0 x1 x2 x3 x4
    go_upto_region 9 with fail
    by_cases hlong : 30000 < s.length
    · have hp : parseE s = (zeroE, 2) := by unfold parseE; rw [if_pos hlong]
      obtain rfl : y = zeroE := by rw [HY.out, hp]
      obtain rfl : g = 2 := by rw [HG.out, hp]
      have hl1 : (30000 : Int) < (s.length : Int) := by omega
      clear hp hlong he
      simp only [zeroE] at BY
      have y0 := BY.at_ 0 rfl; have y1 := BY.at_ 1 rfl; have y2 := BY.at_ 2 rfl; have y3 := BY.at_ 3 rfl; have y4 := BY.at_ 4 rfl
      go_wp2_with fail
      go_ret
      exact ⟨ret_bool (by simp [ezz]), on⟩
    · have hp : parseE s = readWs (cutc 32 s) := by unfold parseE; rw [if_neg hlong]
      have hl1 : ¬ (30000 : Int) < (s.length : Int) := by omega
      have hl2 : s.length ≤ 30000 := by omega
      have HP2 := Lib.hid hp
      have HL2 := Lib.hid hl2
      clear hp hlong hl2 hez ezz
      go_wp2_with fail
      refine Calls.mono (ERead_calls s _ (E.onto on) HL2.out) ?_
      rw [← HP2.out]
      unfold EnPost
      rw [show (parseE s).1 = y from HY.out.symm, show (parseE s).2 = g from HG.out.symm]
      rintro e v8 ⟨rfl, b⟩
      replace on := on.to b
      replace BX := BX.onto b
      replace BY := BY.onto b
      clear b
      go_upto_region 12 with fail
      have ob := (Onto.rfl' v8).new (Obj.cells #[.int .i64 y.kind, .int .i64 y.job, .int .i64 y.every, .int .i64 y.time, .int .i64 y.client] 23)
      have BR : Bx (v8.alloc (Obj.cells #[.int .i64 y.kind, .int .i64 y.job, .int .i64 y.every, .int .i64 y.time, .int .i64 y.client] 23)) v8.heap.size [.int .i64 y.kind, .int .i64 y.job, .int .i64 y.every, .int .i64 y.time, .int .i64 y.client] := Bx.made _ _ _
      replace on := on.to ob
      replace BX := BX.onto ob
      replace BY := BY.onto ob
      clear ob
      try change Code.wp _ _ _ _ (v8.alloc (Obj.cells #[.int .i64 y.kind, .int .i64 y.job, .int .i64 y.every, .int .i64 y.time, .int .i64 y.client] 23))
      generalize (v8.alloc (Obj.cells #[.int .i64 y.kind, .int .i64 y.job, .int .i64 y.every, .int .i64 y.time, .int .i64 y.client] 23)) = v9 at *
      generalize v8.heap.size = zr at *
      have y0 := BY.at_ 0 rfl; have y1 := BY.at_ 1 rfl; have y2 := BY.at_ 2 rfl; have y3 := BY.at_ 3 rfl; have y4 := BY.at_ 4 rfl
      have r0 := BR.at_ 0 rfl; have r1 := BR.at_ 1 rfl; have r2 := BR.at_ 2 rfl; have r3 := BR.at_ 3 rfl; have r4 := BR.at_ 4 rfl
      go_wp2_with fail
      go_ret
      exact ⟨ret_bool (by simp [exx]), on⟩
end Go.Proofs.YtdcegdonppfbkaaDoor
