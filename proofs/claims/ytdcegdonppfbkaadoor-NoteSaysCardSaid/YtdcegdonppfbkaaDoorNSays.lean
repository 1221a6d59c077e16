/- The law NoteSays' walk. -/
import Derived.Test.YtdcegdonppfbkaaDoorNBack
import Derived.Test.YtdcegdonppfbkaaDoorRNote
namespace Go.Proofs.YtdcegdonppfbkaaDoor
set_option linter.unusedSimpArgs false
set_option linter.unusedVariables false
open Go.RowKit

theorem printR_ck (x : Rec) : (printR x).2 = checkR x := by unfold printR; split <;> simp_all
set_option maxHeartbeats 4000000 in
set_option maxRecDepth 100000 in
theorem NoteSays_calls (x : Rec) (s : List UInt8) (w : World) (E : Env w) (hs : s.length ≤ 9223372036854775807) :
    Calls Tryd.prog 7 #[.agg #[.int .i64 x.kind, .int .i64 x.at_, .int .i64 x.epoch, .int .i64 x.e.kind, .int .i64 x.e.job, .int .i64 x.e.every, .int .i64 x.e.time, .int .i64 x.e.client], str s] w fun e w' => e = .returned (.bool true) ∧ Onto w w' := by
  obtain ⟨q, hq⟩ : ∃ q, q = checkR x := ⟨_, rfl⟩
  obtain ⟨P, hP⟩ : ∃ P, P = (printR x).1 := ⟨_, rfl⟩
  obtain ⟨y, hy⟩ : ∃ y, y = (parseR s).1 := ⟨_, rfl⟩
  obtain ⟨g, hg⟩ : ∃ g, g = (parseR s).2 := ⟨_, rfl⟩
  have hpe : (printR x).2 = q := by rw [printR_ck, hq]
  have HQ := Lib.hid hq; have HP := Lib.hid hP; have HY := Lib.hid hy; have HG := Lib.hid hg; have HPE := Lib.hid hpe; have HS := Lib.hid hs
  clear hq hP hy hg hpe hs
  have he := eqlRB y y
  have hez := eqlRI 0 0 0 0 0 0 0 0 0 0 0 0 0 0 0 0
  have exx : eqR y y = true := by rw [eqR_eq]; simp
  go_enter Tryd.func7, Tryd.ntmps7
  go_upto_region 1 with fail
  have ob := (Onto.rfl' w).new (Obj.cells #[.int .i64 x.kind, .int .i64 x.at_, .int .i64 x.epoch, .int .i64 x.e.kind, .int .i64 x.e.job, .int .i64 x.e.every, .int .i64 x.e.time, .int .i64 x.e.client] 35)
  have BX : Bx (w.alloc (Obj.cells #[.int .i64 x.kind, .int .i64 x.at_, .int .i64 x.epoch, .int .i64 x.e.kind, .int .i64 x.e.job, .int .i64 x.e.every, .int .i64 x.e.time, .int .i64 x.e.client] 35)) w.heap.size [.int .i64 x.kind, .int .i64 x.at_, .int .i64 x.epoch, .int .i64 x.e.kind, .int .i64 x.e.job, .int .i64 x.e.every, .int .i64 x.e.time, .int .i64 x.e.client] := Bx.made _ _ _
  have on := ob
  clear ob
  try change Code.wp _ _ _ _ (w.alloc (Obj.cells #[.int .i64 x.kind, .int .i64 x.at_, .int .i64 x.epoch, .int .i64 x.e.kind, .int .i64 x.e.job, .int .i64 x.e.every, .int .i64 x.e.time, .int .i64 x.e.client] 35))
  generalize (w.alloc (Obj.cells #[.int .i64 x.kind, .int .i64 x.at_, .int .i64 x.epoch, .int .i64 x.e.kind, .int .i64 x.e.job, .int .i64 x.e.every, .int .i64 x.e.time, .int .i64 x.e.client] 35)) = v1 at *
  generalize w.heap.size = zx at *
  have x0 := BX.at_ 0 rfl; have x1 := BX.at_ 1 rfl; have x2 := BX.at_ 2 rfl; have x3 := BX.at_ 3 rfl; have x4 := BX.at_ 4 rfl; have x5 := BX.at_ 5 rfl; have x6 := BX.at_ 6 rfl; have x7 := BX.at_ 7 rfl
  go_wp2_with fail
  refine Calls.mono (NPrint_calls x.kind x.at_ x.epoch x.e _ (E.onto on)) ?_
  rw [show (printR ⟨x.kind, x.at_, x.epoch, x.e⟩).1 = P from HP.out.symm, show (printR ⟨x.kind, x.at_, x.epoch, x.e⟩).2 = q from HPE.out]
  rintro e v2 ⟨rfl, b⟩
  replace on := on.to b
  replace BX := BX.onto b
  clear b
  clear x0 x1 x2 x3 x4 x5 x6 x7
  go_wp2_with fail
  refine Calls.mono (NParse_calls s _ (E.onto on) HS.out) ?_
  unfold RnPost
  rw [show (parseR s).1 = y from HY.out.symm, show (parseR s).2 = g from HG.out.symm]
  rintro e v3 ⟨rfl, b⟩
  replace on := on.to b
  replace BX := BX.onto b
  clear b
  go_upto_region 3 with fail
  have ob := (Onto.rfl' v3).new (Obj.cells #[.int .i64 y.kind, .int .i64 y.at_, .int .i64 y.epoch, .int .i64 y.e.kind, .int .i64 y.e.job, .int .i64 y.e.every, .int .i64 y.e.time, .int .i64 y.e.client] 35)
  have BY : Bx (v3.alloc (Obj.cells #[.int .i64 y.kind, .int .i64 y.at_, .int .i64 y.epoch, .int .i64 y.e.kind, .int .i64 y.e.job, .int .i64 y.e.every, .int .i64 y.e.time, .int .i64 y.e.client] 35)) v3.heap.size [.int .i64 y.kind, .int .i64 y.at_, .int .i64 y.epoch, .int .i64 y.e.kind, .int .i64 y.e.job, .int .i64 y.e.every, .int .i64 y.e.time, .int .i64 y.e.client] := Bx.made _ _ _
  replace on := on.to ob
  replace BX := BX.onto ob
  clear ob
  try change Code.wp _ _ _ _ (v3.alloc (Obj.cells #[.int .i64 y.kind, .int .i64 y.at_, .int .i64 y.epoch, .int .i64 y.e.kind, .int .i64 y.e.job, .int .i64 y.e.every, .int .i64 y.e.time, .int .i64 y.e.client] 35))
  generalize (v3.alloc (Obj.cells #[.int .i64 y.kind, .int .i64 y.at_, .int .i64 y.epoch, .int .i64 y.e.kind, .int .i64 y.e.job, .int .i64 y.e.every, .int .i64 y.e.time, .int .i64 y.e.client] 35)) = v4 at *
  generalize v3.heap.size = zy at *
  have x0 := BX.at_ 0 rfl; have x1 := BX.at_ 1 rfl; have x2 := BX.at_ 2 rfl; have x3 := BX.at_ 3 rfl; have x4 := BX.at_ 4 rfl; have x5 := BX.at_ 5 rfl; have x6 := BX.at_ 6 rfl; have x7 := BX.at_ 7 rfl
  go_wp2_with fail
  refine Calls.mono (RRText_calls x.kind x.at_ x.epoch x.e _ (E.onto on)) ?_
  rw [show (printR ⟨x.kind, x.at_, x.epoch, x.e⟩).1 = P from HP.out.symm, show (printR ⟨x.kind, x.at_, x.epoch, x.e⟩).2 = q from HPE.out]
  rintro e v5 ⟨rfl, b⟩
  replace on := on.to b
  replace BX := BX.onto b
  replace BY := BY.onto b
  clear b
  clear x0 x1 x2 x3 x4 x5 x6 x7
  go_wp2_with fail
  refine Calls.mono (noted_calls _ (E.onto on)) ?_
  rintro e v6 ⟨rfl, b⟩
  replace on := on.to b
  replace BX := BX.onto b
  replace BY := BY.onto b
  clear b
  have x0 := BX.at_ 0 rfl; have x1 := BX.at_ 1 rfl; have x2 := BX.at_ 2 rfl; have x3 := BX.at_ 3 rfl; have x4 := BX.at_ 4 rfl; have x5 := BX.at_ 5 rfl; have x6 := BX.at_ 6 rfl; have x7 := BX.at_ 7 rfl
  go_wp2_with fail
  refine Calls.mono (NCheck_calls x.kind x.at_ x.epoch x.e _) ?_
  rw [show checkR ⟨x.kind, x.at_, x.epoch, x.e⟩ = q from HQ.out.symm]
  rintro e v7 ⟨rfl, b⟩
  replace on := on.to b
  replace BX := BX.onto b
  replace BY := BY.onto b
  clear b
  clear x0 x1 x2 x3 x4 x5 x6 x7
  go_upto_region 6 with fail
  by_cases hlong : 30000 < s.length
  · have hp : parseR s = (zeroR, 2) := by unfold parseR; rw [if_pos hlong]
    obtain rfl : y = zeroR := by rw [HY.out, hp]
    obtain rfl : g = 2 := by rw [HG.out, hp]
    have hl1 : (30000 : Int) < (s.length : Int) := by omega
    clear hp hlong he
    simp only [zeroR, zeroE] at BY
    have y0 := BY.at_ 0 rfl; have y1 := BY.at_ 1 rfl; have y2 := BY.at_ 2 rfl; have y3 := BY.at_ 3 rfl; have y4 := BY.at_ 4 rfl; have y5 := BY.at_ 5 rfl; have y6 := BY.at_ 6 rfl; have y7 := BY.at_ 7 rfl
    go_wp2_with fail
    go_ret
    exact ⟨ret_bool (by simp), on⟩
  · have hp : parseR s = readR s := by unfold parseR; rw [if_neg hlong]
    have hl1 : ¬ (30000 : Int) < (s.length : Int) := by omega
    have hl2 : s.length ≤ 30000 := by omega
    have HP2 := Lib.hid hp
    have HL2 := Lib.hid hl2
    clear hp hlong hl2 hez
    go_wp2_with fail
    refine Calls.mono (RRRead_calls s _ (E.onto on) HL2.out) ?_
    rw [← HP2.out]
    unfold RnPost
    rw [show (parseR s).1 = y from HY.out.symm, show (parseR s).2 = g from HG.out.symm]
    rintro e v8 ⟨rfl, b⟩
    replace on := on.to b
    replace BX := BX.onto b
    replace BY := BY.onto b
    clear b
    go_upto_region 9 with fail
    have ob := (Onto.rfl' v8).new (Obj.cells #[.int .i64 y.kind, .int .i64 y.at_, .int .i64 y.epoch, .int .i64 y.e.kind, .int .i64 y.e.job, .int .i64 y.e.every, .int .i64 y.e.time, .int .i64 y.e.client] 35)
    have BR : Bx (v8.alloc (Obj.cells #[.int .i64 y.kind, .int .i64 y.at_, .int .i64 y.epoch, .int .i64 y.e.kind, .int .i64 y.e.job, .int .i64 y.e.every, .int .i64 y.e.time, .int .i64 y.e.client] 35)) v8.heap.size [.int .i64 y.kind, .int .i64 y.at_, .int .i64 y.epoch, .int .i64 y.e.kind, .int .i64 y.e.job, .int .i64 y.e.every, .int .i64 y.e.time, .int .i64 y.e.client] := Bx.made _ _ _
    replace on := on.to ob
    replace BX := BX.onto ob
    replace BY := BY.onto ob
    clear ob
    try change Code.wp _ _ _ _ (v8.alloc (Obj.cells #[.int .i64 y.kind, .int .i64 y.at_, .int .i64 y.epoch, .int .i64 y.e.kind, .int .i64 y.e.job, .int .i64 y.e.every, .int .i64 y.e.time, .int .i64 y.e.client] 35))
    generalize (v8.alloc (Obj.cells #[.int .i64 y.kind, .int .i64 y.at_, .int .i64 y.epoch, .int .i64 y.e.kind, .int .i64 y.e.job, .int .i64 y.e.every, .int .i64 y.e.time, .int .i64 y.e.client] 35)) = v9 at *
    generalize v8.heap.size = zr at *
    have y0 := BY.at_ 0 rfl; have y1 := BY.at_ 1 rfl; have y2 := BY.at_ 2 rfl; have y3 := BY.at_ 3 rfl; have y4 := BY.at_ 4 rfl; have y5 := BY.at_ 5 rfl; have y6 := BY.at_ 6 rfl; have y7 := BY.at_ 7 rfl
    have r0 := BR.at_ 0 rfl; have r1 := BR.at_ 1 rfl; have r2 := BR.at_ 2 rfl; have r3 := BR.at_ 3 rfl; have r4 := BR.at_ 4 rfl; have r5 := BR.at_ 5 rfl; have r6 := BR.at_ 6 rfl; have r7 := BR.at_ 7 rfl
    go_wp2_with fail
    go_ret
    exact ⟨ret_bool (by simp [exx]), on⟩
end Go.Proofs.YtdcegdonppfbkaaDoor
