/- The law DiskSays' walk. -/
import Derived.Test.YtdcegdonppfbkaaDoorDocB
import Derived.Test.YtdcegdonppfbkaaDoorFiled
import Derived.Test.YtdcegdonppfbkaaDoorEqQ
namespace Go.Proofs.YtdcegdonppfbkaaDoor
set_option linter.unusedSimpArgs false
set_option linter.unusedVariables false
open Go.RowKit

theorem putK_bad {x : Dsk} {r : Rec} (h : checkK x ≠ 0) : putK x r = (noK, checkK x) := by unfold putK; rw [if_pos h]
theorem syncK_bad {x : Dsk} (h : checkK x ≠ 0) : syncK x = (noK, checkK x) := by unfold syncK; rw [if_pos h]
theorem crashK_bad {x : Dsk} {n : Int} (h : checkK x ≠ 0) : crashK x n = (noK, checkK x) := by unfold crashK; rw [if_pos h]
theorem recoverK_bad {x : Dsk} (h : checkK x ≠ 0) : recoverK x = (noK, [], checkK x) := by unfold recoverK; rw [if_pos h]
theorem recoverK_ok {x : Dsk} (h : checkK x = 0) : recoverK x = (backK x, recsK x, 0) := by unfold recoverK; rw [if_neg (by simp [h])]
set_option maxHeartbeats 16000000 in
set_option maxRecDepth 100000 in
theorem DiskSays_calls (v : DV) (r : Rec) (nn : Int) (u : DV) (w : World) (E : Env w) (K : DK w v.A v.n v.c v.A' v.m v.d v.x) (KU : DK w u.A u.n u.c u.A' u.m u.d u.x) :
    Calls Tryd.prog 10 #[.agg #[.slice v.A v.n v.c, .slice v.A' v.m v.d], .agg #[.int .i64 r.kind, .int .i64 r.at_, .int .i64 r.epoch, .int .i64 r.e.kind, .int .i64 r.e.job, .int .i64 r.e.every, .int .i64 r.e.time, .int .i64 r.e.client], .int .i64 nn, .agg #[.slice u.A u.n u.c, .slice u.A' u.m u.d]] w fun e w' => e = .returned (.bool true) ∧ Onto w w' := by
  obtain ⟨g, hg⟩ : ∃ g, g = checkK v.x := ⟨_, rfl⟩
  obtain ⟨pa, ea, hpa⟩ : ∃ d e, putK v.x r = (d, e) := ⟨_, _, rfl⟩
  obtain ⟨pb, eb, hpb⟩ : ∃ d e, syncK v.x = (d, e) := ⟨_, _, rfl⟩
  obtain ⟨pc, ec, hpc⟩ : ∃ d e, crashK v.x nn = (d, e) := ⟨_, _, rfl⟩
  obtain ⟨pr, lr, er, hpr⟩ : ∃ d l e, recoverK v.x = (d, l, e) := ⟨_, _, _, rfl⟩
  obtain ⟨dd, hdd⟩ : ∃ b, b = decide (v.x = u.x) := ⟨_, rfl⟩
  have HG := Lib.hid hg; have HA := Lib.hid hpa; have HB := Lib.hid hpb; have HC := Lib.hid hpc; have HRR := Lib.hid hpr; have HD := Lib.hid hdd
  clear hg hpa hpb hpc hpr hdd
  go_enter Tryd.func10, Tryd.ntmps10
  go_upto_region 1 with fail
  have BD : Bx (((w.alloc (Obj.cells #[.slice v.A v.n v.c, .slice v.A' v.m v.d] 53)).alloc (Obj.cells #[.int .i64 r.kind, .int .i64 r.at_, .int .i64 r.epoch, .int .i64 r.e.kind, .int .i64 r.e.job, .int .i64 r.e.every, .int .i64 r.e.time, .int .i64 r.e.client] 35)).alloc (Obj.cells #[.slice u.A u.n u.c, .slice u.A' u.m u.d] 53)) w.heap.size [.slice v.A v.n v.c, .slice v.A' v.m v.d] := by
    have := (((Bx.made w #[.slice v.A v.n v.c, .slice v.A' v.m v.d] 53).new (Obj.cells #[.int .i64 r.kind, .int .i64 r.at_, .int .i64 r.epoch, .int .i64 r.e.kind, .int .i64 r.e.job, .int .i64 r.e.every, .int .i64 r.e.time, .int .i64 r.e.client] 35)).new (Obj.cells #[.slice u.A u.n u.c, .slice u.A' u.m u.d] 53))
    simpa using this
  have BR : Bx (((w.alloc (Obj.cells #[.slice v.A v.n v.c, .slice v.A' v.m v.d] 53)).alloc (Obj.cells #[.int .i64 r.kind, .int .i64 r.at_, .int .i64 r.epoch, .int .i64 r.e.kind, .int .i64 r.e.job, .int .i64 r.e.every, .int .i64 r.e.time, .int .i64 r.e.client] 35)).alloc (Obj.cells #[.slice u.A u.n u.c, .slice u.A' u.m u.d] 53)) (w.heap.size + 1) [.int .i64 r.kind, .int .i64 r.at_, .int .i64 r.epoch, .int .i64 r.e.kind, .int .i64 r.e.job, .int .i64 r.e.every, .int .i64 r.e.time, .int .i64 r.e.client] := by
    have := ((Bx.made (w.alloc (Obj.cells #[.slice v.A v.n v.c, .slice v.A' v.m v.d] 53)) #[.int .i64 r.kind, .int .i64 r.at_, .int .i64 r.epoch, .int .i64 r.e.kind, .int .i64 r.e.job, .int .i64 r.e.every, .int .i64 r.e.time, .int .i64 r.e.client] 35).new (Obj.cells #[.slice u.A u.n u.c, .slice u.A' u.m u.d] 53))
    simpa using this
  have BY : Bx (((w.alloc (Obj.cells #[.slice v.A v.n v.c, .slice v.A' v.m v.d] 53)).alloc (Obj.cells #[.int .i64 r.kind, .int .i64 r.at_, .int .i64 r.epoch, .int .i64 r.e.kind, .int .i64 r.e.job, .int .i64 r.e.every, .int .i64 r.e.time, .int .i64 r.e.client] 35)).alloc (Obj.cells #[.slice u.A u.n u.c, .slice u.A' u.m u.d] 53)) (w.heap.size + 2) [.slice u.A u.n u.c, .slice u.A' u.m u.d] := by
    have := (Bx.made ((w.alloc (Obj.cells #[.slice v.A v.n v.c, .slice v.A' v.m v.d] 53)).alloc (Obj.cells #[.int .i64 r.kind, .int .i64 r.at_, .int .i64 r.epoch, .int .i64 r.e.kind, .int .i64 r.e.job, .int .i64 r.e.every, .int .i64 r.e.time, .int .i64 r.e.client] 35)) #[.slice u.A u.n u.c, .slice u.A' u.m u.d] 53)
    simpa using this
  have on : Onto w (((w.alloc (Obj.cells #[.slice v.A v.n v.c, .slice v.A' v.m v.d] 53)).alloc (Obj.cells #[.int .i64 r.kind, .int .i64 r.at_, .int .i64 r.epoch, .int .i64 r.e.kind, .int .i64 r.e.job, .int .i64 r.e.every, .int .i64 r.e.time, .int .i64 r.e.client] 35)).alloc (Obj.cells #[.slice u.A u.n u.c, .slice u.A' u.m u.d] 53)) := (((Onto.rfl' w).new _).new _).new _
  replace K := K.onto on; replace KU := KU.onto on
  try change Code.wp _ _ _ _ (((w.alloc (Obj.cells #[.slice v.A v.n v.c, .slice v.A' v.m v.d] 53)).alloc (Obj.cells #[.int .i64 r.kind, .int .i64 r.at_, .int .i64 r.epoch, .int .i64 r.e.kind, .int .i64 r.e.job, .int .i64 r.e.every, .int .i64 r.e.time, .int .i64 r.e.client] 35)).alloc (Obj.cells #[.slice u.A u.n u.c, .slice u.A' u.m u.d] 53))
  generalize (((w.alloc (Obj.cells #[.slice v.A v.n v.c, .slice v.A' v.m v.d] 53)).alloc (Obj.cells #[.int .i64 r.kind, .int .i64 r.at_, .int .i64 r.epoch, .int .i64 r.e.kind, .int .i64 r.e.job, .int .i64 r.e.every, .int .i64 r.e.time, .int .i64 r.e.client] 35)).alloc (Obj.cells #[.slice u.A u.n u.c, .slice u.A' u.m u.d] 53)) = v0 at *
  generalize w.heap.size + 2 = zy at *
  generalize w.heap.size + 1 = zr at *
  generalize w.heap.size = zd at *
  have d0 := BD.at_ 0 rfl; have d1 := BD.at_ 1 rfl
  have r0 := BR.at_ 0 rfl; have r1 := BR.at_ 1 rfl; have r2 := BR.at_ 2 rfl; have r3 := BR.at_ 3 rfl; have r4 := BR.at_ 4 rfl; have r5 := BR.at_ 5 rfl; have r6 := BR.at_ 6 rfl; have r7 := BR.at_ 7 rfl
  go_wp2_with fail
  refine Calls.mono (DPut_calls v.A v.A' v.n v.c v.m v.d v.x r _ (E.onto on) K) ?_
  unfold DnPost
  rw [HA.out]
  rintro e v1 ⟨Fa, ka, ia, Ga, ma, ja, rfl, Ka, _, _, b⟩
  replace on := on.to b
  replace BD := BD.onto b
  replace BR := BR.onto b
  replace BY := BY.onto b
  replace K := K.onto b
  replace KU := KU.onto b
  clear b
  dsimp only at Ka ⊢
  go_upto_region 2 with fail
  have ob := (Onto.rfl' v1).new (Obj.cells #[.slice Fa ka ia, .slice Ga ma ja] 53)
  have Ba : Bx (v1.alloc (Obj.cells #[.slice Fa ka ia, .slice Ga ma ja] 53)) v1.heap.size [.slice Fa ka ia, .slice Ga ma ja] := Bx.made _ _ _
  replace on := on.to ob
  replace BD := BD.onto ob
  replace BR := BR.onto ob
  replace BY := BY.onto ob
  replace K := K.onto ob
  replace KU := KU.onto ob
  replace Ka := Ka.onto ob
  clear ob
  try change Code.wp _ _ _ _ (v1.alloc (Obj.cells #[.slice Fa ka ia, .slice Ga ma ja] 53))
  generalize (v1.alloc (Obj.cells #[.slice Fa ka ia, .slice Ga ma ja] 53)) = v2 at *
  generalize v1.heap.size = za at *
  clear d0 d1
  clear r0 r1 r2 r3 r4 r5 r6 r7
  have d0 := BD.at_ 0 rfl; have d1 := BD.at_ 1 rfl
  go_wp2_with fail
  refine Calls.mono (DSync_calls v.A v.A' v.n v.c v.m v.d v.x _ (E.onto on) K) ?_
  unfold DnPost
  rw [HB.out]
  rintro e v3 ⟨Fb, kb, ib, Gb, mb, jb, rfl, Kb, _, _, b⟩
  replace on := on.to b
  replace BD := BD.onto b
  replace BR := BR.onto b
  replace BY := BY.onto b
  replace Ba := Ba.onto b
  replace K := K.onto b
  replace KU := KU.onto b
  replace Ka := Ka.onto b
  clear b
  dsimp only at Kb ⊢
  go_upto_region 3 with fail
  have ob := (Onto.rfl' v3).new (Obj.cells #[.slice Fb kb ib, .slice Gb mb jb] 53)
  have Bb : Bx (v3.alloc (Obj.cells #[.slice Fb kb ib, .slice Gb mb jb] 53)) v3.heap.size [.slice Fb kb ib, .slice Gb mb jb] := Bx.made _ _ _
  replace on := on.to ob
  replace BD := BD.onto ob
  replace BR := BR.onto ob
  replace BY := BY.onto ob
  replace Ba := Ba.onto ob
  replace K := K.onto ob
  replace KU := KU.onto ob
  replace Ka := Ka.onto ob
  replace Kb := Kb.onto ob
  clear ob
  try change Code.wp _ _ _ _ (v3.alloc (Obj.cells #[.slice Fb kb ib, .slice Gb mb jb] 53))
  generalize (v3.alloc (Obj.cells #[.slice Fb kb ib, .slice Gb mb jb] 53)) = v4 at *
  generalize v3.heap.size = zb at *
  clear d0 d1
  have d0 := BD.at_ 0 rfl; have d1 := BD.at_ 1 rfl
  go_wp2_with fail
  refine Calls.mono (DCrash_calls v.A v.A' v.n v.c v.m v.d v.x nn _ (E.onto on) K) ?_
  unfold DnPost
  rw [HC.out]
  rintro e v5 ⟨Fc, kc, ic, Gc, mc, jc, rfl, Kc, _, _, b⟩
  replace on := on.to b
  replace BD := BD.onto b
  replace BR := BR.onto b
  replace BY := BY.onto b
  replace Ba := Ba.onto b
  replace Bb := Bb.onto b
  replace K := K.onto b
  replace KU := KU.onto b
  replace Ka := Ka.onto b
  replace Kb := Kb.onto b
  clear b
  dsimp only at Kc ⊢
  go_upto_region 4 with fail
  have ob := (Onto.rfl' v5).new (Obj.cells #[.slice Fc kc ic, .slice Gc mc jc] 53)
  have Bc : Bx (v5.alloc (Obj.cells #[.slice Fc kc ic, .slice Gc mc jc] 53)) v5.heap.size [.slice Fc kc ic, .slice Gc mc jc] := Bx.made _ _ _
  replace on := on.to ob
  replace BD := BD.onto ob
  replace BR := BR.onto ob
  replace BY := BY.onto ob
  replace Ba := Ba.onto ob
  replace Bb := Bb.onto ob
  replace K := K.onto ob
  replace KU := KU.onto ob
  replace Ka := Ka.onto ob
  replace Kb := Kb.onto ob
  replace Kc := Kc.onto ob
  clear ob
  try change Code.wp _ _ _ _ (v5.alloc (Obj.cells #[.slice Fc kc ic, .slice Gc mc jc] 53))
  generalize (v5.alloc (Obj.cells #[.slice Fc kc ic, .slice Gc mc jc] 53)) = v6 at *
  generalize v5.heap.size = zc at *
  clear d0 d1
  have d0 := BD.at_ 0 rfl; have d1 := BD.at_ 1 rfl
  go_wp2_with fail
  refine Calls.mono (DRecover_calls v.A v.A' v.n v.c v.m v.d v.x _ (E.onto on) K) ?_
  unfold RvPost
  rw [HRR.out]
  rintro e v7 ⟨Fr, kr, ir, Gr, mr, jr, Lr, br, yr, rfl, Kr, sr, hbr, hyr, _, _, _, b⟩
  replace on := on.to b
  replace BD := BD.onto b
  replace BR := BR.onto b
  replace BY := BY.onto b
  replace Ba := Ba.onto b
  replace Bb := Bb.onto b
  replace Bc := Bc.onto b
  replace K := K.onto b
  replace KU := KU.onto b
  replace Ka := Ka.onto b
  replace Kb := Kb.onto b
  replace Kc := Kc.onto b
  clear b
  dsimp only at Kr sr ⊢
  go_upto_region 5 with fail
  have ob := (Onto.rfl' v7).new (Obj.cells #[.slice Fr kr ir, .slice Gr mr jr] 53)
  have Br : Bx (v7.alloc (Obj.cells #[.slice Fr kr ir, .slice Gr mr jr] 53)) v7.heap.size [.slice Fr kr ir, .slice Gr mr jr] := Bx.made _ _ _
  replace on := on.to ob
  replace BD := BD.onto ob
  replace BR := BR.onto ob
  replace BY := BY.onto ob
  replace Ba := Ba.onto ob
  replace Bb := Bb.onto ob
  replace Bc := Bc.onto ob
  replace K := K.onto ob
  replace KU := KU.onto ob
  replace Ka := Ka.onto ob
  replace Kb := Kb.onto ob
  replace Kc := Kc.onto ob
  replace Kr := Kr.onto ob
  replace sr := sr.onto ob
  clear ob
  try change Code.wp _ _ _ _ (v7.alloc (Obj.cells #[.slice Fr kr ir, .slice Gr mr jr] 53))
  generalize (v7.alloc (Obj.cells #[.slice Fr kr ir, .slice Gr mr jr] 53)) = v8 at *
  generalize v7.heap.size = zrr at *
  clear d0 d1
  have d0 := BD.at_ 0 rfl; have d1 := BD.at_ 1 rfl
  go_wp2_with fail
  refine Calls.mono (RDCheck_calls v.A v.A' v.n v.c v.m v.d v.x _ (E.onto on) K) ?_
  rw [show checkK v.x = g from HG.out.symm]
  rintro e v9 ⟨rfl, b⟩
  replace on := on.to b
  replace BD := BD.onto b
  replace BR := BR.onto b
  replace BY := BY.onto b
  replace Ba := Ba.onto b
  replace Bb := Bb.onto b
  replace Bc := Bc.onto b
  replace Br := Br.onto b
  replace K := K.onto b
  replace KU := KU.onto b
  replace Ka := Ka.onto b
  replace Kb := Kb.onto b
  replace Kc := Kc.onto b
  replace Kr := Kr.onto b
  replace sr := sr.onto b
  clear b
  clear d0 d1
  go_upto_region 7 with fail
  have ob := (Onto.rfl' v9).new (Obj.cells #[.slice none 0 0, .slice none 0 0] 53)
  have BN : Bx (v9.alloc (Obj.cells #[.slice none 0 0, .slice none 0 0] 53)) v9.heap.size [.slice none 0 0, .slice none 0 0] := Bx.made _ _ _
  replace on := on.to ob
  replace BD := BD.onto ob
  replace BR := BR.onto ob
  replace BY := BY.onto ob
  replace Ba := Ba.onto ob
  replace Bb := Bb.onto ob
  replace Bc := Bc.onto ob
  replace Br := Br.onto ob
  replace K := K.onto ob
  replace KU := KU.onto ob
  replace Ka := Ka.onto ob
  replace Kb := Kb.onto ob
  replace Kc := Kc.onto ob
  replace Kr := Kr.onto ob
  replace sr := sr.onto ob
  clear ob
  try change Code.wp _ _ _ _ (v9.alloc (Obj.cells #[.slice none 0 0, .slice none 0 0] 53))
  generalize (v9.alloc (Obj.cells #[.slice none 0 0, .slice none 0 0] 53)) = v10 at *
  generalize v9.heap.size = zn at *
  have E1 := E.onto on
  have a1 := fun (y : World) => filed_calls (ontoW v10 y) (E1.onto (onto_on v10 y))
  have a2 := fun (y : World) => DCheck_calls v.A v.A' v.n v.c v.m v.d v.x (ontoW v10 y) (E1.onto (onto_on v10 y)) (K.onto (onto_on v10 y))
  have a3 := fun (y : World) => DSame_calls v.A v.A' v.n v.c v.m v.d v.x u.A u.A' u.n u.c u.m u.d u.x (ontoW v10 y) (K.onto (onto_on v10 y)) (KU.onto (onto_on v10 y))
  have a4 := fun (y : World) => RDSame_calls v.A v.A' v.n v.c v.m v.d v.x u.A u.A' u.n u.c u.m u.d u.x (ontoW v10 y) (K.onto (onto_on v10 y)) (KU.onto (onto_on v10 y))
  have A1 := Lib.hid a1; have A2 := Lib.hid a2; have A3 := Lib.hid a3; have A4 := Lib.hid a4
  clear a1 a2 a3 a4 E1
  have c0 := onto_cell (BD.at_ 0 rfl); have c1 := onto_cell (BD.at_ 1 rfl); have y0 := onto_cell (BY.at_ 0 rfl); have y1 := onto_cell (BY.at_ 1 rfl)
  refine wp_region_onto (by kernel_rfl) (by kernel_rfl) ?_
  repeat (go_big_quiet_step (first | (go_at_call 32; exact calls_onto' (u := .bool true) (by with_reducible exact A1.out _) rfl) | (go_at_call 43; exact calls_onto' (u := .int .i64 g) (by with_reducible exact A2.out _) (by rw [HG.out])) | (go_at_call 41; exact calls_onto' (u := .bool dd) (by with_reducible exact A3.out _) (by rw [HD.out])) | (go_at_call 44; exact calls_onto' (u := .bool dd) (by with_reducible exact A4.out _) (by rw [HD.out]))))
  refine wpQuiet_nil ?_
  intro w7 b7
  replace on := on.to b7
  replace BD := BD.onto b7
  replace BR := BR.onto b7
  replace BY := BY.onto b7
  replace Ba := Ba.onto b7
  replace Bb := Bb.onto b7
  replace Bc := Bc.onto b7
  replace Br := Br.onto b7
  replace BN := BN.onto b7
  replace K := K.onto b7
  replace KU := KU.onto b7
  replace Ka := Ka.onto b7
  replace Kb := Kb.onto b7
  replace Kc := Kc.onto b7
  replace Kr := Kr.onto b7
  replace sr := sr.onto b7
  clear b7 c0 c1 y0 y1 A1 A2 A3 A4
  by_cases hg0 : g = 0
  · have hck : checkK v.x = 0 := by rw [← HG.out, hg0]
    have hre := recoverK_ok hck
    rw [HRR.out] at hre
    simp only [Prod.mk.injEq] at hre
    obtain ⟨hre1, hre2, rfl⟩ := hre
    have HRE1 := Lib.hid hre1; have HRE2 := Lib.hid hre2; have HCK := Lib.hid hck
    subst hg0
    clear hre1 hre2 hck
    go_upto_region 11 with fail
    have d0 := BD.at_ 0 rfl; have d1 := BD.at_ 1 rfl
    have r0 := BR.at_ 0 rfl; have r1 := BR.at_ 1 rfl; have r2 := BR.at_ 2 rfl; have r3 := BR.at_ 3 rfl; have r4 := BR.at_ 4 rfl; have r5 := BR.at_ 5 rfl; have r6 := BR.at_ 6 rfl; have r7 := BR.at_ 7 rfl
    go_wp2_with fail
    refine Calls.mono (RDPut_calls v.A v.A' v.n v.c v.m v.d v.x r _ (E.onto on) K HCK.out) ?_
    unfold RnK
    rw [HA.out]
    rintro e v11 ⟨FA, kA, iA, GA, mA, jA, rfl, KA, b⟩
    replace on := on.to b
    replace BD := BD.onto b
    replace BR := BR.onto b
    replace BY := BY.onto b
    replace Ba := Ba.onto b
    replace Bb := Bb.onto b
    replace Bc := Bc.onto b
    replace Br := Br.onto b
    replace BN := BN.onto b
    replace K := K.onto b
    replace KU := KU.onto b
    replace Ka := Ka.onto b
    replace Kb := Kb.onto b
    replace Kc := Kc.onto b
    replace Kr := Kr.onto b
    replace sr := sr.onto b
    clear b
    dsimp only at KA ⊢
    go_upto_region 12 with fail
    have ob := (Onto.rfl' v11).new (Obj.cells #[.slice FA kA iA, .slice GA mA jA] 53)
    have BA : Bx (v11.alloc (Obj.cells #[.slice FA kA iA, .slice GA mA jA] 53)) v11.heap.size [.slice FA kA iA, .slice GA mA jA] := Bx.made _ _ _
    replace on := on.to ob
    replace BD := BD.onto ob
    replace BR := BR.onto ob
    replace BY := BY.onto ob
    replace Ba := Ba.onto ob
    replace Bb := Bb.onto ob
    replace Bc := Bc.onto ob
    replace Br := Br.onto ob
    replace BN := BN.onto ob
    replace K := K.onto ob
    replace KU := KU.onto ob
    replace Ka := Ka.onto ob
    replace Kb := Kb.onto ob
    replace Kc := Kc.onto ob
    replace Kr := Kr.onto ob
    replace sr := sr.onto ob
    replace KA := KA.onto ob
    clear ob
    try change Code.wp _ _ _ _ (v11.alloc (Obj.cells #[.slice FA kA iA, .slice GA mA jA] 53))
    generalize (v11.alloc (Obj.cells #[.slice FA kA iA, .slice GA mA jA] 53)) = v12 at *
    generalize v11.heap.size = zA at *
    clear d0 d1
    clear r0 r1 r2 r3 r4 r5 r6 r7
    have d0 := BD.at_ 0 rfl; have d1 := BD.at_ 1 rfl
    go_wp2_with fail
    refine Calls.mono (RDSync_calls v.A v.A' v.n v.c v.m v.d v.x _ (E.onto on) K HCK.out) ?_
    unfold RnK
    rw [HB.out]
    rintro e v13 ⟨FB, kB, iB, GB, mB, jB, rfl, KB, b⟩
    replace on := on.to b
    replace BD := BD.onto b
    replace BR := BR.onto b
    replace BY := BY.onto b
    replace Ba := Ba.onto b
    replace Bb := Bb.onto b
    replace Bc := Bc.onto b
    replace Br := Br.onto b
    replace BN := BN.onto b
    replace BA := BA.onto b
    replace K := K.onto b
    replace KU := KU.onto b
    replace Ka := Ka.onto b
    replace Kb := Kb.onto b
    replace Kc := Kc.onto b
    replace Kr := Kr.onto b
    replace sr := sr.onto b
    replace KA := KA.onto b
    clear b
    dsimp only at KB ⊢
    go_upto_region 13 with fail
    have ob := (Onto.rfl' v13).new (Obj.cells #[.slice FB kB iB, .slice GB mB jB] 53)
    have BB : Bx (v13.alloc (Obj.cells #[.slice FB kB iB, .slice GB mB jB] 53)) v13.heap.size [.slice FB kB iB, .slice GB mB jB] := Bx.made _ _ _
    replace on := on.to ob
    replace BD := BD.onto ob
    replace BR := BR.onto ob
    replace BY := BY.onto ob
    replace Ba := Ba.onto ob
    replace Bb := Bb.onto ob
    replace Bc := Bc.onto ob
    replace Br := Br.onto ob
    replace BN := BN.onto ob
    replace BA := BA.onto ob
    replace K := K.onto ob
    replace KU := KU.onto ob
    replace Ka := Ka.onto ob
    replace Kb := Kb.onto ob
    replace Kc := Kc.onto ob
    replace Kr := Kr.onto ob
    replace sr := sr.onto ob
    replace KA := KA.onto ob
    replace KB := KB.onto ob
    clear ob
    try change Code.wp _ _ _ _ (v13.alloc (Obj.cells #[.slice FB kB iB, .slice GB mB jB] 53))
    generalize (v13.alloc (Obj.cells #[.slice FB kB iB, .slice GB mB jB] 53)) = v14 at *
    generalize v13.heap.size = zB at *
    clear d0 d1
    have d0 := BD.at_ 0 rfl; have d1 := BD.at_ 1 rfl
    go_wp2_with fail
    refine Calls.mono (RDRec_calls v.A v.A' v.n v.c v.m v.d v.x _ (E.onto on) K HCK.out) ?_
    unfold RrPost
    rw [← HRE1.out, ← HRE2.out]
    rintro e v15 ⟨FR, kR, iR, GR, mR, jR, LR, bR, yR, rfl, KR, sR, hbR, b⟩
    replace on := on.to b
    replace BD := BD.onto b
    replace BR := BR.onto b
    replace BY := BY.onto b
    replace Ba := Ba.onto b
    replace Bb := Bb.onto b
    replace Bc := Bc.onto b
    replace Br := Br.onto b
    replace BN := BN.onto b
    replace BA := BA.onto b
    replace BB := BB.onto b
    replace K := K.onto b
    replace KU := KU.onto b
    replace Ka := Ka.onto b
    replace Kb := Kb.onto b
    replace Kc := Kc.onto b
    replace Kr := Kr.onto b
    replace sr := sr.onto b
    replace KA := KA.onto b
    replace KB := KB.onto b
    clear b
    dsimp only at KR sR ⊢
    go_upto_region 14 with fail
    have ob := (Onto.rfl' v15).new (Obj.cells #[.slice FR kR iR, .slice GR mR jR] 53)
    have BRR : Bx (v15.alloc (Obj.cells #[.slice FR kR iR, .slice GR mR jR] 53)) v15.heap.size [.slice FR kR iR, .slice GR mR jR] := Bx.made _ _ _
    replace on := on.to ob
    replace BD := BD.onto ob
    replace BR := BR.onto ob
    replace BY := BY.onto ob
    replace Ba := Ba.onto ob
    replace Bb := Bb.onto ob
    replace Bc := Bc.onto ob
    replace Br := Br.onto ob
    replace BN := BN.onto ob
    replace BA := BA.onto ob
    replace BB := BB.onto ob
    replace K := K.onto ob
    replace KU := KU.onto ob
    replace Ka := Ka.onto ob
    replace Kb := Kb.onto ob
    replace Kc := Kc.onto ob
    replace Kr := Kr.onto ob
    replace sr := sr.onto ob
    replace KA := KA.onto ob
    replace KB := KB.onto ob
    replace KR := KR.onto ob
    replace sR := sR.onto ob
    clear ob
    try change Code.wp _ _ _ _ (v15.alloc (Obj.cells #[.slice FR kR iR, .slice GR mR jR] 53))
    generalize (v15.alloc (Obj.cells #[.slice FR kR iR, .slice GR mR jR] 53)) = v16 at *
    generalize v15.heap.size = zRR at *
    clear d0 d1
    have p0 := Ba.at_ 0 rfl; have p1 := Ba.at_ 1 rfl
    have q0 := BA.at_ 0 rfl; have q1 := BA.at_ 1 rfl
    go_wp2_with fail
    refine Calls.mono (RDSame_calls Fa Ga ka ia ma ja pa FA GA kA iA mA jA pa _ Ka KA) ?_
    rw [decide_eq_true rfl]
    rintro e v17 ⟨rfl, b⟩
    replace on := on.to b
    replace BD := BD.onto b
    replace BR := BR.onto b
    replace BY := BY.onto b
    replace Ba := Ba.onto b
    replace Bb := Bb.onto b
    replace Bc := Bc.onto b
    replace Br := Br.onto b
    replace BN := BN.onto b
    replace BA := BA.onto b
    replace BB := BB.onto b
    replace BRR := BRR.onto b
    replace K := K.onto b
    replace KU := KU.onto b
    replace Ka := Ka.onto b
    replace Kb := Kb.onto b
    replace Kc := Kc.onto b
    replace Kr := Kr.onto b
    replace sr := sr.onto b
    replace KA := KA.onto b
    replace KB := KB.onto b
    replace KR := KR.onto b
    replace sR := sR.onto b
    clear b
    clear p0 p1
    clear q0 q1
    have p0 := Bb.at_ 0 rfl; have p1 := Bb.at_ 1 rfl
    have q0 := BB.at_ 0 rfl; have q1 := BB.at_ 1 rfl
    go_wp2_with fail
    refine Calls.mono (RDSame_calls Fb Gb kb ib mb jb pb FB GB kB iB mB jB pb _ Kb KB) ?_
    rw [decide_eq_true rfl]
    rintro e v18 ⟨rfl, b⟩
    replace on := on.to b
    replace BD := BD.onto b
    replace BR := BR.onto b
    replace BY := BY.onto b
    replace Ba := Ba.onto b
    replace Bb := Bb.onto b
    replace Bc := Bc.onto b
    replace Br := Br.onto b
    replace BN := BN.onto b
    replace BA := BA.onto b
    replace BB := BB.onto b
    replace BRR := BRR.onto b
    replace K := K.onto b
    replace KU := KU.onto b
    replace Ka := Ka.onto b
    replace Kb := Kb.onto b
    replace Kc := Kc.onto b
    replace Kr := Kr.onto b
    replace sr := sr.onto b
    replace KA := KA.onto b
    replace KB := KB.onto b
    replace KR := KR.onto b
    replace sR := sR.onto b
    clear b
    clear p0 p1
    clear q0 q1
    have p0 := Br.at_ 0 rfl; have p1 := Br.at_ 1 rfl
    have q0 := BRR.at_ 0 rfl; have q1 := BRR.at_ 1 rfl
    go_wp2_with fail
    refine Calls.mono (RDSame_calls Fr Gr kr ir mr jr pr FR GR kR iR mR jR pr _ Kr KR) ?_
    rw [decide_eq_true rfl]
    rintro e v19 ⟨rfl, b⟩
    replace on := on.to b
    replace BD := BD.onto b
    replace BR := BR.onto b
    replace BY := BY.onto b
    replace Ba := Ba.onto b
    replace Bb := Bb.onto b
    replace Bc := Bc.onto b
    replace Br := Br.onto b
    replace BN := BN.onto b
    replace BA := BA.onto b
    replace BB := BB.onto b
    replace BRR := BRR.onto b
    replace K := K.onto b
    replace KU := KU.onto b
    replace Ka := Ka.onto b
    replace Kb := Kb.onto b
    replace Kc := Kc.onto b
    replace Kr := Kr.onto b
    replace sr := sr.onto b
    replace KA := KA.onto b
    replace KB := KB.onto b
    replace KR := KR.onto b
    replace sR := sR.onto b
    clear b
    clear p0 p1
    clear q0 q1
    go_wp2_with fail
    refine Calls.mono (EqualQ_calls Lr LR br bR yr yR _ lr lr v19 sr sR (by unfold maxLen at hyr; omega)) ?_
    rw [decide_eq_true (rfl : lr = lr)]
    rintro e w9 ⟨rfl, q9, rfl⟩
    have b9 := (Onto.rfl' v19).draws q9
    replace on := on.to b9
    replace BD := BD.onto b9
    replace BR := BR.onto b9
    replace BY := BY.onto b9
    replace Ba := Ba.onto b9
    replace Bb := Bb.onto b9
    replace Bc := Bc.onto b9
    replace Br := Br.onto b9
    replace BN := BN.onto b9
    replace BA := BA.onto b9
    replace BB := BB.onto b9
    replace BRR := BRR.onto b9
    replace K := K.onto b9
    replace KU := KU.onto b9
    replace Ka := Ka.onto b9
    replace Kb := Kb.onto b9
    replace Kc := Kc.onto b9
    replace Kr := Kr.onto b9
    replace sr := sr.onto b9
    replace KA := KA.onto b9
    replace KB := KB.onto b9
    replace KR := KR.onto b9
    replace sR := sR.onto b9
    clear b9
    generalize v19.drewN q9 = w9 at *
    have d0 := BD.at_ 0 rfl; have d1 := BD.at_ 1 rfl
    have hmd := K.m_le; have hdM := K.d_le
    unfold maxLen at hdM
    have hmq := K.m_eq
    have HM := Lib.hid hmq
    clear hmq
    go_upto_region 16 with fail
    by_cases hn0 : nn < 0
    · skip
      have hcr : crashK v.x nn = (noK, 3) := by
        unfold crashK
        rw [if_neg (by simp [HCK.out]), if_pos (by have := HM.out; omega)]
      rw [HC.out] at hcr
      simp only [Prod.mk.injEq] at hcr
      obtain ⟨rfl, rfl⟩ := hcr
      go_upto_region 17 with fail
      clear d0 d1
      have p0 := Bc.at_ 0 rfl; have p1 := Bc.at_ 1 rfl
      have q0 := BN.at_ 0 rfl; have q1 := BN.at_ 1 rfl
      go_wp2_with fail
      refine Calls.mono (RDSame_calls Fc Gc kc ic mc jc noK none none 0 0 0 0 noK _ Kc (DK.none_ _)) ?_
      rw [decide_eq_true rfl]
      rintro e v20 ⟨rfl, b⟩
      replace on := on.to b
      replace BD := BD.onto b
      replace BR := BR.onto b
      replace BY := BY.onto b
      replace Ba := Ba.onto b
      replace Bb := Bb.onto b
      replace Bc := Bc.onto b
      replace Br := Br.onto b
      replace BN := BN.onto b
      replace BA := BA.onto b
      replace BB := BB.onto b
      replace BRR := BRR.onto b
      replace K := K.onto b
      replace KU := KU.onto b
      replace Ka := Ka.onto b
      replace Kb := Kb.onto b
      replace Kc := Kc.onto b
      replace Kr := Kr.onto b
      replace sr := sr.onto b
      replace KA := KA.onto b
      replace KB := KB.onto b
      replace KR := KR.onto b
      replace sR := sR.onto b
      clear b
      go_wp2_with fail
      go_ret
      exact ⟨ret_bool (by simp), on⟩
    · by_cases hn1 : (v.m : Int) < nn
      · skip
        have hcr : crashK v.x nn = (noK, 3) := by
          unfold crashK
          rw [if_neg (by simp [HCK.out]), if_pos (by have := HM.out; omega)]
        rw [HC.out] at hcr
        simp only [Prod.mk.injEq] at hcr
        obtain ⟨rfl, rfl⟩ := hcr
        go_upto_region 17 with fail
        clear d0 d1
        have p0 := Bc.at_ 0 rfl; have p1 := Bc.at_ 1 rfl
        have q0 := BN.at_ 0 rfl; have q1 := BN.at_ 1 rfl
        go_wp2_with fail
        refine Calls.mono (RDSame_calls Fc Gc kc ic mc jc noK none none 0 0 0 0 noK _ Kc (DK.none_ _)) ?_
        rw [decide_eq_true rfl]
        rintro e v20 ⟨rfl, b⟩
        replace on := on.to b
        replace BD := BD.onto b
        replace BR := BR.onto b
        replace BY := BY.onto b
        replace Ba := Ba.onto b
        replace Bb := Bb.onto b
        replace Bc := Bc.onto b
        replace Br := Br.onto b
        replace BN := BN.onto b
        replace BA := BA.onto b
        replace BB := BB.onto b
        replace BRR := BRR.onto b
        replace K := K.onto b
        replace KU := KU.onto b
        replace Ka := Ka.onto b
        replace Kb := Kb.onto b
        replace Kc := Kc.onto b
        replace Kr := Kr.onto b
        replace sr := sr.onto b
        replace KA := KA.onto b
        replace KB := KB.onto b
        replace KR := KR.onto b
        replace sR := sR.onto b
        clear b
        go_wp2_with fail
        go_ret
        exact ⟨ret_bool (by simp), on⟩
      · obtain ⟨j, rfl⟩ : ∃ j : Nat, nn = (j : Int) := ⟨nn.toNat, by omega⟩
        have hjm : j ≤ v.m := by omega
        have hcr : crashK v.x (j : Int) = (⟨v.x.safe, v.x.wait.take j⟩, 0) := by
          unfold crashK
          rw [if_neg (by simp [HCK.out]), if_neg (by have := HM.out; omega), Int.toNat_natCast]
        rw [HC.out] at hcr
        simp only [Prod.mk.injEq] at hcr
        obtain ⟨rfl, rfl⟩ := hcr
        have KJ : DK w9 v.A v.n v.c v.A' j v.d ⟨v.x.safe, v.x.wait.take j⟩ := ⟨K.safe, by
          rw [show (⟨v.x.safe, v.x.wait.take j⟩ : Dsk).wait.map encB = (v.x.wait.map encB).take j by rw [List.map_take]]
          exact Sl.take K.wait hjm, K.n_le, K.c_le, by omega, K.d_le⟩
        have i0 : (0 : Int) ≤ (j : Int) := by omega
        have i1 : (j : Int) ≤ (v.d : Int) := by omega
        have hn2 : ¬ (j : Int) < 0 := by omega
        have hn3 : ¬ v.m < j := by omega
        go_upto_region 18 with fail
        have a5 := fun (y : World) => RDSame_calls Fc Gc kc ic mc jc ⟨v.x.safe, v.x.wait.take j⟩ v.A v.A' v.n v.c j v.d ⟨v.x.safe, v.x.wait.take j⟩ (ontoW w9 y) (Kc.onto (onto_on w9 y)) (KJ.onto (onto_on w9 y))
        have A5 := Lib.hid a5
        clear a5
        clear d0 d1
        have c0 := onto_cell (BD.at_ 0 rfl); have c1 := onto_cell (BD.at_ 1 rfl); have y0 := onto_cell (Bc.at_ 0 rfl); have y1 := onto_cell (Bc.at_ 1 rfl)
        refine wp_region_onto (by kernel_rfl) (by kernel_rfl) ?_
        repeat (go_big_quiet_step ((go_at_call 44; exact calls_onto' (u := .bool true) (by with_reducible exact A5.out _) (by rw [decide_eq_true rfl]))))
        refine wpQuiet_nil ?_
        intro wz bz
        replace on := on.to bz
        clear bz c0 c1 y0 y1 A5
        go_wp2_with fail
        go_ret
        exact ⟨ret_bool (by simp), on⟩
  · have hck : checkK v.x ≠ 0 := by rw [← HG.out]; exact hg0
    have h1 := putK_bad (r := r) hck; have h2 := syncK_bad hck; have h3 := crashK_bad (n := nn) hck; have h4 := recoverK_bad hck
    rw [HA.out] at h1; rw [HB.out] at h2; rw [HC.out] at h3; rw [HRR.out] at h4
    rw [← HG.out] at h1 h2 h3 h4
    simp only [Prod.mk.injEq] at h1 h2 h3 h4
    have hgn : (g != 0) = true := by simpa using hg0
    obtain ⟨rfl, rfl⟩ := h1
    obtain ⟨rfl, rfl⟩ := h2
    obtain ⟨rfl, rfl⟩ := h3
    obtain ⟨rfl, rfl, rfl⟩ := h4
    have hb0 : br = 0 := by have := sr.len; simpa using this.symm
    subst hb0
    clear hg0 hck
    go_upto_region 10 with fail
    have p0 := Ba.at_ 0 rfl; have p1 := Ba.at_ 1 rfl
    have q0 := BN.at_ 0 rfl; have q1 := BN.at_ 1 rfl
    go_wp2_with fail
    refine Calls.mono (RDSame_calls Fa Ga ka ia ma ja noK none none 0 0 0 0 noK _ Ka (DK.none_ _)) ?_
    rw [decide_eq_true rfl]
    rintro e v11 ⟨rfl, b⟩
    replace on := on.to b
    replace BD := BD.onto b
    replace BR := BR.onto b
    replace BY := BY.onto b
    replace Ba := Ba.onto b
    replace Bb := Bb.onto b
    replace Bc := Bc.onto b
    replace Br := Br.onto b
    replace BN := BN.onto b
    replace K := K.onto b
    replace KU := KU.onto b
    replace Ka := Ka.onto b
    replace Kb := Kb.onto b
    replace Kc := Kc.onto b
    replace Kr := Kr.onto b
    replace sr := sr.onto b
    clear b
    clear p0 p1
    clear q0 q1
    have p0 := Bb.at_ 0 rfl; have p1 := Bb.at_ 1 rfl
    have q0 := BN.at_ 0 rfl; have q1 := BN.at_ 1 rfl
    go_wp2_with fail
    refine Calls.mono (RDSame_calls Fb Gb kb ib mb jb noK none none 0 0 0 0 noK _ Kb (DK.none_ _)) ?_
    rw [decide_eq_true rfl]
    rintro e v12 ⟨rfl, b⟩
    replace on := on.to b
    replace BD := BD.onto b
    replace BR := BR.onto b
    replace BY := BY.onto b
    replace Ba := Ba.onto b
    replace Bb := Bb.onto b
    replace Bc := Bc.onto b
    replace Br := Br.onto b
    replace BN := BN.onto b
    replace K := K.onto b
    replace KU := KU.onto b
    replace Ka := Ka.onto b
    replace Kb := Kb.onto b
    replace Kc := Kc.onto b
    replace Kr := Kr.onto b
    replace sr := sr.onto b
    clear b
    clear p0 p1
    clear q0 q1
    have p0 := Bc.at_ 0 rfl; have p1 := Bc.at_ 1 rfl
    have q0 := BN.at_ 0 rfl; have q1 := BN.at_ 1 rfl
    go_wp2_with fail
    refine Calls.mono (RDSame_calls Fc Gc kc ic mc jc noK none none 0 0 0 0 noK _ Kc (DK.none_ _)) ?_
    rw [decide_eq_true rfl]
    rintro e v13 ⟨rfl, b⟩
    replace on := on.to b
    replace BD := BD.onto b
    replace BR := BR.onto b
    replace BY := BY.onto b
    replace Ba := Ba.onto b
    replace Bb := Bb.onto b
    replace Bc := Bc.onto b
    replace Br := Br.onto b
    replace BN := BN.onto b
    replace K := K.onto b
    replace KU := KU.onto b
    replace Ka := Ka.onto b
    replace Kb := Kb.onto b
    replace Kc := Kc.onto b
    replace Kr := Kr.onto b
    replace sr := sr.onto b
    clear b
    clear p0 p1
    clear q0 q1
    have p0 := Br.at_ 0 rfl; have p1 := Br.at_ 1 rfl
    have q0 := BN.at_ 0 rfl; have q1 := BN.at_ 1 rfl
    go_wp2_with fail
    refine Calls.mono (RDSame_calls Fr Gr kr ir mr jr noK none none 0 0 0 0 noK _ Kr (DK.none_ _)) ?_
    rw [decide_eq_true rfl]
    rintro e v14 ⟨rfl, b⟩
    replace on := on.to b
    replace BD := BD.onto b
    replace BR := BR.onto b
    replace BY := BY.onto b
    replace Ba := Ba.onto b
    replace Bb := Bb.onto b
    replace Bc := Bc.onto b
    replace Br := Br.onto b
    replace BN := BN.onto b
    replace K := K.onto b
    replace KU := KU.onto b
    replace Ka := Ka.onto b
    replace Kb := Kb.onto b
    replace Kc := Kc.onto b
    replace Kr := Kr.onto b
    replace sr := sr.onto b
    clear b
    clear p0 p1
    clear q0 q1
    go_wp2_with fail
    go_ret
    exact ⟨ret_bool (by simp), on⟩
end Go.Proofs.YtdcegdonppfbkaaDoor
