/- The law EntryBack's walk. -/
import Derived.Test.YtdcegdonppfbkaaDoorWorded
namespace Go.Proofs.YtdcegdonppfbkaaDoor
set_option linter.unusedSimpArgs false
set_option linter.unusedVariables false
open Go.RowKit

/-- Two entries compared. -/
def eqB (x y : Entry) : Bool := (x.kind == y.kind) && (x.job == y.job) && (x.every == y.every) && (x.time == y.time) && (x.client == y.client)
theorem eqB_eq (x y : Entry) : eqB x y = decide (x = y) := by
  unfold eqB
  rw [Bool.eq_iff_iff]
  simp [entry_eq_iff, and_assoc]
theorem eqlB (x y : Entry) (w : World) : (binOp .eql 23 (.agg #[.int .i64 x.kind, .int .i64 x.job, .int .i64 x.every, .int .i64 x.time, .int .i64 x.client]) (.agg #[.int .i64 y.kind, .int .i64 y.job, .int .i64 y.every, .int .i64 y.time, .int .i64 y.client])).run Tryd.prog w = .ok (.bool (eqB x y)) w := eqlE ..
theorem neqB (x y : Entry) (w : World) : (binOp .neq 23 (.agg #[.int .i64 x.kind, .int .i64 x.job, .int .i64 x.every, .int .i64 x.time, .int .i64 x.client]) (.agg #[.int .i64 y.kind, .int .i64 y.job, .int .i64 y.every, .int .i64 y.time, .int .i64 y.client])).run Tryd.prog w = .ok (.bool (!eqB x y)) w := neqE ..
theorem printE_eq {x y : Entry} (hx : (printE x).2 = 0) (hy : (printE y).2 = 0) : ((printE x).1 == (printE y).1) = eqB x y := by
  unfold printE at *
  split at hx
  · rename_i h; exact absurd hx h
  · rename_i h
    rw [if_neg h]
    split at hy
    · rename_i h'; exact absurd hy h'
    · rename_i h'
      rw [if_neg h', eqB_eq, Bool.eq_iff_iff, beq_iff_eq, decide_eq_true_iff]
      exact ⟨fun e => textE_inj (Decidable.not_not.1 h) (Decidable.not_not.1 h') e, fun e => by rw [e]⟩
theorem printE_back {x : Entry} (hx : (printE x).2 = 0) : parseE (printE x).1 = (x, 0) := by
  unfold printE at *
  split at hx
  · rename_i h; exact absurd hx h
  · rename_i h
    rw [if_neg h]
    exact parse_textE (Decidable.not_not.1 h)
theorem printE_len (x : Entry) : (printE x).1.length ≤ 100 := by
  unfold printE
  split
  · simp
  · rename_i h
    have := textE_len (Decidable.not_not.1 h)
    dsimp only
    omega
theorem printE_of {s : List UInt8} {z : Entry} (h : parseE s = (z, 0)) : printE z = (s, 0) := by
  obtain ⟨h1, h2⟩ := parseE_ok h
  unfold printE
  rw [if_neg (by simp [h1]), h2]
set_option maxHeartbeats 4000000 in
set_option maxRecDepth 100000 in
theorem EntryBack_calls (x y : Entry) (s : List UInt8) (w : World) (E : Env w) (hs : s.length ≤ 9223372036854775807) :
    Calls Tryd.prog 3 #[.agg #[.int .i64 x.kind, .int .i64 x.job, .int .i64 x.every, .int .i64 x.time, .int .i64 x.client], .agg #[.int .i64 y.kind, .int .i64 y.job, .int .i64 y.every, .int .i64 y.time, .int .i64 y.client], str s] w fun e w' => e = .returned (.bool true) ∧ Onto w w' := by
  obtain ⟨P, hP⟩ : ∃ P, P = (printE x).1 := ⟨_, rfl⟩
  obtain ⟨ex, hex⟩ : ∃ e, e = (printE x).2 := ⟨_, rfl⟩
  obtain ⟨Q, hQ⟩ : ∃ P, P = (printE y).1 := ⟨_, rfl⟩
  obtain ⟨ey, hey⟩ : ∃ e, e = (printE y).2 := ⟨_, rfl⟩
  have hPl : P.length ≤ 100 := hP ▸ printE_len x
  obtain ⟨z, hz⟩ : ∃ z, z = (parseE s).1 := ⟨_, rfl⟩
  obtain ⟨g, hg⟩ : ∃ z, z = (parseE s).2 := ⟨_, rfl⟩
  have HP := Lib.hid hP; have HX := Lib.hid hex; have HQ := Lib.hid hQ; have HY := Lib.hid hey; have HZ := Lib.hid hz; have HG := Lib.hid hg; have HL := Lib.hid hPl; have HS := Lib.hid hs
  clear hP hex hQ hey hz hg hPl hs
  have he := eqlB x y
  have hne := neqB x x
  have exx : eqB x x = true := by rw [eqB_eq]; simp
  go_enter Tryd.func3, Tryd.ntmps3
  go_upto_region 1 with fail
  have Bx0 : Bx ((w.alloc (Obj.cells #[.int .i64 x.kind, .int .i64 x.job, .int .i64 x.every, .int .i64 x.time, .int .i64 x.client] 23)).alloc (Obj.cells #[.int .i64 y.kind, .int .i64 y.job, .int .i64 y.every, .int .i64 y.time, .int .i64 y.client] 23)) w.heap.size [.int .i64 x.kind, .int .i64 x.job, .int .i64 x.every, .int .i64 x.time, .int .i64 x.client] := (Bx.made w _ _).new _
  have By0 : Bx ((w.alloc (Obj.cells #[.int .i64 x.kind, .int .i64 x.job, .int .i64 x.every, .int .i64 x.time, .int .i64 x.client] 23)).alloc (Obj.cells #[.int .i64 y.kind, .int .i64 y.job, .int .i64 y.every, .int .i64 y.time, .int .i64 y.client] 23)) (w.heap.size + 1) [.int .i64 y.kind, .int .i64 y.job, .int .i64 y.every, .int .i64 y.time, .int .i64 y.client] := by
    have := Bx.made (w.alloc (Obj.cells #[.int .i64 x.kind, .int .i64 x.job, .int .i64 x.every, .int .i64 x.time, .int .i64 x.client] 23)) #[.int .i64 y.kind, .int .i64 y.job, .int .i64 y.every, .int .i64 y.time, .int .i64 y.client] 23
    simpa using this
  have on : Onto w ((w.alloc (Obj.cells #[.int .i64 x.kind, .int .i64 x.job, .int .i64 x.every, .int .i64 x.time, .int .i64 x.client] 23)).alloc (Obj.cells #[.int .i64 y.kind, .int .i64 y.job, .int .i64 y.every, .int .i64 y.time, .int .i64 y.client] 23)) := ((Onto.rfl' w).new _).new _
  generalize ((w.alloc (Obj.cells #[.int .i64 x.kind, .int .i64 x.job, .int .i64 x.every, .int .i64 x.time, .int .i64 x.client] 23)).alloc (Obj.cells #[.int .i64 y.kind, .int .i64 y.job, .int .i64 y.every, .int .i64 y.time, .int .i64 y.client] 23)) = w1 at *
  generalize w.heap.size + 1 = zy at *
  generalize w.heap.size = zx at *
  have x0 := Bx0.at_ 0 rfl; have x1 := Bx0.at_ 1 rfl; have x2 := Bx0.at_ 2 rfl; have x3 := Bx0.at_ 3 rfl; have x4 := Bx0.at_ 4 rfl
  go_wp2_with fail
  refine Calls.mono (EPrint_calls x _ (E.onto on)) ?_
  rw [show (printE x).1 = P from HP.out.symm, show (printE x).2 = ex from HX.out.symm]
  rintro e w2 ⟨rfl, b⟩
  replace Bx0 := Bx0.onto b; replace By0 := By0.onto b; replace on := on.to b
  clear b x0 x1 x2 x3 x4
  have y0 := By0.at_ 0 rfl; have y1 := By0.at_ 1 rfl; have y2 := By0.at_ 2 rfl; have y3 := By0.at_ 3 rfl; have y4 := By0.at_ 4 rfl
  go_wp2_with fail
  refine Calls.mono (EPrint_calls y _ (E.onto on)) ?_
  rw [show (printE y).1 = Q from HQ.out.symm, show (printE y).2 = ey from HY.out.symm]
  rintro e w3 ⟨rfl, b⟩
  replace Bx0 := Bx0.onto b; replace By0 := By0.onto b; replace on := on.to b
  clear b y0 y1 y2 y3 y4
  go_wp2_with fail
  refine Calls.mono (worded_calls _ (E.onto on)) ?_
  rintro e w4 ⟨rfl, b⟩
  replace Bx0 := Bx0.onto b; replace By0 := By0.onto b; replace on := on.to b
  clear b
  have x0 := Bx0.at_ 0 rfl; have x1 := Bx0.at_ 1 rfl; have x2 := Bx0.at_ 2 rfl; have x3 := Bx0.at_ 3 rfl; have x4 := Bx0.at_ 4 rfl
  have y0 := By0.at_ 0 rfl; have y1 := By0.at_ 1 rfl; have y2 := By0.at_ 2 rfl; have y3 := By0.at_ 3 rfl; have y4 := By0.at_ 4 rfl
  by_cases hx0 : ex = 0
  · have hbk : parseE P = (x, 0) := by rw [HP.out]; exact printE_back (by rw [← HX.out, hx0])
    have HBK := Lib.hid hbk
    clear hbk
    by_cases hy0 : ey = 0
    · have hpq : (P == Q) = eqB x y := by rw [HP.out, HQ.out]; exact printE_eq (by rw [← HX.out, hx0]) (by rw [← HY.out, hy0])
      subst hx0; subst hy0
      go_upto_region 5 with fail
      clear x0 x1 x2 x3 x4 y0 y1 y2 y3 y4 By0 hpq
      go_wp2_with fail
      refine Calls.mono (EParse_calls P _ (E.onto on) (by have := HL.out; omega)) ?_
      rw [HBK.out]
      rintro e w5 ⟨rfl, b⟩
      replace Bx0 := Bx0.onto b; replace on := on.to b
      clear b
      dsimp only
      go_upto_region 7 with fail
      replace on := on.to ((Onto.rfl' w5).new (Obj.cells #[.int .i64 x.kind, .int .i64 x.job, .int .i64 x.every, .int .i64 x.time, .int .i64 x.client] 23))
      replace Bx0 := Bx0.onto ((Onto.rfl' w5).new (Obj.cells #[.int .i64 x.kind, .int .i64 x.job, .int .i64 x.every, .int .i64 x.time, .int .i64 x.client] 23))
      have B5 : Bx (w5.alloc (Obj.cells #[.int .i64 x.kind, .int .i64 x.job, .int .i64 x.every, .int .i64 x.time, .int .i64 x.client] 23)) w5.heap.size [.int .i64 x.kind, .int .i64 x.job, .int .i64 x.every, .int .i64 x.time, .int .i64 x.client] := Bx.made _ _ _
      generalize (w5.alloc (Obj.cells #[.int .i64 x.kind, .int .i64 x.job, .int .i64 x.every, .int .i64 x.time, .int .i64 x.client] 23)) = w6 at *
      generalize w5.heap.size = z5 at *
      have x0 := Bx0.at_ 0 rfl; have x1 := Bx0.at_ 1 rfl; have x2 := Bx0.at_ 2 rfl; have x3 := Bx0.at_ 3 rfl; have x4 := Bx0.at_ 4 rfl
      have y0 := B5.at_ 0 rfl; have y1 := B5.at_ 1 rfl; have y2 := B5.at_ 2 rfl; have y3 := B5.at_ 3 rfl; have y4 := B5.at_ 4 rfl
      go_upto_region 9 with fail
      clear x0 x1 x2 x3 x4 y0 y1 y2 y3 y4 Bx0 B5

      go_wp2_with fail
      refine Calls.mono (EParse_calls s _ (E.onto on) HS.out) ?_
      rintro e w8 ⟨rfl, b⟩
      rw [show (parseE s).1 = z from HZ.out.symm, show (parseE s).2 = g from HG.out.symm]
      replace on := on.to b
      clear b
      by_cases hg0 : g = 0
      · have hpz : parseE s = (z, 0) := by rw [HZ.out, ← hg0, HG.out]
        have hpr := printE_of hpz
        have HPR := Lib.hid hpr
        clear hpr hpz
        subst hg0
        go_upto_region 10 with fail
        have Bz : Bx (w8.alloc (Obj.cells #[.int .i64 z.kind, .int .i64 z.job, .int .i64 z.every, .int .i64 z.time, .int .i64 z.client] 23)) w8.heap.size [.int .i64 z.kind, .int .i64 z.job, .int .i64 z.every, .int .i64 z.time, .int .i64 z.client] := Bx.made _ _ _
        replace on := on.to ((Onto.rfl' w8).new (Obj.cells #[.int .i64 z.kind, .int .i64 z.job, .int .i64 z.every, .int .i64 z.time, .int .i64 z.client] 23))
        generalize (w8.alloc (Obj.cells #[.int .i64 z.kind, .int .i64 z.job, .int .i64 z.every, .int .i64 z.time, .int .i64 z.client] 23)) = w9 at *
        generalize w8.heap.size = zz at *
        have z0 := Bz.at_ 0 rfl; have z1 := Bz.at_ 1 rfl; have z2 := Bz.at_ 2 rfl; have z3 := Bz.at_ 3 rfl; have z4 := Bz.at_ 4 rfl
        go_wp2_with fail
        refine Calls.mono (EPrint_calls z _ (E.onto on)) ?_
        rw [HPR.out]
        rintro e w10 ⟨rfl, b⟩
        replace on := on.to b
        clear b z0 z1 z2 z3 z4 Bz
        dsimp only
        go_wp2_with fail
        go_ret
        exact ⟨ret_bool (by simp), on⟩
      · have hgb : (g == 0) = false := by simp [hg0]
        have hgn : (g != 0) = true := by simp [hg0]
        clear hg0
        replace on := on.to ((Onto.rfl' w8).new (Obj.cells #[.int .i64 z.kind, .int .i64 z.job, .int .i64 z.every, .int .i64 z.time, .int .i64 z.client] 23))
        go_wp2_with fail
        go_ret
        exact ⟨ret_bool (by simp), on⟩
    · have hyb : (ey == 0) = false := by simp [hy0]
      subst hx0
      clear hy0
      go_upto_region 5 with fail
      clear x0 x1 x2 x3 x4 y0 y1 y2 y3 y4 By0
      go_wp2_with fail
      refine Calls.mono (EParse_calls P _ (E.onto on) (by have := HL.out; omega)) ?_
      rw [HBK.out]
      rintro e w5 ⟨rfl, b⟩
      replace Bx0 := Bx0.onto b; replace on := on.to b
      clear b
      dsimp only
      go_upto_region 7 with fail
      replace on := on.to ((Onto.rfl' w5).new (Obj.cells #[.int .i64 x.kind, .int .i64 x.job, .int .i64 x.every, .int .i64 x.time, .int .i64 x.client] 23))
      replace Bx0 := Bx0.onto ((Onto.rfl' w5).new (Obj.cells #[.int .i64 x.kind, .int .i64 x.job, .int .i64 x.every, .int .i64 x.time, .int .i64 x.client] 23))
      have B5 : Bx (w5.alloc (Obj.cells #[.int .i64 x.kind, .int .i64 x.job, .int .i64 x.every, .int .i64 x.time, .int .i64 x.client] 23)) w5.heap.size [.int .i64 x.kind, .int .i64 x.job, .int .i64 x.every, .int .i64 x.time, .int .i64 x.client] := Bx.made _ _ _
      generalize (w5.alloc (Obj.cells #[.int .i64 x.kind, .int .i64 x.job, .int .i64 x.every, .int .i64 x.time, .int .i64 x.client] 23)) = w6 at *
      generalize w5.heap.size = z5 at *
      have x0 := Bx0.at_ 0 rfl; have x1 := Bx0.at_ 1 rfl; have x2 := Bx0.at_ 2 rfl; have x3 := Bx0.at_ 3 rfl; have x4 := Bx0.at_ 4 rfl
      have y0 := B5.at_ 0 rfl; have y1 := B5.at_ 1 rfl; have y2 := B5.at_ 2 rfl; have y3 := B5.at_ 3 rfl; have y4 := B5.at_ 4 rfl
      go_upto_region 9 with fail
      clear x0 x1 x2 x3 x4 y0 y1 y2 y3 y4 Bx0 B5

      go_wp2_with fail
      refine Calls.mono (EParse_calls s _ (E.onto on) HS.out) ?_
      rintro e w8 ⟨rfl, b⟩
      rw [show (parseE s).1 = z from HZ.out.symm, show (parseE s).2 = g from HG.out.symm]
      replace on := on.to b
      clear b
      by_cases hg0 : g = 0
      · have hpz : parseE s = (z, 0) := by rw [HZ.out, ← hg0, HG.out]
        have hpr := printE_of hpz
        have HPR := Lib.hid hpr
        clear hpr hpz
        subst hg0
        go_upto_region 10 with fail
        have Bz : Bx (w8.alloc (Obj.cells #[.int .i64 z.kind, .int .i64 z.job, .int .i64 z.every, .int .i64 z.time, .int .i64 z.client] 23)) w8.heap.size [.int .i64 z.kind, .int .i64 z.job, .int .i64 z.every, .int .i64 z.time, .int .i64 z.client] := Bx.made _ _ _
        replace on := on.to ((Onto.rfl' w8).new (Obj.cells #[.int .i64 z.kind, .int .i64 z.job, .int .i64 z.every, .int .i64 z.time, .int .i64 z.client] 23))
        generalize (w8.alloc (Obj.cells #[.int .i64 z.kind, .int .i64 z.job, .int .i64 z.every, .int .i64 z.time, .int .i64 z.client] 23)) = w9 at *
        generalize w8.heap.size = zz at *
        have z0 := Bz.at_ 0 rfl; have z1 := Bz.at_ 1 rfl; have z2 := Bz.at_ 2 rfl; have z3 := Bz.at_ 3 rfl; have z4 := Bz.at_ 4 rfl
        go_wp2_with fail
        refine Calls.mono (EPrint_calls z _ (E.onto on)) ?_
        rw [HPR.out]
        rintro e w10 ⟨rfl, b⟩
        replace on := on.to b
        clear b z0 z1 z2 z3 z4 Bz
        dsimp only
        go_wp2_with fail
        go_ret
        exact ⟨ret_bool (by simp), on⟩
      · have hgb : (g == 0) = false := by simp [hg0]
        have hgn : (g != 0) = true := by simp [hg0]
        clear hg0
        replace on := on.to ((Onto.rfl' w8).new (Obj.cells #[.int .i64 z.kind, .int .i64 z.job, .int .i64 z.every, .int .i64 z.time, .int .i64 z.client] 23))
        go_wp2_with fail
        go_ret
        exact ⟨ret_bool (by simp), on⟩
  · have hxb : (ex == 0) = false := by simp [hx0]
    clear hx0
    go_upto_region 9 with fail
    clear x0 x1 x2 x3 x4 y0 y1 y2 y3 y4 By0 Bx0
    go_wp2_with fail
    refine Calls.mono (EParse_calls s _ (E.onto on) HS.out) ?_
    rintro e w8 ⟨rfl, b⟩
    rw [show (parseE s).1 = z from HZ.out.symm, show (parseE s).2 = g from HG.out.symm]
    replace on := on.to b
    clear b
    by_cases hg0 : g = 0
    · have hpz : parseE s = (z, 0) := by rw [HZ.out, ← hg0, HG.out]
      have hpr := printE_of hpz
      have HPR := Lib.hid hpr
      clear hpr hpz
      subst hg0
      go_upto_region 10 with fail
      have Bz : Bx (w8.alloc (Obj.cells #[.int .i64 z.kind, .int .i64 z.job, .int .i64 z.every, .int .i64 z.time, .int .i64 z.client] 23)) w8.heap.size [.int .i64 z.kind, .int .i64 z.job, .int .i64 z.every, .int .i64 z.time, .int .i64 z.client] := Bx.made _ _ _
      replace on := on.to ((Onto.rfl' w8).new (Obj.cells #[.int .i64 z.kind, .int .i64 z.job, .int .i64 z.every, .int .i64 z.time, .int .i64 z.client] 23))
      generalize (w8.alloc (Obj.cells #[.int .i64 z.kind, .int .i64 z.job, .int .i64 z.every, .int .i64 z.time, .int .i64 z.client] 23)) = w9 at *
      generalize w8.heap.size = zz at *
      have z0 := Bz.at_ 0 rfl; have z1 := Bz.at_ 1 rfl; have z2 := Bz.at_ 2 rfl; have z3 := Bz.at_ 3 rfl; have z4 := Bz.at_ 4 rfl
      go_wp2_with fail
      refine Calls.mono (EPrint_calls z _ (E.onto on)) ?_
      rw [HPR.out]
      rintro e w10 ⟨rfl, b⟩
      replace on := on.to b
      clear b z0 z1 z2 z3 z4 Bz
      dsimp only
      go_wp2_with fail
      go_ret
      exact ⟨ret_bool (by simp), on⟩
    · have hgb : (g == 0) = false := by simp [hg0]
      have hgn : (g != 0) = true := by simp [hg0]
      clear hg0
      replace on := on.to ((Onto.rfl' w8).new (Obj.cells #[.int .i64 z.kind, .int .i64 z.job, .int .i64 z.every, .int .i64 z.time, .int .i64 z.client] 23))
      go_wp2_with fail
      go_ret
      exact ⟨ret_bool (by simp), on⟩
end Go.Proofs.YtdcegdonppfbkaaDoor
