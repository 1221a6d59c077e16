/- The law NoteBack's walk. -/
import Derived.Test.YtdcegdonppfbkaaDoorNote
import Derived.Test.YtdcegdonppfbkaaDoorWorded
namespace Go.Proofs.YtdcegdonppfbkaaDoor
set_option linter.unusedSimpArgs false
set_option linter.unusedVariables false
open Go.RowKit

theorem equalInE (a0 a1 a2 a3 a4 b0 b1 b2 b3 b4 : Int) (w : World) : (Op.equalIn 9999 23 (.agg #[.int .i64 a0, .int .i64 a1, .int .i64 a2, .int .i64 a3, .int .i64 a4]) (.agg #[.int .i64 b0, .int .i64 b1, .int .i64 b2, .int .i64 b3, .int .i64 b4])).run Tryd.prog w = .ok (((a0 == b0) && (a1 == b1) && (a2 == b2) && (a3 == b3) && (a4 == b4))) w := by
  have hu3 := Tryd.underlying3; have ha3 := Tryd.isAgg3; have hz3 := Tryd.sizeOf3
  have hS : Tryd.prog.underlying 23 = some (.struct (Tryd.prog.fieldsOf 23)) := by kernel_rfl
  have hp : Tryd.prog.stoodInHeld 23 = false := by kernel_rfl
  rw [show (9999 : Nat) = 9998 + 1 from rfl, run_equalIn_agg w 9998 23 _ _ hS hp]
  simp only [Program.fieldsOf, Tryd.underlying23]
  go_simp
  by_cases h0 : a0 = b0 <;> by_cases h1 : a1 = b1 <;> by_cases h2 : a2 = b2 <;> by_cases h3 : a3 = b3 <;> by_cases h4 : a4 = b4 <;> simp [h0, h1, h2, h3, h4]
set_option maxHeartbeats 2000000 in
theorem eqlRI (a0 a1 a2 a3 a4 a5 a6 a7 b0 b1 b2 b3 b4 b5 b6 b7 : Int) (w : World) : (binOp .eql 35 (.agg #[.int .i64 a0, .int .i64 a1, .int .i64 a2, .int .i64 a3, .int .i64 a4, .int .i64 a5, .int .i64 a6, .int .i64 a7]) (.agg #[.int .i64 b0, .int .i64 b1, .int .i64 b2, .int .i64 b3, .int .i64 b4, .int .i64 b5, .int .i64 b6, .int .i64 b7])).run Tryd.prog w = .ok (.bool (((a0 == b0) && (a1 == b1) && (a2 == b2) && ((a3 == b3) && (a4 == b4) && (a5 == b5) && (a6 == b6) && (a7 == b7))))) w := by
  have hu3 := Tryd.underlying3; have ha3 := Tryd.isAgg3; have hz3 := Tryd.sizeOf3
  have ha4 := Tryd.isAgg23; have hz4 := Tryd.sizeOf23
  have hS : Tryd.prog.underlying 35 = some (.struct (Tryd.prog.fieldsOf 35)) := by kernel_rfl
  have hp : Tryd.prog.stoodInHeld 35 = false := by kernel_rfl
  have h4 := equalInE
  rw [run_eql_struct, show (10000 : Nat) = 9999 + 1 from rfl, run_equalIn_agg w 9999 35 _ _ hS hp]
  simp only [Program.fieldsOf, Tryd.underlying35]
  clear hS
  go_simp
  by_cases h0 : a0 = b0 <;> by_cases h1 : a1 = b1 <;> by_cases h2 : a2 = b2 <;> simp [h0, h1, h2]
  by_cases h3 : a3 = b3 <;> by_cases h4 : a4 = b4 <;> by_cases h5 : a5 = b5 <;> by_cases h6 : a6 = b6 <;> by_cases h7 : a7 = b7 <;> simp [h3, h4, h5, h6, h7]
set_option maxHeartbeats 2000000 in
theorem neqRI (a0 a1 a2 a3 a4 a5 a6 a7 b0 b1 b2 b3 b4 b5 b6 b7 : Int) (w : World) : (binOp .neq 35 (.agg #[.int .i64 a0, .int .i64 a1, .int .i64 a2, .int .i64 a3, .int .i64 a4, .int .i64 a5, .int .i64 a6, .int .i64 a7]) (.agg #[.int .i64 b0, .int .i64 b1, .int .i64 b2, .int .i64 b3, .int .i64 b4, .int .i64 b5, .int .i64 b6, .int .i64 b7])).run Tryd.prog w = .ok (.bool (!((a0 == b0) && (a1 == b1) && (a2 == b2) && ((a3 == b3) && (a4 == b4) && (a5 == b5) && (a6 == b6) && (a7 == b7))))) w := by
  have hu3 := Tryd.underlying3; have ha3 := Tryd.isAgg3; have hz3 := Tryd.sizeOf3
  have ha4 := Tryd.isAgg23; have hz4 := Tryd.sizeOf23
  have hS : Tryd.prog.underlying 35 = some (.struct (Tryd.prog.fieldsOf 35)) := by kernel_rfl
  have hp : Tryd.prog.stoodInHeld 35 = false := by kernel_rfl
  have h4 := equalInE
  rw [run_neq_struct, show (10000 : Nat) = 9999 + 1 from rfl, run_equalIn_agg w 9999 35 _ _ hS hp]
  simp only [Program.fieldsOf, Tryd.underlying35]
  clear hS
  go_simp
  by_cases h0 : a0 = b0 <;> by_cases h1 : a1 = b1 <;> by_cases h2 : a2 = b2 <;> simp [h0, h1, h2]
  by_cases h3 : a3 = b3 <;> by_cases h4 : a4 = b4 <;> by_cases h5 : a5 = b5 <;> by_cases h6 : a6 = b6 <;> by_cases h7 : a7 = b7 <;> simp [h3, h4, h5, h6, h7]
def eqR (x y : Rec) : Bool := (x.kind == y.kind) && (x.at_ == y.at_) && (x.epoch == y.epoch) && ((x.e.kind == y.e.kind) && (x.e.job == y.e.job) && (x.e.every == y.e.every) && (x.e.time == y.e.time) && (x.e.client == y.e.client))
theorem eqR_eq (x y : Rec) : eqR x y = decide (x = y) := by
  unfold eqR
  rw [Bool.eq_iff_iff]
  cases x; cases y
  simp [entry_eq_iff, and_assoc]
theorem eqlRB (x y : Rec) (w : World) : (binOp .eql 35 (.agg #[.int .i64 x.kind, .int .i64 x.at_, .int .i64 x.epoch, .int .i64 x.e.kind, .int .i64 x.e.job, .int .i64 x.e.every, .int .i64 x.e.time, .int .i64 x.e.client]) (.agg #[.int .i64 y.kind, .int .i64 y.at_, .int .i64 y.epoch, .int .i64 y.e.kind, .int .i64 y.e.job, .int .i64 y.e.every, .int .i64 y.e.time, .int .i64 y.e.client])).run Tryd.prog w = .ok (.bool (eqR x y)) w := eqlRI ..
theorem neqRB (x y : Rec) (w : World) : (binOp .neq 35 (.agg #[.int .i64 x.kind, .int .i64 x.at_, .int .i64 x.epoch, .int .i64 x.e.kind, .int .i64 x.e.job, .int .i64 x.e.every, .int .i64 x.e.time, .int .i64 x.e.client]) (.agg #[.int .i64 y.kind, .int .i64 y.at_, .int .i64 y.epoch, .int .i64 y.e.kind, .int .i64 y.e.job, .int .i64 y.e.every, .int .i64 y.e.time, .int .i64 y.e.client])).run Tryd.prog w = .ok (.bool (!eqR x y)) w := neqRI ..
theorem printR_eq {x y : Rec} (hx : (printR x).2 = 0) (hy : (printR y).2 = 0) : ((printR x).1 == (printR y).1) = eqR x y := by
  unfold printR at *
  split at hx
  · rename_i h; exact absurd hx h
  · rename_i h
    rw [if_neg h]
    split at hy
    · rename_i h'; exact absurd hy h'
    · rename_i h'
      rw [if_neg h', eqR_eq, Bool.eq_iff_iff, beq_iff_eq, decide_eq_true_iff]
      exact ⟨fun e => textR_inj (Decidable.not_not.1 h) (Decidable.not_not.1 h') e, fun e => by rw [e]⟩
theorem printR_back {x : Rec} (hx : (printR x).2 = 0) : parseR (printR x).1 = (x, 0) := by
  unfold printR at *
  split at hx
  · rename_i h; exact absurd hx h
  · rename_i h
    rw [if_neg h]
    exact parse_textR (Decidable.not_not.1 h)
theorem printR_len (x : Rec) : (printR x).1.length ≤ 100 := by
  unfold printR
  split
  · simp
  · rename_i h
    exact textR_len (Decidable.not_not.1 h)
theorem printR_of {s : List UInt8} {z : Rec} (h : parseR s = (z, 0)) : printR z = (s, 0) := by
  obtain ⟨h1, h2⟩ := parseR_ok h
  unfold printR
  rw [if_neg (by simp [h1]), h2]
theorem print7 : printR ⟨1, 7, 0, ⟨1, 2, 5, 10, 0⟩⟩ = ([55, 58, 32, 112, 117, 116, 32, 50, 32, 53, 32, 49, 48], 0) := by
  obtain ⟨_, _, _, _, h7, _⟩ := itoa_small
  unfold printR
  rw [if_neg (by decide)]
  unfold textR
  rw [if_neg (by decide), h7, text25]
  rfl
theorem print3 : printR ⟨2, 0, 3, ⟨0, 0, 0, 0, 0⟩⟩ = ([115, 101, 97, 108, 32, 51], 0) := by
  obtain ⟨_, _, h3, _, _, _⟩ := itoa_small
  unfold printR
  rw [if_neg (by decide)]
  unfold textR
  rw [if_pos rfl, h3]
  rfl
theorem parse7 : parseR [55, 58, 32, 112, 117, 116, 32, 50, 32, 53, 32, 49, 48] = (⟨1, 7, 0, ⟨1, 2, 5, 10, 0⟩⟩, 0) := by
  have h := printR_back (x := ⟨1, 7, 0, ⟨1, 2, 5, 10, 0⟩⟩) (by rw [print7])
  rwa [print7] at h
set_option maxHeartbeats 4000000 in
set_option maxRecDepth 100000 in
theorem noted_calls (w : World) (E : Env w) :
    Calls Tryd.prog 20 #[] w fun e w' => e = .returned (.bool true) ∧ Onto w w' := by
  go_enter Tryd.func20, Tryd.ntmps20
  go_wp2_with fail
  refine Calls.mono (put_calls 2 5 10 _) ?_
  rintro e w1 ⟨rfl, b1⟩
  go_wp2_with fail
  refine Calls.mono (NPrint_calls 1 7 0 ⟨1, 2, 5, 10, 0⟩ _ (E.onto b1)) ?_
  rw [print7]
  rintro e w2 ⟨rfl, b2⟩
  have on := Onto.to b1 b2
  clear b1 b2
  dsimp only
  go_wp2_with fail
  refine Calls.mono (NPrint_calls 2 0 3 ⟨0, 0, 0, 0, 0⟩ _ (E.onto on)) ?_
  rw [print3]
  rintro e w3 ⟨rfl, b⟩
  replace on := on.to b
  clear b
  dsimp only
  go_wp2_with fail
  refine Calls.mono (NParse_calls [55, 58, 32, 112, 117, 116, 32, 50, 32, 53, 32, 49, 48] _ (E.onto on) (by simp)) ?_
  rw [parse7]
  rintro e w5 ⟨rfl, b⟩
  replace on := on.to b
  clear b
  dsimp only
  go_upto_region 4 with fail
  have oz := (Onto.rfl' w5).new (Obj.cells #[.int .i64 1, .int .i64 7, .int .i64 0, .int .i64 1, .int .i64 2, .int .i64 5, .int .i64 10, .int .i64 0] 35)
  have B3 : Bx (w5.alloc (Obj.cells #[.int .i64 1, .int .i64 7, .int .i64 0, .int .i64 1, .int .i64 2, .int .i64 5, .int .i64 10, .int .i64 0] 35)) w5.heap.size [.int .i64 1, .int .i64 7, .int .i64 0, .int .i64 1, .int .i64 2, .int .i64 5, .int .i64 10, .int .i64 0] := Bx.made _ _ _
  replace on := on.to oz
  clear oz
  generalize (w5.alloc (Obj.cells #[.int .i64 1, .int .i64 7, .int .i64 0, .int .i64 1, .int .i64 2, .int .i64 5, .int .i64 10, .int .i64 0] 35)) = w6 at *
  generalize w5.heap.size = z5 at *
  have c0 := onto_cell (B3.at_ 0 rfl); have c1 := onto_cell (B3.at_ 1 rfl); have c2 := onto_cell (B3.at_ 2 rfl); have c3 := onto_cell (B3.at_ 3 rfl); have c4 := onto_cell (B3.at_ 4 rfl); have c5 := onto_cell (B3.at_ 5 rfl); have c6 := onto_cell (B3.at_ 6 rfl); have c7 := onto_cell (B3.at_ 7 rfl)
  have he := eqlRI
  refine wp_region_onto (by kernel_rfl) (by kernel_rfl) ?_
  repeat (go_big_quiet_step ((go_at_call 55; exact calls_onto' (u := .agg #[.int .i64 1, .int .i64 2, .int .i64 5, .int .i64 10, .int .i64 0]) (put_calls 2 5 10 _) rfl)))
  refine wpQuiet_nil ?_
  intro w7 b7
  replace on := on.to b7
  clear b7 c0 c1 c2 c3 c4 c5 c6 c7 B3 he
  go_wp2_with fail
  go_ret
  exact ⟨ret_bool (by simp), on⟩
set_option maxHeartbeats 4000000 in
set_option maxRecDepth 100000 in
theorem NoteBack_calls (x y : Rec) (s : List UInt8) (w : World) (E : Env w) (hs : s.length ≤ 9223372036854775807) :
    Calls Tryd.prog 5 #[.agg #[.int .i64 x.kind, .int .i64 x.at_, .int .i64 x.epoch, .int .i64 x.e.kind, .int .i64 x.e.job, .int .i64 x.e.every, .int .i64 x.e.time, .int .i64 x.e.client], .agg #[.int .i64 y.kind, .int .i64 y.at_, .int .i64 y.epoch, .int .i64 y.e.kind, .int .i64 y.e.job, .int .i64 y.e.every, .int .i64 y.e.time, .int .i64 y.e.client], str s] w fun e w' => e = .returned (.bool true) ∧ Onto w w' := by
  obtain ⟨P, hP⟩ : ∃ P, P = (printR x).1 := ⟨_, rfl⟩
  obtain ⟨ex, hex⟩ : ∃ e, e = (printR x).2 := ⟨_, rfl⟩
  obtain ⟨Q, hQ⟩ : ∃ P, P = (printR y).1 := ⟨_, rfl⟩
  obtain ⟨ey, hey⟩ : ∃ e, e = (printR y).2 := ⟨_, rfl⟩
  have hPl : P.length ≤ 100 := hP ▸ printR_len x
  obtain ⟨z, hz⟩ : ∃ z, z = (parseR s).1 := ⟨_, rfl⟩
  obtain ⟨g, hg⟩ : ∃ z, z = (parseR s).2 := ⟨_, rfl⟩
  have HP := Lib.hid hP; have HX := Lib.hid hex; have HQ := Lib.hid hQ; have HY := Lib.hid hey; have HZ := Lib.hid hz; have HG := Lib.hid hg; have HL := Lib.hid hPl; have HS := Lib.hid hs
  clear hP hex hQ hey hz hg hPl hs
  have he := eqlRB x y
  have hne := neqRB x x
  have exx : eqR x x = true := by rw [eqR_eq]; simp
  go_enter Tryd.func5, Tryd.ntmps5
  go_upto_region 1 with fail
  have Bx0 : Bx ((w.alloc (Obj.cells #[.int .i64 x.kind, .int .i64 x.at_, .int .i64 x.epoch, .int .i64 x.e.kind, .int .i64 x.e.job, .int .i64 x.e.every, .int .i64 x.e.time, .int .i64 x.e.client] 35)).alloc (Obj.cells #[.int .i64 y.kind, .int .i64 y.at_, .int .i64 y.epoch, .int .i64 y.e.kind, .int .i64 y.e.job, .int .i64 y.e.every, .int .i64 y.e.time, .int .i64 y.e.client] 35)) w.heap.size [.int .i64 x.kind, .int .i64 x.at_, .int .i64 x.epoch, .int .i64 x.e.kind, .int .i64 x.e.job, .int .i64 x.e.every, .int .i64 x.e.time, .int .i64 x.e.client] := (Bx.made w _ _).new _
  have By0 : Bx ((w.alloc (Obj.cells #[.int .i64 x.kind, .int .i64 x.at_, .int .i64 x.epoch, .int .i64 x.e.kind, .int .i64 x.e.job, .int .i64 x.e.every, .int .i64 x.e.time, .int .i64 x.e.client] 35)).alloc (Obj.cells #[.int .i64 y.kind, .int .i64 y.at_, .int .i64 y.epoch, .int .i64 y.e.kind, .int .i64 y.e.job, .int .i64 y.e.every, .int .i64 y.e.time, .int .i64 y.e.client] 35)) (w.heap.size + 1) [.int .i64 y.kind, .int .i64 y.at_, .int .i64 y.epoch, .int .i64 y.e.kind, .int .i64 y.e.job, .int .i64 y.e.every, .int .i64 y.e.time, .int .i64 y.e.client] := by
    have := Bx.made (w.alloc (Obj.cells #[.int .i64 x.kind, .int .i64 x.at_, .int .i64 x.epoch, .int .i64 x.e.kind, .int .i64 x.e.job, .int .i64 x.e.every, .int .i64 x.e.time, .int .i64 x.e.client] 35)) #[.int .i64 y.kind, .int .i64 y.at_, .int .i64 y.epoch, .int .i64 y.e.kind, .int .i64 y.e.job, .int .i64 y.e.every, .int .i64 y.e.time, .int .i64 y.e.client] 35
    simpa using this
  have on : Onto w ((w.alloc (Obj.cells #[.int .i64 x.kind, .int .i64 x.at_, .int .i64 x.epoch, .int .i64 x.e.kind, .int .i64 x.e.job, .int .i64 x.e.every, .int .i64 x.e.time, .int .i64 x.e.client] 35)).alloc (Obj.cells #[.int .i64 y.kind, .int .i64 y.at_, .int .i64 y.epoch, .int .i64 y.e.kind, .int .i64 y.e.job, .int .i64 y.e.every, .int .i64 y.e.time, .int .i64 y.e.client] 35)) := ((Onto.rfl' w).new _).new _
  generalize ((w.alloc (Obj.cells #[.int .i64 x.kind, .int .i64 x.at_, .int .i64 x.epoch, .int .i64 x.e.kind, .int .i64 x.e.job, .int .i64 x.e.every, .int .i64 x.e.time, .int .i64 x.e.client] 35)).alloc (Obj.cells #[.int .i64 y.kind, .int .i64 y.at_, .int .i64 y.epoch, .int .i64 y.e.kind, .int .i64 y.e.job, .int .i64 y.e.every, .int .i64 y.e.time, .int .i64 y.e.client] 35)) = w1 at *
  generalize w.heap.size + 1 = zy at *
  generalize w.heap.size = zx at *
  have x0 := Bx0.at_ 0 rfl; have x1 := Bx0.at_ 1 rfl; have x2 := Bx0.at_ 2 rfl; have x3 := Bx0.at_ 3 rfl; have x4 := Bx0.at_ 4 rfl; have x5 := Bx0.at_ 5 rfl; have x6 := Bx0.at_ 6 rfl; have x7 := Bx0.at_ 7 rfl; have x5 := Bx0.at_ 5 rfl; have x6 := Bx0.at_ 6 rfl; have x7 := Bx0.at_ 7 rfl; have x5 := Bx0.at_ 5 rfl; have x6 := Bx0.at_ 6 rfl; have x7 := Bx0.at_ 7 rfl
  go_wp2_with fail
  refine Calls.mono (NPrint_calls x.kind x.at_ x.epoch x.e _ (E.onto on)) ?_
  rw [show (printR x).1 = P from HP.out.symm, show (printR x).2 = ex from HX.out.symm]
  rintro e w2 ⟨rfl, b⟩
  replace Bx0 := Bx0.onto b; replace By0 := By0.onto b; replace on := on.to b
  clear b x0 x1 x2 x3 x4 x5 x6 x7
  have y0 := By0.at_ 0 rfl; have y1 := By0.at_ 1 rfl; have y2 := By0.at_ 2 rfl; have y3 := By0.at_ 3 rfl; have y4 := By0.at_ 4 rfl; have y5 := By0.at_ 5 rfl; have y6 := By0.at_ 6 rfl; have y7 := By0.at_ 7 rfl; have y5 := By0.at_ 5 rfl; have y6 := By0.at_ 6 rfl; have y7 := By0.at_ 7 rfl; have y5 := By0.at_ 5 rfl; have y6 := By0.at_ 6 rfl; have y7 := By0.at_ 7 rfl
  go_wp2_with fail
  refine Calls.mono (NPrint_calls y.kind y.at_ y.epoch y.e _ (E.onto on)) ?_
  rw [show (printR y).1 = Q from HQ.out.symm, show (printR y).2 = ey from HY.out.symm]
  rintro e w3 ⟨rfl, b⟩
  replace Bx0 := Bx0.onto b; replace By0 := By0.onto b; replace on := on.to b
  clear b y0 y1 y2 y3 y4 y5 y6 y7
  go_wp2_with fail
  refine Calls.mono (noted_calls _ (E.onto on)) ?_
  rintro e w4 ⟨rfl, b⟩
  replace Bx0 := Bx0.onto b; replace By0 := By0.onto b; replace on := on.to b
  clear b
  have x0 := Bx0.at_ 0 rfl; have x1 := Bx0.at_ 1 rfl; have x2 := Bx0.at_ 2 rfl; have x3 := Bx0.at_ 3 rfl; have x4 := Bx0.at_ 4 rfl; have x5 := Bx0.at_ 5 rfl; have x6 := Bx0.at_ 6 rfl; have x7 := Bx0.at_ 7 rfl; have x5 := Bx0.at_ 5 rfl; have x6 := Bx0.at_ 6 rfl; have x7 := Bx0.at_ 7 rfl; have x5 := Bx0.at_ 5 rfl; have x6 := Bx0.at_ 6 rfl; have x7 := Bx0.at_ 7 rfl
  have y0 := By0.at_ 0 rfl; have y1 := By0.at_ 1 rfl; have y2 := By0.at_ 2 rfl; have y3 := By0.at_ 3 rfl; have y4 := By0.at_ 4 rfl; have y5 := By0.at_ 5 rfl; have y6 := By0.at_ 6 rfl; have y7 := By0.at_ 7 rfl; have y5 := By0.at_ 5 rfl; have y6 := By0.at_ 6 rfl; have y7 := By0.at_ 7 rfl; have y5 := By0.at_ 5 rfl; have y6 := By0.at_ 6 rfl; have y7 := By0.at_ 7 rfl
  by_cases hx0 : ex = 0
  · have hbk : parseR P = (x, 0) := by rw [HP.out]; exact printR_back (by rw [← HX.out, hx0])
    have HBK := Lib.hid hbk
    clear hbk
    by_cases hy0 : ey = 0
    · have hpq : (P == Q) = eqR x y := by rw [HP.out, HQ.out]; exact printR_eq (by rw [← HX.out, hx0]) (by rw [← HY.out, hy0])
      subst hx0; subst hy0
      go_upto_region 5 with fail
      clear x0 x1 x2 x3 x4 x5 x6 x7 y0 y1 y2 y3 y4 y5 y6 y7 By0 hpq
      go_wp2_with fail
      refine Calls.mono (NParse_calls P _ (E.onto on) (by have := HL.out; omega)) ?_
      rw [HBK.out]
      rintro e w5 ⟨rfl, b⟩
      replace Bx0 := Bx0.onto b; replace on := on.to b
      clear b
      dsimp only
      go_upto_region 7 with fail
      replace on := on.to ((Onto.rfl' w5).new (Obj.cells #[.int .i64 x.kind, .int .i64 x.at_, .int .i64 x.epoch, .int .i64 x.e.kind, .int .i64 x.e.job, .int .i64 x.e.every, .int .i64 x.e.time, .int .i64 x.e.client] 35))
      replace Bx0 := Bx0.onto ((Onto.rfl' w5).new (Obj.cells #[.int .i64 x.kind, .int .i64 x.at_, .int .i64 x.epoch, .int .i64 x.e.kind, .int .i64 x.e.job, .int .i64 x.e.every, .int .i64 x.e.time, .int .i64 x.e.client] 35))
      have B5 : Bx (w5.alloc (Obj.cells #[.int .i64 x.kind, .int .i64 x.at_, .int .i64 x.epoch, .int .i64 x.e.kind, .int .i64 x.e.job, .int .i64 x.e.every, .int .i64 x.e.time, .int .i64 x.e.client] 35)) w5.heap.size [.int .i64 x.kind, .int .i64 x.at_, .int .i64 x.epoch, .int .i64 x.e.kind, .int .i64 x.e.job, .int .i64 x.e.every, .int .i64 x.e.time, .int .i64 x.e.client] := Bx.made _ _ _
      generalize (w5.alloc (Obj.cells #[.int .i64 x.kind, .int .i64 x.at_, .int .i64 x.epoch, .int .i64 x.e.kind, .int .i64 x.e.job, .int .i64 x.e.every, .int .i64 x.e.time, .int .i64 x.e.client] 35)) = w6 at *
      generalize w5.heap.size = z5 at *
      have x0 := Bx0.at_ 0 rfl; have x1 := Bx0.at_ 1 rfl; have x2 := Bx0.at_ 2 rfl; have x3 := Bx0.at_ 3 rfl; have x4 := Bx0.at_ 4 rfl; have x5 := Bx0.at_ 5 rfl; have x6 := Bx0.at_ 6 rfl; have x7 := Bx0.at_ 7 rfl; have x5 := Bx0.at_ 5 rfl; have x6 := Bx0.at_ 6 rfl; have x7 := Bx0.at_ 7 rfl; have x5 := Bx0.at_ 5 rfl; have x6 := Bx0.at_ 6 rfl; have x7 := Bx0.at_ 7 rfl
      have y0 := B5.at_ 0 rfl; have y1 := B5.at_ 1 rfl; have y2 := B5.at_ 2 rfl; have y3 := B5.at_ 3 rfl; have y4 := B5.at_ 4 rfl; have y5 := B5.at_ 5 rfl; have y6 := B5.at_ 6 rfl; have y7 := B5.at_ 7 rfl; have y5 := B5.at_ 5 rfl; have y6 := B5.at_ 6 rfl; have y7 := B5.at_ 7 rfl; have y5 := B5.at_ 5 rfl; have y6 := B5.at_ 6 rfl; have y7 := B5.at_ 7 rfl
      go_upto_region 9 with fail
      clear x0 x1 x2 x3 x4 x5 x6 x7 y0 y1 y2 y3 y4 y5 y6 y7 Bx0 B5

      go_wp2_with fail
      refine Calls.mono (NParse_calls s _ (E.onto on) HS.out) ?_
      rintro e w8 ⟨rfl, b⟩
      rw [show (parseR s).1 = z from HZ.out.symm, show (parseR s).2 = g from HG.out.symm]
      replace on := on.to b
      clear b
      by_cases hg0 : g = 0
      · have hpz : parseR s = (z, 0) := by rw [HZ.out, ← hg0, HG.out]
        have hpr := printR_of hpz
        have HPR := Lib.hid hpr
        clear hpr hpz
        subst hg0
        go_upto_region 10 with fail
        have Bz : Bx (w8.alloc (Obj.cells #[.int .i64 z.kind, .int .i64 z.at_, .int .i64 z.epoch, .int .i64 z.e.kind, .int .i64 z.e.job, .int .i64 z.e.every, .int .i64 z.e.time, .int .i64 z.e.client] 35)) w8.heap.size [.int .i64 z.kind, .int .i64 z.at_, .int .i64 z.epoch, .int .i64 z.e.kind, .int .i64 z.e.job, .int .i64 z.e.every, .int .i64 z.e.time, .int .i64 z.e.client] := Bx.made _ _ _
        replace on := on.to ((Onto.rfl' w8).new (Obj.cells #[.int .i64 z.kind, .int .i64 z.at_, .int .i64 z.epoch, .int .i64 z.e.kind, .int .i64 z.e.job, .int .i64 z.e.every, .int .i64 z.e.time, .int .i64 z.e.client] 35))
        generalize (w8.alloc (Obj.cells #[.int .i64 z.kind, .int .i64 z.at_, .int .i64 z.epoch, .int .i64 z.e.kind, .int .i64 z.e.job, .int .i64 z.e.every, .int .i64 z.e.time, .int .i64 z.e.client] 35)) = w9 at *
        generalize w8.heap.size = zz at *
        have z0 := Bz.at_ 0 rfl; have z1 := Bz.at_ 1 rfl; have z2 := Bz.at_ 2 rfl; have z3 := Bz.at_ 3 rfl; have z4 := Bz.at_ 4 rfl; have z5 := Bz.at_ 5 rfl; have z6 := Bz.at_ 6 rfl; have z7 := Bz.at_ 7 rfl; have z5 := Bz.at_ 5 rfl; have z6 := Bz.at_ 6 rfl; have z7 := Bz.at_ 7 rfl; have z5 := Bz.at_ 5 rfl; have z6 := Bz.at_ 6 rfl; have z7 := Bz.at_ 7 rfl
        go_wp2_with fail
        refine Calls.mono (NPrint_calls z.kind z.at_ z.epoch z.e _ (E.onto on)) ?_
        rw [HPR.out]
        rintro e w10 ⟨rfl, b⟩
        replace on := on.to b
        clear b z0 z1 z2 z3 z4 z5 z6 z7 Bz
        dsimp only
        go_wp2_with fail
        go_ret
        exact ⟨ret_bool (by simp), on⟩
      · have hgb : (g == 0) = false := by simp [hg0]
        have hgn : (g != 0) = true := by simp [hg0]
        clear hg0
        replace on := on.to ((Onto.rfl' w8).new (Obj.cells #[.int .i64 z.kind, .int .i64 z.at_, .int .i64 z.epoch, .int .i64 z.e.kind, .int .i64 z.e.job, .int .i64 z.e.every, .int .i64 z.e.time, .int .i64 z.e.client] 35))
        go_wp2_with fail
        go_ret
        exact ⟨ret_bool (by simp), on⟩
    · have hyb : (ey == 0) = false := by simp [hy0]
      subst hx0
      clear hy0
      go_upto_region 5 with fail
      clear x0 x1 x2 x3 x4 x5 x6 x7 y0 y1 y2 y3 y4 y5 y6 y7 By0
      go_wp2_with fail
      refine Calls.mono (NParse_calls P _ (E.onto on) (by have := HL.out; omega)) ?_
      rw [HBK.out]
      rintro e w5 ⟨rfl, b⟩
      replace Bx0 := Bx0.onto b; replace on := on.to b
      clear b
      dsimp only
      go_upto_region 7 with fail
      replace on := on.to ((Onto.rfl' w5).new (Obj.cells #[.int .i64 x.kind, .int .i64 x.at_, .int .i64 x.epoch, .int .i64 x.e.kind, .int .i64 x.e.job, .int .i64 x.e.every, .int .i64 x.e.time, .int .i64 x.e.client] 35))
      replace Bx0 := Bx0.onto ((Onto.rfl' w5).new (Obj.cells #[.int .i64 x.kind, .int .i64 x.at_, .int .i64 x.epoch, .int .i64 x.e.kind, .int .i64 x.e.job, .int .i64 x.e.every, .int .i64 x.e.time, .int .i64 x.e.client] 35))
      have B5 : Bx (w5.alloc (Obj.cells #[.int .i64 x.kind, .int .i64 x.at_, .int .i64 x.epoch, .int .i64 x.e.kind, .int .i64 x.e.job, .int .i64 x.e.every, .int .i64 x.e.time, .int .i64 x.e.client] 35)) w5.heap.size [.int .i64 x.kind, .int .i64 x.at_, .int .i64 x.epoch, .int .i64 x.e.kind, .int .i64 x.e.job, .int .i64 x.e.every, .int .i64 x.e.time, .int .i64 x.e.client] := Bx.made _ _ _
      generalize (w5.alloc (Obj.cells #[.int .i64 x.kind, .int .i64 x.at_, .int .i64 x.epoch, .int .i64 x.e.kind, .int .i64 x.e.job, .int .i64 x.e.every, .int .i64 x.e.time, .int .i64 x.e.client] 35)) = w6 at *
      generalize w5.heap.size = z5 at *
      have x0 := Bx0.at_ 0 rfl; have x1 := Bx0.at_ 1 rfl; have x2 := Bx0.at_ 2 rfl; have x3 := Bx0.at_ 3 rfl; have x4 := Bx0.at_ 4 rfl; have x5 := Bx0.at_ 5 rfl; have x6 := Bx0.at_ 6 rfl; have x7 := Bx0.at_ 7 rfl; have x5 := Bx0.at_ 5 rfl; have x6 := Bx0.at_ 6 rfl; have x7 := Bx0.at_ 7 rfl; have x5 := Bx0.at_ 5 rfl; have x6 := Bx0.at_ 6 rfl; have x7 := Bx0.at_ 7 rfl
      have y0 := B5.at_ 0 rfl; have y1 := B5.at_ 1 rfl; have y2 := B5.at_ 2 rfl; have y3 := B5.at_ 3 rfl; have y4 := B5.at_ 4 rfl; have y5 := B5.at_ 5 rfl; have y6 := B5.at_ 6 rfl; have y7 := B5.at_ 7 rfl; have y5 := B5.at_ 5 rfl; have y6 := B5.at_ 6 rfl; have y7 := B5.at_ 7 rfl; have y5 := B5.at_ 5 rfl; have y6 := B5.at_ 6 rfl; have y7 := B5.at_ 7 rfl
      go_upto_region 9 with fail
      clear x0 x1 x2 x3 x4 x5 x6 x7 y0 y1 y2 y3 y4 y5 y6 y7 Bx0 B5

      go_wp2_with fail
      refine Calls.mono (NParse_calls s _ (E.onto on) HS.out) ?_
      rintro e w8 ⟨rfl, b⟩
      rw [show (parseR s).1 = z from HZ.out.symm, show (parseR s).2 = g from HG.out.symm]
      replace on := on.to b
      clear b
      by_cases hg0 : g = 0
      · have hpz : parseR s = (z, 0) := by rw [HZ.out, ← hg0, HG.out]
        have hpr := printR_of hpz
        have HPR := Lib.hid hpr
        clear hpr hpz
        subst hg0
        go_upto_region 10 with fail
        have Bz : Bx (w8.alloc (Obj.cells #[.int .i64 z.kind, .int .i64 z.at_, .int .i64 z.epoch, .int .i64 z.e.kind, .int .i64 z.e.job, .int .i64 z.e.every, .int .i64 z.e.time, .int .i64 z.e.client] 35)) w8.heap.size [.int .i64 z.kind, .int .i64 z.at_, .int .i64 z.epoch, .int .i64 z.e.kind, .int .i64 z.e.job, .int .i64 z.e.every, .int .i64 z.e.time, .int .i64 z.e.client] := Bx.made _ _ _
        replace on := on.to ((Onto.rfl' w8).new (Obj.cells #[.int .i64 z.kind, .int .i64 z.at_, .int .i64 z.epoch, .int .i64 z.e.kind, .int .i64 z.e.job, .int .i64 z.e.every, .int .i64 z.e.time, .int .i64 z.e.client] 35))
        generalize (w8.alloc (Obj.cells #[.int .i64 z.kind, .int .i64 z.at_, .int .i64 z.epoch, .int .i64 z.e.kind, .int .i64 z.e.job, .int .i64 z.e.every, .int .i64 z.e.time, .int .i64 z.e.client] 35)) = w9 at *
        generalize w8.heap.size = zz at *
        have z0 := Bz.at_ 0 rfl; have z1 := Bz.at_ 1 rfl; have z2 := Bz.at_ 2 rfl; have z3 := Bz.at_ 3 rfl; have z4 := Bz.at_ 4 rfl; have z5 := Bz.at_ 5 rfl; have z6 := Bz.at_ 6 rfl; have z7 := Bz.at_ 7 rfl; have z5 := Bz.at_ 5 rfl; have z6 := Bz.at_ 6 rfl; have z7 := Bz.at_ 7 rfl; have z5 := Bz.at_ 5 rfl; have z6 := Bz.at_ 6 rfl; have z7 := Bz.at_ 7 rfl
        go_wp2_with fail
        refine Calls.mono (NPrint_calls z.kind z.at_ z.epoch z.e _ (E.onto on)) ?_
        rw [HPR.out]
        rintro e w10 ⟨rfl, b⟩
        replace on := on.to b
        clear b z0 z1 z2 z3 z4 z5 z6 z7 Bz
        dsimp only
        go_wp2_with fail
        go_ret
        exact ⟨ret_bool (by simp), on⟩
      · have hgb : (g == 0) = false := by simp [hg0]
        have hgn : (g != 0) = true := by simp [hg0]
        clear hg0
        replace on := on.to ((Onto.rfl' w8).new (Obj.cells #[.int .i64 z.kind, .int .i64 z.at_, .int .i64 z.epoch, .int .i64 z.e.kind, .int .i64 z.e.job, .int .i64 z.e.every, .int .i64 z.e.time, .int .i64 z.e.client] 35))
        go_wp2_with fail
        go_ret
        exact ⟨ret_bool (by simp), on⟩
  · have hxb : (ex == 0) = false := by simp [hx0]
    clear hx0
    go_upto_region 9 with fail
    clear x0 x1 x2 x3 x4 x5 x6 x7 y0 y1 y2 y3 y4 y5 y6 y7 By0 Bx0
    go_wp2_with fail
    refine Calls.mono (NParse_calls s _ (E.onto on) HS.out) ?_
    rintro e w8 ⟨rfl, b⟩
    rw [show (parseR s).1 = z from HZ.out.symm, show (parseR s).2 = g from HG.out.symm]
    replace on := on.to b
    clear b
    by_cases hg0 : g = 0
    · have hpz : parseR s = (z, 0) := by rw [HZ.out, ← hg0, HG.out]
      have hpr := printR_of hpz
      have HPR := Lib.hid hpr
      clear hpr hpz
      subst hg0
      go_upto_region 10 with fail
      have Bz : Bx (w8.alloc (Obj.cells #[.int .i64 z.kind, .int .i64 z.at_, .int .i64 z.epoch, .int .i64 z.e.kind, .int .i64 z.e.job, .int .i64 z.e.every, .int .i64 z.e.time, .int .i64 z.e.client] 35)) w8.heap.size [.int .i64 z.kind, .int .i64 z.at_, .int .i64 z.epoch, .int .i64 z.e.kind, .int .i64 z.e.job, .int .i64 z.e.every, .int .i64 z.e.time, .int .i64 z.e.client] := Bx.made _ _ _
      replace on := on.to ((Onto.rfl' w8).new (Obj.cells #[.int .i64 z.kind, .int .i64 z.at_, .int .i64 z.epoch, .int .i64 z.e.kind, .int .i64 z.e.job, .int .i64 z.e.every, .int .i64 z.e.time, .int .i64 z.e.client] 35))
      generalize (w8.alloc (Obj.cells #[.int .i64 z.kind, .int .i64 z.at_, .int .i64 z.epoch, .int .i64 z.e.kind, .int .i64 z.e.job, .int .i64 z.e.every, .int .i64 z.e.time, .int .i64 z.e.client] 35)) = w9 at *
      generalize w8.heap.size = zz at *
      have z0 := Bz.at_ 0 rfl; have z1 := Bz.at_ 1 rfl; have z2 := Bz.at_ 2 rfl; have z3 := Bz.at_ 3 rfl; have z4 := Bz.at_ 4 rfl; have z5 := Bz.at_ 5 rfl; have z6 := Bz.at_ 6 rfl; have z7 := Bz.at_ 7 rfl; have z5 := Bz.at_ 5 rfl; have z6 := Bz.at_ 6 rfl; have z7 := Bz.at_ 7 rfl; have z5 := Bz.at_ 5 rfl; have z6 := Bz.at_ 6 rfl; have z7 := Bz.at_ 7 rfl
      go_wp2_with fail
      refine Calls.mono (NPrint_calls z.kind z.at_ z.epoch z.e _ (E.onto on)) ?_
      rw [HPR.out]
      rintro e w10 ⟨rfl, b⟩
      replace on := on.to b
      clear b z0 z1 z2 z3 z4 z5 z6 z7 Bz
      dsimp only
      go_wp2_with fail
      go_ret
      exact ⟨ret_bool (by simp), on⟩
    · have hgb : (g == 0) = false := by simp [hg0]
      have hgn : (g != 0) = true := by simp [hg0]
      clear hg0
      replace on := on.to ((Onto.rfl' w8).new (Obj.cells #[.int .i64 z.kind, .int .i64 z.at_, .int .i64 z.epoch, .int .i64 z.e.kind, .int .i64 z.e.job, .int .i64 z.e.every, .int .i64 z.e.time, .int .i64 z.e.client] 35))
      go_wp2_with fail
      go_ret
      exact ⟨ret_bool (by simp), on⟩
end Go.Proofs.YtdcegdonppfbkaaDoor
