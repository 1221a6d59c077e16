/- The document's EntryText. -/
import Derived.Test.YtdcegdonppfbkaaDoorRStr
import Derived.Test.YtdcegdonppfbkaaDoorEPrint
namespace Go.Proofs.YtdcegdonppfbkaaDoor
set_option linter.unusedSimpArgs false
set_option linter.unusedVariables false
open Go.RowKit

theorem checkE_bounds {k j v t c : Int} (h : checkE ⟨k, j, v, t, c⟩ = 0) : 0 ≤ k ∧ k ≤ 3 ∧ 0 ≤ j ∧ j ≤ 5 ∧ 0 ≤ v ∧ v ≤ 100 ∧ 0 ≤ t ∧ t ≤ 100000 ∧ 0 ≤ c ∧ c ≤ 2 := by
  unfold checkE at h
  dsimp only at h
  split at h
  · cases h
  · split at h
    · cases h
    · omega
set_option maxHeartbeats 4000000 in
set_option maxRecDepth 100000 in
theorem EText_calls (k j v t c : Int) (w : World) (E : Env w) (hc : checkE ⟨k, j, v, t, c⟩ = 0) :
    Calls Tryd.prog 16 #[.agg #[.int .i64 k, .int .i64 j, .int .i64 v, .int .i64 t, .int .i64 c]] w fun e w' => e = .returned (str (textE ⟨k, j, v, t, c⟩)) ∧ Onto w w' := by
  obtain ⟨b0, b1, b2, b3, b4, b5, b6, b7, b8, b9⟩ := checkE_bounds hc
  clear hc
  obtain ⟨J, hJ⟩ : ∃ l, l = Lib.itoa j := ⟨_, rfl⟩
  obtain ⟨V, hV⟩ : ∃ l, l = Lib.itoa v := ⟨_, rfl⟩
  obtain ⟨T, hT⟩ : ∃ l, l = Lib.itoa t := ⟨_, rfl⟩
  obtain ⟨C, hC⟩ : ∃ l, l = Lib.itoa c := ⟨_, rfl⟩
  have lJ : J.length ≤ 30 := by rw [hJ]; have := Lib.itoa_length_le j (by omega) (by omega); omega
  have lV : V.length ≤ 30 := by rw [hV]; have := Lib.itoa_length_le v (by omega) (by omega); omega
  have lT : T.length ≤ 30 := by rw [hT]; have := Lib.itoa_length_le t (by omega) (by omega); omega
  have lC : C.length ≤ 30 := by rw [hC]; have := Lib.itoa_length_le c (by omega) (by omega); omega
  obtain ⟨p1, hp1⟩ : ∃ v, v = [112, 117, 116, 32] ++ J := ⟨_, rfl⟩
  have lp1 : p1.length ≤ 34 := by rw [hp1, List.length_append]; (try simp only [List.length_cons, List.length_nil]); omega
  obtain ⟨p2, hp2⟩ : ∃ v, v = p1 ++ [32] := ⟨_, rfl⟩
  have lp2 : p2.length ≤ 35 := by rw [hp2, List.length_append]; (try simp only [List.length_cons, List.length_nil]); omega
  obtain ⟨p3, hp3⟩ : ∃ v, v = p2 ++ V := ⟨_, rfl⟩
  have lp3 : p3.length ≤ 65 := by rw [hp3, List.length_append]; (try simp only [List.length_cons, List.length_nil]); omega
  obtain ⟨p4, hp4⟩ : ∃ v, v = p3 ++ [32] := ⟨_, rfl⟩
  have lp4 : p4.length ≤ 66 := by rw [hp4, List.length_append]; (try simp only [List.length_cons, List.length_nil]); omega
  obtain ⟨p5, hp5⟩ : ∃ v, v = p4 ++ T := ⟨_, rfl⟩
  have lp5 : p5.length ≤ 96 := by rw [hp5, List.length_append]; (try simp only [List.length_cons, List.length_nil]); omega
  obtain ⟨d1, hd1⟩ : ∃ v, v = [100, 114, 111, 112, 32] ++ J := ⟨_, rfl⟩
  have ld1 : d1.length ≤ 35 := by rw [hd1, List.length_append]; (try simp only [List.length_cons, List.length_nil]); omega
  obtain ⟨r1, hr1⟩ : ∃ v, v = [114, 105, 110, 103, 32] ++ J := ⟨_, rfl⟩
  have lr1 : r1.length ≤ 35 := by rw [hr1, List.length_append]; (try simp only [List.length_cons, List.length_nil]); omega
  obtain ⟨r2, hr2⟩ : ∃ v, v = r1 ++ [32] := ⟨_, rfl⟩
  have lr2 : r2.length ≤ 36 := by rw [hr2, List.length_append]; (try simp only [List.length_cons, List.length_nil]); omega
  obtain ⟨r3, hr3⟩ : ∃ v, v = r2 ++ T := ⟨_, rfl⟩
  have lr3 : r3.length ≤ 66 := by rw [hr3, List.length_append]; (try simp only [List.length_cons, List.length_nil]); omega
  obtain ⟨r4, hr4⟩ : ∃ v, v = r3 ++ [32] := ⟨_, rfl⟩
  have lr4 : r4.length ≤ 67 := by rw [hr4, List.length_append]; (try simp only [List.length_cons, List.length_nil]); omega
  obtain ⟨r5, hr5⟩ : ∃ v, v = r4 ++ C := ⟨_, rfl⟩
  have lr5 : r5.length ≤ 97 := by rw [hr5, List.length_append]; (try simp only [List.length_cons, List.length_nil]); omega
  have sp1 : ∀ w, (Op.stringOp .add ⟨#[112, 117, 116, 32]⟩ ⟨J.toArray⟩).run Tryd.prog w = .ok (str p1) w := fun w => by rw [hp1]; exact run_string_add_lists w [112, 117, 116, 32] J (by (try simp only [List.length_cons, List.length_nil]); omega) (by (try simp only [List.length_cons, List.length_nil]); omega)
  have sp2 : ∀ w, (Op.stringOp .add ⟨p1.toArray⟩ ⟨#[32]⟩).run Tryd.prog w = .ok (str p2) w := fun w => by rw [hp2]; exact run_string_add_lists w p1 [32] (by (try simp only [List.length_cons, List.length_nil]); omega) (by (try simp only [List.length_cons, List.length_nil]); omega)
  have sp3 : ∀ w, (Op.stringOp .add ⟨p2.toArray⟩ ⟨V.toArray⟩).run Tryd.prog w = .ok (str p3) w := fun w => by rw [hp3]; exact run_string_add_lists w p2 V (by (try simp only [List.length_cons, List.length_nil]); omega) (by (try simp only [List.length_cons, List.length_nil]); omega)
  have sp4 : ∀ w, (Op.stringOp .add ⟨p3.toArray⟩ ⟨#[32]⟩).run Tryd.prog w = .ok (str p4) w := fun w => by rw [hp4]; exact run_string_add_lists w p3 [32] (by (try simp only [List.length_cons, List.length_nil]); omega) (by (try simp only [List.length_cons, List.length_nil]); omega)
  have sp5 : ∀ w, (Op.stringOp .add ⟨p4.toArray⟩ ⟨T.toArray⟩).run Tryd.prog w = .ok (str p5) w := fun w => by rw [hp5]; exact run_string_add_lists w p4 T (by (try simp only [List.length_cons, List.length_nil]); omega) (by (try simp only [List.length_cons, List.length_nil]); omega)
  have sd1 : ∀ w, (Op.stringOp .add ⟨#[100, 114, 111, 112, 32]⟩ ⟨J.toArray⟩).run Tryd.prog w = .ok (str d1) w := fun w => by rw [hd1]; exact run_string_add_lists w [100, 114, 111, 112, 32] J (by (try simp only [List.length_cons, List.length_nil]); omega) (by (try simp only [List.length_cons, List.length_nil]); omega)
  have sr1 : ∀ w, (Op.stringOp .add ⟨#[114, 105, 110, 103, 32]⟩ ⟨J.toArray⟩).run Tryd.prog w = .ok (str r1) w := fun w => by rw [hr1]; exact run_string_add_lists w [114, 105, 110, 103, 32] J (by (try simp only [List.length_cons, List.length_nil]); omega) (by (try simp only [List.length_cons, List.length_nil]); omega)
  have sr2 : ∀ w, (Op.stringOp .add ⟨r1.toArray⟩ ⟨#[32]⟩).run Tryd.prog w = .ok (str r2) w := fun w => by rw [hr2]; exact run_string_add_lists w r1 [32] (by (try simp only [List.length_cons, List.length_nil]); omega) (by (try simp only [List.length_cons, List.length_nil]); omega)
  have sr3 : ∀ w, (Op.stringOp .add ⟨r2.toArray⟩ ⟨T.toArray⟩).run Tryd.prog w = .ok (str r3) w := fun w => by rw [hr3]; exact run_string_add_lists w r2 T (by (try simp only [List.length_cons, List.length_nil]); omega) (by (try simp only [List.length_cons, List.length_nil]); omega)
  have sr4 : ∀ w, (Op.stringOp .add ⟨r3.toArray⟩ ⟨#[32]⟩).run Tryd.prog w = .ok (str r4) w := fun w => by rw [hr4]; exact run_string_add_lists w r3 [32] (by (try simp only [List.length_cons, List.length_nil]); omega) (by (try simp only [List.length_cons, List.length_nil]); omega)
  have sr5 : ∀ w, (Op.stringOp .add ⟨r4.toArray⟩ ⟨C.toArray⟩).run Tryd.prog w = .ok (str r5) w := fun w => by rw [hr5]; exact run_string_add_lists w r4 C (by (try simp only [List.length_cons, List.length_nil]); omega) (by (try simp only [List.length_cons, List.length_nil]); omega)
  have i1 := fun (x w : World) (hx : Env (ontoW w x)) => Itoa_calls j (by omega) (by omega) (ontoW w x) hx
  have i2 := fun (x w : World) (hx : Env (ontoW w x)) => Itoa_calls v (by omega) (by omega) (ontoW w x) hx
  have i3 := fun (x w : World) (hx : Env (ontoW w x)) => Itoa_calls t (by omega) (by omega) (ontoW w x) hx
  have i4 := fun (x w : World) (hx : Env (ontoW w x)) => Itoa_calls c (by omega) (by omega) (ontoW w x) hx
  have I1 := Lib.hid i1; have I2 := Lib.hid i2; have I3 := Lib.hid i3; have I4 := Lib.hid i4
  have HJ := Lib.hid hJ; have HV := Lib.hid hV; have HT := Lib.hid hT; have HC := Lib.hid hC
  have Hp1 := Lib.hid hp1
  have Hp2 := Lib.hid hp2
  have Hp3 := Lib.hid hp3
  have Hp4 := Lib.hid hp4
  have Hp5 := Lib.hid hp5
  have Hd1 := Lib.hid hd1
  have Hr1 := Lib.hid hr1
  have Hr2 := Lib.hid hr2
  have Hr3 := Lib.hid hr3
  have Hr4 := Lib.hid hr4
  have Hr5 := Lib.hid hr5
  clear hp1 lp1 hp2 lp2 hp3 lp3 hp4 lp4 hp5 lp5 hd1 ld1 hr1 lr1 hr2 lr2 hr3 lr3 hr4 lr4 hr5 lr5 i1 i2 i3 i4 hJ hV hT hC lJ lV lT lC b2 b3 b4 b5 b6 b7 b8 b9
  rcases (by omega : k = 0 ∨ k = 1 ∨ k = 2 ∨ k = 3) with rfl | rfl | rfl | rfl
  · clear b0 b1
    go_enter Tryd.func16, Tryd.ntmps16
    go_upto_region 1 with fail
    have on := (Onto.rfl' w).new (Obj.cells #[.int .i64 0, .int .i64 j, .int .i64 v, .int .i64 t, .int .i64 c] 23)
    have B : Bx (w.alloc (Obj.cells #[.int .i64 0, .int .i64 j, .int .i64 v, .int .i64 t, .int .i64 c] 23)) w.heap.size [.int .i64 0, .int .i64 j, .int .i64 v, .int .i64 t, .int .i64 c] := Bx.made w #[.int .i64 0, .int .i64 j, .int .i64 v, .int .i64 t, .int .i64 c] 23
    have E1 := E.onto on
    try change Code.wp _ _ _ _ (w.alloc (Obj.cells #[.int .i64 0, .int .i64 j, .int .i64 v, .int .i64 t, .int .i64 c] 23))
    generalize (w.alloc (Obj.cells #[.int .i64 0, .int .i64 j, .int .i64 v, .int .i64 t, .int .i64 c] 23)) = w1 at *
    generalize w.heap.size = z at *
    have c1 := onto_cell (B.at_ 1 rfl); have c2 := onto_cell (B.at_ 2 rfl); have c3 := onto_cell (B.at_ 3 rfl); have c4 := onto_cell (B.at_ 4 rfl)
    refine wp_region_onto (by kernel_rfl) (by kernel_rfl) ?_
    repeat (go_big_quiet_step ((go_at_call 54; first | exact calls_onto' (u := str J) (by with_reducible exact I1.out _ w1 (E1.onto (onto_on w1 _))) (by rw [HJ.out]) | exact calls_onto' (u := str V) (by with_reducible exact I2.out _ w1 (E1.onto (onto_on w1 _))) (by rw [HV.out]) | exact calls_onto' (u := str T) (by with_reducible exact I3.out _ w1 (E1.onto (onto_on w1 _))) (by rw [HT.out]) | exact calls_onto' (u := str C) (by with_reducible exact I4.out _ w1 (E1.onto (onto_on w1 _))) (by rw [HC.out]))))
    refine wpQuiet_nil ?_
    intro w2 b2
    replace on := on.to b2; replace B := B.onto b2
    clear b2 c1 c2 c3 c4
    have b0 := B.at_ 0 rfl
    have hz := B.lt
    go_wp2_with fail
    go_ret
    refine ⟨?_, on.new _⟩
    refine congrArg (fun l => Ending.returned (str l)) ?_
    exact rfl
  · clear b0 b1
    go_enter Tryd.func16, Tryd.ntmps16
    go_upto_region 1 with fail
    have on := (Onto.rfl' w).new (Obj.cells #[.int .i64 1, .int .i64 j, .int .i64 v, .int .i64 t, .int .i64 c] 23)
    have B : Bx (w.alloc (Obj.cells #[.int .i64 1, .int .i64 j, .int .i64 v, .int .i64 t, .int .i64 c] 23)) w.heap.size [.int .i64 1, .int .i64 j, .int .i64 v, .int .i64 t, .int .i64 c] := Bx.made w #[.int .i64 1, .int .i64 j, .int .i64 v, .int .i64 t, .int .i64 c] 23
    have E1 := E.onto on
    try change Code.wp _ _ _ _ (w.alloc (Obj.cells #[.int .i64 1, .int .i64 j, .int .i64 v, .int .i64 t, .int .i64 c] 23))
    generalize (w.alloc (Obj.cells #[.int .i64 1, .int .i64 j, .int .i64 v, .int .i64 t, .int .i64 c] 23)) = w1 at *
    generalize w.heap.size = z at *
    have c1 := onto_cell (B.at_ 1 rfl); have c2 := onto_cell (B.at_ 2 rfl); have c3 := onto_cell (B.at_ 3 rfl); have c4 := onto_cell (B.at_ 4 rfl)
    refine wp_region_onto (by kernel_rfl) (by kernel_rfl) ?_
    repeat (go_big_quiet_step ((go_at_call 54; first | exact calls_onto' (u := str J) (by with_reducible exact I1.out _ w1 (E1.onto (onto_on w1 _))) (by rw [HJ.out]) | exact calls_onto' (u := str V) (by with_reducible exact I2.out _ w1 (E1.onto (onto_on w1 _))) (by rw [HV.out]) | exact calls_onto' (u := str T) (by with_reducible exact I3.out _ w1 (E1.onto (onto_on w1 _))) (by rw [HT.out]) | exact calls_onto' (u := str C) (by with_reducible exact I4.out _ w1 (E1.onto (onto_on w1 _))) (by rw [HC.out]))))
    refine wpQuiet_nil ?_
    intro w2 b2
    replace on := on.to b2; replace B := B.onto b2
    clear b2 c1 c2 c3 c4
    have b0 := B.at_ 0 rfl
    have hz := B.lt
    go_wp2_with fail
    go_ret
    refine ⟨?_, on.new _⟩
    refine congrArg (fun l => Ending.returned (str l)) ?_
    simp only [Hp5.out, Hp4.out, Hp3.out, Hp2.out, Hp1.out, HJ.out, HV.out, HT.out]; simp [textE, headE, numsE, tailB, putW]
  · clear b0 b1
    go_enter Tryd.func16, Tryd.ntmps16
    go_upto_region 1 with fail
    have on := (Onto.rfl' w).new (Obj.cells #[.int .i64 2, .int .i64 j, .int .i64 v, .int .i64 t, .int .i64 c] 23)
    have B : Bx (w.alloc (Obj.cells #[.int .i64 2, .int .i64 j, .int .i64 v, .int .i64 t, .int .i64 c] 23)) w.heap.size [.int .i64 2, .int .i64 j, .int .i64 v, .int .i64 t, .int .i64 c] := Bx.made w #[.int .i64 2, .int .i64 j, .int .i64 v, .int .i64 t, .int .i64 c] 23
    have E1 := E.onto on
    try change Code.wp _ _ _ _ (w.alloc (Obj.cells #[.int .i64 2, .int .i64 j, .int .i64 v, .int .i64 t, .int .i64 c] 23))
    generalize (w.alloc (Obj.cells #[.int .i64 2, .int .i64 j, .int .i64 v, .int .i64 t, .int .i64 c] 23)) = w1 at *
    generalize w.heap.size = z at *
    have c1 := onto_cell (B.at_ 1 rfl); have c2 := onto_cell (B.at_ 2 rfl); have c3 := onto_cell (B.at_ 3 rfl); have c4 := onto_cell (B.at_ 4 rfl)
    refine wp_region_onto (by kernel_rfl) (by kernel_rfl) ?_
    repeat (go_big_quiet_step ((go_at_call 54; first | exact calls_onto' (u := str J) (by with_reducible exact I1.out _ w1 (E1.onto (onto_on w1 _))) (by rw [HJ.out]) | exact calls_onto' (u := str V) (by with_reducible exact I2.out _ w1 (E1.onto (onto_on w1 _))) (by rw [HV.out]) | exact calls_onto' (u := str T) (by with_reducible exact I3.out _ w1 (E1.onto (onto_on w1 _))) (by rw [HT.out]) | exact calls_onto' (u := str C) (by with_reducible exact I4.out _ w1 (E1.onto (onto_on w1 _))) (by rw [HC.out]))))
    refine wpQuiet_nil ?_
    intro w2 b2
    replace on := on.to b2; replace B := B.onto b2
    clear b2 c1 c2 c3 c4
    have b0 := B.at_ 0 rfl
    have hz := B.lt
    go_wp2_with fail
    go_ret
    refine ⟨?_, on.new _⟩
    refine congrArg (fun l => Ending.returned (str l)) ?_
    simp only [Hd1.out, HJ.out]; simp [textE, headE, numsE, tailB, dropW]
  · clear b0 b1
    go_enter Tryd.func16, Tryd.ntmps16
    go_upto_region 1 with fail
    have on := (Onto.rfl' w).new (Obj.cells #[.int .i64 3, .int .i64 j, .int .i64 v, .int .i64 t, .int .i64 c] 23)
    have B : Bx (w.alloc (Obj.cells #[.int .i64 3, .int .i64 j, .int .i64 v, .int .i64 t, .int .i64 c] 23)) w.heap.size [.int .i64 3, .int .i64 j, .int .i64 v, .int .i64 t, .int .i64 c] := Bx.made w #[.int .i64 3, .int .i64 j, .int .i64 v, .int .i64 t, .int .i64 c] 23
    have E1 := E.onto on
    try change Code.wp _ _ _ _ (w.alloc (Obj.cells #[.int .i64 3, .int .i64 j, .int .i64 v, .int .i64 t, .int .i64 c] 23))
    generalize (w.alloc (Obj.cells #[.int .i64 3, .int .i64 j, .int .i64 v, .int .i64 t, .int .i64 c] 23)) = w1 at *
    generalize w.heap.size = z at *
    have c1 := onto_cell (B.at_ 1 rfl); have c2 := onto_cell (B.at_ 2 rfl); have c3 := onto_cell (B.at_ 3 rfl); have c4 := onto_cell (B.at_ 4 rfl)
    refine wp_region_onto (by kernel_rfl) (by kernel_rfl) ?_
    repeat (go_big_quiet_step ((go_at_call 54; first | exact calls_onto' (u := str J) (by with_reducible exact I1.out _ w1 (E1.onto (onto_on w1 _))) (by rw [HJ.out]) | exact calls_onto' (u := str V) (by with_reducible exact I2.out _ w1 (E1.onto (onto_on w1 _))) (by rw [HV.out]) | exact calls_onto' (u := str T) (by with_reducible exact I3.out _ w1 (E1.onto (onto_on w1 _))) (by rw [HT.out]) | exact calls_onto' (u := str C) (by with_reducible exact I4.out _ w1 (E1.onto (onto_on w1 _))) (by rw [HC.out]))))
    refine wpQuiet_nil ?_
    intro w2 b2
    replace on := on.to b2; replace B := B.onto b2
    clear b2 c1 c2 c3 c4
    have b0 := B.at_ 0 rfl
    have hz := B.lt
    go_wp2_with fail
    go_ret
    refine ⟨?_, on.new _⟩
    refine congrArg (fun l => Ending.returned (str l)) ?_
    simp only [Hr5.out, Hr4.out, Hr3.out, Hr2.out, Hr1.out, HJ.out, HT.out, HC.out]; simp [textE, headE, numsE, tailB, ringW]
end Go.Proofs.YtdcegdonppfbkaaDoor
