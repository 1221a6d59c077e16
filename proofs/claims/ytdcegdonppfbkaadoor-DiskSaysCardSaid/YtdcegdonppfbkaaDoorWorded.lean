/- The closed fact 'worded'. -/
import Derived.Test.YtdcegdonppfbkaaDoorEParse
import Derived.Test.YtdcegdonppfbkaaDoorEqE
namespace Go.Proofs.YtdcegdonppfbkaaDoor
set_option linter.unusedSimpArgs false
set_option linter.unusedVariables false
open Go.RowKit

theorem itoa_small : Lib.itoa 0 = [48] ∧ Lib.itoa 2 = [50] ∧ Lib.itoa 3 = [51] ∧ Lib.itoa 5 = [53] ∧ Lib.itoa 7 = [55] ∧ Lib.itoa 10 = [49, 48] := by
  refine ⟨?_, ?_, ?_, ?_, ?_, ?_⟩ <;> (unfold Lib.itoa; rw [if_neg (by omega)]; simp [Lib.decDigits])
theorem put25 : checkE ⟨1, 2, 5, 10, 0⟩ = 0 := by decide
theorem text25 : textE ⟨1, 2, 5, 10, 0⟩ = [112, 117, 116, 32, 50, 32, 53, 32, 49, 48] := by
  obtain ⟨_, h2, _, h5, _, h10⟩ := itoa_small
  simp [textE, headE, numsE, tailB, putW, h2, h5, h10]
theorem print25 : printE ⟨1, 2, 5, 10, 0⟩ = ([112, 117, 116, 32, 50, 32, 53, 32, 49, 48], 0) := by
  unfold printE; rw [if_neg (by simp [put25]), text25]
theorem parse25 : parseE [112, 117, 116, 32, 50, 32, 53, 32, 49, 48] = (⟨1, 2, 5, 10, 0⟩, 0) := by
  rw [← text25]; exact parse_textE put25
theorem parse20 : parseE [112, 117, 116, 32, 50, 32, 48, 32, 49, 48] = (zeroE, 4) := by
  obtain ⟨h0, h2, _, _, _, h10⟩ := itoa_small
  have n0 := num_itoa (n := 0) (by omega) (by omega)
  have n2 := num_itoa (n := 2) (by omega) (by omega)
  have n10 := num_itoa (n := 10) (by omega) (by omega)
  rw [h0] at n0; rw [h2] at n2; rw [h10] at n10
  unfold parseE
  rw [if_neg (by decide), show cutc 32 [112, 117, 116, 32, 50, 32, 48, 32, 49, 48] = [[112, 117, 116], [50], [48], [49, 48]] from by decide]
  unfold readWs
  rw [show kindW (List.headD [[112, 117, 116], [50], [48], [49, 48]] []) = some (1, 3) from by decide]
  simp only [List.tail_cons, List.length_cons, List.length_nil, ne_eq, not_true_eq_false, if_false, numsL, n0, n2, n10]
  decide
set_option maxHeartbeats 4000000 in
set_option maxRecDepth 100000 in
theorem worded_calls (w : World) (E : Env w) :
    Calls Tryd.prog 13 #[] w fun e w' => e = .returned (.bool true) ∧ Onto w w' := by
  go_enter Tryd.func13, Tryd.ntmps13
  go_wp2_with fail
  refine Calls.mono (put_calls 2 5 10 _) ?_
  rintro e w1 ⟨rfl, b1⟩
  go_wp2_with fail
  refine Calls.mono (EPrint_calls ⟨1, 2, 5, 10, 0⟩ _ (E.onto b1)) ?_
  rw [print25]
  rintro e w2 ⟨rfl, b2⟩
  have on := Onto.to b1 b2
  clear b1 b2
  go_wp2_with fail
  refine Calls.mono (EParse_calls [112, 117, 116, 32, 50, 32, 53, 32, 49, 48] _ (E.onto on) (by simp)) ?_
  rw [parse25]
  rintro e w3 ⟨rfl, b⟩
  replace on := on.to b
  clear b
  dsimp only
  go_upto_region 3 with fail
  have B3 : Bx (w3.alloc (Obj.cells #[.int .i64 1, .int .i64 2, .int .i64 5, .int .i64 10, .int .i64 0] 23)) w3.heap.size [.int .i64 1, .int .i64 2, .int .i64 5, .int .i64 10, .int .i64 0] := Bx.made _ _ _
  replace on := Onto.to on ((Onto.rfl' w3).new (Obj.cells #[.int .i64 1, .int .i64 2, .int .i64 5, .int .i64 10, .int .i64 0] 23))
  generalize (w3.alloc (Obj.cells #[.int .i64 1, .int .i64 2, .int .i64 5, .int .i64 10, .int .i64 0] 23)) = w4 at *
  generalize w3.heap.size = z3 at *
  go_wp2_with fail
  refine Calls.mono (EParse_calls [112, 117, 116, 32, 50, 32, 48, 32, 49, 48] _ (E.onto on) (by simp)) ?_
  rw [parse20]
  rintro e w5 ⟨rfl, b⟩
  replace on := on.to b
  replace B3 := B3.onto b
  clear b
  dsimp only
  go_upto_region 4 with fail
  have oz := (Onto.rfl' w5).new (Obj.cells #[.int .i64 0, .int .i64 0, .int .i64 0, .int .i64 0, .int .i64 0] 23)
  replace on := on.to oz
  replace B3 := B3.onto oz
  change Code.wp _ _ _ _ (w5.alloc (Obj.cells #[.int .i64 0, .int .i64 0, .int .i64 0, .int .i64 0, .int .i64 0] 23))
  generalize (w5.alloc (Obj.cells #[.int .i64 0, .int .i64 0, .int .i64 0, .int .i64 0, .int .i64 0] 23)) = w6 at *
  clear oz
  have c0 := onto_cell (B3.at_ 0 rfl); have c1 := onto_cell (B3.at_ 1 rfl); have c2 := onto_cell (B3.at_ 2 rfl); have c3 := onto_cell (B3.at_ 3 rfl); have c4 := onto_cell (B3.at_ 4 rfl)
  have he := eqlE
  refine wp_region_onto (by kernel_rfl) (by kernel_rfl) ?_
  repeat (go_big_quiet_step ((go_at_call 55; exact calls_onto' (u := .agg #[.int .i64 1, .int .i64 2, .int .i64 5, .int .i64 10, .int .i64 0]) (put_calls 2 5 10 _) rfl)))
  refine wpQuiet_nil ?_
  intro w7 b7
  replace on := on.to b7
  clear b7 c0 c1 c2 c3 c4 B3 he
  go_wp2_with fail
  go_ret
  exact ⟨ret_bool (by simp), on⟩
end Go.Proofs.YtdcegdonppfbkaaDoor
