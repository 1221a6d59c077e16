/- The closed fact 'listed'; the law LedgerSays' walk. -/
import Derived.Test.YtdcegdonppfbkaaDoorLedger
import Derived.Test.YtdcegdonppfbkaaDoorRLRead
import Derived.Test.YtdcegdonppfbkaaDoorWorded
namespace Go.Proofs.YtdcegdonppfbkaaDoor
set_option linter.unusedSimpArgs false
set_option linter.unusedVariables false
open Go.RowKit

theorem li_ok : ∀ x ∈ ([⟨1, 2, 5, 10, 0⟩, ⟨0, 0, 0, 0, 0⟩] : List Entry), checkE x = 0 := by decide
theorem li_err : errL [⟨1, 2, 5, 10, 0⟩, ⟨0, 0, 0, 0, 0⟩] = 0 := errL_iff.2 li_ok
theorem li_text : textP textE [⟨1, 2, 5, 10, 0⟩, ⟨0, 0, 0, 0, 0⟩] = [112, 117, 116, 32, 50, 32, 53, 32, 49, 48, 10, 106, 117, 110, 107, 10] := by
  rw [textP_cons, textP_cons, text25]; rfl
theorem li_print : printL [⟨1, 2, 5, 10, 0⟩, ⟨0, 0, 0, 0, 0⟩] = ([112, 117, 116, 32, 50, 32, 53, 32, 49, 48, 10, 106, 117, 110, 107, 10], 0) := by
  unfold printL
  rw [if_neg (by simp), li_err, if_neg (by simp), li_text]
theorem li_parse : parseL [112, 117, 116, 32, 50, 32, 53, 32, 49, 48, 10, 106, 117, 110, 107, 10] = ([⟨1, 2, 5, 10, 0⟩, ⟨0, 0, 0, 0, 0⟩], 0) := by
  rw [← li_text]; exact parse_textL li_ok (by simp)
theorem li_torn : parseL [106, 117, 110, 107] = ([], 9) := by
  unfold parseL readL
  rw [if_neg (by simp), show cutc 10 [106, 117, 110, 107] = [[106, 117, 110, 107]] from by decide, linesP_one]
  simp
set_option maxHeartbeats 4000000 in
set_option maxRecDepth 100000 in
theorem listed_calls (w : World) (E : Env w) :
    Calls Tryd.prog 25 #[] w fun e w' => e = .returned (.bool true) ∧ Onto w w' := by
  go_enter Tryd.func25, Tryd.ntmps25
  go_wp2_with fail
  refine Calls.mono (put_calls 2 5 10 _) ?_
  rintro e w1 ⟨rfl, on⟩
  have hsl : S (w1.alloc (Obj.cells #[.int .i64 1, .int .i64 2, .int .i64 5, .int .i64 10, .int .i64 0, .int .i64 0, .int .i64 0, .int .i64 0, .int .i64 0, .int .i64 0] 23)) 5 (some ⟨w1.heap.size, 0, none⟩) 2 ([(⟨1, 2, 5, 10, 0⟩ : Entry), ⟨0, 0, 0, 0, 0⟩].map encE) := by
    have := Sl.block (k := 5) ([(⟨1, 2, 5, 10, 0⟩ : Entry), ⟨0, 0, 0, 0, 0⟩].map encE) (hNew (w := w1) (o := .cells #[.int .i64 1, .int .i64 2, .int .i64 5, .int .i64 10, .int .i64 0, .int .i64 0, .int .i64 0, .int .i64 0, .int .i64 0, .int .i64 0] 23) rfl) (by simp [encE]) (by simp [encE])
    exact this
  have ob := (Onto.rfl' w1).new (Obj.cells #[.int .i64 1, .int .i64 2, .int .i64 5, .int .i64 10, .int .i64 0, .int .i64 0, .int .i64 0, .int .i64 0, .int .i64 0, .int .i64 0] 23)
  replace on := Onto.to on ob
  have HSL := Lib.hid hsl
  clear ob hsl
  go_wp2_with fail
  refine Calls.mono (LPrint_calls (some ⟨w1.heap.size, 0, none⟩) 2 2 [⟨1, 2, 5, 10, 0⟩, ⟨0, 0, 0, 0, 0⟩] _ (E.onto on) HSL.out (by omega)) ?_
  rw [li_print]
  rintro e w2 ⟨rfl, b⟩
  replace on := on.to b
  clear b HSL
  dsimp only
  go_wp2_with fail
  refine Calls.mono (LParse_calls [112, 117, 116, 32, 50, 32, 53, 32, 49, 48, 10, 106, 117, 110, 107, 10] (by simp) _ (E.onto on)) ?_
  rw [li_parse]
  unfold LnPost
  rintro e w3 ⟨A, n, c, rfl, sA, hn, hnc, b⟩
  replace on := on.to b
  clear b
  dsimp only at sA ⊢
  have hn2 : n = 2 := by have := sA.len; simpa using this.symm
  subst hn2
  go_wp2_with fail
  refine Calls.mono (LParse_calls [106, 117, 110, 107] (by simp) _ (E.onto on)) ?_
  rw [li_torn]
  unfold LnPost
  rintro e w4 ⟨A', n', c', rfl, sA', hn', hnc', b⟩
  replace on := on.to b; replace sA := sA.onto b
  clear b sA'
  dsimp only
  obtain ⟨bb, off, x, rfl, hb, hx, e0, e1, e2, e3, e4⟩ := Sl.atE sA (i := 0) (by omega)
  simp at hx
  subst hx
  simp only [Nat.zero_mul, Nat.add_zero] at e0 e1 e2 e3 e4
  have c0 := onto_cell e0; have c1 := onto_cell e1; have c2 := onto_cell e2; have c3 := onto_cell e3; have c4 := onto_cell e4
  have he := eqlE
  go_upto_region 4 with fail
  clear e0 e1 e2 e3 e4 sA
  refine wp_region_onto (by kernel_rfl) (by kernel_rfl) ?_
  repeat (go_big_quiet_step ((go_at_call 55; exact calls_onto' (u := .agg #[.int .i64 1, .int .i64 2, .int .i64 5, .int .i64 10, .int .i64 0]) (put_calls 2 5 10 _) rfl)))
  refine wpQuiet_nil ?_
  intro w7 b7
  replace on := on.to b7
  clear b7 c0 c1 c2 c3 c4 he
  go_wp2_with fail
  go_ret
  exact ⟨ret_bool (by simp), on⟩
set_option maxHeartbeats 4000000 in
set_option maxRecDepth 100000 in
theorem LedgerSays_calls (A0 : Option Addr) (n0 c0 : Nat) (l : List Entry) (s : List UInt8) (w : World) (E : Env w) (h : S w 5 A0 n0 (l.map encE)) (hnc : n0 ≤ c0) (hcm : c0 ≤ maxLen) (hs : s.length ≤ 9223372036854775807) :
    Calls Tryd.prog 6 #[.slice A0 n0 c0, str s] w fun e w' => e = .returned (.bool true) ∧ Onto w w' := by
  obtain ⟨P, hP⟩ : ∃ P, P = (printL l).1 := ⟨_, rfl⟩
  obtain ⟨q, hq⟩ : ∃ q, q = (printL l).2 := ⟨_, rfl⟩
  obtain ⟨Y, hY⟩ : ∃ y, y = (parseL s).1 := ⟨_, rfl⟩
  obtain ⟨g, hg⟩ : ∃ g, g = (parseL s).2 := ⟨_, rfl⟩
  have hn9 : n0 ≤ 9223372036854775807 := by unfold maxLen at hcm; omega
  have HP := Lib.hid hP; have HQ := Lib.hid hq; have HY := Lib.hid hY; have HG := Lib.hid hg; have HS := Lib.hid hs
  clear hP hq hY hg hs hcm hnc
  go_enter Tryd.func6, Tryd.ntmps6
  go_wp2_with fail
  refine Calls.mono (LPrint_calls A0 n0 c0 l _ E h hn9) ?_
  rw [show (printL l).1 = P from HP.out.symm, show (printL l).2 = q from HQ.out.symm]
  rintro e w1 ⟨rfl, on⟩
  go_wp2_with fail
  refine Calls.mono (LParse_calls s HS.out _ (E.onto on)) ?_
  unfold LnPost
  rw [show (parseL s).1 = Y from HY.out.symm, show (parseL s).2 = g from HG.out.symm]
  rintro e w2 ⟨A, n, c, rfl, sA, hn, hncc, b⟩
  replace on := Onto.to on b
  clear b
  go_wp2_with fail
  refine Calls.mono (RLedText_calls A0 n0 c0 l _ (E.onto on) (h.onto on) hn9) ?_
  rw [show (printL l).1 = P from HP.out.symm, show (printL l).2 = q from HQ.out.symm]
  rintro e w3 ⟨rfl, b⟩
  replace on := on.to b; replace sA := sA.onto b
  clear b
  go_wp2_with fail
  refine Calls.mono (listed_calls _ (E.onto on)) ?_
  rintro e w4 ⟨rfl, b⟩
  replace on := on.to b; replace sA := sA.onto b
  clear b
  go_upto_region 6 with fail
  by_cases hlong : 30000 < s.length
  · have hp : parseL s = ([], 2) := by unfold parseL; rw [if_pos hlong]
    obtain rfl : Y = [] := by rw [HY.out, hp]
    obtain rfl : g = 2 := by rw [HG.out, hp]
    have hl1 : (30000 : Int) < (s.length : Int) := by omega
    have hn0 : n = 0 := by have := sA.len; simpa using this.symm
    subst hn0
    clear hp hlong sA
    go_wp2_with fail
    go_ret
    exact ⟨ret_bool (by simp), on⟩
  · have hp : parseL s = readL s := by unfold parseL; rw [if_neg hlong]
    have hl1 : ¬ (30000 : Int) < (s.length : Int) := by omega
    have hl2 : s.length ≤ 30000 := by omega
    have HP2 := Lib.hid hp; have HL2 := Lib.hid hl2
    clear hp hlong hl2
    go_wp2_with fail
    refine Calls.mono (RLedRead_calls s HL2.out _ (E.onto on)) ?_
    rw [← HP2.out, show (parseL s).1 = Y from HY.out.symm, show (parseL s).2 = g from HG.out.symm]
    rintro e w5 ⟨A', n', c', rfl, sA', hn', b⟩
    replace on := on.to b; replace sA := sA.onto b
    clear b
    go_wp2_with fail
    refine Calls.mono (EqualE_calls A A' n n' c c' _ Y Y w5 sA sA' (by omega)) ?_
    rw [decide_eq_true (rfl : Y = Y)]
    rintro e w6 ⟨rfl, k, rfl⟩
    have ON := Lib.hid (on.draws k)
    clear on sA sA'
    go_wp2_with fail
    go_ret
    exact ⟨ret_bool (by simp), ON.out⟩
end Go.Proofs.YtdcegdonppfbkaaDoor
