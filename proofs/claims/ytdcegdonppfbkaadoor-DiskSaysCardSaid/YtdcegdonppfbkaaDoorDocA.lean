/- The document's functions on texts of entries; further contracts of strings. -/
import Derived.Test.YtdcegdonppfbkaaDoorBox
import Derived.Test.YtdcegdonppfbkaaDoorStr
import Derived.Test.YtdcegdonppfbkaaDoorEParse
import Derived.Test.YtdcegdonppfbkaaDoorEPrint
import Derived.Test.YtdcegdonppfbkaaDoorREnt
import Derived.Deep.CutBlock
import Derived.Test.YtdcegdonppfbkaaDoorUnit
namespace Go.Proofs.YtdcegdonppfbkaaDoor
section
set_option linter.unusedSimpArgs false
set_option linter.unusedVariables false
open Go.RowKit

def setMany : List Value → Nat → List Value → List Value
  | vs, _, [] => vs
  | vs, o, u :: r => setMany (vs.set o u) (o + 1) r
theorem setMany_length : ∀ (us : List Value) (vs : List Value) (o : Nat), (setMany vs o us).length = vs.length
  | [], _, _ => rfl
  | u :: r, vs, o => by rw [setMany, setMany_length r]; simp
section
variable {w : World} {z b o : Nat} {vs us : List Value}
theorem Bx.putM : ∀ {us vs : List Value} {o : Nat} {w : World}, Bx w z vs → o + us.length ≤ vs.length → Bx (w.setCells z o us) z (setMany vs o us)
  | [], _, _, _, h, _ => h
  | u :: r, vs, o, w, h, hl => by
    rw [World.setCells, setMany]
    simp only [List.length_cons] at hl
    exact Bx.putM (h.put1 (j := o) (by omega) u) (by simp; omega)
theorem Bx.thereM (h : Bx w z vs) {o n : Nat} (hn : o + n ≤ vs.length) : w.there z o n := fun j hj =>
  ⟨by rw [h.cells (o + j) vs[o + j] (List.getElem?_eq_getElem (by omega))]; rfl, h.froz (o + j)⟩
variable {P : Program} {ops : Array Oper} {rest : List Oper} {op : Oper} {a : Act} {K : Act → World → Prop} {Q : Exit → Act → World → Prop} {F : Prop}
theorem wpList_putM (hB : Bx w z vs) (o : Nat) (us : List Value) (ty : TypeId) (x y : Operand) (hgd : op.guard = none) (ho : op.op = .store ty x y)
    (hx : a.eval x = .pointer (some ⟨z, o, none⟩)) (hy : a.eval y = .agg us.toArray) (hl : o + us.length ≤ vs.length) (hi : (P.info? ty).map (·.size) = some us.length) (h1 : us.all (·.oneCell') = true)
    (h : wpList P ops Q rest (a.put op.dst undef) (w.setCells z o us)) : wpList P ops Q (op :: rest) a w :=
  wpList_store_mid hgd ty x y ho z o us.toArray hx hy (hB.thereM (by simpa using hl)) (by rw [hi]; simp) (all_oneCell_toArray (List.all_eq_true.1 h1)) h
theorem step_putM (hB : Bx w z vs) (o : Nat) (us : List Value) (ty : TypeId) (x y : Operand) (hgd : op.guard = none) (ho : op.op = .store ty x y)
    (hx : a.eval x = .pointer (some ⟨z, o, none⟩)) (hy : a.eval y = .agg us.toArray) (hl : o + us.length ≤ vs.length) (hi : (P.info? ty).map (·.size) = some us.length) (h1 : us.all (·.oneCell') = true)
    (h : K (a.put op.dst undef) (w.setCells z o us)) : if Region.wanted op (yielded ops a.tmps) = true then Oper.wp P op a w K Q else F := by
  rw [if_pos (by simp [Region.wanted, hgd])]
  exact wp_store_mid ty x y ho z o us.toArray hx hy (hB.thereM (by simpa using hl)) (by rw [hi]; simp) (all_oneCell_toArray (List.all_eq_true.1 h1)) h
end
end
section
set_option linter.unusedSimpArgs false
set_option linter.unusedVariables false
open Go.RowKit

theorem FormatInt_calls (n : Int) (h0 : -9223372036854775808 ≤ n) (h1 : n ≤ 9223372036854775807) (w : World) (E : Env w) :
    Calls Tryd.prog 86 #[.int .i64 n, .int .i64 10] w fun e w' => e = .returned (str (Lib.itoa n)) ∧ Onto w w' :=
  (Any.strconv_FormatInt_10 Tryd.laysM173 n h0 h1 w E.tab).mono fun e w' ⟨he, k, os, hw⟩ => ⟨he, hw ▸ onto_grow w k os⟩
theorem ParseInt_calls (s : List UInt8) (hs : s.length ≤ 281474976710656) (w : World) (E : Env w) :
    Calls Tryd.prog 85 #[str s, .int .i64 10, .int .i64 64] w fun e w' => ∃ v er, e = .returned (.tuple #[.int .i64 v, er]) ∧ Onto w w' ∧
      ((er = .nilIface ∧ Lib.atoiAll s = .ok v ∧ -9223372036854775808 ≤ v ∧ v ≤ 9223372036854775807) ∨ ((∃ t p, er = .iface t p) ∧ ∀ v, Lib.atoiAll s ≠ .ok v)) := by
  obtain ⟨t1, p1, c1⟩ := E.syn
  obtain ⟨t2, p2, c2⟩ := E.rng
  have e0 := Lib.parseIntB_64 s
  cases h : Lib.atoiAll s with
  | ok v =>
    rw [h] at e0
    refine (Any.strconv_ParseInt_10_at64_ok Tryd.laysC174 ⟨s.toArray⟩ (by rw [str_size]; omega) v (by simpa using e0) w).mono ?_
    rintro e w' ⟨rfl, hw⟩
    refine ⟨v, _, rfl, ?_, .inl ⟨rfl, rfl, Lib.atoiAll_bounds h⟩⟩
    rcases hw with rfl | ⟨t, rfl⟩
    · exact Onto.rfl' _
    · exact Lib.bytesWorld_below _ _ _
  | range =>
    rw [h] at e0
    refine (Any.strconv_ParseInt_10_at64_range Tryd.laysC174 ⟨s.toArray⟩ (by rw [str_size]; omega) (by simpa using e0) _ w c2 (.inr ⟨_, _, rfl⟩)).mono ?_
    rintro e w' ⟨N, rfl, _, _, hw⟩
    exact ⟨_, _, rfl, hw, .inr ⟨⟨_, _, rfl⟩, by simp⟩⟩
  | _ =>
    rw [h] at e0
    refine (Any.strconv_ParseInt_10_at64_syntax Tryd.laysC174 ⟨s.toArray⟩ (by rw [str_size]; omega) (by simpa using e0) _ w c1 (.inr ⟨_, _, rfl⟩)).mono ?_
    rintro e w' ⟨N, rfl, _, _, hw⟩
    exact ⟨_, _, rfl, hw, .inr ⟨⟨_, _, rfl⟩, by simp⟩⟩
theorem HasPrefix_calls (s p : List UInt8) (w : World) :
    Calls Tryd.prog 69 #[str s, str p] w fun e w' => e = .returned (.bool (Lib.hasPrefix s p)) ∧ w = w' :=
  (Any.strings_HasPrefix Tryd.lays99 ⟨s.toArray⟩ ⟨p.toArray⟩ w).mono fun e w' ⟨he, hw⟩ => ⟨he, hw.symm⟩
theorem HasSuffix_calls (s p : List UInt8) (hs : s.length ≤ 9223372036854775807) (w : World) :
    Calls Tryd.prog 93 #[str s, str p] w fun e w' => e = .returned (.bool (Lib.hasSuffix s p)) ∧ w = w' :=
  (Any.strings_HasSuffix Tryd.lays100 ⟨s.toArray⟩ ⟨p.toArray⟩ w (by rw [str_size]; exact hs)).mono fun e w' ⟨he, hw⟩ => ⟨he, hw.symm⟩
theorem Index_calls (s p : List UInt8) (hs : s.length ≤ 4000000000) (w : World) (E : Env w) :
    Calls Tryd.prog 70 #[str s, str p] w fun e w' => e = .returned (.int .i64 (Lib.index s p)) ∧ w = w' := by
  obtain ⟨m, hm⟩ := E.big
  exact (Any.strings_Index Tryd.laysM143.ton143 ⟨s.toArray⟩ ⟨p.toArray⟩ m w (by rw [str_size]; omega) hm).mono fun e w' ⟨he, hw⟩ => ⟨he, hw.symm⟩

set_option maxHeartbeats 4000000 in
theorem Whole_calls (s : List UInt8) (hs : s.length ≤ 281474976710656) (w : World) (E : Env w) :
    Calls Tryd.prog 61 #[str s] w fun e w' => ∃ n : Int, e = .returned (.tuple #[.int .i64 n, .bool (num s).isSome]) ∧ Onto w w' ∧ ((num s).isSome = true → num s = some n) := by
  go_enter Tryd.func61, Tryd.ntmps61
  go_wp2_with fail
  refine Calls.mono (ParseInt_calls s hs _ E) ?_
  rintro e w8 ⟨v, er, rfl, on, hres⟩
  rcases hres with ⟨rfl, hok, hv0, hv1⟩ | ⟨⟨et, ep, rfl⟩, hno⟩
  · have hnum : num s = if Lib.itoa v = s then some v else none := by unfold num; rw [hok]
    have HNUM := Lib.hid hnum
    clear hok hnum
    go_wp2_with (go_at_call 86; refine (FormatInt_calls v hv0 hv1 _ (E.onto on)).mono ?_; rintro e w9 ⟨rfl, b9⟩; refine Hid.out ?_)
    refine Lib.hid ?_
    replace on := on.to b9
    clear b9
    by_cases hbt : Lib.itoa v = s
    · have hq1 : (Lib.itoa v == s) = true := by simp [hbt]
      have hn : num s = some v := by rw [HNUM.out, if_pos hbt]
      clear hbt
      have HN := Lib.hid hn
      clear hn
      go_wp2_with fail
      refine bodyPost_ret (v := .tuple #[.int .i64 v, .bool true]) (by simp [results, Tryd.results61, go_sem]) rfl ⟨v, by rw [HN.out]; rfl, on, fun _ => HN.out⟩
    · have hq1 : (Lib.itoa v == s) = false := by simp [hbt]
      have hn : num s = none := by rw [HNUM.out, if_neg hbt]
      clear hbt
      have HN := Lib.hid hn
      clear hn
      go_wp2_with fail
      refine bodyPost_ret (v := .tuple #[.int .i64 v, .bool false]) (by simp [results, Tryd.results61, go_sem]) rfl ⟨v, by rw [HN.out]; rfl, on, fun h => by rw [HN.out] at h; cases h⟩
  · have hn : num s = none := by
      rcases num_case s with ⟨v, h1, _⟩ | ⟨_, h2⟩
      · exact absurd h1 (hno v)
      · exact h2
    have HN := Lib.hid hn
    clear hn hno
    go_wp2_with fail
    refine bodyPost_ret (v := .tuple #[.int .i64 v, .bool false]) (by simp [results, Tryd.results61, go_sem]) rfl ⟨v, by rw [HN.out]; rfl, on, fun h => by rw [HN.out] at h; cases h⟩

/-! ### Pieces, each with its end -/
/-- The pieces of strings.SplitAfter at one byte, of those of Split. -/
def withc (c : UInt8) : List (List UInt8) → List (List UInt8)
  | [] => []
  | [t] => [t]
  | t :: u :: r => (t ++ [c]) :: withc c (u :: r)
theorem withc_cons {c : UInt8} {t : List UInt8} {r : List (List UInt8)} (h : r ≠ []) : withc c (t :: r) = (t ++ [c]) :: withc c r := by
  cases r with
  | nil => exact absurd rfl h
  | cons u r => rfl
theorem withc_len (c : UInt8) : ∀ l : List (List UInt8), (withc c l).length = l.length
  | [] => rfl
  | [t] => rfl
  | t :: u :: r => by rw [withc, List.length_cons, withc_len c (u :: r)]; rfl
theorem splitK_after (c : UInt8) : ∀ (l : List (List UInt8)), l ≠ [] → (∀ p ∈ l, c ∉ p) → Lib.splitK [c] 1 (l.length - 1) (joinc c l) = withc c l
  | [], h, _ => absurd rfl h
  | [t], _, _ => rfl
  | t :: u :: r, _, h => by
    have ht := h t (by simp)
    rw [show (t :: u :: r).length - 1 = ((u :: r).length - 1) + 1 by simp, joinc, Lib.splitK, withc]
    have hx := (index_one c (t ++ c :: joinc c (u :: r))).2 t (joinc c (u :: r)) rfl ht
    rw [hx, if_neg (by rw [beq_iff_eq]; omega)]
    congr 1
    · rw [Int.toNat_natCast]
      rw [show t ++ c :: joinc c (u :: r) = (t ++ [c]) ++ joinc c (u :: r) by simp]
      rw [show t.length + 1 = (t ++ [c]).length by simp, List.take_left]
    · rw [Int.toNat_natCast]
      rw [show t ++ c :: joinc c (u :: r) = (t ++ [c]) ++ joinc c (u :: r) by simp]
      rw [show t.length + ([c] : List UInt8).length = (t ++ [c]).length by simp, List.drop_left]
      exact splitK_after c (u :: r) (by simp) (fun p hp => h p (by simp at hp ⊢; exact Or.inr hp))
theorem after_b (c : UInt8) (s : List UInt8) : (Lib.splitB ⟨#[c]⟩ 1 (Lib.countB ⟨s.toArray⟩ ⟨#[c]⟩) ⟨s.toArray⟩).map Value.string = (withc c (cutc c s)).map str := by
  have h := Lib.splitB_data ⟨#[c]⟩ 1 (Lib.countB ⟨s.toArray⟩ ⟨#[c]⟩) ⟨s.toArray⟩
  have hl := count_b c s
  have e : Lib.splitK (⟨#[c]⟩ : ByteArray).data.toList 1 (Lib.countB ⟨s.toArray⟩ ⟨#[c]⟩) (⟨s.toArray⟩ : ByteArray).data.toList = withc c (cutc c s) := by
    have h1 := splitK_after c (cutc c s) (cutc_ne c s) (fun p hp => cutc_mem hp)
    rw [joinc_cutc, ← hl, Nat.add_sub_cancel] at h1
    exact h1
  rw [e] at h
  rw [← h, List.map_map]
  apply List.map_congr_left
  intro x _
  show Value.string x = str x.data.toList
  rw [str, ← str_of]
theorem cellsOf_all {l : List ByteArray} {N : Nat} (h : l.length = N) : Lib.cellsOf l N = (l.map Value.string).toArray := by subst h; exact Lib.cellsOf_full l
set_option maxHeartbeats 4000000 in
theorem SplitAfter_calls (c : UInt8) (s : List UInt8) (hs : s.length ≤ 4000000000) (w : World) (E : Env w) :
    Calls Tryd.prog 67 #[str s, str [c]] w fun e w' => ∃ A, e = .returned (.slice A (cutc c s).length (cutc c s).length) ∧ S w' 1 A (cutc c s).length ((withc c (cutc c s)).map encS) ∧ Onto w w' := by
  obtain ⟨m, hm⟩ := E.big
  have hcl := cutc_len c s
  have hcnt : s.count c ≤ s.length := List.count_le_length
  have hcb := count_b c s
  have key := Any.strings_genSplit Tryd.lays221 (by kernel_rfl) ⟨s.toArray⟩ ⟨#[c]⟩ 1 (-1) (cutc c s).length m w (by rw [str_size]; omega) hm (Nat.le_refl 1) (Nat.le_refl 1) (by omega) (by omega) (by rw [str_size, if_pos (by omega)]; omega)
  have hab := after_b c s
  have hN : Lib.countB ⟨s.toArray⟩ ⟨#[c]⟩ = (cutc c s).length - 1 := by omega
  rw [hN] at hab
  have hlen : (Lib.splitB ⟨#[c]⟩ 1 ((cutc c s).length - 1) ⟨s.toArray⟩).length = (cutc c s).length := by
    have := congrArg List.length hab
    rw [List.length_map, List.length_map, withc_len] at this
    exact this
  rw [hlen, cellsOf_all hlen, hab] at key
  have HK := Lib.hid key
  clear key hab hlen hN hcb hcnt hcl hm
  go_enter Tryd.func67, Tryd.ntmps67
  go_wp2_with fail
  refine Calls.mono HK.out ?_
  rintro e w' ⟨rfl, rfl⟩
  have hS := Sl.block (k := 1) ((withc c (cutc c s)).map encS) (hNew (w := w) (o := .cells ((withc c (cutc c s)).map str).toArray 9) rfl) (by
    intro r hr
    obtain ⟨x, _, rfl⟩ := List.mem_map.1 hr
    rfl) (by
    generalize withc c (cutc c s) = l
    induction l with
    | nil => rfl
    | cons a l ih => simp [encS] at ih ⊢; exact ih)
  rw [List.length_map, withc_len] at hS
  have HS := Lib.hid hS
  clear hS
  go_wp2_with fail
  go_ret
  exact ⟨_, rfl, HS.out, (Onto.rfl' w).new _⟩
end
section
set_option linter.unusedSimpArgs false
set_option linter.unusedVariables false
open Go.RowKit

theorem checkE_bounds {k j v t c : Int} (h : checkE ⟨k, j, v, t, c⟩ = 0) : 0 ≤ k ∧ k ≤ 3 ∧ 0 ≤ j ∧ j ≤ 5 ∧ 0 ≤ v ∧ v ≤ 100 ∧ 0 ≤ t ∧ t ≤ 100000 ∧ 0 ≤ c ∧ c ≤ 2 := by
  unfold checkE at h
  dsimp only at h
  split at h
  · cases h
  · split at h
    · cases h
    · omega
set_option maxHeartbeats 4000000 in
set_option maxRecDepth 100000 in
theorem EText_calls (k j v t c : Int) (w : World) (E : Env w) (hc : checkE ⟨k, j, v, t, c⟩ = 0) :
    Calls Tryd.prog 16 #[.agg #[.int .i64 k, .int .i64 j, .int .i64 v, .int .i64 t, .int .i64 c]] w fun e w' => e = .returned (str (textE ⟨k, j, v, t, c⟩)) ∧ Onto w w' := by
  obtain ⟨b0, b1, b2, b3, b4, b5, b6, b7, b8, b9⟩ := checkE_bounds hc
  clear hc
  obtain ⟨J, hJ⟩ : ∃ l, l = Lib.itoa j := ⟨_, rfl⟩
  obtain ⟨V, hV⟩ : ∃ l, l = Lib.itoa v := ⟨_, rfl⟩
  obtain ⟨T, hT⟩ : ∃ l, l = Lib.itoa t := ⟨_, rfl⟩
  obtain ⟨C, hC⟩ : ∃ l, l = Lib.itoa c := ⟨_, rfl⟩
  have lJ : J.length ≤ 30 := by rw [hJ]; have := Lib.itoa_length_le j (by omega) (by omega); omega
  have lV : V.length ≤ 30 := by rw [hV]; have := Lib.itoa_length_le v (by omega) (by omega); omega
  have lT : T.length ≤ 30 := by rw [hT]; have := Lib.itoa_length_le t (by omega) (by omega); omega
  have lC : C.length ≤ 30 := by rw [hC]; have := Lib.itoa_length_le c (by omega) (by omega); omega
  obtain ⟨p1, hp1⟩ : ∃ v, v = [112, 117, 116, 32] ++ J := ⟨_, rfl⟩
  have lp1 : p1.length ≤ 34 := by rw [hp1, List.length_append]; (try simp only [List.length_cons, List.length_nil]); omega
  obtain ⟨p2, hp2⟩ : ∃ v, v = p1 ++ [32] := ⟨_, rfl⟩
  have lp2 : p2.length ≤ 35 := by rw [hp2, List.length_append]; (try simp only [List.length_cons, List.length_nil]); omega
  obtain ⟨p3, hp3⟩ : ∃ v, v = p2 ++ V := ⟨_, rfl⟩
  have lp3 : p3.length ≤ 65 := by rw [hp3, List.length_append]; (try simp only [List.length_cons, List.length_nil]); omega
  obtain ⟨p4, hp4⟩ : ∃ v, v = p3 ++ [32] := ⟨_, rfl⟩
  have lp4 : p4.length ≤ 66 := by rw [hp4, List.length_append]; (try simp only [List.length_cons, List.length_nil]); omega
  obtain ⟨p5, hp5⟩ : ∃ v, v = p4 ++ T := ⟨_, rfl⟩
  have lp5 : p5.length ≤ 96 := by rw [hp5, List.length_append]; (try simp only [List.length_cons, List.length_nil]); omega
  obtain ⟨d1, hd1⟩ : ∃ v, v = [100, 114, 111, 112, 32] ++ J := ⟨_, rfl⟩
  have ld1 : d1.length ≤ 35 := by rw [hd1, List.length_append]; (try simp only [List.length_cons, List.length_nil]); omega
  obtain ⟨r1, hr1⟩ : ∃ v, v = [114, 105, 110, 103, 32] ++ J := ⟨_, rfl⟩
  have lr1 : r1.length ≤ 35 := by rw [hr1, List.length_append]; (try simp only [List.length_cons, List.length_nil]); omega
  obtain ⟨r2, hr2⟩ : ∃ v, v = r1 ++ [32] := ⟨_, rfl⟩
  have lr2 : r2.length ≤ 36 := by rw [hr2, List.length_append]; (try simp only [List.length_cons, List.length_nil]); omega
  obtain ⟨r3, hr3⟩ : ∃ v, v = r2 ++ T := ⟨_, rfl⟩
  have lr3 : r3.length ≤ 66 := by rw [hr3, List.length_append]; (try simp only [List.length_cons, List.length_nil]); omega
  obtain ⟨r4, hr4⟩ : ∃ v, v = r3 ++ [32] := ⟨_, rfl⟩
  have lr4 : r4.length ≤ 67 := by rw [hr4, List.length_append]; (try simp only [List.length_cons, List.length_nil]); omega
  obtain ⟨r5, hr5⟩ : ∃ v, v = r4 ++ C := ⟨_, rfl⟩
  have lr5 : r5.length ≤ 97 := by rw [hr5, List.length_append]; (try simp only [List.length_cons, List.length_nil]); omega
  have sp1 : ∀ w, (Op.stringOp .add ⟨#[112, 117, 116, 32]⟩ ⟨J.toArray⟩).run Tryd.prog w = .ok (str p1) w := fun w => by rw [hp1]; exact run_string_add_lists w [112, 117, 116, 32] J (by (try simp only [List.length_cons, List.length_nil]); omega) (by (try simp only [List.length_cons, List.length_nil]); omega)
  have sp2 : ∀ w, (Op.stringOp .add ⟨p1.toArray⟩ ⟨#[32]⟩).run Tryd.prog w = .ok (str p2) w := fun w => by rw [hp2]; exact run_string_add_lists w p1 [32] (by (try simp only [List.length_cons, List.length_nil]); omega) (by (try simp only [List.length_cons, List.length_nil]); omega)
  have sp3 : ∀ w, (Op.stringOp .add ⟨p2.toArray⟩ ⟨V.toArray⟩).run Tryd.prog w = .ok (str p3) w := fun w => by rw [hp3]; exact run_string_add_lists w p2 V (by (try simp only [List.length_cons, List.length_nil]); omega) (by (try simp only [List.length_cons, List.length_nil]); omega)
  have sp4 : ∀ w, (Op.stringOp .add ⟨p3.toArray⟩ ⟨#[32]⟩).run Tryd.prog w = .ok (str p4) w := fun w => by rw [hp4]; exact run_string_add_lists w p3 [32] (by (try simp only [List.length_cons, List.length_nil]); omega) (by (try simp only [List.length_cons, List.length_nil]); omega)
  have sp5 : ∀ w, (Op.stringOp .add ⟨p4.toArray⟩ ⟨T.toArray⟩).run Tryd.prog w = .ok (str p5) w := fun w => by rw [hp5]; exact run_string_add_lists w p4 T (by (try simp only [List.length_cons, List.length_nil]); omega) (by (try simp only [List.length_cons, List.length_nil]); omega)
  have sd1 : ∀ w, (Op.stringOp .add ⟨#[100, 114, 111, 112, 32]⟩ ⟨J.toArray⟩).run Tryd.prog w = .ok (str d1) w := fun w => by rw [hd1]; exact run_string_add_lists w [100, 114, 111, 112, 32] J (by (try simp only [List.length_cons, List.length_nil]); omega) (by (try simp only [List.length_cons, List.length_nil]); omega)
  have sr1 : ∀ w, (Op.stringOp .add ⟨#[114, 105, 110, 103, 32]⟩ ⟨J.toArray⟩).run Tryd.prog w = .ok (str r1) w := fun w => by rw [hr1]; exact run_string_add_lists w [114, 105, 110, 103, 32] J (by (try simp only [List.length_cons, List.length_nil]); omega) (by (try simp only [List.length_cons, List.length_nil]); omega)
  have sr2 : ∀ w, (Op.stringOp .add ⟨r1.toArray⟩ ⟨#[32]⟩).run Tryd.prog w = .ok (str r2) w := fun w => by rw [hr2]; exact run_string_add_lists w r1 [32] (by (try simp only [List.length_cons, List.length_nil]); omega) (by (try simp only [List.length_cons, List.length_nil]); omega)
  have sr3 : ∀ w, (Op.stringOp .add ⟨r2.toArray⟩ ⟨T.toArray⟩).run Tryd.prog w = .ok (str r3) w := fun w => by rw [hr3]; exact run_string_add_lists w r2 T (by (try simp only [List.length_cons, List.length_nil]); omega) (by (try simp only [List.length_cons, List.length_nil]); omega)
  have sr4 : ∀ w, (Op.stringOp .add ⟨r3.toArray⟩ ⟨#[32]⟩).run Tryd.prog w = .ok (str r4) w := fun w => by rw [hr4]; exact run_string_add_lists w r3 [32] (by (try simp only [List.length_cons, List.length_nil]); omega) (by (try simp only [List.length_cons, List.length_nil]); omega)
  have sr5 : ∀ w, (Op.stringOp .add ⟨r4.toArray⟩ ⟨C.toArray⟩).run Tryd.prog w = .ok (str r5) w := fun w => by rw [hr5]; exact run_string_add_lists w r4 C (by (try simp only [List.length_cons, List.length_nil]); omega) (by (try simp only [List.length_cons, List.length_nil]); omega)
  have i1 := fun (x w : World) (hx : Env (ontoW w x)) => Itoa_calls j (by omega) (by omega) (ontoW w x) hx
  have i2 := fun (x w : World) (hx : Env (ontoW w x)) => Itoa_calls v (by omega) (by omega) (ontoW w x) hx
  have i3 := fun (x w : World) (hx : Env (ontoW w x)) => Itoa_calls t (by omega) (by omega) (ontoW w x) hx
  have i4 := fun (x w : World) (hx : Env (ontoW w x)) => Itoa_calls c (by omega) (by omega) (ontoW w x) hx
  have I1 := Lib.hid i1; have I2 := Lib.hid i2; have I3 := Lib.hid i3; have I4 := Lib.hid i4
  have HJ := Lib.hid hJ; have HV := Lib.hid hV; have HT := Lib.hid hT; have HC := Lib.hid hC
  have Hp1 := Lib.hid hp1
  have Hp2 := Lib.hid hp2
  have Hp3 := Lib.hid hp3
  have Hp4 := Lib.hid hp4
  have Hp5 := Lib.hid hp5
  have Hd1 := Lib.hid hd1
  have Hr1 := Lib.hid hr1
  have Hr2 := Lib.hid hr2
  have Hr3 := Lib.hid hr3
  have Hr4 := Lib.hid hr4
  have Hr5 := Lib.hid hr5
  clear hp1 lp1 hp2 lp2 hp3 lp3 hp4 lp4 hp5 lp5 hd1 ld1 hr1 lr1 hr2 lr2 hr3 lr3 hr4 lr4 hr5 lr5 i1 i2 i3 i4 hJ hV hT hC lJ lV lT lC b2 b3 b4 b5 b6 b7 b8 b9
  rcases (by omega : k = 0 ∨ k = 1 ∨ k = 2 ∨ k = 3) with rfl | rfl | rfl | rfl
  · clear b0 b1
    go_enter Tryd.func16, Tryd.ntmps16
    go_upto_region 1 with fail
    have on := (Onto.rfl' w).new (Obj.cells #[.int .i64 0, .int .i64 j, .int .i64 v, .int .i64 t, .int .i64 c] 23)
    have B : Bx (w.alloc (Obj.cells #[.int .i64 0, .int .i64 j, .int .i64 v, .int .i64 t, .int .i64 c] 23)) w.heap.size [.int .i64 0, .int .i64 j, .int .i64 v, .int .i64 t, .int .i64 c] := Bx.made w #[.int .i64 0, .int .i64 j, .int .i64 v, .int .i64 t, .int .i64 c] 23
    have E1 := E.onto on
    try change Code.wp _ _ _ _ (w.alloc (Obj.cells #[.int .i64 0, .int .i64 j, .int .i64 v, .int .i64 t, .int .i64 c] 23))
    generalize (w.alloc (Obj.cells #[.int .i64 0, .int .i64 j, .int .i64 v, .int .i64 t, .int .i64 c] 23)) = w1 at *
    generalize w.heap.size = z at *
    have c1 := onto_cell (B.at_ 1 rfl); have c2 := onto_cell (B.at_ 2 rfl); have c3 := onto_cell (B.at_ 3 rfl); have c4 := onto_cell (B.at_ 4 rfl)
    refine wp_region_onto (by kernel_rfl) (by kernel_rfl) ?_
    repeat (go_big_quiet_step ((go_at_call 54; first | exact calls_onto' (u := str J) (by with_reducible exact I1.out _ w1 (E1.onto (onto_on w1 _))) (by rw [HJ.out]) | exact calls_onto' (u := str V) (by with_reducible exact I2.out _ w1 (E1.onto (onto_on w1 _))) (by rw [HV.out]) | exact calls_onto' (u := str T) (by with_reducible exact I3.out _ w1 (E1.onto (onto_on w1 _))) (by rw [HT.out]) | exact calls_onto' (u := str C) (by with_reducible exact I4.out _ w1 (E1.onto (onto_on w1 _))) (by rw [HC.out]))))
    refine wpQuiet_nil ?_
    intro w2 b2
    replace on := on.to b2; replace B := B.onto b2
    clear b2 c1 c2 c3 c4
    have b0 := B.at_ 0 rfl
    have hz := B.lt
    go_wp2_with fail
    go_ret
    refine ⟨?_, on.new _⟩
    refine congrArg (fun l => Ending.returned (str l)) ?_
    exact rfl
  · clear b0 b1
    go_enter Tryd.func16, Tryd.ntmps16
    go_upto_region 1 with fail
    have on := (Onto.rfl' w).new (Obj.cells #[.int .i64 1, .int .i64 j, .int .i64 v, .int .i64 t, .int .i64 c] 23)
    have B : Bx (w.alloc (Obj.cells #[.int .i64 1, .int .i64 j, .int .i64 v, .int .i64 t, .int .i64 c] 23)) w.heap.size [.int .i64 1, .int .i64 j, .int .i64 v, .int .i64 t, .int .i64 c] := Bx.made w #[.int .i64 1, .int .i64 j, .int .i64 v, .int .i64 t, .int .i64 c] 23
    have E1 := E.onto on
    try change Code.wp _ _ _ _ (w.alloc (Obj.cells #[.int .i64 1, .int .i64 j, .int .i64 v, .int .i64 t, .int .i64 c] 23))
    generalize (w.alloc (Obj.cells #[.int .i64 1, .int .i64 j, .int .i64 v, .int .i64 t, .int .i64 c] 23)) = w1 at *
    generalize w.heap.size = z at *
    have c1 := onto_cell (B.at_ 1 rfl); have c2 := onto_cell (B.at_ 2 rfl); have c3 := onto_cell (B.at_ 3 rfl); have c4 := onto_cell (B.at_ 4 rfl)
    refine wp_region_onto (by kernel_rfl) (by kernel_rfl) ?_
    repeat (go_big_quiet_step ((go_at_call 54; first | exact calls_onto' (u := str J) (by with_reducible exact I1.out _ w1 (E1.onto (onto_on w1 _))) (by rw [HJ.out]) | exact calls_onto' (u := str V) (by with_reducible exact I2.out _ w1 (E1.onto (onto_on w1 _))) (by rw [HV.out]) | exact calls_onto' (u := str T) (by with_reducible exact I3.out _ w1 (E1.onto (onto_on w1 _))) (by rw [HT.out]) | exact calls_onto' (u := str C) (by with_reducible exact I4.out _ w1 (E1.onto (onto_on w1 _))) (by rw [HC.out]))))
    refine wpQuiet_nil ?_
    intro w2 b2
    replace on := on.to b2; replace B := B.onto b2
    clear b2 c1 c2 c3 c4
    have b0 := B.at_ 0 rfl
    have hz := B.lt
    go_wp2_with fail
    go_ret
    refine ⟨?_, on.new _⟩
    refine congrArg (fun l => Ending.returned (str l)) ?_
    simp only [Hp5.out, Hp4.out, Hp3.out, Hp2.out, Hp1.out, HJ.out, HV.out, HT.out]; simp [textE, headE, numsE, tailB, putW]
  · clear b0 b1
    go_enter Tryd.func16, Tryd.ntmps16
    go_upto_region 1 with fail
    have on := (Onto.rfl' w).new (Obj.cells #[.int .i64 2, .int .i64 j, .int .i64 v, .int .i64 t, .int .i64 c] 23)
    have B : Bx (w.alloc (Obj.cells #[.int .i64 2, .int .i64 j, .int .i64 v, .int .i64 t, .int .i64 c] 23)) w.heap.size [.int .i64 2, .int .i64 j, .int .i64 v, .int .i64 t, .int .i64 c] := Bx.made w #[.int .i64 2, .int .i64 j, .int .i64 v, .int .i64 t, .int .i64 c] 23
    have E1 := E.onto on
    try change Code.wp _ _ _ _ (w.alloc (Obj.cells #[.int .i64 2, .int .i64 j, .int .i64 v, .int .i64 t, .int .i64 c] 23))
    generalize (w.alloc (Obj.cells #[.int .i64 2, .int .i64 j, .int .i64 v, .int .i64 t, .int .i64 c] 23)) = w1 at *
    generalize w.heap.size = z at *
    have c1 := onto_cell (B.at_ 1 rfl); have c2 := onto_cell (B.at_ 2 rfl); have c3 := onto_cell (B.at_ 3 rfl); have c4 := onto_cell (B.at_ 4 rfl)
    refine wp_region_onto (by kernel_rfl) (by kernel_rfl) ?_
    repeat (go_big_quiet_step ((go_at_call 54; first | exact calls_onto' (u := str J) (by with_reducible exact I1.out _ w1 (E1.onto (onto_on w1 _))) (by rw [HJ.out]) | exact calls_onto' (u := str V) (by with_reducible exact I2.out _ w1 (E1.onto (onto_on w1 _))) (by rw [HV.out]) | exact calls_onto' (u := str T) (by with_reducible exact I3.out _ w1 (E1.onto (onto_on w1 _))) (by rw [HT.out]) | exact calls_onto' (u := str C) (by with_reducible exact I4.out _ w1 (E1.onto (onto_on w1 _))) (by rw [HC.out]))))
    refine wpQuiet_nil ?_
    intro w2 b2
    replace on := on.to b2; replace B := B.onto b2
    clear b2 c1 c2 c3 c4
    have b0 := B.at_ 0 rfl
    have hz := B.lt
    go_wp2_with fail
    go_ret
    refine ⟨?_, on.new _⟩
    refine congrArg (fun l => Ending.returned (str l)) ?_
    simp only [Hd1.out, HJ.out]; simp [textE, headE, numsE, tailB, dropW]
  · clear b0 b1
    go_enter Tryd.func16, Tryd.ntmps16
    go_upto_region 1 with fail
    have on := (Onto.rfl' w).new (Obj.cells #[.int .i64 3, .int .i64 j, .int .i64 v, .int .i64 t, .int .i64 c] 23)
    have B : Bx (w.alloc (Obj.cells #[.int .i64 3, .int .i64 j, .int .i64 v, .int .i64 t, .int .i64 c] 23)) w.heap.size [.int .i64 3, .int .i64 j, .int .i64 v, .int .i64 t, .int .i64 c] := Bx.made w #[.int .i64 3, .int .i64 j, .int .i64 v, .int .i64 t, .int .i64 c] 23
    have E1 := E.onto on
    try change Code.wp _ _ _ _ (w.alloc (Obj.cells #[.int .i64 3, .int .i64 j, .int .i64 v, .int .i64 t, .int .i64 c] 23))
    generalize (w.alloc (Obj.cells #[.int .i64 3, .int .i64 j, .int .i64 v, .int .i64 t, .int .i64 c] 23)) = w1 at *
    generalize w.heap.size = z at *
    have c1 := onto_cell (B.at_ 1 rfl); have c2 := onto_cell (B.at_ 2 rfl); have c3 := onto_cell (B.at_ 3 rfl); have c4 := onto_cell (B.at_ 4 rfl)
    refine wp_region_onto (by kernel_rfl) (by kernel_rfl) ?_
    repeat (go_big_quiet_step ((go_at_call 54; first | exact calls_onto' (u := str J) (by with_reducible exact I1.out _ w1 (E1.onto (onto_on w1 _))) (by rw [HJ.out]) | exact calls_onto' (u := str V) (by with_reducible exact I2.out _ w1 (E1.onto (onto_on w1 _))) (by rw [HV.out]) | exact calls_onto' (u := str T) (by with_reducible exact I3.out _ w1 (E1.onto (onto_on w1 _))) (by rw [HT.out]) | exact calls_onto' (u := str C) (by with_reducible exact I4.out _ w1 (E1.onto (onto_on w1 _))) (by rw [HC.out]))))
    refine wpQuiet_nil ?_
    intro w2 b2
    replace on := on.to b2; replace B := B.onto b2
    clear b2 c1 c2 c3 c4
    have b0 := B.at_ 0 rfl
    have hz := B.lt
    go_wp2_with fail
    go_ret
    refine ⟨?_, on.new _⟩
    refine congrArg (fun l => Ending.returned (str l)) ?_
    simp only [Hr5.out, Hr4.out, Hr3.out, Hr2.out, Hr1.out, HJ.out, HT.out, HC.out]; simp [textE, headE, numsE, tailB, ringW]
end
section
set_option linter.unusedSimpArgs false
set_option linter.unusedVariables false
open Go.RowKit

section
variable {P : Program} {w : World} {z : Nat} {vs : List Value} {ops : Array Oper} {op : Oper} {a : Act} {K : Act → World → Prop} {Q : Exit → Act → World → Prop} {F : Prop}
/-- A struct stored whole, in a region that draws its order. -/
theorem step_put (hB : Bx w z vs) (us : List Value) (ty : TypeId) (x y : Operand) (hgd : op.guard = none) (ho : op.op = .store ty x y)
    (hx : a.eval x = .pointer (some ⟨z, 0, none⟩)) (hy : a.eval y = .agg us.toArray) (hl : us.length = vs.length) (hi : (P.info? ty).map (·.size) = some vs.length) (h1 : us.all (·.oneCell') = true)
    (h : K (a.put op.dst undef) (w.setCells z 0 us)) : if Region.wanted op (yielded ops a.tmps) = true then Oper.wp P op a w K Q else F := by
  rw [if_pos (by simp [Region.wanted, hgd])]
  exact wp_store_mid ty x y ho z 0 us.toArray hx hy (hB.there (by simp; omega)) (by rw [hi]; simp [hl]) (all_oneCell_toArray (List.all_eq_true.1 h1)) h
end
theorem infoI : (Tryd.prog.info? 3).map (fun i => (i.zero, i.size, i.bytes)) = some (some (.int .i64 0), 1, 8) := by kernel_rfl
theorem Sl.oneI {w : World} (n : Int) : Sl (w.alloc (Obj.cells #[.int .i64 n] 3)) (w.heap.size + 1) 1 (some ⟨w.heap.size, 0, none⟩) 1 [encI n] := by
  have := Sl.block (k := 1) [encI n] (hNew (w := w) (o := .cells #[.int .i64 n] 3) rfl) (by simp [encI]) (by simp [encI])
  simpa using this
theorem num_snoc {t : List UInt8} {ts : List (List UInt8)} {kk : Nat} {l : List Int} {n : Int} (ht : ts[kk]? = some t) (hl : numsL (ts.take kk) = some l) (hn : num t = some n) : numsL (ts.take (kk + 1)) = some (l ++ [n]) := by
  obtain ⟨hlt, rfl⟩ := List.getElem?_eq_some_iff.1 ht
  rw [List.take_succ_eq_append_getElem hlt, numsL_snoc hl, hn]; rfl
set_option maxRecDepth 100000 in
set_option maxHeartbeats 4000000 in
theorem ERead_calls (s : List UInt8) (w : World) (E : Env w) (hs : s.length ≤ 30000) :
    Calls Tryd.prog 18 #[str s] w (EnPost w (readWs (cutc 32 s))) := by
  have HS := Lib.hid hs
  obtain ⟨r, hr⟩ : ∃ r, r = readWs (cutc 32 s) := ⟨_, rfl⟩
  rw [← hr]
  have HR := Lib.hid hr
  clear hs hr
  go_enter Tryd.func18, Tryd.ntmps18
  go_wp2_with fail
  refine Calls.mono (Split_calls 32 s (by have := HS.out; omega) _ (E.new _)) ?_
  rintro e w1 ⟨A, rfl, sA, b⟩
  have on : Onto w w1 := Onto.to ((Onto.rfl' w).new _) b
  have Bz : Bx w1 w.heap.size [.int .i64 0, .int .i64 0, .int .i64 0, .int .i64 0, .int .i64 0] := (Bx.made w #[.int .i64 0, .int .i64 0, .int .i64 0, .int .i64 0, .int .i64 0] 23).onto b
  have E1 := E.onto on
  have hz := Bz.lt
  clear b
  obtain ⟨ws, hws⟩ : ∃ ws, ws = cutc 32 s := ⟨_, rfl⟩
  have hne : ws ≠ [] := hws ▸ cutc_ne 32 s
  have hlw : ∀ t ∈ ws, t.length ≤ 30000 := fun t ht => Nat.le_trans (cutc_le (hws ▸ ht)) HS.out
  have hlen0 : ws.length ≤ 30001 := by rw [hws, cutc_len]; have := HS.out; have := List.count_le_length (a := (32 : UInt8)) (l := s); omega
  rw [← hws] at sA HR ⊢
  clear hws
  obtain ⟨y, ts, rfl⟩ : ∃ h ts, ws = h :: ts := by
    cases ws with
    | nil => exact absurd rfl hne
    | cons h ts => exact ⟨h, ts, rfl⟩
  clear hne
  have HTL := Lib.hid (show ∀ t ∈ ts, t.length ≤ 30000 from fun t ht => hlw t (by simp [ht]))
  have hts : ts.length ≤ 30000 := by simp at hlen0; omega
  clear hlw hlen0
  generalize hzz : w.heap.size = z at *
  obtain ⟨bb, off, y', rfl, hb, hy, d0⟩ := S.atS sA (i := 0) (by simp)
  have hy : y' = y := by simpa using hy.symm
  subst hy
  rw [Nat.add_zero] at d0
  have hn0 : (0 : Int) < ((y' :: ts).length : Int) := by simp
  obtain ⟨A', hA', sA'⟩ : ∃ A', (∀ w, (Instr.slice 84 (.slice (some ⟨bb, off, none⟩) (ts.length + 1) (ts.length + 1)) (some (.int .i64 1)) none none).run Tryd.prog w = .ok (.slice A' ts.length ts.length) w) ∧ S w1 1 A' ts.length (ts.map encS) := by
    refine ⟨_, fun w => run_slice_from (size := 1) (some ⟨bb, off, none⟩) (ts.length + 1) (ts.length + 1) 1 Tryd.underlying84 Tryd.sizeOf9 (by omega) w, ?_⟩
    have := Sl.cut (c := ts.length + 1) (m := 1) sA (by simp) (by simp)
    simpa using this
  clear hy sA
  go_wp2_with fail
  go_loopg [4, 17] ts.length (fun g s4 s17 wr => ∃ (kk : Nat) (l : List Int) (N1 : Option Addr) (c1 : Nat), kk ≤ ts.length ∧ ts.length - kk ≤ g ∧ s17 = .int .i64 kk ∧ s4 = .slice N1 kk c1 ∧ Hid (numsL (ts.take kk) = some l) ∧ Hid (Own wr w1.heap.size 3 1 (.slice N1 kk c1) kk (l.map encI)) ∧ Onto w1 wr)
  case atStart => exact ⟨0, [], none, 0, Nat.zero_le _, by omega, rfl, rfl, Lib.hid rfl, Own.nil _ _ _ _, Onto.rfl' _⟩
  case round =>
    obtain ⟨kk, l, N1, c1, hkk, hg, rfl, rfl, HL, HO, hon⟩ := hrel
    have hkl : l.length = kk := by have := HO.out.2.1; simpa using this
    have HLL := Lib.hid hkl
    clear hkl
    have BZ := Bz.onto hon
    have ow := on.to hon
    by_cases hlt : kk < ts.length
    · obtain ⟨bb', off', t, rfl, hb', ht, e0⟩ := S.atS (sA'.onto hon) hlt
      have HT := Lib.hid ht
      have htl := HTL.out t (List.mem_of_getElem? ht)
      clear ht
      obtain ⟨ok, hok⟩ : ∃ b, b = (num t).isSome := ⟨_, rfl⟩
      go_wp2_with fail
      refine Calls.mono (Whole_calls t (by omega) _ (E1.onto hon)) ?_
      rw [← hok]
      rintro e w8 ⟨v, rfl, b, hnv⟩
      have HNV := Lib.hid hnv; have HOK := Lib.hid hok
      replace BZ := BZ.onto b; replace ow := ow.to b; replace hon := hon.to b
      have HO8 := Lib.hid (HO.out.below b)
      clear b e0 HO hnv hok d0
      cases ok with
      | true =>
        have hnum : num t = some v := HNV.out rfl
        have HNUM := Lib.hid hnum
        clear hnum HNV HOK
        obtain ⟨i0, hi0, hzz0, hzz1, hzz2⟩ := info_parts infoI
        have HI0 := Lib.hid hi0; have HZ0 := Lib.hid hzz0; have HZ1 := Lib.hid hzz1; have HZ2 := Lib.hid hzz2
        clear hi0 hzz0 hzz1 hzz2
        have hnew := Sl.oneI (w := w8) v
        have HNEW := Lib.hid hnew
        clear hnew
        have hs8 := hon.size
        go_wp2_with (at_builtin; refine wpList_append_sl _ rfl (.tmp 29) (.tmp 31) 79 rfl w1.heap.size 3 i0 _ 1 8 Tryd.underlying79 HI0.out HZ0.out HZ1.out HZ2.out rfl (by decide) (.slice N1 kk c1) kk (l.map encI) rfl (HO8.out.alloc _) (w8.heap.size + 1) (some ⟨w8.heap.size, 0, none⟩) 1 1 [encI v] rfl HNEW.out (by simp [encI, Value.oneCell']) (by unfold maxLen; omega) (by omega) (by simp; omega) ?_)
        intro v9 w9 own9 grow9 hv9
        obtain ⟨A9, c9, rfl, _, _⟩ := own9.slice
        have on9 : Onto w1 w9 := below_grown (hon.new _) (by simp; omega) grow9 (fun g hg => (HO8.out.1.lt g hg).1)
        have HO9 := Lib.hid own9
        clear own9 grow9 hv9 HI0 HZ0 HZ1 HZ2 HNEW BZ ow
        go_wp2_with fail
        go_roundg (ts.length - (kk + 1))
        case measure => omega
        case rel => exact ⟨kk + 1, l ++ [v], A9, c9, by omega, Nat.le_refl _, by go_num, rfl, Lib.hid (num_snoc HT.out HL.out HNUM.out), Lib.hid (by rw [List.map_append]; exact HO9.out), on9⟩
      | false =>
        have hn : num t = none := by
          have := HOK.out
          cases hx : num t with
          | none => rfl
          | some u => rw [hx] at this; cases this
        have hr : r = (zeroE, 1) := by
          rw [HR.out]; unfold readWs; rw [List.headD_cons]
          cases kindW y' with
          | none => rfl
          | some km =>
            obtain ⟨k, m⟩ := km
            dsimp only
            rw [List.tail_cons, numsL_none (List.mem_of_getElem? HT.out) hn]
            split <;> rfl
        subst hr
        clear hn HNV HOK HR
        go_wp2_with (refine wpList_put BZ [.int .i64 0, .int .i64 0, .int .i64 0, .int .i64 0, .int .i64 0] 23 _ _ (by rfl) (by rfl) (by rfl) (by rfl) (by rfl) sizeE (by rfl) ?_)
        have hF := BZ.put (us := [.int .i64 0, .int .i64 0, .int .i64 0, .int .i64 0, .int .i64 0]) rfl
        have oF := Onto.puts (b := z) (o := 0) (us := [.int .i64 0, .int .i64 0, .int .i64 0, .int .i64 0, .int .i64 0]) (by omega) ow
        generalize World.setCells _ z 0 [.int .i64 0, .int .i64 0, .int .i64 0, .int .i64 0, .int .i64 0] = wF at hF oF ⊢
        go_wp2_with fail
        have p0 := hF.at_ 0 rfl; have p1 := hF.at_ 1 rfl; have p2 := hF.at_ 2 rfl; have p3 := hF.at_ 3 rfl; have p4 := hF.at_ 4 rfl
        refine bodyPost_ret (v := .tuple #[.agg #[.int .i64 0, .int .i64 0, .int .i64 0, .int .i64 0, .int .i64 0], .int .i64 1]) (by simp [results, Tryd.results18, go_sem, p0, p1, p2, p3, p4]) rfl ⟨rfl, oF⟩
    · have hkn : kk = ts.length := by omega
      subst hkn
      rw [List.take_length] at HL
      clear hkk hg hlt hA' sA' HTL
      replace d0 := cellB hon d0
      obtain ⟨y, hyy⟩ : ∃ y, y = y' := ⟨_, rfl⟩
      rw [← hyy] at d0 HR
      clear hyy
      by_cases hyjunk : y = [106, 117, 110, 107]
      · subst hyjunk
        by_cases hlen : ts.length = 0
        · have hT : ts.length = 0 := hlen
          have hll : l.length = 0 := by rw [HLL.out, hT]
          obtain rfl : l = [] := List.eq_nil_of_length_eq_zero hll
          have hr : r = if checkE ⟨0, 0, 0, 0, 0⟩ ≠ 0 then (zeroE, checkE ⟨0, 0, 0, 0, 0⟩) else (⟨0, 0, 0, 0, 0⟩, 0) := by
            rw [HR.out]; unfold readWs; rw [List.headD_cons, show kindW [106, 117, 110, 107] = some (0, 0) from rfl]; dsimp only; rw [List.tail_cons, if_neg (by simp [hT]), HL.out]; rfl
          have HRR := Lib.hid hr
          clear hr hll
          rw [hT] at *
          clear hT hlen
          have SN := HO.out.sl
          have ofN := SN.offN (Nat.le_refl wr.heap.size)
          go_upto_block 2 with fail
          have oc : Onto wr (wr.alloc (Obj.cells #[.int .i64 0, .int .i64 0, .int .i64 0, .int .i64 0, .int .i64 0] 23)) := (Onto.rfl' _).new _
          have BE : Bx (wr.alloc (Obj.cells #[.int .i64 0, .int .i64 0, .int .i64 0, .int .i64 0, .int .i64 0] 23)) wr.heap.size [.int .i64 0, .int .i64 0, .int .i64 0, .int .i64 0, .int .i64 0] := Bx.made _ _ _
          have hze : w1.heap.size ≤ wr.heap.size := hon.size
          replace BZ := BZ.onto oc; replace ow := ow.to oc; replace SN := S.onto SN oc; replace d0 := cellB oc d0
          try change Code.wp _ _ _ _ (wr.alloc (Obj.cells #[.int .i64 0, .int .i64 0, .int .i64 0, .int .i64 0, .int .i64 0] 23))
          generalize (wr.alloc (Obj.cells #[.int .i64 0, .int .i64 0, .int .i64 0, .int .i64 0, .int .i64 0] 23)) = w12 at *
          generalize wr.heap.size = ze at *

          go_upto_region 20 with fail
          clear d0 SN HO HL HLL
          have hr := HRR.out
          clear HRR HR
          obtain ⟨q, hqq⟩ : ∃ q, q = checkE ⟨0, 0, 0, 0, 0⟩ := ⟨_, rfl⟩
          rw [← hqq] at hr
          have HQ := Lib.hid hqq; have HRQ := Lib.hid hr
          clear hqq hr
          have b0 := BE.at_ 0 rfl; have b1 := BE.at_ 1 rfl; have b2 := BE.at_ 2 rfl; have b3 := BE.at_ 3 rfl; have b4 := BE.at_ 4 rfl
          go_wp2_with fail
          refine Calls.mono (RCE_calls 0 0 0 0 0 _) ?_
          rintro e w13 ⟨rfl, bq⟩
          rw [show checkE ⟨0, 0, 0, 0, 0⟩ = q from HQ.out.symm]
          replace BZ := BZ.onto bq; replace ow := ow.to bq; replace BE := BE.onto bq
          clear bq b0 b1 b2 b3 b4
          by_cases hq0 : q = 0
          · have hr := HRQ.out
            rw [if_neg (by simp [hq0])] at hr
            subst hr
            have hq1 : (q == 0) = true := by simp [hq0]
            have hq2 : (q != 0) = false := by simp [hq0]
            have b0 := BE.at_ 0 rfl; have b1 := BE.at_ 1 rfl; have b2 := BE.at_ 2 rfl; have b3 := BE.at_ 3 rfl; have b4 := BE.at_ 4 rfl
            clear hq0 HRQ
            go_wp2_with (refine wpList_put BZ [.int .i64 0, .int .i64 0, .int .i64 0, .int .i64 0, .int .i64 0] 23 _ _ (by rfl) (by rfl) (by rfl) (by rfl) (by rfl) sizeE (by rfl) ?_)
            have hF := BZ.put (us := [.int .i64 0, .int .i64 0, .int .i64 0, .int .i64 0, .int .i64 0]) rfl
            have oF := Onto.puts (b := z) (o := 0) (us := [.int .i64 0, .int .i64 0, .int .i64 0, .int .i64 0, .int .i64 0]) (by omega) ow
            generalize World.setCells _ z 0 [.int .i64 0, .int .i64 0, .int .i64 0, .int .i64 0, .int .i64 0] = wF at hF oF ⊢
            go_wp2_with fail
            have p0 := hF.at_ 0 rfl; have p1 := hF.at_ 1 rfl; have p2 := hF.at_ 2 rfl; have p3 := hF.at_ 3 rfl; have p4 := hF.at_ 4 rfl
            refine bodyPost_ret (v := .tuple #[.agg #[.int .i64 0, .int .i64 0, .int .i64 0, .int .i64 0, .int .i64 0], .int .i64 0]) (by simp [results, Tryd.results18, go_sem, p0, p1, p2, p3, p4]) rfl ⟨rfl, oF⟩
          · have hr := HRQ.out
            rw [if_pos hq0] at hr
            subst hr
            have hq1 : (q == 0) = false := by simp [hq0]
            have hq2 : (q != 0) = true := by simp [hq0]
            clear hq0 BE HRQ
            go_wp2_with (refine wpList_put BZ [.int .i64 0, .int .i64 0, .int .i64 0, .int .i64 0, .int .i64 0] 23 _ _ (by rfl) (by rfl) (by rfl) (by rfl) (by rfl) sizeE (by rfl) ?_)
            have hF := BZ.put (us := [.int .i64 0, .int .i64 0, .int .i64 0, .int .i64 0, .int .i64 0]) rfl
            have oF := Onto.puts (b := z) (o := 0) (us := [.int .i64 0, .int .i64 0, .int .i64 0, .int .i64 0, .int .i64 0]) (by omega) ow
            generalize World.setCells _ z 0 [.int .i64 0, .int .i64 0, .int .i64 0, .int .i64 0, .int .i64 0] = wF at hF oF ⊢
            go_wp2_with fail
            have p0 := hF.at_ 0 rfl; have p1 := hF.at_ 1 rfl; have p2 := hF.at_ 2 rfl; have p3 := hF.at_ 3 rfl; have p4 := hF.at_ 4 rfl
            refine bodyPost_ret (v := .tuple #[.agg #[.int .i64 0, .int .i64 0, .int .i64 0, .int .i64 0, .int .i64 0], .int .i64 q]) (by simp [results, Tryd.results18, go_sem, p0, p1, p2, p3, p4]) rfl ⟨rfl, oF⟩
        · have hr : r = (zeroE, 1) := by rw [HR.out]; unfold readWs; rw [List.headD_cons, show kindW [106, 117, 110, 107] = some (0, 0) from rfl]; dsimp only; rw [List.tail_cons, if_pos hlen]
          have hl1 : ((ts.length : Int) == 0) = false := by rw [beq_eq_false_iff_ne]; omega
          have hl2 : ¬ (ts.length : Int) = 0 := by omega
          clear HR HL HLL hlen
          subst hr
          have oc : Onto wr (wr.alloc (Obj.cells #[.int .i64 0, .int .i64 0, .int .i64 0, .int .i64 0, .int .i64 0] 23)) := (Onto.rfl' _).new _
          replace d0 := cellB oc d0
          replace BZ := BZ.onto oc; replace ow := ow.to oc
          go_wp2_with (refine wpList_put BZ [.int .i64 0, .int .i64 0, .int .i64 0, .int .i64 0, .int .i64 0] 23 _ _ (by rfl) (by rfl) (by rfl) (by rfl) (by rfl) sizeE (by rfl) ?_)
          have hF := BZ.put (us := [.int .i64 0, .int .i64 0, .int .i64 0, .int .i64 0, .int .i64 0]) rfl
          have oF := Onto.puts (b := z) (o := 0) (us := [.int .i64 0, .int .i64 0, .int .i64 0, .int .i64 0, .int .i64 0]) (by omega) ow
          generalize World.setCells _ z 0 [.int .i64 0, .int .i64 0, .int .i64 0, .int .i64 0, .int .i64 0] = wF at hF oF ⊢
          go_wp2_with fail
          have p0 := hF.at_ 0 rfl; have p1 := hF.at_ 1 rfl; have p2 := hF.at_ 2 rfl; have p3 := hF.at_ 3 rfl; have p4 := hF.at_ 4 rfl
          refine bodyPost_ret (v := .tuple #[.agg #[.int .i64 0, .int .i64 0, .int .i64 0, .int .i64 0, .int .i64 0], .int .i64 1]) (by simp [results, Tryd.results18, go_sem, p0, p1, p2, p3, p4]) rfl ⟨rfl, oF⟩
      · have hjunk : (y == [106, 117, 110, 107]) = false := by rw [beq_eq_false_iff_ne]; exact hyjunk
        by_cases hyput : y = [112, 117, 116]
        · subst hyput
          by_cases hlen : ts.length = 3
          · have hT : ts.length = 3 := hlen
            have hll : l.length = 3 := by rw [HLL.out, hT]
            obtain ⟨a, b, c, rfl⟩ : ∃ a b c, l = [a, b, c] := by match l, hll with | [a, b, c], _ => exact ⟨a, b, c, rfl⟩
            have hr : r = if checkE ⟨1, a, b, c, 0⟩ ≠ 0 then (zeroE, checkE ⟨1, a, b, c, 0⟩) else (⟨1, a, b, c, 0⟩, 0) := by
              rw [HR.out]; unfold readWs; rw [List.headD_cons, show kindW [112, 117, 116] = some (1, 3) from rfl]; dsimp only; rw [List.tail_cons, if_neg (by simp [hT]), HL.out]; rfl
            have HRR := Lib.hid hr
            clear hr hll
            rw [hT] at *
            clear hT hlen
            have SN := HO.out.sl
            have ofN := SN.offN (Nat.le_refl wr.heap.size)
            go_upto_block 2 with fail
            have oc : Onto wr (wr.alloc (Obj.cells #[.int .i64 0, .int .i64 0, .int .i64 0, .int .i64 0, .int .i64 0] 23)) := (Onto.rfl' _).new _
            have BE : Bx (wr.alloc (Obj.cells #[.int .i64 0, .int .i64 0, .int .i64 0, .int .i64 0, .int .i64 0] 23)) wr.heap.size [.int .i64 0, .int .i64 0, .int .i64 0, .int .i64 0, .int .i64 0] := Bx.made _ _ _
            have hze : w1.heap.size ≤ wr.heap.size := hon.size
            replace BZ := BZ.onto oc; replace ow := ow.to oc; replace SN := S.onto SN oc; replace d0 := cellB oc d0
            try change Code.wp _ _ _ _ (wr.alloc (Obj.cells #[.int .i64 0, .int .i64 0, .int .i64 0, .int .i64 0, .int .i64 0] 23))
            generalize (wr.alloc (Obj.cells #[.int .i64 0, .int .i64 0, .int .i64 0, .int .i64 0, .int .i64 0] 23)) = w12 at *
            generalize wr.heap.size = ze at *
            obtain ⟨bn, on_, rfl, _, hcn⟩ := SN.2.2 (by omega)
            have n0 := hcn 0 0 _ _ rfl rfl; have n1 := hcn 1 0 _ _ rfl rfl; have n2 := hcn 2 0 _ _ rfl rfl
            simp only [Nat.zero_mul, Nat.one_mul, Nat.mul_one, Nat.add_zero] at n0 n1 n2
            clear hcn
            have hzE : z ≠ ze := by omega
            have hne : bn ≠ ze := ofN (by omega) _ rfl
            have g0 := BE.at_ 0 rfl; have g1 := BE.at_ 1 rfl; have g2 := BE.at_ 2 rfl; have g3 := BE.at_ 3 rfl; have g4 := BE.at_ 4 rfl
            have fz := fun o => BE.froz o
            go_cut [] (fun wx => Bx wx ze [.int .i64 1, .int .i64 a, .int .i64 b, .int .i64 c, .int .i64 0] ∧ Bx wx z [.int .i64 0, .int .i64 0, .int .i64 0, .int .i64 0, .int .i64 0] ∧ Onto w wx)
            case first =>
              go_upto_region 15 with fail
              go_region
              all_goals
                have X1 : Bx (World.setCells w12 ze 0 [.int .i64 1, .int .i64 a, .int .i64 b, .int .i64 c, .int .i64 0]).drew ze [.int .i64 1, .int .i64 a, .int .i64 b, .int .i64 c, .int .i64 0] := (BE.put (us := [.int .i64 1, .int .i64 a, .int .i64 b, .int .i64 c, .int .i64 0]) rfl).draw
                have X2 : Bx (World.setCells w12 ze 0 [.int .i64 1, .int .i64 a, .int .i64 b, .int .i64 c, .int .i64 0]).drew z [.int .i64 0, .int .i64 0, .int .i64 0, .int .i64 0, .int .i64 0] := (BZ.off (us := [.int .i64 1, .int .i64 a, .int .i64 b, .int .i64 c, .int .i64 0]) (o := 0) hzE).draw
                have X3 : Onto w (World.setCells w12 ze 0 [.int .i64 1, .int .i64 a, .int .i64 b, .int .i64 c, .int .i64 0]).drew := (Onto.puts (b := ze) (o := 0) (us := [.int .i64 1, .int .i64 a, .int .i64 b, .int .i64 c, .int .i64 0]) (by omega) ow).draw
                try change Exit.inBlock _ _ _ _ (World.setCells w12 ze 0 [.int .i64 1, .int .i64 a, .int .i64 b, .int .i64 c, .int .i64 0]).drew
                clear n0 n1 n2 g0 g1 g2 g3 g4 fz BE BZ ow SN d0 HO oc
                generalize (World.setCells w12 ze 0 [.int .i64 1, .int .i64 a, .int .i64 b, .int .i64 c, .int .i64 0]).drew = wX at *
                go_wp2_with fail
                go_meet
                exact ⟨X1, X2, X3⟩
            case rest =>
              obtain ⟨BE', BZ', ow'⟩ := hcut
              clear BE BZ ow g0 g1 g2 g3 g4 fz n0 n1 n2 d0 SN HO HL HLL oc
              have BE := BE'; have BZ := BZ'; have ow := ow'
              clear BE' BZ' ow'
              have hr := HRR.out
              clear HRR HR
              obtain ⟨q, hqq⟩ : ∃ q, q = checkE ⟨1, a, b, c, 0⟩ := ⟨_, rfl⟩
              rw [← hqq] at hr
              have HQ := Lib.hid hqq; have HRQ := Lib.hid hr
              clear hqq hr
              have b0 := BE.at_ 0 rfl; have b1 := BE.at_ 1 rfl; have b2 := BE.at_ 2 rfl; have b3 := BE.at_ 3 rfl; have b4 := BE.at_ 4 rfl
              go_wp2_with fail
              refine Calls.mono (RCE_calls 1 a b c 0 _) ?_
              rintro e w13 ⟨rfl, bq⟩
              rw [show checkE ⟨1, a, b, c, 0⟩ = q from HQ.out.symm]
              replace BZ := BZ.onto bq; replace ow := ow.to bq; replace BE := BE.onto bq
              clear bq b0 b1 b2 b3 b4
              by_cases hq0 : q = 0
              · have hr := HRQ.out
                rw [if_neg (by simp [hq0])] at hr
                subst hr
                have hq1 : (q == 0) = true := by simp [hq0]
                have hq2 : (q != 0) = false := by simp [hq0]
                have b0 := BE.at_ 0 rfl; have b1 := BE.at_ 1 rfl; have b2 := BE.at_ 2 rfl; have b3 := BE.at_ 3 rfl; have b4 := BE.at_ 4 rfl
                clear hq0 HRQ
                go_wp2_with (refine wpList_put BZ [.int .i64 1, .int .i64 a, .int .i64 b, .int .i64 c, .int .i64 0] 23 _ _ (by rfl) (by rfl) (by rfl) (by rfl) (by rfl) sizeE (by rfl) ?_)
                have hF := BZ.put (us := [.int .i64 1, .int .i64 a, .int .i64 b, .int .i64 c, .int .i64 0]) rfl
                have oF := Onto.puts (b := z) (o := 0) (us := [.int .i64 1, .int .i64 a, .int .i64 b, .int .i64 c, .int .i64 0]) (by omega) ow
                generalize World.setCells _ z 0 [.int .i64 1, .int .i64 a, .int .i64 b, .int .i64 c, .int .i64 0] = wF at hF oF ⊢
                go_wp2_with fail
                have p0 := hF.at_ 0 rfl; have p1 := hF.at_ 1 rfl; have p2 := hF.at_ 2 rfl; have p3 := hF.at_ 3 rfl; have p4 := hF.at_ 4 rfl
                refine bodyPost_ret (v := .tuple #[.agg #[.int .i64 1, .int .i64 a, .int .i64 b, .int .i64 c, .int .i64 0], .int .i64 0]) (by simp [results, Tryd.results18, go_sem, p0, p1, p2, p3, p4]) rfl ⟨rfl, oF⟩
              · have hr := HRQ.out
                rw [if_pos hq0] at hr
                subst hr
                have hq1 : (q == 0) = false := by simp [hq0]
                have hq2 : (q != 0) = true := by simp [hq0]
                clear hq0 BE HRQ
                go_wp2_with (refine wpList_put BZ [.int .i64 0, .int .i64 0, .int .i64 0, .int .i64 0, .int .i64 0] 23 _ _ (by rfl) (by rfl) (by rfl) (by rfl) (by rfl) sizeE (by rfl) ?_)
                have hF := BZ.put (us := [.int .i64 0, .int .i64 0, .int .i64 0, .int .i64 0, .int .i64 0]) rfl
                have oF := Onto.puts (b := z) (o := 0) (us := [.int .i64 0, .int .i64 0, .int .i64 0, .int .i64 0, .int .i64 0]) (by omega) ow
                generalize World.setCells _ z 0 [.int .i64 0, .int .i64 0, .int .i64 0, .int .i64 0, .int .i64 0] = wF at hF oF ⊢
                go_wp2_with fail
                have p0 := hF.at_ 0 rfl; have p1 := hF.at_ 1 rfl; have p2 := hF.at_ 2 rfl; have p3 := hF.at_ 3 rfl; have p4 := hF.at_ 4 rfl
                refine bodyPost_ret (v := .tuple #[.agg #[.int .i64 0, .int .i64 0, .int .i64 0, .int .i64 0, .int .i64 0], .int .i64 q]) (by simp [results, Tryd.results18, go_sem, p0, p1, p2, p3, p4]) rfl ⟨rfl, oF⟩
          · have hr : r = (zeroE, 1) := by rw [HR.out]; unfold readWs; rw [List.headD_cons, show kindW [112, 117, 116] = some (1, 3) from rfl]; dsimp only; rw [List.tail_cons, if_pos hlen]
            have hl1 : ((ts.length : Int) == 3) = false := by rw [beq_eq_false_iff_ne]; omega
            have hl2 : ¬ (ts.length : Int) = 3 := by omega
            clear HR HL HLL hlen
            subst hr
            have oc : Onto wr (wr.alloc (Obj.cells #[.int .i64 0, .int .i64 0, .int .i64 0, .int .i64 0, .int .i64 0] 23)) := (Onto.rfl' _).new _
            replace d0 := cellB oc d0
            replace BZ := BZ.onto oc; replace ow := ow.to oc
            go_wp2_with (refine wpList_put BZ [.int .i64 0, .int .i64 0, .int .i64 0, .int .i64 0, .int .i64 0] 23 _ _ (by rfl) (by rfl) (by rfl) (by rfl) (by rfl) sizeE (by rfl) ?_)
            have hF := BZ.put (us := [.int .i64 0, .int .i64 0, .int .i64 0, .int .i64 0, .int .i64 0]) rfl
            have oF := Onto.puts (b := z) (o := 0) (us := [.int .i64 0, .int .i64 0, .int .i64 0, .int .i64 0, .int .i64 0]) (by omega) ow
            generalize World.setCells _ z 0 [.int .i64 0, .int .i64 0, .int .i64 0, .int .i64 0, .int .i64 0] = wF at hF oF ⊢
            go_wp2_with fail
            have p0 := hF.at_ 0 rfl; have p1 := hF.at_ 1 rfl; have p2 := hF.at_ 2 rfl; have p3 := hF.at_ 3 rfl; have p4 := hF.at_ 4 rfl
            refine bodyPost_ret (v := .tuple #[.agg #[.int .i64 0, .int .i64 0, .int .i64 0, .int .i64 0, .int .i64 0], .int .i64 1]) (by simp [results, Tryd.results18, go_sem, p0, p1, p2, p3, p4]) rfl ⟨rfl, oF⟩
        · have hput : (y == [112, 117, 116]) = false := by rw [beq_eq_false_iff_ne]; exact hyput
          by_cases hydrop : y = [100, 114, 111, 112]
          · subst hydrop
            by_cases hlen : ts.length = 1
            · have hT : ts.length = 1 := hlen
              have hll : l.length = 1 := by rw [HLL.out, hT]
              obtain ⟨a, rfl⟩ : ∃ a, l = [a] := by match l, hll with | [a], _ => exact ⟨a, rfl⟩
              have hr : r = if checkE ⟨2, a, 0, 0, 0⟩ ≠ 0 then (zeroE, checkE ⟨2, a, 0, 0, 0⟩) else (⟨2, a, 0, 0, 0⟩, 0) := by
                rw [HR.out]; unfold readWs; rw [List.headD_cons, show kindW [100, 114, 111, 112] = some (2, 1) from rfl]; dsimp only; rw [List.tail_cons, if_neg (by simp [hT]), HL.out]; rfl
              have HRR := Lib.hid hr
              clear hr hll
              rw [hT] at *
              clear hT hlen
              have SN := HO.out.sl
              have ofN := SN.offN (Nat.le_refl wr.heap.size)
              go_upto_block 2 with fail
              have oc : Onto wr (wr.alloc (Obj.cells #[.int .i64 0, .int .i64 0, .int .i64 0, .int .i64 0, .int .i64 0] 23)) := (Onto.rfl' _).new _
              have BE : Bx (wr.alloc (Obj.cells #[.int .i64 0, .int .i64 0, .int .i64 0, .int .i64 0, .int .i64 0] 23)) wr.heap.size [.int .i64 0, .int .i64 0, .int .i64 0, .int .i64 0, .int .i64 0] := Bx.made _ _ _
              have hze : w1.heap.size ≤ wr.heap.size := hon.size
              replace BZ := BZ.onto oc; replace ow := ow.to oc; replace SN := S.onto SN oc; replace d0 := cellB oc d0
              try change Code.wp _ _ _ _ (wr.alloc (Obj.cells #[.int .i64 0, .int .i64 0, .int .i64 0, .int .i64 0, .int .i64 0] 23))
              generalize (wr.alloc (Obj.cells #[.int .i64 0, .int .i64 0, .int .i64 0, .int .i64 0, .int .i64 0] 23)) = w12 at *
              generalize wr.heap.size = ze at *
              obtain ⟨bn, on_, rfl, _, hcn⟩ := SN.2.2 (by omega)
              have n0 := hcn 0 0 _ _ rfl rfl
              simp only [Nat.zero_mul, Nat.add_zero] at n0
              clear hcn
              go_upto_region 20 with (refine wpList_put BE [.int .i64 2, .int .i64 a, .int .i64 0, .int .i64 0, .int .i64 0] 23 _ _ (by rfl) (by rfl) (by rfl) (by rfl) (by rfl) sizeE (by rfl) ?_)
              have hzE : z ≠ ze := by omega
              have BE' := BE.put (us := [.int .i64 2, .int .i64 a, .int .i64 0, .int .i64 0, .int .i64 0]) rfl
              have BZ' : Bx (World.setCells w12 ze 0 [.int .i64 2, .int .i64 a, .int .i64 0, .int .i64 0, .int .i64 0]) z [.int .i64 0, .int .i64 0, .int .i64 0, .int .i64 0, .int .i64 0] := BZ.off hzE
              have ow' := Onto.puts (b := ze) (o := 0) (us := [.int .i64 2, .int .i64 a, .int .i64 0, .int .i64 0, .int .i64 0]) (by omega) ow
              clear d0 SN HO HL HLL BE BZ ow n0 oc
              have BE := BE'; have BZ := BZ'; have ow := ow'
              clear BE' BZ' ow'
              generalize World.setCells w12 ze 0 [.int .i64 2, .int .i64 a, .int .i64 0, .int .i64 0, .int .i64 0] = w13' at *
              have hr := HRR.out
              clear HRR HR
              obtain ⟨q, hqq⟩ : ∃ q, q = checkE ⟨2, a, 0, 0, 0⟩ := ⟨_, rfl⟩
              rw [← hqq] at hr
              have HQ := Lib.hid hqq; have HRQ := Lib.hid hr
              clear hqq hr
              have b0 := BE.at_ 0 rfl; have b1 := BE.at_ 1 rfl; have b2 := BE.at_ 2 rfl; have b3 := BE.at_ 3 rfl; have b4 := BE.at_ 4 rfl
              go_wp2_with fail
              refine Calls.mono (RCE_calls 2 a 0 0 0 _) ?_
              rintro e w13 ⟨rfl, bq⟩
              rw [show checkE ⟨2, a, 0, 0, 0⟩ = q from HQ.out.symm]
              replace BZ := BZ.onto bq; replace ow := ow.to bq; replace BE := BE.onto bq
              clear bq b0 b1 b2 b3 b4
              by_cases hq0 : q = 0
              · have hr := HRQ.out
                rw [if_neg (by simp [hq0])] at hr
                subst hr
                have hq1 : (q == 0) = true := by simp [hq0]
                have hq2 : (q != 0) = false := by simp [hq0]
                have b0 := BE.at_ 0 rfl; have b1 := BE.at_ 1 rfl; have b2 := BE.at_ 2 rfl; have b3 := BE.at_ 3 rfl; have b4 := BE.at_ 4 rfl
                clear hq0 HRQ
                go_wp2_with (refine wpList_put BZ [.int .i64 2, .int .i64 a, .int .i64 0, .int .i64 0, .int .i64 0] 23 _ _ (by rfl) (by rfl) (by rfl) (by rfl) (by rfl) sizeE (by rfl) ?_)
                have hF := BZ.put (us := [.int .i64 2, .int .i64 a, .int .i64 0, .int .i64 0, .int .i64 0]) rfl
                have oF := Onto.puts (b := z) (o := 0) (us := [.int .i64 2, .int .i64 a, .int .i64 0, .int .i64 0, .int .i64 0]) (by omega) ow
                generalize World.setCells _ z 0 [.int .i64 2, .int .i64 a, .int .i64 0, .int .i64 0, .int .i64 0] = wF at hF oF ⊢
                go_wp2_with fail
                have p0 := hF.at_ 0 rfl; have p1 := hF.at_ 1 rfl; have p2 := hF.at_ 2 rfl; have p3 := hF.at_ 3 rfl; have p4 := hF.at_ 4 rfl
                refine bodyPost_ret (v := .tuple #[.agg #[.int .i64 2, .int .i64 a, .int .i64 0, .int .i64 0, .int .i64 0], .int .i64 0]) (by simp [results, Tryd.results18, go_sem, p0, p1, p2, p3, p4]) rfl ⟨rfl, oF⟩
              · have hr := HRQ.out
                rw [if_pos hq0] at hr
                subst hr
                have hq1 : (q == 0) = false := by simp [hq0]
                have hq2 : (q != 0) = true := by simp [hq0]
                clear hq0 BE HRQ
                go_wp2_with (refine wpList_put BZ [.int .i64 0, .int .i64 0, .int .i64 0, .int .i64 0, .int .i64 0] 23 _ _ (by rfl) (by rfl) (by rfl) (by rfl) (by rfl) sizeE (by rfl) ?_)
                have hF := BZ.put (us := [.int .i64 0, .int .i64 0, .int .i64 0, .int .i64 0, .int .i64 0]) rfl
                have oF := Onto.puts (b := z) (o := 0) (us := [.int .i64 0, .int .i64 0, .int .i64 0, .int .i64 0, .int .i64 0]) (by omega) ow
                generalize World.setCells _ z 0 [.int .i64 0, .int .i64 0, .int .i64 0, .int .i64 0, .int .i64 0] = wF at hF oF ⊢
                go_wp2_with fail
                have p0 := hF.at_ 0 rfl; have p1 := hF.at_ 1 rfl; have p2 := hF.at_ 2 rfl; have p3 := hF.at_ 3 rfl; have p4 := hF.at_ 4 rfl
                refine bodyPost_ret (v := .tuple #[.agg #[.int .i64 0, .int .i64 0, .int .i64 0, .int .i64 0, .int .i64 0], .int .i64 q]) (by simp [results, Tryd.results18, go_sem, p0, p1, p2, p3, p4]) rfl ⟨rfl, oF⟩
            · have hr : r = (zeroE, 1) := by rw [HR.out]; unfold readWs; rw [List.headD_cons, show kindW [100, 114, 111, 112] = some (2, 1) from rfl]; dsimp only; rw [List.tail_cons, if_pos hlen]
              have hl1 : ((ts.length : Int) == 1) = false := by rw [beq_eq_false_iff_ne]; omega
              have hl2 : ¬ (ts.length : Int) = 1 := by omega
              clear HR HL HLL hlen
              subst hr
              have oc : Onto wr (wr.alloc (Obj.cells #[.int .i64 0, .int .i64 0, .int .i64 0, .int .i64 0, .int .i64 0] 23)) := (Onto.rfl' _).new _
              replace d0 := cellB oc d0
              replace BZ := BZ.onto oc; replace ow := ow.to oc
              go_wp2_with (refine wpList_put BZ [.int .i64 0, .int .i64 0, .int .i64 0, .int .i64 0, .int .i64 0] 23 _ _ (by rfl) (by rfl) (by rfl) (by rfl) (by rfl) sizeE (by rfl) ?_)
              have hF := BZ.put (us := [.int .i64 0, .int .i64 0, .int .i64 0, .int .i64 0, .int .i64 0]) rfl
              have oF := Onto.puts (b := z) (o := 0) (us := [.int .i64 0, .int .i64 0, .int .i64 0, .int .i64 0, .int .i64 0]) (by omega) ow
              generalize World.setCells _ z 0 [.int .i64 0, .int .i64 0, .int .i64 0, .int .i64 0, .int .i64 0] = wF at hF oF ⊢
              go_wp2_with fail
              have p0 := hF.at_ 0 rfl; have p1 := hF.at_ 1 rfl; have p2 := hF.at_ 2 rfl; have p3 := hF.at_ 3 rfl; have p4 := hF.at_ 4 rfl
              refine bodyPost_ret (v := .tuple #[.agg #[.int .i64 0, .int .i64 0, .int .i64 0, .int .i64 0, .int .i64 0], .int .i64 1]) (by simp [results, Tryd.results18, go_sem, p0, p1, p2, p3, p4]) rfl ⟨rfl, oF⟩
          · have hdrop : (y == [100, 114, 111, 112]) = false := by rw [beq_eq_false_iff_ne]; exact hydrop
            by_cases hyring : y = [114, 105, 110, 103]
            · subst hyring
              by_cases hlen : ts.length = 3
              · have hT : ts.length = 3 := hlen
                have hll : l.length = 3 := by rw [HLL.out, hT]
                obtain ⟨a, b, c, rfl⟩ : ∃ a b c, l = [a, b, c] := by match l, hll with | [a, b, c], _ => exact ⟨a, b, c, rfl⟩
                have hr : r = if checkE ⟨3, a, 0, b, c⟩ ≠ 0 then (zeroE, checkE ⟨3, a, 0, b, c⟩) else (⟨3, a, 0, b, c⟩, 0) := by
                  rw [HR.out]; unfold readWs; rw [List.headD_cons, show kindW [114, 105, 110, 103] = some (3, 3) from rfl]; dsimp only; rw [List.tail_cons, if_neg (by simp [hT]), HL.out]; rfl
                have HRR := Lib.hid hr
                clear hr hll
                rw [hT] at *
                clear hT hlen
                have SN := HO.out.sl
                have ofN := SN.offN (Nat.le_refl wr.heap.size)
                go_upto_block 2 with fail
                have oc : Onto wr (wr.alloc (Obj.cells #[.int .i64 0, .int .i64 0, .int .i64 0, .int .i64 0, .int .i64 0] 23)) := (Onto.rfl' _).new _
                have BE : Bx (wr.alloc (Obj.cells #[.int .i64 0, .int .i64 0, .int .i64 0, .int .i64 0, .int .i64 0] 23)) wr.heap.size [.int .i64 0, .int .i64 0, .int .i64 0, .int .i64 0, .int .i64 0] := Bx.made _ _ _
                have hze : w1.heap.size ≤ wr.heap.size := hon.size
                replace BZ := BZ.onto oc; replace ow := ow.to oc; replace SN := S.onto SN oc; replace d0 := cellB oc d0
                try change Code.wp _ _ _ _ (wr.alloc (Obj.cells #[.int .i64 0, .int .i64 0, .int .i64 0, .int .i64 0, .int .i64 0] 23))
                generalize (wr.alloc (Obj.cells #[.int .i64 0, .int .i64 0, .int .i64 0, .int .i64 0, .int .i64 0] 23)) = w12 at *
                generalize wr.heap.size = ze at *
                obtain ⟨bn, on_, rfl, _, hcn⟩ := SN.2.2 (by omega)
                have n0 := hcn 0 0 _ _ rfl rfl; have n1 := hcn 1 0 _ _ rfl rfl; have n2 := hcn 2 0 _ _ rfl rfl
                simp only [Nat.zero_mul, Nat.one_mul, Nat.mul_one, Nat.add_zero] at n0 n1 n2
                clear hcn
                have hzE : z ≠ ze := by omega
                have hne : bn ≠ ze := ofN (by omega) _ rfl
                have g0 := BE.at_ 0 rfl; have g1 := BE.at_ 1 rfl; have g2 := BE.at_ 2 rfl; have g3 := BE.at_ 3 rfl; have g4 := BE.at_ 4 rfl
                have fz := fun o => BE.froz o
                go_cut [] (fun wx => Bx wx ze [.int .i64 3, .int .i64 a, .int .i64 0, .int .i64 b, .int .i64 c] ∧ Bx wx z [.int .i64 0, .int .i64 0, .int .i64 0, .int .i64 0, .int .i64 0] ∧ Onto w wx)
                case first =>
                  go_upto_region 19 with fail
                  go_region
                  all_goals
                    have X1 : Bx (World.setCells w12 ze 0 [.int .i64 3, .int .i64 a, .int .i64 0, .int .i64 b, .int .i64 c]).drew ze [.int .i64 3, .int .i64 a, .int .i64 0, .int .i64 b, .int .i64 c] := (BE.put (us := [.int .i64 3, .int .i64 a, .int .i64 0, .int .i64 b, .int .i64 c]) rfl).draw
                    have X2 : Bx (World.setCells w12 ze 0 [.int .i64 3, .int .i64 a, .int .i64 0, .int .i64 b, .int .i64 c]).drew z [.int .i64 0, .int .i64 0, .int .i64 0, .int .i64 0, .int .i64 0] := (BZ.off (us := [.int .i64 3, .int .i64 a, .int .i64 0, .int .i64 b, .int .i64 c]) (o := 0) hzE).draw
                    have X3 : Onto w (World.setCells w12 ze 0 [.int .i64 3, .int .i64 a, .int .i64 0, .int .i64 b, .int .i64 c]).drew := (Onto.puts (b := ze) (o := 0) (us := [.int .i64 3, .int .i64 a, .int .i64 0, .int .i64 b, .int .i64 c]) (by omega) ow).draw
                    try change Exit.inBlock _ _ _ _ (World.setCells w12 ze 0 [.int .i64 3, .int .i64 a, .int .i64 0, .int .i64 b, .int .i64 c]).drew
                    clear n0 n1 n2 g0 g1 g2 g3 g4 fz BE BZ ow SN d0 HO oc
                    generalize (World.setCells w12 ze 0 [.int .i64 3, .int .i64 a, .int .i64 0, .int .i64 b, .int .i64 c]).drew = wX at *
                    go_wp2_with fail
                    go_meet
                    exact ⟨X1, X2, X3⟩
                case rest =>
                  obtain ⟨BE', BZ', ow'⟩ := hcut
                  clear BE BZ ow g0 g1 g2 g3 g4 fz n0 n1 n2 d0 SN HO HL HLL oc
                  have BE := BE'; have BZ := BZ'; have ow := ow'
                  clear BE' BZ' ow'
                  have hr := HRR.out
                  clear HRR HR
                  obtain ⟨q, hqq⟩ : ∃ q, q = checkE ⟨3, a, 0, b, c⟩ := ⟨_, rfl⟩
                  rw [← hqq] at hr
                  have HQ := Lib.hid hqq; have HRQ := Lib.hid hr
                  clear hqq hr
                  have b0 := BE.at_ 0 rfl; have b1 := BE.at_ 1 rfl; have b2 := BE.at_ 2 rfl; have b3 := BE.at_ 3 rfl; have b4 := BE.at_ 4 rfl
                  go_wp2_with fail
                  refine Calls.mono (RCE_calls 3 a 0 b c _) ?_
                  rintro e w13 ⟨rfl, bq⟩
                  rw [show checkE ⟨3, a, 0, b, c⟩ = q from HQ.out.symm]
                  replace BZ := BZ.onto bq; replace ow := ow.to bq; replace BE := BE.onto bq
                  clear bq b0 b1 b2 b3 b4
                  by_cases hq0 : q = 0
                  · have hr := HRQ.out
                    rw [if_neg (by simp [hq0])] at hr
                    subst hr
                    have hq1 : (q == 0) = true := by simp [hq0]
                    have hq2 : (q != 0) = false := by simp [hq0]
                    have b0 := BE.at_ 0 rfl; have b1 := BE.at_ 1 rfl; have b2 := BE.at_ 2 rfl; have b3 := BE.at_ 3 rfl; have b4 := BE.at_ 4 rfl
                    clear hq0 HRQ
                    go_wp2_with (refine wpList_put BZ [.int .i64 3, .int .i64 a, .int .i64 0, .int .i64 b, .int .i64 c] 23 _ _ (by rfl) (by rfl) (by rfl) (by rfl) (by rfl) sizeE (by rfl) ?_)
                    have hF := BZ.put (us := [.int .i64 3, .int .i64 a, .int .i64 0, .int .i64 b, .int .i64 c]) rfl
                    have oF := Onto.puts (b := z) (o := 0) (us := [.int .i64 3, .int .i64 a, .int .i64 0, .int .i64 b, .int .i64 c]) (by omega) ow
                    generalize World.setCells _ z 0 [.int .i64 3, .int .i64 a, .int .i64 0, .int .i64 b, .int .i64 c] = wF at hF oF ⊢
                    go_wp2_with fail
                    have p0 := hF.at_ 0 rfl; have p1 := hF.at_ 1 rfl; have p2 := hF.at_ 2 rfl; have p3 := hF.at_ 3 rfl; have p4 := hF.at_ 4 rfl
                    refine bodyPost_ret (v := .tuple #[.agg #[.int .i64 3, .int .i64 a, .int .i64 0, .int .i64 b, .int .i64 c], .int .i64 0]) (by simp [results, Tryd.results18, go_sem, p0, p1, p2, p3, p4]) rfl ⟨rfl, oF⟩
                  · have hr := HRQ.out
                    rw [if_pos hq0] at hr
                    subst hr
                    have hq1 : (q == 0) = false := by simp [hq0]
                    have hq2 : (q != 0) = true := by simp [hq0]
                    clear hq0 BE HRQ
                    go_wp2_with (refine wpList_put BZ [.int .i64 0, .int .i64 0, .int .i64 0, .int .i64 0, .int .i64 0] 23 _ _ (by rfl) (by rfl) (by rfl) (by rfl) (by rfl) sizeE (by rfl) ?_)
                    have hF := BZ.put (us := [.int .i64 0, .int .i64 0, .int .i64 0, .int .i64 0, .int .i64 0]) rfl
                    have oF := Onto.puts (b := z) (o := 0) (us := [.int .i64 0, .int .i64 0, .int .i64 0, .int .i64 0, .int .i64 0]) (by omega) ow
                    generalize World.setCells _ z 0 [.int .i64 0, .int .i64 0, .int .i64 0, .int .i64 0, .int .i64 0] = wF at hF oF ⊢
                    go_wp2_with fail
                    have p0 := hF.at_ 0 rfl; have p1 := hF.at_ 1 rfl; have p2 := hF.at_ 2 rfl; have p3 := hF.at_ 3 rfl; have p4 := hF.at_ 4 rfl
                    refine bodyPost_ret (v := .tuple #[.agg #[.int .i64 0, .int .i64 0, .int .i64 0, .int .i64 0, .int .i64 0], .int .i64 q]) (by simp [results, Tryd.results18, go_sem, p0, p1, p2, p3, p4]) rfl ⟨rfl, oF⟩
              · have hr : r = (zeroE, 1) := by rw [HR.out]; unfold readWs; rw [List.headD_cons, show kindW [114, 105, 110, 103] = some (3, 3) from rfl]; dsimp only; rw [List.tail_cons, if_pos hlen]
                have hl1 : ((ts.length : Int) == 3) = false := by rw [beq_eq_false_iff_ne]; omega
                have hl2 : ¬ (ts.length : Int) = 3 := by omega
                clear HR HL HLL hlen
                subst hr
                have oc : Onto wr (wr.alloc (Obj.cells #[.int .i64 0, .int .i64 0, .int .i64 0, .int .i64 0, .int .i64 0] 23)) := (Onto.rfl' _).new _
                replace d0 := cellB oc d0
                replace BZ := BZ.onto oc; replace ow := ow.to oc
                go_wp2_with (refine wpList_put BZ [.int .i64 0, .int .i64 0, .int .i64 0, .int .i64 0, .int .i64 0] 23 _ _ (by rfl) (by rfl) (by rfl) (by rfl) (by rfl) sizeE (by rfl) ?_)
                have hF := BZ.put (us := [.int .i64 0, .int .i64 0, .int .i64 0, .int .i64 0, .int .i64 0]) rfl
                have oF := Onto.puts (b := z) (o := 0) (us := [.int .i64 0, .int .i64 0, .int .i64 0, .int .i64 0, .int .i64 0]) (by omega) ow
                generalize World.setCells _ z 0 [.int .i64 0, .int .i64 0, .int .i64 0, .int .i64 0, .int .i64 0] = wF at hF oF ⊢
                go_wp2_with fail
                have p0 := hF.at_ 0 rfl; have p1 := hF.at_ 1 rfl; have p2 := hF.at_ 2 rfl; have p3 := hF.at_ 3 rfl; have p4 := hF.at_ 4 rfl
                refine bodyPost_ret (v := .tuple #[.agg #[.int .i64 0, .int .i64 0, .int .i64 0, .int .i64 0, .int .i64 0], .int .i64 1]) (by simp [results, Tryd.results18, go_sem, p0, p1, p2, p3, p4]) rfl ⟨rfl, oF⟩
            · have hring : (y == [114, 105, 110, 103]) = false := by rw [beq_eq_false_iff_ne]; exact hyring
              have hr : r = (zeroE, 1) := by rw [HR.out]; unfold readWs; rw [List.headD_cons, kindN hjunk hput hdrop hring]
              clear hyjunk hyput hydrop hyring HR HL HLL
              subst hr
              have oc : Onto wr (wr.alloc (Obj.cells #[.int .i64 0, .int .i64 0, .int .i64 0, .int .i64 0, .int .i64 0] 23)) := (Onto.rfl' _).new _
              replace d0 := cellB oc d0
              replace BZ := BZ.onto oc; replace ow := ow.to oc
              go_wp2_with (refine wpList_put BZ [.int .i64 0, .int .i64 0, .int .i64 0, .int .i64 0, .int .i64 0] 23 _ _ (by rfl) (by rfl) (by rfl) (by rfl) (by rfl) sizeE (by rfl) ?_)
              have hF := BZ.put (us := [.int .i64 0, .int .i64 0, .int .i64 0, .int .i64 0, .int .i64 0]) rfl
              have oF := Onto.puts (b := z) (o := 0) (us := [.int .i64 0, .int .i64 0, .int .i64 0, .int .i64 0, .int .i64 0]) (by omega) ow
              generalize World.setCells _ z 0 [.int .i64 0, .int .i64 0, .int .i64 0, .int .i64 0, .int .i64 0] = wF at hF oF ⊢
              go_wp2_with fail
              have p0 := hF.at_ 0 rfl; have p1 := hF.at_ 1 rfl; have p2 := hF.at_ 2 rfl; have p3 := hF.at_ 3 rfl; have p4 := hF.at_ 4 rfl
              refine bodyPost_ret (v := .tuple #[.agg #[.int .i64 0, .int .i64 0, .int .i64 0, .int .i64 0, .int .i64 0], .int .i64 1]) (by simp [results, Tryd.results18, go_sem, p0, p1, p2, p3, p4]) rfl ⟨rfl, oF⟩
end
section
set_option linter.unusedSimpArgs false
set_option linter.unusedVariables false
open Go.RowKit

set_option maxHeartbeats 4000000 in
theorem RCR_calls (k a ep : Int) (x : Entry) (w : World) :
    Calls Tryd.prog 68 #[.agg #[.int .i64 k, .int .i64 a, .int .i64 ep, .int .i64 x.kind, .int .i64 x.job, .int .i64 x.every, .int .i64 x.time, .int .i64 x.client]] w fun e w' => e = .returned (.int .i64 (checkR ⟨k, a, ep, x⟩)) ∧ Onto w w' := by
  obtain ⟨r, hr⟩ : ∃ r, r = checkR ⟨k, a, ep, x⟩ := ⟨_, rfl⟩
  rw [← hr]
  unfold checkR at hr
  simp only [ne_eq, entry_eq_iff, zeroE] at hr
  go_enter Tryd.func68, Tryd.ntmps68
  have hne := neqE
  have HR := Lib.hid hr
  clear hr
  go_wp2_with (first
    | (go_at_call 58; refine Calls.mono (in_calls _ _ _ _) ?_; rintro e w' ⟨rfl, rfl⟩)
    | (go_at_call 15; refine Calls.mono (RCE_calls x.kind x.job x.every x.time x.client _) ?_; rintro e w2 ⟨rfl, hb2⟩))
  all_goals
    go_ret
    refine ⟨ret_int ?_, ?_⟩
    · rw [HR.out]
      clear HR hne
      (try simp only [beq_iff_eq, beq_eq_false_iff_ne, bne_iff_ne, bne_eq_false_iff_eq, ne_eq, Bool.and_eq_true, Bool.and_eq_false_iff, Bool.not_eq_true', Bool.not_eq_false', Bool.or_eq_true, Bool.or_eq_false_iff, decide_eq_true_eq, decide_eq_false_iff_not] at *)
      (repeat' split) <;> first | rfl | omega
    · repeat (first | exact Below.refl _ _ | exact Onto.to (by repeat (first | exact Below.refl _ _ | refine Below.alloc ?_ (by simp <;> omega) _)) hb2 | refine below_drewN ?_ _ | refine Below.alloc ?_ (by simp <;> omega) _)
end
end Go.Proofs.YtdcegdonppfbkaaDoor
