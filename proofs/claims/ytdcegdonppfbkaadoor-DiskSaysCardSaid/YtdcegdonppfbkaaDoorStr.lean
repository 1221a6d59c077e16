/- Contracts of strings and strconv, out of the shelf's, in this program's own words: texts as lists of bytes. -/
import Derived.Test.YtdcegdonppfbkaaDoorShelf
import Derived.Test.YtdcegdonppfbkaaDoorEnv
import Derived.Test.YtdcegdonppfbkaaDoorText3
import Derived.Lib.ParseIntBTie
namespace Go.Proofs.YtdcegdonppfbkaaDoor
set_option linter.unusedSimpArgs false
set_option linter.unusedVariables false
open Go.RowKit

/-- A text as a value. -/
abbrev str (l : List UInt8) : Value := .string ⟨l.toArray⟩
def encS (l : List UInt8) : List Value := [str l]
theorem str_of (s : ByteArray) : s = ⟨s.data.toList.toArray⟩ := by cases s; simp
theorem str_inj {a b : List UInt8} : (⟨a.toArray⟩ : ByteArray) = ⟨b.toArray⟩ ↔ a = b := by
  constructor
  · intro h
    have := congrArg (fun x : ByteArray => x.data.toList) h
    simpa using this
  · rintro rfl; rfl
theorem str_size (l : List UInt8) : (⟨l.toArray⟩ : ByteArray).size = l.length := rfl

theorem Itoa_calls (n : Int) (h0 : -9223372036854775808 ≤ n) (h1 : n ≤ 9223372036854775807) (w : World) (E : Env w) :
    Calls Tryd.prog 54 #[.int .i64 n] w fun e w' => e = .returned (str (Lib.itoa n)) ∧ Onto w w' :=
  (Any.strconv_Itoa Tryd.laysM171 n h0 h1 w E.tab).mono fun e w' ⟨he, k, os, hw⟩ => ⟨he, hw ▸ onto_grow w k os⟩
theorem num_case (t : List UInt8) : (∃ v, Lib.atoiAll t = .ok v ∧ num t = (if Lib.itoa v = t then some v else none) ∧ -9223372036854775808 ≤ v ∧ v ≤ 9223372036854775807) ∨ ((∀ v, Lib.atoiAll t ≠ .ok v) ∧ num t = none) := by
  unfold num
  cases h : Lib.atoiAll t with
  | ok v => exact .inl ⟨v, rfl, rfl, Lib.atoiAll_bounds h⟩
  | _ => exact .inr ⟨by simp, rfl⟩
theorem Atoi_calls (s : List UInt8) (hs : s.length ≤ 281474976710656) (w : World) (E : Env w) :
    Calls Tryd.prog 57 #[str s] w fun e w' => ∃ v er, e = .returned (.tuple #[.int .i64 v, er]) ∧ Onto w w' ∧
      ((er = .nilIface ∧ Lib.atoiAll s = .ok v ∧ -9223372036854775808 ≤ v ∧ v ≤ 9223372036854775807) ∨ ((∃ t p, er = .iface t p) ∧ ∀ v, Lib.atoiAll s ≠ .ok v)) := by
  obtain ⟨t1, p1, c1⟩ := E.syn
  obtain ⟨t2, p2, c2⟩ := E.rng
  cases h : Lib.atoiAll s with
  | ok v =>
    refine (Any.strconv_Atoi_ok Tryd.laysC172 ⟨s.toArray⟩ (by rw [str_size]; omega) v (by simpa using h) w).mono ?_
    rintro e w' ⟨rfl, hw⟩
    refine ⟨v, _, rfl, ?_, .inl ⟨rfl, rfl, Lib.atoiAll_bounds h⟩⟩
    rcases hw with rfl | ⟨t, rfl⟩
    · exact Onto.rfl' _
    · exact Lib.bytesWorld_below _ _ _
  | range =>
    refine (Any.strconv_Atoi_range Tryd.laysC172 ⟨s.toArray⟩ (by rw [str_size]; omega) (by simpa using h) _ w c2 (.inr ⟨_, _, rfl⟩)).mono ?_
    rintro e w' ⟨N, rfl, _, _, hw⟩
    exact ⟨_, _, rfl, hw, .inr ⟨⟨_, _, rfl⟩, by simp⟩⟩
  | _ =>
    refine (Any.strconv_Atoi_syntax Tryd.laysC172 ⟨s.toArray⟩ (by rw [str_size]; omega) (by simpa using h) _ w c1 (.inr ⟨_, _, rfl⟩)).mono ?_
    rintro e w' ⟨N, rfl, _, _, hw⟩
    exact ⟨_, _, rfl, hw, .inr ⟨⟨_, _, rfl⟩, by simp⟩⟩
theorem cutc_len (c : UInt8) : ∀ s : List UInt8, (cutc c s).length = s.count c + 1
  | [] => rfl
  | b :: l => by
    have ih := cutc_len c l
    have hne := cutc_ne c l
    rw [cutc]
    split
    · rename_i h; subst h; rw [List.length_cons, ih, List.count_cons_self]
    · rename_i h
      rw [List.length_cons, List.length_tail, ih, List.count_cons_of_ne (Ne.symm (Ne.symm h))]
      omega
theorem count_b (c : UInt8) (s : List UInt8) : Lib.countB ⟨s.toArray⟩ ⟨#[c]⟩ + 1 = (cutc c s).length := by
  rw [cutc_len]
  show Lib.count _ _ + 1 = _
  have := Lib.count_one c s
  simpa using this
theorem pieces_b (c : UInt8) (s : List UInt8) : (Lib.splitB ⟨#[c]⟩ 0 (Lib.countB ⟨s.toArray⟩ ⟨#[c]⟩) ⟨s.toArray⟩).map Value.string = (cutc c s).map str := by
  have h := Lib.splitB_data ⟨#[c]⟩ 0 (Lib.countB ⟨s.toArray⟩ ⟨#[c]⟩) ⟨s.toArray⟩
  have e : Lib.splitK (⟨#[c]⟩ : ByteArray).data.toList 0 (Lib.countB ⟨s.toArray⟩ ⟨#[c]⟩) (⟨s.toArray⟩ : ByteArray).data.toList = cutc c s := by
    rw [← split_one]
    unfold Lib.split
    rfl
  rw [e] at h
  rw [← h, List.map_map]
  apply List.map_congr_left
  intro x _
  show Value.string x = str x.data.toList
  rw [str, ← str_of]
theorem Split_calls (c : UInt8) (s : List UInt8) (hs : s.length ≤ 4000000000) (w : World) (E : Env w) :
    Calls Tryd.prog 56 #[str s, str [c]] w fun e w' => ∃ A, e = .returned (.slice A (cutc c s).length (cutc c s).length) ∧ S w' 1 A (cutc c s).length ((cutc c s).map encS) ∧ Onto w w' := by
  obtain ⟨m, hm⟩ := E.big
  refine (Any.strings_Split Tryd.lays146 (by kernel_rfl) ⟨s.toArray⟩ ⟨#[c]⟩ m w (by rw [str_size]; omega) hm (Nat.le_refl 1)).mono ?_
  rintro e w' ⟨rfl, rfl⟩
  rw [count_b, pieces_b]
  refine ⟨_, rfl, ?_, (Onto.rfl' w).new _⟩
  have := Sl.block (k := 1) ((cutc c s).map encS) (hNew (w := w) (o := .cells ((cutc c s).map str).toArray 9) rfl) (by
    intro r hr
    obtain ⟨x, _, rfl⟩ := List.mem_map.1 hr
    rfl) (by
    generalize cutc c s = l
    induction l with
    | nil => rfl
    | cons a l ih => simp [encS] at ih ⊢; exact ih)
  rw [List.length_map] at this
  exact this
/-- Cut at a byte. -/
theorem index_one (c : UInt8) : ∀ s : List UInt8, (c ∉ s → Lib.index s [c] = -1) ∧ (∀ p r, s = p ++ c :: r → c ∉ p → Lib.index s [c] = p.length)
  | [] => ⟨fun _ => by rw [Lib.index]; rfl, fun p r h => by simp at h⟩
  | b :: l => by
    have ih := index_one c l
    refine ⟨fun h => ?_, fun p r h hp => ?_⟩
    · have h1 : b ≠ c := fun e => h (by simp [e])
      have h2 : c ∉ l := fun e => h (by simp [e])
      rw [Lib.index, ih.1 h2]
      simp [List.isPrefixOf, Ne.symm h1]
    · cases p with
      | nil =>
        simp at h
        obtain ⟨rfl, rfl⟩ := h
        rw [Lib.index]
        simp [List.isPrefixOf]
      | cons a p =>
        simp only [List.cons_append, List.cons.injEq] at h
        obtain ⟨rfl, h⟩ := h
        have h1 : b ≠ c := fun e => hp (by simp [e])
        have h2 : c ∉ p := fun e => hp (by simp [e])
        rw [Lib.index, ih.2 p r h h2]
        have : ((p.length : Int) == -1) = false := by rw [beq_eq_false_iff_ne]; omega
        simp [List.isPrefixOf, Ne.symm h1, this]
theorem cut_one (c : UInt8) (s : List UInt8) : Lib.cut s [c] = if c ∈ s then ((cutc c s).headD [], joinc c (cutc c s).tail, true) else (s, [], false) := by
  by_cases h : c ∈ s
  · rw [if_pos h]
    obtain ⟨p, r, rfl, hp⟩ := List.eq_append_cons_of_mem h
    unfold Lib.cut
    rw [(index_one c _).2 p r rfl hp, cutc_append hp, if_pos (by omega)]
    simp [joinc_cutc]
  · rw [if_neg h]
    unfold Lib.cut
    rw [(index_one c s).1 h]
    rfl
theorem Cut_calls (s sep : List UInt8) (hs : s.length ≤ 4000000000) (w : World) (E : Env w) :
    Calls Tryd.prog 64 #[str s, str sep] w fun e w' => e = .returned (.tuple #[str (Lib.cut s sep).1, str (Lib.cut s sep).2.1, .bool (Lib.cut s sep).2.2]) ∧ Onto w w' := by
  obtain ⟨m, hm⟩ := E.big
  refine (Any.strings_Cut Tryd.lays145 ⟨s.toArray⟩ ⟨sep.toArray⟩ m w (by rw [str_size]; omega) hm).mono ?_
  rintro e w' ⟨rfl, q, rfl⟩
  exact ⟨rfl, (Onto.rfl' w).draws q⟩
theorem CutPrefix_calls (s p : List UInt8) (w : World) :
    Calls Tryd.prog 62 #[str s, str p] w fun e w' => e = .returned (.tuple #[str (if p.isPrefixOf s then s.drop p.length else s), .bool (p.isPrefixOf s)]) ∧ Onto w w' :=
  (Any.strings_CutPrefix Tryd.lays103 ⟨s.toArray⟩ ⟨p.toArray⟩ w).mono fun e w' ⟨he, hw⟩ => ⟨he, hw ▸ Onto.rfl' w⟩
end Go.Proofs.YtdcegdonppfbkaaDoor
