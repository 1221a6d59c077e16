/- Texts: what is printed of records, and read; lines of a text, as plain functions on bytes. No program in sight. -/
import Derived.Test.YtdcegdonppfbkaaDoorText
namespace Go.Proofs.YtdcegdonppfbkaaDoor
set_option linter.unusedSimpArgs false
set_option linter.unusedVariables false

/-! ### Records -/
def sealW : List UInt8 := [115, 101, 97, 108, 32]
def colonW : List UInt8 := [58, 32]
def textR (r : Rec) : List UInt8 := if r.kind = 2 then sealW ++ Lib.itoa r.epoch else Lib.itoa r.at_ ++ colonW ++ textE r.e
/-- note.Print. -/
def printR (r : Rec) : List UInt8 × Int := if checkR r ≠ 0 then ([], checkR r) else (textR r, 0)
def finR (r : Rec) : Rec × Int := if checkR r ≠ 0 then (zeroR, checkR r) else (r, 0)
/-- Of a text that isn't too long. -/
def readR (s : List UInt8) : Rec × Int :=
  if sealW.isPrefixOf s then
    match num (s.drop 5) with
    | none => (zeroR, 1)
    | some n => finR ⟨2, 0, n, zeroE⟩
  else if (Lib.cut s colonW).2.2 = false then (zeroR, 1) else
    match num (Lib.cut s colonW).1 with
    | none => (zeroR, 1)
    | some n => if (readWs (cutc 32 (Lib.cut s colonW).2.1)).2 ≠ 0 then (zeroR, (readWs (cutc 32 (Lib.cut s colonW).2.1)).2) else finR ⟨1, n, 0, (readWs (cutc 32 (Lib.cut s colonW).2.1)).1⟩
/-- note.Parse. -/
def parseR (s : List UInt8) : Rec × Int := if 30000 < s.length then (zeroR, 2) else readR s

theorem cut_app : ∀ {a : List UInt8} (b : List UInt8), 58 ∉ a → Lib.index (a ++ 58 :: 32 :: b) colonW = (a.length : Int)
  | [], b, _ => by rw [List.nil_append, Lib.index]; rfl
  | c :: a, b, h => by
    have h1 : c ≠ 58 := fun e => h (by simp [e])
    have h2 : (58 : UInt8) ∉ a := fun e => h (by simp [e])
    rw [List.cons_append, Lib.index, cut_app b h2]
    have hp : colonW.isPrefixOf (c :: (a ++ 58 :: 32 :: b)) = false := by simp [colonW, List.isPrefixOf, Ne.symm h1]
    rw [hp]
    simp only [Bool.false_eq_true, if_false, List.length_cons]
    have : ((a.length : Int) == -1) = false := by rw [beq_eq_false_iff_ne]; omega
    rw [this]
    simp
theorem cut_colon {a : List UInt8} (b : List UInt8) (h : 58 ∉ a) : Lib.cut (a ++ colonW ++ b) colonW = (a, b, true) := by
  have e : a ++ colonW ++ b = a ++ 58 :: 32 :: b := by simp [colonW]
  rw [e]
  unfold Lib.cut
  rw [cut_app b h, if_pos (by omega)]
  simp [colonW, List.take_append, List.drop_append]
theorem cut_true {s sep : List UInt8} (h : (Lib.cut s sep).2.2 = true) : s = (Lib.cut s sep).1 ++ sep ++ (Lib.cut s sep).2.1 := by
  unfold Lib.cut at h ⊢
  split
  · rename_i hi
    rcases Lib.index_spec s sep with ⟨h1, _⟩ | ⟨i, h1, h2, h3, _⟩
    · omega
    · simp only [h1, show ((i : Nat) : Int).toNat = i by omega]
      unfold Lib.occAt at h3
      obtain ⟨r, hr⟩ := List.isPrefixOf_iff_prefix.1 h3
      have : s.drop (i + sep.length) = r := by
        rw [← List.drop_drop, ← hr]; simp
      rw [this, List.append_assoc, hr, List.take_append_drop]
  · rename_i hi
    rw [if_neg hi] at h
    cases h
theorem cR_write {r : Rec} (h : checkR r = 0) (hk : r.kind ≠ 2) : r.kind = 1 ∧ 0 ≤ r.at_ ∧ r.at_ < 60 ∧ r.epoch = 0 ∧ checkE r.e = 0 := by
  unfold checkR at h
  by_cases h1 : r.kind = 1
  · rw [if_pos h1] at h
    split at h
    · cases h
    · split at h
      · cases h
      · rename_i a b
        exact ⟨h1, by omega, by omega, by omega, h⟩
  · rw [if_neg h1, if_neg hk] at h; cases h
theorem cR_seal {r : Rec} (h : checkR r = 0) (hk : r.kind = 2) : 1 ≤ r.epoch ∧ r.epoch ≤ 20 ∧ r.at_ = 0 ∧ r.e = zeroE := by
  unfold checkR at h
  rw [if_neg (by omega), if_pos hk] at h
  split at h
  · cases h
  · split at h
    · cases h
    · rename_i a b
      exact ⟨by omega, by omega, by omega, Decidable.not_not.1 fun e => b (Or.inr e)⟩
theorem textR_len {r : Rec} (h : checkR r = 0) : (textR r).length ≤ 100 := by
  unfold textR
  split
  · rename_i hk
    obtain ⟨h1, h2, _⟩ := cR_seal h hk
    have := Lib.itoa_length_le r.epoch (by omega) (by omega)
    rw [List.length_append, show sealW.length = 5 from rfl]; omega
  · rename_i hk
    obtain ⟨_, h1, h2, _, h3⟩ := cR_write h hk
    have := Lib.itoa_length_le r.at_ (by omega) (by omega)
    have := textE_len h3
    simp only [List.length_append, show colonW.length = 2 from rfl]; omega
theorem seal_no {n : Int} (h : 0 ≤ n) (b : List UInt8) : sealW.isPrefixOf (Lib.itoa n ++ b) = false := by
  cases hl : Lib.itoa n with
  | nil => exact absurd hl (itoa_ne h)
  | cons c r =>
    have hc := itoa_digit h (b := c) (by rw [hl]; simp)
    have : (115 : UInt8) ≠ c := fun e => by subst e; simp at hc
    simp [sealW, List.isPrefixOf, this]
theorem read_textR {r : Rec} (h : checkR r = 0) : readR (textR r) = (r, 0) := by
  obtain ⟨k, p, ep, e⟩ := r
  unfold textR
  by_cases hk : k = 2
  · obtain ⟨h1, h2, h3, h4⟩ := cR_seal h hk
    dsimp only at h1 h2 h3 h4
    subst hk h3 h4
    rw [if_pos rfl]
    unfold readR
    rw [if_pos (by simp [sealW, List.isPrefixOf])]
    rw [show (sealW ++ Lib.itoa ep).drop 5 = Lib.itoa ep from rfl, num_itoa (by omega) (by omega)]
    simp only
    unfold finR
    rw [if_neg (by simp [h])]
  · obtain ⟨h0, h1, h2, h3, h4⟩ := cR_write h hk
    dsimp only at h0 h1 h2 h3 h4
    subst h0 h3
    rw [if_neg (by simp)]
    unfold readR
    rw [List.append_assoc, if_neg (by rw [seal_no h1]; simp), ← List.append_assoc]
    rw [cut_colon _ (itoa_no h1 (by decide))]
    simp only [num_itoa h1 (by omega), read_textE h4]
    unfold finR
    rw [if_neg (by simp), if_neg (by simp), if_neg (by simp [h])]
theorem parse_textR {r : Rec} (h : checkR r = 0) : parseR (textR r) = (r, 0) := by
  have := textR_len h
  unfold parseR
  rw [if_neg (by omega), read_textR h]
theorem finR_ok {r z : Rec} (h : finR r = (z, 0)) : checkR z = 0 ∧ r = z := by
  unfold finR at h
  split at h
  · rename_i hc
    simp only [Prod.mk.injEq] at h
    exact absurd h.2 hc
  · rename_i hc
    simp only [Prod.mk.injEq] at h
    exact ⟨h.1 ▸ Decidable.not_not.1 hc, h.1⟩
theorem readR_ok {s : List UInt8} {z : Rec} (h : readR s = (z, 0)) : checkR z = 0 ∧ textR z = s := by
  unfold readR at h
  split at h
  · rename_i hp
    obtain ⟨t, rfl⟩ := List.isPrefixOf_iff_prefix.1 hp
    rw [show (sealW ++ t).drop 5 = t from rfl] at h
    cases hn : num t with
    | none => rw [hn] at h; simp at h
    | some n =>
      rw [hn] at h
      obtain ⟨h1, rfl⟩ := finR_ok h
      exact ⟨h1, by unfold textR; rw [if_pos rfl, ← (num_some hn).1]⟩
  · split at h
    · simp at h
    · rename_i hc
      have hc : (Lib.cut s colonW).2.2 = true := by simpa using hc
      have hs := cut_true hc
      cases hn : num (Lib.cut s colonW).1 with
      | none => rw [hn] at h; simp at h
      | some n =>
        rw [hn] at h
        simp only at h
        split at h
        · rename_i hb
          simp only [Prod.mk.injEq] at h
          exact absurd h.2 hb
        · rename_i hb
          have hb := Decidable.not_not.1 hb
          obtain ⟨h1, rfl⟩ := finR_ok h
          refine ⟨h1, ?_⟩
          have he := readWs_ok (s := (Lib.cut s colonW).2.1) (z := (readWs (cutc 32 (Lib.cut s colonW).2.1)).1) (by rw [← hb])
          unfold textR
          rw [if_neg (by simp)]
          simp only
          rw [he.2, ← (num_some hn).1]
          exact hs.symm
theorem parseR_ok {s : List UInt8} {z : Rec} (h : parseR s = (z, 0)) : checkR z = 0 ∧ textR z = s := by
  unfold parseR at h
  split at h
  · simp at h
  · exact readR_ok h
theorem textR_inj {x y : Rec} (hx : checkR x = 0) (hy : checkR y = 0) (h : textR x = textR y) : x = y := by
  have h1 := parse_textR hx
  rw [h, parse_textR hy] at h1
  exact (Prod.mk.inj h1).1.symm
end Go.Proofs.YtdcegdonppfbkaaDoor
