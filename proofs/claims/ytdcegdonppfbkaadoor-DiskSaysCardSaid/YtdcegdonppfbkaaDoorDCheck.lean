/- disk.Check, disk.Same. -/
import Derived.Test.YtdcegdonppfbkaaDoorLines
import Derived.Test.YtdcegdonppfbkaaDoorByte
namespace Go.Proofs.YtdcegdonppfbkaaDoor
set_option linter.unusedSimpArgs false
set_option linter.unusedVariables false
open Go.RowKit

/-- A disk's two rows. -/
structure DK (w : World) (A : Option Addr) (n c : Nat) (A' : Option Addr) (m d : Nat) (x : Dsk) : Prop where
  safe : S w 1 A n (x.safe.map encB)
  wait : S w 1 A' m (x.wait.map encB)
  n_le : n ≤ c
  c_le : c ≤ maxLen
  m_le : m ≤ d
  d_le : d ≤ maxLen
theorem DK.onto {w w' : World} {A A' : Option Addr} {n c m d : Nat} {x : Dsk} (h : DK w A n c A' m d x) (b : Onto w w') : DK w' A n c A' m d x := ⟨h.safe.onto b, h.wait.onto b, h.n_le, h.c_le, h.m_le, h.d_le⟩
theorem DK.n_eq {w : World} {A A' : Option Addr} {n c m d : Nat} {x : Dsk} (h : DK w A n c A' m d x) : n = x.safe.length := by have := h.safe.len; simpa using this.symm
theorem DK.m_eq {w : World} {A A' : Option Addr} {n c m d : Nat} {x : Dsk} (h : DK w A n c A' m d x) : m = x.wait.length := by have := h.wait.len; simpa using this.symm
theorem DK.none_ (w : World) : DK w none 0 0 none 0 0 noK := ⟨Sl.nil, Sl.nil, by omega, by simp [maxLen], by omega, by simp [maxLen]⟩

set_option maxHeartbeats 4000000 in
set_option maxRecDepth 100000 in
theorem DCheck_calls (A A' : Option Addr) (n c m d : Nat) (x : Dsk) (w : World) (E : Env w) (K : DK w A n c A' m d x) :
    Calls Tryd.prog 43 #[.agg #[.slice A n c, .slice A' m d]] w fun e w' => e = .returned (.int .i64 (checkK x)) ∧ Onto w w' := by
  obtain ⟨q, hq⟩ : ∃ q, q = checkK x := ⟨_, rfl⟩
  rw [← hq]
  have hn := K.n_eq; have hm := K.m_eq
  have hq0 : q = if 30000 < n ∨ 30000 < n + m then 2 else (linesK x.safe 160).2.2 := by rw [hq, hn, hm]; rfl
  have hnb : n ≤ 9223372036854775807 := by have := K.n_le; have := K.c_le; unfold maxLen at *; omega
  have hmb : m ≤ 9223372036854775807 := by have := K.m_le; have := K.d_le; unfold maxLen at *; omega
  have HN := Lib.hid hn; have HM := Lib.hid hm; have HQ := Lib.hid hq0
  clear hn hm hq hq0
  go_enter Tryd.func43, Tryd.ntmps43
  go_upto_region 1 with fail
  have on : Onto w (w.alloc (Obj.cells #[.slice A n c, .slice A' m d] 53)) := (Onto.rfl' w).new _
  have B : Bx (w.alloc (Obj.cells #[.slice A n c, .slice A' m d] 53)) w.heap.size [.slice A n c, .slice A' m d] := Bx.made _ _ _
  generalize (w.alloc (Obj.cells #[.slice A n c, .slice A' m d] 53)) = w1 at *
  generalize w.heap.size = z at B ⊢
  have b0 := B.at_ 0 rfl; have b1 := B.at_ 1 rfl
  by_cases h1 : 30000 < n
  · have hd : decide ((30000 : Int) < (n : Int)) = true := by simp; omega
    have h1' : (30000 : Int) < (n : Int) := by omega
    have hqq : q = 2 := by rw [HQ.out, if_pos (.inl h1)]
    subst hqq
    clear h1
    go_wp2_with fail
    go_ret
    exact ⟨ret_int rfl, on⟩
  · have h1' : ¬ (30000 : Int) < (n : Int) := by omega
    have hw : wrap64 ((30000 : Int) - (n : Int)) = 30000 - (n : Int) := by unfold wrap64; omega
    by_cases h2 : 30000 < n + m
    · have h2' : (30000 : Int) - (n : Int) < (m : Int) := by omega
      have hqq : q = 2 := by rw [HQ.out, if_pos (.inr h2)]
      subst hqq
      clear h1 h2
      go_wp2_with fail
      go_ret
      exact ⟨ret_int rfl, on⟩
    · have h2' : ¬ (30000 : Int) - (n : Int) < (m : Int) := by omega
      have hqq : q = (linesK x.safe 160).2.2 := by rw [HQ.out, if_neg (by omega)]
      have cv := conv_bytes (c := c) (K.safe.onto on)
      have E1 := E.onto on
      have hsl : x.safe.length ≤ 60000 := by rw [← HN.out]; omega
      have HQQ := Lib.hid hqq; have ON := Lib.hid on
      clear h1 h2 hqq on
      go_wp2_with fail
      refine Calls.mono (Lines_calls x.safe 160 hsl (by omega) _ E1) ?_
      rintro e w2 ⟨A1, n1, c1, rfl, _, b⟩
      have ON2 := Lib.hid (ON.out.to b)
      clear b b0 b1 B
      rw [show (linesK x.safe 160).2.2 = q from HQQ.out.symm]
      go_wp2_with fail
      go_ret
      exact ⟨ret_int rfl, ON2.out⟩

set_option maxHeartbeats 4000000 in
theorem DSame_calls (A A' : Option Addr) (n c m d : Nat) (x : Dsk) (F F' : Option Addr) (k i l j : Nat) (y : Dsk) (w : World) (K : DK w A n c A' m d x) (K' : DK w F k i F' l j y) :
    Calls Tryd.prog 41 #[.agg #[.slice A n c, .slice A' m d], .agg #[.slice F k i, .slice F' l j]] w fun e w' => e = .returned (.bool (decide (x = y))) ∧ Onto w w' := by
  obtain ⟨q, hq⟩ : ∃ q, q = decide (x = y) := ⟨_, rfl⟩
  rw [← hq]
  have hq0 : q = (decide (x.safe = y.safe) && decide (x.wait = y.wait)) := by
    rw [hq, Bool.eq_iff_iff]
    cases x; cases y
    simp
  have hnb : n ≤ 9223372036854775807 := by have := K.n_le; have := K.c_le; unfold maxLen at *; omega
  have hmb : m ≤ 9223372036854775807 := by have := K.m_le; have := K.d_le; unfold maxLen at *; omega
  have HQ := Lib.hid hq0
  clear hq hq0
  go_enter Tryd.func41, Tryd.ntmps41
  go_upto_region 1 with fail
  have on : Onto w ((w.alloc (Obj.cells #[.slice A n c, .slice A' m d] 53)).alloc (Obj.cells #[.slice F k i, .slice F' l j] 53)) := ((Onto.rfl' w).new _).new _
  have B : Bx ((w.alloc (Obj.cells #[.slice A n c, .slice A' m d] 53)).alloc (Obj.cells #[.slice F k i, .slice F' l j] 53)) w.heap.size [.slice A n c, .slice A' m d] := (Bx.made _ _ _).new _
  have B' : Bx ((w.alloc (Obj.cells #[.slice A n c, .slice A' m d] 53)).alloc (Obj.cells #[.slice F k i, .slice F' l j] 53)) (w.heap.size + 1) [.slice F k i, .slice F' l j] := by
    have := Bx.made (w.alloc (Obj.cells #[.slice A n c, .slice A' m d] 53)) #[.slice F k i, .slice F' l j] 53
    simpa using this
  generalize ((w.alloc (Obj.cells #[.slice A n c, .slice A' m d] 53)).alloc (Obj.cells #[.slice F k i, .slice F' l j] 53)) = w1 at *
  generalize w.heap.size + 1 = z' at *
  generalize w.heap.size = z at B ⊢
  have b0 := B.at_ 0 rfl; have b1 := B.at_ 1 rfl; have f0 := B'.at_ 0 rfl; have f1 := B'.at_ 1 rfl
  have K1 := K.onto on; have K1' := K'.onto on
  have ON := Lib.hid on
  clear on K K'
  go_wp2_with fail
  refine Calls.mono (EqualB_calls A F n k c i _ x.safe y.safe _ K1.safe K1'.safe hnb) ?_
  rintro e w2 ⟨rfl, q2, rfl⟩
  by_cases h1 : x.safe = y.safe
  · have hd : decide (x.safe = y.safe) = true := by simp [h1]
    have hqq : q = decide (x.wait = y.wait) := by rw [HQ.out, hd, Bool.true_and]
    rw [hd]
    have HQQ := Lib.hid hqq
    clear hd hqq h1
    have d1 := b1; have g1 := f1
    go_wp2_with fail
    refine Calls.mono (EqualB_calls A' F' m l d j _ x.wait y.wait _ (K1.wait.onto ((Onto.rfl' _).draws _)) (K1'.wait.onto ((Onto.rfl' _).draws _)) hmb) ?_
    rintro e w2 ⟨rfl, q3, rfl⟩
    rw [show decide (x.wait = y.wait) = q from HQQ.out.symm]
    go_wp2_with fail
    go_ret
    exact ⟨rfl, ON.out.draws _⟩
  · have hd : decide (x.safe = y.safe) = false := by simp [h1]
    have hqq : q = false := by rw [HQ.out, hd, Bool.false_and]
    subst hqq
    rw [hd]
    clear hd h1
    go_wp2_with fail
    go_ret
    exact ⟨rfl, ON.out.draws _⟩
end Go.Proofs.YtdcegdonppfbkaaDoor
