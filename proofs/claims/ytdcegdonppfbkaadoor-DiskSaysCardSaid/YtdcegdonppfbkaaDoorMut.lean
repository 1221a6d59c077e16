/- Rows that may be written; insertion, in plain lists. -/
import Derived.Test.YtdcegdonppfbkaaDoorSee
import Derived.Test.YtdcegdonppfbkaaDoorRows3
namespace Go.Proofs.YtdcegdonppfbkaaDoor
set_option linter.unusedSimpArgs false
set_option linter.unusedVariables false
open Go.RowKit

/-- Block b holds cells that may be written. -/
def Unf (w : World) (b : Nat) : Prop := ∃ cs t, w.heap[b]? = some (.cells cs t (0, 0))
section
variable {w w' : World} {b : Nat}
theorem Unf.frozen (h : Unf w b) (o : Nat) : w.frozen? ⟨b, o, none⟩ = false := by
  obtain ⟨cs, t, h⟩ := h
  simp [World.frozen?, h]
theorem Unf.put (h : Unf w b) (p : Addr) (u : Value) : Unf (w.setCell p u) b := by
  obtain ⟨cs, t, h⟩ := h
  by_cases e : b = p.block
  · subst e
    unfold Unf World.setCell
    simp only [Array.getElem?_modify, if_true, h, Option.map_some]
    split <;> first | exact ⟨_, _, rfl⟩ | (rename_i e; injection e with e; exact ⟨_, _, rfl⟩) | simp_all
  · exact ⟨cs, t, (Below.heap_setCell w p u b e).trans h⟩
theorem Unf.new (h : Unf w b) (o : Obj) : Unf (w.alloc o) b := by
  obtain ⟨cs, t, h⟩ := h
  exact ⟨cs, t, (Below.heap_alloc w o b (Array.getElem?_eq_some_iff.1 h).1).trans h⟩
theorem Unf.lt (h : Unf w b) : b < w.heap.size := by
  obtain ⟨cs, t, h⟩ := h
  exact (Array.getElem?_eq_some_iff.1 h).1
theorem Unf.below {B : Nat} (h : Unf w b) (hb : Below B w w') (hB : b < B) : Unf w' b := by
  obtain ⟨cs, t, h⟩ := h
  exact ⟨cs, t, (hb.block b hB).trans h⟩
theorem Unf.onto (h : Unf w b) (hb : Onto w w') : Unf w' b := h.below hb h.lt
theorem Unf.grown {row : Option Nat} (h : Unf w b) (hb : w.grownBy w' row) (hB : some b ≠ row) : Unf w' b := by
  have hl := h.lt
  obtain ⟨cs, t, h⟩ := h
  exact ⟨cs, t, (hb.block b hl hB).trans h⟩
end

/-- Rows that may be written, in a block from base on. -/
def M (w : World) (base k : Nat) (A : Option Addr) (n : Nat) (rows : List (List Value)) : Prop := S w k A n rows ∧ (0 < n → ∃ b off, A = some ⟨b, off, none⟩ ∧ base ≤ b ∧ Unf w b)
section
variable {w w' : World} {base k n b off i j : Nat} {A : Option Addr} {rows : List (List Value)} {r : List Value} {u : Value}
theorem M.sl (h : M w base k A n rows) : S w k A n rows := h.1
theorem M.onto (h : M w base k A n rows) (hb : Onto w w') : M w' base k A n rows :=
  ⟨h.1.onto hb, fun hn => by obtain ⟨b, off, e, h1, h2⟩ := h.2 hn; exact ⟨b, off, e, h1, h2.onto hb⟩⟩
theorem M.lower {base' : Nat} (h : M w base k A n rows) (hb : base' ≤ base) : M w base' k A n rows :=
  ⟨h.1, fun hn => by obtain ⟨b, off, e, h1, h2⟩ := h.2 hn; exact ⟨b, off, e, by omega, h2⟩⟩
theorem M.nil (w : World) (base k : Nat) (A : Option Addr) : M w base k A 0 [] := ⟨Sl.nil, fun h => absurd h (by omega)⟩
theorem Own.cap_max {E c : Nat} (h : Own w base E k (.slice A n c) n rows) : c ≤ maxLen := by
  obtain ⟨A', c', e, _, h2⟩ := h.slice
  injection e with _ _ e
  omega
theorem Own.m {E c : Nat} (h : Own w base E k (.slice A n c) n rows) : M w base k A n rows :=
  ⟨h.sl, fun hn => by
    obtain ⟨g, cur, rfl, h1, h2, h3, _⟩ := h.open_ hn
    exact ⟨g, 0, rfl, h1, cur, E, h3⟩⟩
theorem Sl.put {B : Nat} (h : Sl w B k (some ⟨b, off, none⟩) n rows) (hr : rows[i]? = some r) (hj : j < r.length) (u : Value) :
    Sl (w.setCell ⟨b, off + i * k + j, none⟩ u) B k (some ⟨b, off, none⟩) n (rows.set i (r.set j u)) := by
  have hi : i < rows.length := (List.getElem?_eq_some_iff.1 hr).1
  have hrk : r.length = k := h.2.1 r (List.mem_of_getElem? hr)
  refine ⟨by simpa using h.1, fun x hx => ?_, fun hn => ?_⟩
  · rcases List.mem_or_eq_of_mem_set hx with hx | rfl
    · exact h.2.1 x hx
    · simpa using hrk
  obtain ⟨b', off', e, hb, hc⟩ := h.2.2 hn
  injection e with e; injection e with e1 e2 _
  subst e1; subst e2
  refine ⟨b, off, rfl, hb, fun i0 j0 x v hx hv => ?_⟩
  rw [List.getElem?_set] at hx
  by_cases e : i = i0
  · subst e
    rw [if_pos rfl, if_pos hi] at hx
    injection hx with hx
    subst hx
    rw [List.getElem?_set] at hv
    by_cases e : j = j0
    · subst e
      rw [if_pos rfl, if_pos hj] at hv
      injection hv with hv
      subst hv
      exact World.cell?_setCell_same w _ _ (hc i j r r[j] hr (List.getElem?_eq_getElem hj))
    · rw [if_neg e] at hv
      rw [World.cell?_setCell_other w _ _ _ (by intro h; injection h with _ h _; omega)]
      exact hc i j0 r v hr hv
  · rw [if_neg e] at hx
    have hxk : x.length = k := h.2.1 x (List.mem_of_getElem? hx)
    have hj0 : j0 < k := by rw [← hxk]; exact (List.getElem?_eq_some_iff.1 hv).1
    rw [World.cell?_setCell_other w _ _ _ (by
      intro h
      injection h with _ h _
      rcases Nat.lt_or_gt_of_ne e with e | e
      · have : (i + 1) * k ≤ i0 * k := Nat.mul_le_mul_right k e
        rw [Nat.add_mul] at this; omega
      · have : (i0 + 1) * k ≤ i * k := Nat.mul_le_mul_right k e
        rw [Nat.add_mul] at this; omega)]
    exact hc i0 j0 x v hx hv
theorem M.put (h : M w base k (some ⟨b, off, none⟩) n rows) (hr : rows[i]? = some r) (hj : j < r.length) (u : Value) :
    M (w.setCell ⟨b, off + i * k + j, none⟩ u) base k (some ⟨b, off, none⟩) n (rows.set i (r.set j u)) :=
  ⟨by have := Sl.put h.1 hr hj u; simpa [S] using this, fun hn => by
    obtain ⟨b', off', e, h1, h2⟩ := h.2 hn
    exact ⟨b', off', e, h1, h2.put _ _⟩⟩
theorem M.putJ {l : List Job} (h : M w base 3 (some ⟨b, off, none⟩) n (l.map encJ)) (hi : i < n) (x : Job) :
    M (((w.setCell ⟨b, off + i * 3, none⟩ (.int .i64 x.id)).setCell ⟨b, off + i * 3 + 1, none⟩ (.int .i64 x.every)).setCell ⟨b, off + i * 3 + 2, none⟩ (.int .i64 x.next)) base 3 (some ⟨b, off, none⟩) n ((l.set i x).map encJ) := by
  have hl : l.length = n := by have := h.1.len; simpa using this
  have hli : (l.map encJ)[i]? = some (encJ l[i]) := by simp [List.getElem?_eq_getElem (show i < l.length by omega)]
  have h1 := h.put (j := 0) hli (by simp [encJ]) (.int .i64 x.id)
  have h2 := h1.put (i := i) (j := 1) (r := (encJ l[i]).set 0 (.int .i64 x.id)) (by rw [List.getElem?_set]; simp; omega) (by simp [encJ]) (.int .i64 x.every)
  have h3 := h2.put (i := i) (j := 2) (r := ((encJ l[i]).set 0 (.int .i64 x.id)).set 1 (.int .i64 x.every)) (by rw [List.getElem?_set]; simp; omega) (by simp [encJ]) (.int .i64 x.next)
  simpa [encJ, List.map_set] using h3
end

/-! ### Only one row has turned -/
section
variable {a w w' : World} {row : Option Nat} {b : Nat}
theorem gb_onto (h : a.grownBy w row) (hb : Onto w w') : a.grownBy w' row :=
  ⟨hb.os.trans h.os, hb.tape.trans h.tape, hb.output.trans h.output, Nat.le_trans h.size hb.size, fun i hi hn => (hb.block i (Nat.lt_of_lt_of_le hi h.size)).trans (h.block i hi hn)⟩
theorem gb_put (h : a.grownBy w (some b)) {p : Addr} (hp : p.block = b) (u : Value) : a.grownBy (w.setCell p u) (some b) :=
  ⟨h.os, h.tape, h.output, by simpa [World.setCell] using h.size, fun i hi hne => (Below.heap_setCell w p u i (by rintro rfl; exact hne (by rw [hp]))).trans (h.block i hi hne)⟩
theorem gb_draws (h : a.grownBy w row) (n : Nat) : a.grownBy (w.drewN n) row := ⟨h.os, h.tape, h.output, h.size, h.block⟩
theorem gb_draw (h : a.grownBy w row) : a.grownBy w.drew row := ⟨h.os, h.tape, h.output, h.size, h.block⟩
theorem gb_trans {c : World} (h : a.grownBy w row) (k : w.grownBy c row) : a.grownBy c row :=
  ⟨k.os.trans h.os, k.tape.trans h.tape, k.output.trans h.output, Nat.le_trans h.size k.size, fun i hi hn => (k.block i (Nat.lt_of_lt_of_le hi h.size) hn).trans (h.block i hi hn)⟩
theorem gb_of (h : Onto a w) (row : Option Nat) : a.grownBy w row := grownBy_of_below h row
theorem M.draw {base k n : Nat} {A : Option Addr} {rows : List (List Value)} (h : M w base k A n rows) : M w.drew base k A n rows := h
theorem M.draws {base k n : Nat} {A : Option Addr} {rows : List (List Value)} (h : M w base k A n rows) (q : Nat) : M (w.drewN q) base k A n rows := h
end

/-! ### Insertion, from the right -/
section
variable {α : Type}
def posR (p : α → Bool) (S : List α) : Nat := S.length - (S.reverse.takeWhile p).length
theorem posR_eq {p : α → Bool} {S : List α} {j : Nat} (hj : j ≤ S.length) (h1 : ∀ y ∈ S.drop j, p y = true) (h2 : ∀ y, 0 < j → S[j - 1]? = some y → p y = false) : posR p S = j := by
  have e : S.reverse = (S.drop j).reverse ++ (S.take j).reverse := by rw [← List.reverse_append, List.take_append_drop]
  have h3 : ((S.take j).reverse).takeWhile p = [] := by
    rcases Nat.eq_zero_or_pos j with rfl | h0
    · simp
    · obtain ⟨y, hy⟩ : ∃ y, S[j - 1]? = some y := ⟨_, List.getElem?_eq_getElem (show j - 1 < S.length by omega)⟩
      have hp := h2 y h0 hy
      have e2 : S.take j = S.take (j - 1) ++ [y] := by
        have := List.take_succ_eq_append_getElem (l := S) (i := j - 1) (by omega)
        rw [show j - 1 + 1 = j by omega] at this
        rw [this]
        have := (List.getElem?_eq_some_iff.1 hy).2
        rw [this]
      rw [e2]
      simp [hp]
  unfold posR
  rw [e, List.takeWhile_append_of_pos (by intro y hy; exact h1 y (List.mem_reverse.1 hy)), h3]
  simp
  omega
def insR (lt : α → α → Bool) (S : List α) (x : α) : List α := S.take (posR (lt x) S) ++ [x] ++ S.drop (posR (lt x) S)
def isort (lt : α → α → Bool) (l : List α) : List α := l.foldl (insR lt) []
theorem insR_length (lt : α → α → Bool) (S : List α) (x : α) : (insR lt S x).length = S.length + 1 := by
  simp [insR]
  omega
theorem isort_snoc (lt : α → α → Bool) (l : List α) (x : α) : isort lt (l ++ [x]) = insR lt (isort lt l) x := by simp [isort]
theorem foldl_insR_length (lt : α → α → Bool) : ∀ (l S : List α), (l.foldl (insR lt) S).length = S.length + l.length
  | [], S => by simp
  | x :: l, S => by
    rw [List.foldl_cons, foldl_insR_length lt l, insR_length]
    simp
    omega
theorem isort_length (lt : α → α → Bool) (l : List α) : (isort lt l).length = l.length := by
  unfold isort
  rw [foldl_insR_length]
  simp
theorem insR_perm (lt : α → α → Bool) (S : List α) (x : α) : (insR lt S x).Perm (x :: S) := by
  unfold insR
  have h := List.perm_middle (a := x) (l₁ := S.take (posR (lt x) S)) (l₂ := S.drop (posR (lt x) S))
  rw [List.take_append_drop] at h
  rw [List.append_assoc]
  exact h
theorem foldl_insR_perm (lt : α → α → Bool) : ∀ (l S : List α), (l.foldl (insR lt) S).Perm (l ++ S)
  | [], S => List.Perm.refl _
  | x :: l, S => by
    rw [List.foldl_cons]
    refine (foldl_insR_perm lt l _).trans ?_
    refine (List.Perm.append_left l (insR_perm lt S x)).trans ?_
    exact List.perm_middle
theorem isort_perm (lt : α → α → Bool) (l : List α) : (isort lt l).Perm l := by simpa [isort] using foldl_insR_perm lt l []
theorem isort_take {lt : α → α → Bool} {l : List α} {i : Nat} {x : α} (hx : l[i]? = some x) : isort lt (l.take (i + 1)) = insR lt (isort lt (l.take i)) x := by
  obtain ⟨hi, rfl⟩ := List.getElem?_eq_some_iff.1 hx
  rw [List.take_succ_eq_append_getElem hi, isort_snoc]
/-- What lies in memory while x is carried down. -/
def carried (S : List α) (x : α) (rest : List α) (j : Nat) : List α := S.take j ++ [x] ++ S.drop j ++ rest
theorem carried_at {S : List α} {x : α} {rest : List α} {j : Nat} (hj : j ≤ S.length) : (carried S x rest j)[j]? = some x := by
  have h : (S.take j).length = j := by simp; omega
  simp [carried, List.getElem?_append, h]
theorem carried_below {S : List α} {x y : α} {rest : List α} {j : Nat} (hj : j ≤ S.length) (h0 : 0 < j) (hy : S[j - 1]? = some y) : (carried S x rest j)[j - 1]? = some y := by
  have h : (S.take j).length = j := by simp; omega
  simp only [carried, List.append_assoc]
  rw [List.getElem?_append_left (by omega), List.getElem?_take, if_pos (by omega)]
  exact hy
theorem carried_swap {S : List α} {x y : α} {rest : List α} {j : Nat} (hj : j ≤ S.length) (h0 : 0 < j) (hy : S[j - 1]? = some y) : ((carried S x rest j).set j y).set (j - 1) x = carried S x rest (j - 1) := by
  obtain ⟨j, rfl⟩ : ∃ k, j = k + 1 := ⟨j - 1, by omega⟩
  simp only [Nat.add_sub_cancel] at *
  obtain ⟨hl, rfl⟩ := List.getElem?_eq_some_iff.1 hy
  have h1 : S.take (j + 1) = S.take j ++ [S[j]] := List.take_succ_eq_append_getElem hl
  have h2 : S.drop j = S[j] :: S.drop (j + 1) := List.drop_eq_getElem_cons hl
  have h : (S.take j).length = j := by simp; omega
  unfold carried
  rw [h1, h2]
  simp only [List.append_assoc, List.cons_append, List.nil_append]
  rw [List.set_append_right _ _ (by omega), h, show j + 1 - j = 1 by omega]
  simp only [List.set_cons_succ, List.set_cons_zero]
  rw [List.set_append_right _ _ (by omega), h, Nat.sub_self]
  simp
end
end Go.Proofs.YtdcegdonppfbkaaDoor
