/- Rows that a call has made, in blocks apart: whatever the order in which they were made. -/
import Derived.Test.YtdcegdonppfbkaaDoorAppStr
import Derived.Test.YtdcegdonppfbkaaDoorRowsB
namespace Go.Proofs.YtdcegdonppfbkaaDoor
set_option linter.unusedSimpArgs false
set_option linter.unusedVariables false
open Go.RowKit

structure Ent where
  v : Value
  e : Nat
  k : Nat
  n : Nat
  rows : List (List Value)
/-- From w0 on the rows of L were made, each in a block of its own. -/
structure Live (w0 w : World) (L : List (Option Ent)) : Prop where
  own : ∀ (i : Nat) (x : Ent), L[i]? = some (some x) → Own w w0.heap.size x.e x.k x.v x.n x.rows
  apart : ∀ (i j : Nat) (x y : Ent) (b : Nat), i ≠ j → L[i]? = some (some x) → L[j]? = some (some y) → x.v.ownBlock = some b → y.v.ownBlock ≠ some b
  on : Onto w0 w
section
variable {w0 w w' : World} {L : List (Option Ent)}
theorem Live.start (w0 : World) (k : Nat) : Live w0 w0 (List.replicate k none) :=
  ⟨fun i x h => by rw [List.getElem?_replicate] at h; split at h <;> simp at h, fun i j x y b _ h => by rw [List.getElem?_replicate] at h; split at h <;> simp at h, Onto.rfl' _⟩
theorem Live.to (h : Live w0 w L) (hb : Onto w w') : Live w0 w' L := ⟨fun i x hx => (h.own i x hx).below hb, h.apart, h.on.to hb⟩
theorem Live.draw (h : Live w0 w L) : Live w0 w.drew L := h.to (Onto.rfl' w).draw
theorem Live.lt (h : Live w0 w L) {i : Nat} {x : Ent} (hx : L[i]? = some (some x)) {b : Nat} (hb : x.v.ownBlock = some b) : w0.heap.size ≤ b ∧ b < w.heap.size := (h.own i x hx).lt b hb
theorem Live.put (h : Live w0 w L) {i : Nat} (hi : i < L.length) {x : Ent} (ho : Own w' w0.heap.size x.e x.k x.v x.n x.rows) (hk : ∀ (j : Nat) (y : Ent), j ≠ i → L[j]? = some (some y) → Own w' w0.heap.size y.e y.k y.v y.n y.rows)
    (hd : ∀ (j : Nat) (y : Ent) (b : Nat), j ≠ i → L[j]? = some (some y) → x.v.ownBlock = some b → y.v.ownBlock ≠ some b) (ht : Onto w0 w') : Live w0 w' (L.set i (some x)) := by
  refine ⟨fun j y hy => ?_, fun j k y z b hjk hy hz hb => ?_, ht⟩
  · rw [List.getElem?_set] at hy
    by_cases e : i = j
    · subst e
      rw [if_pos rfl, if_pos hi] at hy
      injection hy with hy; injection hy with hy; subst hy
      exact ho
    · rw [if_neg e] at hy
      exact hk j y (fun e' => e e'.symm) hy
  · rw [List.getElem?_set] at hy hz
    by_cases e : i = j
    · subst e
      rw [if_pos rfl, if_pos hi] at hy
      injection hy with hy; injection hy with hy; subst hy
      rw [if_neg hjk] at hz
      exact hd k z b (fun e' => hjk e'.symm) hz hb
    · rw [if_neg e] at hy
      by_cases e' : i = k
      · subst e'
        rw [if_pos rfl, if_pos hi] at hz
        injection hz with hz; injection hz with hz; subst hz
        intro hc
        exact hd j y b (fun e' => e e'.symm) hy hc hb
      · rw [if_neg e'] at hz
        exact h.apart j k y z b hjk hy hz hb
/-- A row is made. -/
theorem Live.add (h : Live w0 w L) {i : Nat} (hi : i < L.length) {E k n : Nat} {v : Value} {rows : List (List Value)} (ho : Own w' w.heap.size E k v n rows) (hb : Onto w w') : Live w0 w' (L.set i (some ⟨v, E, k, n, rows⟩)) :=
  h.put hi (ho.lower h.on.size) (fun j y _ hy => (h.own j y hy).below hb) (fun j y b _ hy e hc => by have h1 := (ho.lt b e).1; have h2 := (h.lt hy hc).2; omega) (h.on.to hb)
/-- A row grows. -/
theorem Live.app (h : Live w0 w L) {i : Nat} {x : Ent} (hx : L[i]? = some (some x)) {E k n : Nat} {v : Value} {rows : List (List Value)} (ho : Own w' w0.heap.size E k v n rows) (hg : w.grownBy w' x.v.ownBlock)
    (hv : v.ownBlock = x.v.ownBlock ∨ v.ownBlock = some w.heap.size) : Live w0 w' (L.set i (some ⟨v, E, k, n, rows⟩)) :=
  h.put (List.getElem?_eq_some_iff.1 hx).1 ho (fun j y e hy => (h.own j y hy).kept1 hg fun b hb hc => h.apart i j x y b (fun e' => e e'.symm) hx hy hc hb)
    (fun j y b e hy hb hc => by
      rcases hv with hv | hv
      · rw [hv] at hb; exact h.apart i j x y b (fun e' => e e'.symm) hx hy hb hc
      · rw [hv] at hb; injection hb with hb; subst hb; have := (h.lt hy hc).2; omega)
    (below_grown h.on h.on.size hg fun g hgg => (h.lt hx hgg).1)
/-- A row that is written out. -/
theorem Live.lit (h : Live w0 w L) {i : Nat} (hi : i < L.length) (E k n : Nat) (rows : List (List Value)) (cs : Array Value) (hc : cs.toList = rows.flatten) (hn : rows.length = n) (hk : ∀ r ∈ rows, r.length = k) (hm : n ≤ maxLen) :
    Live w0 (w.alloc (.cells cs E)) (L.set i (some ⟨.slice (some ⟨w.heap.size, 0, none⟩) n n, E, k, n, rows⟩)) := by
  have hl : rows.flatten.length = n * k := by rw [flatten_length hk, hn]
  have hcs : cs.size = n * k := by rw [← Array.length_toList, hc, hl]
  exact h.add hi ⟨⟨hl, .inr ⟨w.heap.size, n, cs, rfl, Nat.le_refl _, heap_alloc_new w _, Nat.le_refl _, hm, hcs, by rw [hc, ← hl]; exact List.take_length⟩⟩, hn, hk⟩ ((Onto.rfl' w).new _)
theorem Live.litB (h : Live w0 w L) {i : Nat} (hi : i < L.length) (b : UInt8) : Live w0 (w.alloc (.cells #[.int .u8 b.toNat] 5)) (L.set i (some ⟨.slice (some ⟨w.heap.size, 0, none⟩) 1 1, 5, 1, 1, [encB b]⟩)) :=
  h.lit hi _ _ _ _ _ (by simp [encB]) rfl (by simp [encB]) (by simp [maxLen])
theorem Live.sl (h : Live w0 w L) {i : Nat} {A : Option Addr} {E k m c : Nat} {rows : List (List Value)} (hx : L[i]? = some (some ⟨.slice A m c, E, k, m, rows⟩)) : S w k A m rows := (h.own i _ hx).sl
end
theorem CloneB_live {w0 w : World} {L : List (Option Ent)} (LV : Live w0 w L) (i : Nat) (hi : i < L.length) (A : Option Addr) (n c : Nat) (l : List UInt8) (h : S w0 1 A n (l.map encB)) (hn : n ≤ 140737488355328) :
    Calls Tryd.prog 72 #[.slice A n c] w fun e w' => ∃ A1 c1, e = .returned (.slice A1 n c1) ∧ Live w0 w' (L.set i (some ⟨.slice A1 n c1, 5, 1, n, l.map encB⟩)) := by
  refine Calls.mono (CloneB_calls w A n c _ (Nat.le_refl _) (l.map encB) (h.onto LV.on) (encB_one _) (by omega)) ?_
  rintro e w' ⟨A1, c1, rfl, ho, hb⟩
  exact ⟨A1, c1, rfl, LV.add hi ho hb⟩
section
variable {ops : Array Oper} {o : Oper} {a : Act} {K : Act → World → Prop} {Q : Exit → Act → World → Prop} {F : Prop} {w0 w : World} {L : List (Option Ent)}
theorem step_app_str_live (LV : Live w0 w L) (hgd : o.guard = none) (sl x : Operand) (ho : o.op = .call { callee := .builtin .append, args := #[sl, x], argTypes := #[51, 9] })
    (i : Nat) (v : Value) (n : Nat) (rows : List (List Value)) (hs : a.eval sl = v) (hi : L[i]? = some (some ⟨v, 5, 1, n, rows⟩)) (s : List UInt8) (hx : a.eval x = str s) (hbytes : n + s.length ≤ 140737488355328)
    (h : ∀ A1 c1 w', Live w0 w' (L.set i (some ⟨.slice A1 (n + s.length) c1, 5, 1, n + s.length, rows ++ s.map encB⟩)) → K (a.put o.dst (.slice A1 (n + s.length) c1)) w') :
    if Region.wanted o (yielded ops a.tmps) = true then Oper.wp Tryd.prog o a w K Q else F := by
  obtain ⟨i0, hi0, hz0, hz1, hz2⟩ := info_parts rinfoB
  refine step_app_str w hgd sl x 51 9 ho w0.heap.size 5 i0 Tryd.underlying51 Tryd.underlying9 hi0 hz0 hz1 hz2 v n rows hs (LV.own i _ hi) s hx (by unfold maxLen; omega) hbytes LV.on.size ?_
  intro v' w' own grow hv
  obtain ⟨A1, c1, rfl, _, _⟩ := own.slice
  exact h A1 c1 w' (LV.app hi own grow hv)
theorem step_app_sl_live (LV : Live w0 w L) (hgd : o.guard = none) (sl x : Operand) (t : TypeId) (ho : o.op = .call { callee := .builtin .append, args := #[sl, x], argTypes := #[t, t] })
    (E k by_ : Nat) (z : Value) (hinfo : (Tryd.prog.info? E).map (fun i => (i.zero, i.size, i.bytes)) = some (some z, k, by_)) (ht : Tryd.prog.underlying t = some (.slice E)) (hzs : z.cells.size = k) (hk : 0 < k)
    (i : Nat) (v : Value) (n : Nat) (rows : List (List Value)) (hs : a.eval sl = v) (hi : L[i]? = some (some ⟨v, E, k, n, rows⟩)) (A : Option Addr) (m c : Nat) (news : List (List Value)) (hx : a.eval x = .slice A m c) (hr : S w k A m news) (h1 : ∀ r ∈ news, ∀ u ∈ r, u.oneCell' = true)
    (h63 : n + m ≤ maxLen) (hbytes : (n + m) * by_ ≤ 140737488355328)
    (h : ∀ A1 c1 w', Live w0 w' (L.set i (some ⟨.slice A1 (n + m) c1, E, k, n + m, rows ++ news⟩)) → K (a.put o.dst (.slice A1 (n + m) c1)) w') :
    if Region.wanted o (yielded ops a.tmps) = true then Oper.wp Tryd.prog o a w K Q else F := by
  obtain ⟨i0, hi0, hz0, hz1, hz2⟩ := info_parts hinfo
  refine step_app_sl w hgd sl x t ho w0.heap.size E i0 z k by_ ht hi0 hz0 hz1 hz2 hzs hk v n rows hs (LV.own i _ hi) w.heap.size A m c news hx hr h1 h63 hbytes LV.on.size ?_
  intro v' w' own grow hv
  obtain ⟨A1, c1, rfl, _, _⟩ := own.slice
  exact h A1 c1 w' (LV.app hi own grow hv)
end
end Go.Proofs.YtdcegdonppfbkaaDoor
