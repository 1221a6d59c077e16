/- Boxes: variables and structs that lie in a block of their own, cell by cell. -/
import Derived.Test.YtdcegdonppfbkaaDoorPut
import Derived.Deep.MidRow
namespace Go.Proofs.YtdcegdonppfbkaaDoor
set_option linter.unusedSimpArgs false
set_option linter.unusedVariables false
open Go.RowKit

/-- Block z holds the cells vs (and may be written). -/
structure Bx (w : World) (z : Nat) (vs : List Value) : Prop where
  cells : ∀ j v, vs[j]? = some v → w.cell? ⟨z, j, none⟩ = some v
  unf : Unf w z
section
variable {w w' : World} {z b o : Nat} {vs us : List Value}
theorem Bx.lt (h : Bx w z vs) : z < w.heap.size := h.unf.lt
theorem Bx.at_ (h : Bx w z vs) (j : Nat) {v : Value} (hv : vs[j]? = some v) : w.cell? ⟨z, j, none⟩ = some v := h.cells j v hv
theorem Bx.froz (h : Bx w z vs) (o : Nat) : w.frozen? ⟨z, o, none⟩ = false := h.unf.frozen o
theorem Bx.onto (h : Bx w z vs) (hb : Onto w w') : Bx w' z vs := ⟨fun j v hv => cellB hb (h.cells j v hv), h.unf.onto hb⟩
theorem Bx.draws (h : Bx w z vs) (q : Nat) : Bx (w.drewN q) z vs := h.onto ((Onto.rfl' w).draws q)
theorem Bx.draw (h : Bx w z vs) : Bx w.drew z vs := h.onto ((Onto.rfl' w).draw)
theorem Bx.new (h : Bx w z vs) (o : Obj) : Bx (w.alloc o) z vs := h.onto ((Onto.rfl' w).new o)
theorem Bx.made (w : World) (cs : Array Value) (t : TypeId) : Bx (w.alloc (.cells cs t)) w.heap.size cs.toList :=
  ⟨fun j v hv => by
    rw [cell_of_row _ _ _ _ _ _ (heap_alloc_new w _), ← Array.getElem?_toList]; exact hv, ⟨_, _, heap_alloc_new w _⟩⟩
theorem Bx.is {z : Nat} {cs : Array Value} {t : TypeId} (h : w.heap[z]? = some (.cells cs t)) : Bx w z cs.toList :=
  ⟨fun j v hv => by rw [cell_of_row _ _ _ _ _ _ h, ← Array.getElem?_toList]; exact hv, ⟨_, _, h⟩⟩
theorem Bx.there (h : Bx w z vs) {n : Nat} (hn : n ≤ vs.length) : w.there z 0 n := fun j hj => by
  rw [Nat.zero_add]
  exact ⟨by rw [h.cells j vs[j] (List.getElem?_eq_getElem (by omega))]; rfl, h.froz j⟩
theorem Bx.range (h : Bx w z vs) : w.rangeAt z 0 vs := fun j v hv => by rw [Nat.zero_add]; exact h.cells j v hv
theorem Unf.puts {b' : Nat} : ∀ {us : List Value} {o : Nat} {w : World}, Unf w b → Unf (w.setCells b' o us) b
  | [], _, _, h => h
  | v :: r, o, w, h => by rw [World.setCells]; exact Unf.puts (h.put _ _)
theorem Bx.put (h : Bx w z vs) (hu : us.length = vs.length) : Bx (w.setCells z 0 us) z us :=
  ⟨fun j v hv => put_in (fun j hj => by rw [h.cells j vs[j] (List.getElem?_eq_getElem (by omega))]; rfl) hv, Unf.puts h.unf⟩
theorem Bx.off (h : Bx w z vs) (hb : z ≠ b) : Bx (w.setCells b o us) z vs :=
  ⟨fun j v hv => by rw [put_out (by simpa using hb)]; exact h.cells j v hv, Unf.puts h.unf⟩
theorem Bx.off1 (h : Bx w z vs) {p : Addr} (hb : z ≠ p.block) (u : Value) : Bx (w.setCell p u) z vs :=
  ⟨fun j v hv => by rw [World.cell?_setCell_other w _ _ _ (by intro e; subst e; exact hb rfl)]; exact h.cells j v hv, h.unf.put _ _⟩
theorem Bx.put1 (h : Bx w z vs) {j : Nat} (hj : j < vs.length) (u : Value) : Bx (w.setCell ⟨z, j, none⟩ u) z (vs.set j u) :=
  ⟨fun i v hv => by
    rw [List.getElem?_set] at hv
    by_cases e : j = i
    · subst e
      rw [if_pos rfl, if_pos hj] at hv
      injection hv with hv
      subst hv
      exact World.cell?_setCell_same w _ _ (h.cells j vs[j] (List.getElem?_eq_getElem hj))
    · rw [if_neg e] at hv
      rw [World.cell?_setCell_other w _ _ _ (by intro h; injection h with _ h _; exact e h)]
      exact h.cells i v hv, h.unf.put _ _⟩
theorem Onto.puts {w1 : World} (hb : w.heap.size ≤ b) (h : Onto w w1) : Onto w (w1.setCells b o us) := put_onto hb h
theorem wpList_put {P : Program} {ops : Array Oper} {rest : List Oper} {op : Oper} {a : Act} {Q : Exit → Act → World → Prop} (hB : Bx w z vs) (us : List Value) (ty : TypeId) (x y : Operand) (hgd : op.guard = none) (ho : op.op = .store ty x y)
    (hx : a.eval x = .pointer (some ⟨z, 0, none⟩)) (hy : a.eval y = .agg us.toArray) (hl : us.length = vs.length) (hi : (P.info? ty).map (·.size) = some vs.length) (h1 : us.all (·.oneCell') = true)
    (h : wpList P ops Q rest (a.put op.dst undef) (w.setCells z 0 us)) : wpList P ops Q (op :: rest) a w :=
  wpList_store_mid hgd ty x y ho z 0 us.toArray hx hy (hB.there (by simp; omega)) (by rw [hi]; simp [hl]) (all_oneCell_toArray (List.all_eq_true.1 h1)) h
end
end Go.Proofs.YtdcegdonppfbkaaDoor
