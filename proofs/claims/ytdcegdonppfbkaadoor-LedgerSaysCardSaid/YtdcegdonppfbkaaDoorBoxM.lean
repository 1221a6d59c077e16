/- Structs stored into the middle of a box; structs stored whole in a region that draws its order. -/
import Derived.Test.YtdcegdonppfbkaaDoorBox
namespace Go.Proofs.YtdcegdonppfbkaaDoor
set_option linter.unusedSimpArgs false
set_option linter.unusedVariables false
open Go.RowKit

def setMany : List Value → Nat → List Value → List Value
  | vs, _, [] => vs
  | vs, o, u :: r => setMany (vs.set o u) (o + 1) r
theorem setMany_length : ∀ (us : List Value) (vs : List Value) (o : Nat), (setMany vs o us).length = vs.length
  | [], _, _ => rfl
  | u :: r, vs, o => by rw [setMany, setMany_length r]; simp
section
variable {w : World} {z b o : Nat} {vs us : List Value}
theorem Bx.putM : ∀ {us vs : List Value} {o : Nat} {w : World}, Bx w z vs → o + us.length ≤ vs.length → Bx (w.setCells z o us) z (setMany vs o us)
  | [], _, _, _, h, _ => h
  | u :: r, vs, o, w, h, hl => by
    rw [World.setCells, setMany]
    simp only [List.length_cons] at hl
    exact Bx.putM (h.put1 (j := o) (by omega) u) (by simp; omega)
theorem Bx.thereM (h : Bx w z vs) {o n : Nat} (hn : o + n ≤ vs.length) : w.there z o n := fun j hj =>
  ⟨by rw [h.cells (o + j) vs[o + j] (List.getElem?_eq_getElem (by omega))]; rfl, h.froz (o + j)⟩
variable {P : Program} {ops : Array Oper} {rest : List Oper} {op : Oper} {a : Act} {K : Act → World → Prop} {Q : Exit → Act → World → Prop} {F : Prop}
theorem wpList_putM (hB : Bx w z vs) (o : Nat) (us : List Value) (ty : TypeId) (x y : Operand) (hgd : op.guard = none) (ho : op.op = .store ty x y)
    (hx : a.eval x = .pointer (some ⟨z, o, none⟩)) (hy : a.eval y = .agg us.toArray) (hl : o + us.length ≤ vs.length) (hi : (P.info? ty).map (·.size) = some us.length) (h1 : us.all (·.oneCell') = true)
    (h : wpList P ops Q rest (a.put op.dst undef) (w.setCells z o us)) : wpList P ops Q (op :: rest) a w :=
  wpList_store_mid hgd ty x y ho z o us.toArray hx hy (hB.thereM (by simpa using hl)) (by rw [hi]; simp) (all_oneCell_toArray (List.all_eq_true.1 h1)) h
theorem step_putM (hB : Bx w z vs) (o : Nat) (us : List Value) (ty : TypeId) (x y : Operand) (hgd : op.guard = none) (ho : op.op = .store ty x y)
    (hx : a.eval x = .pointer (some ⟨z, o, none⟩)) (hy : a.eval y = .agg us.toArray) (hl : o + us.length ≤ vs.length) (hi : (P.info? ty).map (·.size) = some us.length) (h1 : us.all (·.oneCell') = true)
    (h : K (a.put op.dst undef) (w.setCells z o us)) : if Region.wanted op (yielded ops a.tmps) = true then Oper.wp P op a w K Q else F := by
  rw [if_pos (by simp [Region.wanted, hgd])]
  exact wp_store_mid ty x y ho z o us.toArray hx hy (hB.thereM (by simpa using hl)) (by rw [hi]; simp) (all_oneCell_toArray (List.all_eq_true.1 h1)) h
end
end Go.Proofs.YtdcegdonppfbkaaDoor
