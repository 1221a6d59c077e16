/- Rows read in a world; what stays so as the world grows; a region that draws its order and whose calls make memory, walked once. -/
import Derived.Test.YtdcegdonppfbkaaDoorMem
namespace Go.Proofs.YtdcegdonppfbkaaDoor
set_option linter.unusedSimpArgs false
set_option linter.unusedVariables false
open Go.RowKit

/-- The slice value of address A and length n reads, in w, as the rows of k cells each. -/
abbrev S (w : World) (k : Nat) (A : Option Addr) (n : Nat) (rows : List (List Value)) : Prop := Sl w w.heap.size k A n rows
/-- All that was there is there. -/
abbrev Onto (w w' : World) : Prop := Below w.heap.size w w'

section
variable {w w' w'' : World} {k n : Nat} {A : Option Addr} {rows : List (List Value)}
theorem Onto.rfl' (w : World) : Onto w w := Below.refl _ _
theorem Onto.to (h : Onto w w') (h' : Onto w' w'') : Onto w w'' := Below.trans h (h'.mono h.size)
theorem Onto.new (h : Onto w w') (o : Obj) : Onto w (w'.alloc o) := Below.alloc h h.size o
theorem Onto.draws (h : Onto w w') (q : Nat) : Onto w (w'.drewN q) := below_drewN h q
theorem Onto.draw (h : Onto w w') : Onto w w'.drew := Below.drew h
theorem Onto.put (h : Onto w w') {p : Addr} (hp : w.heap.size ≤ p.block) (u : Value) : Onto w (w'.setCell p u) := Below.setCell h hp u
theorem S.new (h : S w k A n rows) (o : Obj) : S (w.alloc o) k A n rows := (Sl.alloc h (Nat.le_refl _) o).more (by simp)
theorem S.draws (h : S w k A n rows) (q : Nat) : S (w.drewN q) k A n rows := h
theorem S.draw (h : S w k A n rows) : S w.drew k A n rows := h
theorem S.onto (h : S w k A n rows) (hb : Onto w w') : S w' k A n rows := (Sl.under h (Nat.le_refl _) hb).more hb.size
theorem S.off (h : S w k A n rows) {p : Addr} (ho : OffN n p.block A) (u : Value) : S (w.setCell p u) k A n rows := by simpa [S] using Sl.setOffN h ho u
theorem S.of {B : Nat} (h : Sl w B k A n rows) (hB : B ≤ w.heap.size) : S w k A n rows := h.more hB
theorem cellA {p : Addr} {v : Value} (h : w.cell? p = some v) (o : Obj) : (w.alloc o).cell? p = some v := (World.cell?_alloc_lt w o p (World.block_lt_of_cell? w p h)).trans h
theorem frozA {p : Addr} {v : Value} (h : w.cell? p = some v) (hf : w.frozen? p = false) (o : Obj) : (w.alloc o).frozen? p = false := frozB (Below.alloc (Below.refl _ _) (Nat.le_refl _) o) h hf
theorem sizeA {b : Nat} (h : b < w.heap.size) (o : Obj) : b < (w.alloc o).heap.size := by simp; omega
theorem sizeB {b : Nat} (hb : Onto w w') (h : b < w.heap.size) : b < w'.heap.size := Nat.lt_of_lt_of_le h hb.size
end

/-! ### A region that draws its order, its calls make memory, their values are known ahead -/
noncomputable def ontoW (w x : World) : World := open Classical in if Onto w x then x else w
section
variable {w x : World}
theorem onto_on (w x : World) : Onto w (ontoW w x) := by
  unfold ontoW; split
  · assumption
  · exact Below.refl _ _
theorem onto_of (h : Onto w x) : x = ontoW w x := by unfold ontoW; rw [if_pos h]
theorem onto_cell {p : Addr} {v : Value} (h : w.cell? p = some v) : ∀ x, (ontoW w x).cell? p = some v := fun x => cellB (onto_on w x) h
theorem onto_size {b : Nat} (h : b < w.heap.size) : ∀ x, b < (ontoW w x).heap.size := fun x => sizeB (onto_on w x) h
theorem S.ontoX {k n : Nat} {A : Option Addr} {rows : List (List Value)} (h : S w k A n rows) (x : World) : S (ontoW w x) k A n rows := S.onto h (onto_on w x)
variable {P : Program} {f : FuncId} {args : Array Value} {v : Value}
theorem calls_onto (h : Calls P f args (ontoW w x) fun e w' => e = .returned v ∧ Onto (ontoW w x) w') : Calls P f args (ontoW w x) fun e w'' => e = .returned v ∧ ∃ y, w'' = ontoW w y :=
  h.mono fun _ w' ⟨he, hw⟩ => ⟨he, w', onto_of ((onto_on w x).to hw)⟩
theorem calls_ontoQ (h : Calls P f args (ontoW w x) fun e w' => e = .returned v ∧ ∃ q, w' = (ontoW w x).drewN q) : Calls P f args (ontoW w x) fun e w'' => e = .returned v ∧ ∃ y, w'' = ontoW w y :=
  calls_onto (h.mono fun _ w' ⟨he, q, hw⟩ => ⟨he, hw ▸ below_drewN (Below.refl _ _) q⟩)
theorem calls_ontoS (h : Calls P f args (ontoW w x) fun e w' => e = .returned v ∧ ontoW w x = w') : Calls P f args (ontoW w x) fun e w'' => e = .returned v ∧ ∃ y, w'' = ontoW w y :=
  calls_onto (h.mono fun _ w' ⟨he, hw⟩ => ⟨he, hw ▸ Below.refl _ _⟩)
theorem calls_onto' {u : Value} (h : Calls P f args (ontoW w x) fun e w' => e = .returned v ∧ Onto (ontoW w x) w') (hv : v = u) : Calls P f args (ontoW w x) fun e w'' => e = .returned u ∧ ∃ y, w'' = ontoW w y :=
  hv ▸ calls_onto h
theorem calls_ontoQ' {u : Value} (h : Calls P f args (ontoW w x) fun e w' => e = .returned v ∧ ∃ q, w' = (ontoW w x).drewN q) (hv : v = u) : Calls P f args (ontoW w x) fun e w'' => e = .returned u ∧ ∃ y, w'' = ontoW w y :=
  hv ▸ calls_ontoQ h
theorem wp_region_onto {id : Nat} {Q : Exit → Act → World → Prop} {a : Act} {l : List Oper} (hm : P.follows .mixedOrders = true) (hB : Region.lexB .any l.toArray = true)
    (h : wpQuiet P l.toArray (fun w' => ∃ x, w' = ontoW w x) (fun a' => ∀ w', Onto w w' → Q .normal a' w') l a) : (Code.region id l.toArray true).wp P Q a w :=
  wp_region_quiet (C := fun w' => ∃ x, w' = ontoW w x) hm hB ⟨w.drew, onto_of ((Below.refl _ _).drew)⟩ (by
    have : (fun a' : Act => ∀ w', (∃ x, w' = ontoW w x) → Q .normal a' w') = (fun a' => ∀ w', Onto w w' → Q .normal a' w') := by
      funext a'
      exact propext ⟨fun h w' hw => h w' ⟨w', onto_of hw⟩, fun h w' ⟨x, hx⟩ => h w' (hx ▸ onto_on w x)⟩
    rw [this]
    simpa using h)
end
end Go.Proofs.YtdcegdonppfbkaaDoor
