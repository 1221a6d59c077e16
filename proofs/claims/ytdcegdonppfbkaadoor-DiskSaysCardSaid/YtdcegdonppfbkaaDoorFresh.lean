/- Addresses of new memory; what stays as the world grows. -/
import Derived.Test.YtdcegdonppfbkaaDoorLib
import Derived.StillTailTactics
import Derived.BigRegion
namespace Go.Proofs.YtdcegdonppfbkaaDoor
set_option linter.unusedSimpArgs false
set_option linter.unusedVariables false
open Go.RowKit

/-- An address of new memory. -/
def Fresh (lo : Nat) (A : Option Addr) : Prop := ∀ a, A = some a → lo ≤ a.block
theorem Fresh.none_ (lo : Nat) : Fresh lo none := fun a h => by cases h
theorem Own.fresh {w : World} {base E k n c lo : Nat} {A : Option Addr} {rows : List (List Value)} (h : Own w base E k (.slice A n c) n rows) (hl : lo ≤ base) : Fresh lo A := by
  intro a e
  subst e
  exact Nat.le_trans hl (h.1.lt a.block rfl).1
theorem Own.le_cap {w : World} {base E k n c : Nat} {A : Option Addr} {rows : List (List Value)} (h : Own w base E k (.slice A n c) n rows) : n ≤ c := by
  obtain ⟨A', c', e, h1, _⟩ := h.slice
  injection e with _ _ e
  omega
theorem Sl.away {w : World} {B k n lo : Nat} {A : Option Addr} {rows : List (List Value)} (h : Sl w B k A n rows) (hf : Fresh lo A) {p : Addr} (hp : p.block < lo) (u : Value) : Sl (w.setCell p u) B k A n rows :=
  ⟨h.1, h.2.1, fun hn => by
    obtain ⟨b, off, e, hb, hc⟩ := h.2.2 hn
    have := hf _ e
    exact ⟨b, off, e, hb, fun i j r v hr hv => (World.cell?_setCell_other w _ _ _ (by intro e; subst e; simp only at this hp; omega)).trans (hc i j r v hr hv)⟩⟩
theorem bcell {W w1 : World} (hb : Below W.heap.size W w1) : (∀ b o, b < W.heap.size → w1.cell? ⟨b, o, none⟩ = W.cell? ⟨b, o, none⟩) ∧ (∀ b o, b < W.heap.size → w1.frozen? ⟨b, o, none⟩ = W.frozen? ⟨b, o, none⟩) :=
  ⟨fun b o h => hb.cell (p := ⟨b, o, none⟩) h, fun b o h => hb.frozen (p := ⟨b, o, none⟩) h⟩

theorem cellB {W w1 : World} (hb : Below W.heap.size W w1) {p : Addr} {v : Value} (h : W.cell? p = some v) : w1.cell? p = some v := (hb.cell (World.block_lt_of_cell? W p h)).trans h
theorem frozB {W w1 : World} (hb : Below W.heap.size W w1) {p : Addr} {v : Value} (h : W.cell? p = some v) (hf : W.frozen? p = false) : w1.frozen? p = false := (hb.frozen (World.block_lt_of_cell? W p h)).trans hf

theorem Own.apart {w : World} {base E k n base' E' k' n' : Nat} {v v' : Value} {rows rows' : List (List Value)} (h : Own w base E k v n rows) (h' : Own w base' E' k' v' n' rows') (hE : E ≠ E') : v'.ownBlock = none ∨ v'.ownBlock ≠ v.ownBlock := by
  rcases h'.1.2 with ⟨rfl, _⟩ | ⟨g', _, cur', rfl, _, hg', _⟩
  · exact .inl rfl
  · right
    rcases h.1.2 with ⟨rfl, _⟩ | ⟨g, _, cur, rfl, _, hg, _⟩
    · simp [Value.ownBlock]
    · intro e
      simp only [Value.ownBlock, Option.some.injEq] at e
      subst e
      rw [hg] at hg'
      injection hg' with hg'
      injection hg' with _ e2 _
      exact hE e2
theorem Own.notBelow {w : World} {base E k n : Nat} {v : Value} {rows : List (List Value)} (h : Own w base E k v n rows) {b : Nat} (hb : b < base) : some b ≠ v.ownBlock := by
  rcases h.1.2 with ⟨rfl, _⟩ | ⟨g, _, cur, rfl, hg, _⟩
  · simp [Value.ownBlock]
  · intro e
    simp only [Value.ownBlock, Option.some.injEq] at e
    omega
theorem grow_cell {w w' : World} {row : Option Nat} (hg : w.grownBy w' row) {p : Addr} {v : Value} (h : w.cell? p = some v) (hne : some p.block ≠ row) : w'.cell? p = some v := hg.cell h hne
theorem grow_froz {w w' : World} {row : Option Nat} (hg : w.grownBy w' row) {p : Addr} {v : Value} (h : w.cell? p = some v) (hf : w.frozen? p = false) (hne : some p.block ≠ row) : w'.frozen? p = false :=
  (World.frozen?_of_block (hg.block p.block (World.block_lt_of_cell? w p h) hne)).trans hf
theorem below_grown {w0 w w' : World} {B : Nat} {row : Option Nat} (hb : Below B w0 w) (hB : B ≤ w.heap.size) (hg : w.grownBy w' row) (hr : ∀ g, row = some g → B ≤ g) : Below B w0 w' := hb.grown hg hB hr

theorem Sl.grow {w w' : World} {B k n b off : Nat} {rows : List (List Value)} {row : Option Nat} (h : Sl w B k (some ⟨b, off, none⟩) n rows) (hg : w.grownBy w' row) (hne : some b ≠ row) (hB : B ≤ w.heap.size) : Sl w' B k (some ⟨b, off, none⟩) n rows :=
  ⟨h.1, h.2.1, fun hn => by
    obtain ⟨b', off', e, hb, hc⟩ := h.2.2 hn
    injection e with e; injection e with e1 e2 _
    subst e1; subst e2
    exact ⟨b, off, rfl, hb, fun i j r u hr hu => (World.cell?_of_block (hg.block b (by omega) hne)).trans (hc i j r u hr hu)⟩⟩
theorem Sl.setOff {w : World} {B k n b off : Nat} {rows : List (List Value)} (h : Sl w B k (some ⟨b, off, none⟩) n rows) {p : Addr} (hp : p.block ≠ b) (u : Value) : Sl (w.setCell p u) B k (some ⟨b, off, none⟩) n rows :=
  ⟨h.1, h.2.1, fun hn => by
    obtain ⟨b', off', e, hb, hc⟩ := h.2.2 hn
    injection e with e; injection e with e1 e2 _
    subst e1; subst e2
    exact ⟨b, off, rfl, hb, fun i j r v hr hv => (World.cell?_setCell_other w _ _ _ (by intro e; subst e; exact hp rfl)).trans (hc i j r v hr hv)⟩⟩
end Go.Proofs.YtdcegdonppfbkaaDoor
