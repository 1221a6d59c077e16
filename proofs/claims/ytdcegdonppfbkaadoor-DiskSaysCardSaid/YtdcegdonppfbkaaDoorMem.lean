/- Small laws on rows: cut, taken from the front, kept over stores elsewhere. -/
import Derived.Test.YtdcegdonppfbkaaDoorFresh
namespace Go.Proofs.YtdcegdonppfbkaaDoor
set_option linter.unusedSimpArgs false
set_option linter.unusedVariables false
open Go.RowKit

theorem Sl.take {w : World} {B k n m : Nat} {A : Option Addr} {rows : List (List Value)} (h : Sl w B k A n rows) (hm : m ≤ n) : Sl w B k A m (rows.take m) :=
  ⟨by rw [List.length_take, h.1]; omega, fun r hr => h.2.1 r (List.mem_of_mem_take hr), fun h0 => by
    obtain ⟨b, off, e, hb, hc⟩ := h.2.2 (by omega)
    refine ⟨b, off, e, hb, fun i j r u hr hu => ?_⟩
    rw [List.getElem?_take] at hr
    split at hr
    · exact hc i j r u hr hu
    · cases hr⟩
theorem Sl.cut {w : World} {B k n m c : Nat} {A : Option Addr} {rows : List (List Value)} (h : Sl w B k A n rows) (hm : m ≤ n) (hc : n ≤ c) :
    Sl w B k (if c = m then A else A.map (fun a => a.add (m * k))) (n - m) (rows.drop m) := by
  refine ⟨by rw [List.length_drop, h.1], fun r hr => h.2.1 r (List.mem_of_mem_drop hr), fun h0 => ?_⟩
  obtain ⟨b, off, rfl, hb, hcell⟩ := h.2.2 (by omega)
  rw [if_neg (by omega)]
  refine ⟨b, off + m * k, by simp [Addr.add_lit], hb, fun i j r u hr hu => ?_⟩
  rw [List.getElem?_drop] at hr
  have := hcell (m + i) j r u hr hu
  rw [show off + m * k + i * k + j = off + (m + i) * k + j by rw [Nat.add_mul]; omega]
  exact this

theorem run_slice_from {P : Program} {t e : TypeId} {size : Nat} (A : Option Addr) (n c m : Nat) (ht : P.underlying t = some (.slice e)) (hz : ∀ w, (sizeOf e).run P w = .ok size w) (hm : m ≤ n) (w : World) :
    (Instr.slice t (.slice A n c) (some (.int .i64 (m : Int))) none none).run P w = .ok (.slice (if c = m then A else A.map (fun a => a.add (m * size))) (n - m) (c - m)) w := by
  have h1 : (m : Int) ≤ (n : Int) := by omega
  simp [Instr.slice, run_underlying ht, Instr.sliceBounds, hz, go_sem, h1]
/-- A block that is known whole, as 'Sl'. -/
theorem Sl.block {w : World} {b k : Nat} {t : TypeId} {fr : Nat × Nat} {cs : Array Value} (rows : List (List Value)) (h : w.heap[b]? = some (.cells cs t fr)) (hk : ∀ r ∈ rows, r.length = k) (hl : cs.toList = rows.flatten) :
    Sl w w.heap.size k (some ⟨b, 0, none⟩) rows.length rows := by
  refine ⟨rfl, hk, fun _ => ⟨b, 0, rfl, (Array.getElem?_eq_some_iff.1 h).1, fun i j r u hr hu => ?_⟩⟩
  rw [cell_of_row w b _ _ _ _ h, ← Array.getElem?_toList, hl, Nat.zero_add]
  exact flatten_at hk i j r u hr hu
/-- A row that holds nothing of block z. -/
def OffN (n z : Nat) (A : Option Addr) : Prop := 0 < n → ∀ a, A = some a → a.block ≠ z
theorem Sl.offN {w : World} {B k n z : Nat} {A : Option Addr} {rows : List (List Value)} (h : Sl w B k A n rows) (hz : B ≤ z) : OffN n z A := fun hn a e => by
  obtain ⟨b, off, e', hb, _⟩ := h.2.2 hn
  rw [e] at e'
  injection e' with e'
  subst e'
  simp only
  omega
theorem Fresh.offN {lo n z : Nat} {A : Option Addr} (h : Fresh lo A) (hz : z < lo) : OffN n z A := fun _ a e => by have := h a e; omega
theorem Sl.setOffN {w : World} {B k n : Nat} {A : Option Addr} {rows : List (List Value)} (h : Sl w B k A n rows) {p : Addr} (ho : OffN n p.block A) (u : Value) : Sl (w.setCell p u) B k A n rows :=
  ⟨h.1, h.2.1, fun hn => by
    obtain ⟨b, off, e, hb, hc⟩ := h.2.2 hn
    have := ho hn _ e
    exact ⟨b, off, e, hb, fun i j r v hr hv => (World.cell?_setCell_other w _ _ _ (by intro e; subst e; exact this rfl)).trans (hc i j r v hr hv)⟩⟩
end Go.Proofs.YtdcegdonppfbkaaDoor
