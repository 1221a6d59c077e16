/- A cell of an own row is set. -/
import Derived.Test.YtiphoihijalfkaaLife
namespace Go.Proofs.Ytiphoihijalfkaa
set_option linter.unusedSimpArgs false
set_option linter.unusedVariables false

theorem flatten_put {α : Type} {k : Nat} : ∀ {rows : List (List α)} {i j : Nat} {r : List α}, (∀ r ∈ rows, r.length = k) → rows[i]? = some r → j < k → ∀ u, rows.flatten.set (i * k + j) u = (rows.set i (r.set j u)).flatten
  | [], i, j, r, _, h, _, u => by simp at h
  | q :: rows, 0, j, r, hk, h, hj, u => by
    simp at h
    subst h
    have hq := hk q (by simp)
    simp only [Nat.zero_mul, Nat.zero_add, List.flatten_cons, List.set_cons_zero]
    rw [List.set_append_left _ _ (by omega)]
  | q :: rows, i + 1, j, r, hk, h, hj, u => by
    simp at h
    have hq := hk q (by simp)
    simp only [List.flatten_cons, List.set_cons_succ]
    rw [List.set_append_right _ _ (by rw [hq, Nat.add_mul]; omega), hq, show (i + 1) * k + j - k = i * k + j by rw [Nat.add_mul]; omega, flatten_put (fun r hr => hk r (by simp [hr])) h hj u]
theorem Own.put {w : World} {base E k n c g : Nat} {rows : List (List Value)} {r : List Value} {i j : Nat} (h : Own w base E k (.slice (some ⟨g, 0, none⟩) n c) n rows) (hr : rows[i]? = some r) (hj : j < k) (u : Value) :
    Own (w.setCell ⟨g, i * k + j, none⟩ u) base E k (.slice (some ⟨g, 0, none⟩) n c) n (rows.set i (r.set j u)) := by
  have hl := h.2.1
  have hi : i < rows.length := (List.getElem?_eq_some_iff.1 hr).1
  obtain ⟨g', cur, e, hb, hlt, hh, h1, h2, h3, h4⟩ := h.open_ (by omega)
  injection e with e
  injection e with e _ _
  subst e
  refine Own.mk_ hb (heap_setCell_same w g (i * k + j) cur E u hh) h1 h2 (by simpa using h3) ?_ (by simpa using hl) (fun q hq => ?_)
  · have : i * k + j < n * k := by
      have : (i + 1) * k ≤ n * k := Nat.mul_le_mul_right k (by omega)
      rw [Nat.add_mul] at this; omega
    rw [← flatten_put h.2.2 hr hj u, ← h4]
    simp [List.take_set]
  · rcases List.mem_or_eq_of_mem_set hq with h5 | h5
    · exact h.2.2 q h5
    · rw [h5, List.length_set]; exact h.2.2 r (List.mem_of_getElem? hr)
end Go.Proofs.Ytiphoihijalfkaa
