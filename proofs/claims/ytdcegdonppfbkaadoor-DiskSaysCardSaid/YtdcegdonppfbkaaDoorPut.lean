/- Whole structs stored: what is read behind. -/
import Derived.Test.YtdcegdonppfbkaaDoorMut
import Derived.Laws.IdiomCopy
namespace Go.Proofs.YtdcegdonppfbkaaDoor
set_option linter.unusedSimpArgs false
set_option linter.unusedVariables false
open Go.RowKit

theorem put_in {w : World} {b : Nat} {vs : List Value} (hex : ∀ j, j < vs.length → (w.cell? ⟨b, j, none⟩).isSome = true) {j : Nat} {v : Value} (hj : vs[j]? = some v) : (w.setCells b 0 vs).cell? ⟨b, j, none⟩ = some v := by
  obtain ⟨hl, rfl⟩ := List.getElem?_eq_some_iff.1 hj
  have := World.cell?_setCells_in b vs 0 w (fun j hj => by simpa using hex j hj) j hl
  simpa using this
theorem put_out {w : World} {b o : Nat} {vs : List Value} {p : Addr} (hp : p.block ≠ b) : (w.setCells b o vs).cell? p = w.cell? p :=
  World.cell?_setCells_out b vs o w p fun h => absurd h hp
theorem put_size {b : Nat} : ∀ {vs : List Value} {o : Nat} {w : World}, (w.setCells b o vs).heap.size = w.heap.size
  | [], _, _ => rfl
  | v :: r, o, w => by rw [World.setCells, put_size]; simp
theorem put_onto {w : World} {b : Nat} (hb : w.heap.size ≤ b) : ∀ {vs : List Value} {o : Nat} {w1 : World}, Onto w w1 → Onto w (w1.setCells b o vs)
  | [], _, _, h => h
  | v :: r, o, w1, h => by rw [World.setCells]; exact put_onto hb (h.put hb v)
theorem put_S {w : World} {b k n : Nat} {A : Option Addr} {rows : List (List Value)} (ho : OffN n b A) : ∀ {vs : List Value} {o : Nat} {w : World}, S w k A n rows → S (w.setCells b o vs) k A n rows
  | [], _, _, h => h
  | v :: r, o, w1, h => by rw [World.setCells]; exact put_S (w := w) ho (S.off h ho v)
/-- Cells that are there. -/
def There (w : World) (b n : Nat) : Prop := ∀ j, j < n → (w.cell? ⟨b, j, none⟩).isSome = true
theorem There.put {w : World} {b n b' o : Nat} {vs : List Value} (h : There w b n) (hb : b ≠ b') : There (w.setCells b' o vs) b n := fun j hj => by
  rw [put_out (by simpa using hb)]; exact h j hj
/-- Two structs stored, in two blocks. -/
theorem put2 {w : World} {b b' : Nat} {vs us : List Value} (hb : b ≠ b') (h : There w b vs.length) (h' : There w b' us.length) :
    (∀ j v, vs[j]? = some v → ((w.setCells b 0 vs).setCells b' 0 us).cell? ⟨b, j, none⟩ = some v) ∧ (∀ j v, us[j]? = some v → ((w.setCells b 0 vs).setCells b' 0 us).cell? ⟨b', j, none⟩ = some v) :=
  ⟨fun j v hv => by rw [put_out (by simpa using hb)]; exact put_in h hv, fun j v hv => put_in (h'.put (Ne.symm hb)) hv⟩
theorem drew_cell (w : World) (p : Addr) : w.drew.cell? p = w.cell? p := rfl
theorem put2d {w : World} {b b' : Nat} {vs us : List Value} (hb : b ≠ b') (h : There w b vs.length) (h' : There w b' us.length) :
    (∀ j v, vs[j]? = some v → (((w.setCells b 0 vs).setCells b' 0 us).drew).cell? ⟨b, j, none⟩ = some v) ∧ (∀ j v, us[j]? = some v → (((w.setCells b 0 vs).setCells b' 0 us).drew).cell? ⟨b', j, none⟩ = some v) :=
  ⟨fun j v hv => (drew_cell _ _).trans ((put2 hb h h').1 j v hv), fun j v hv => (drew_cell _ _).trans ((put2 hb h h').2 j v hv)⟩
theorem there2 {w : World} {b : Nat} {v0 v1 : Value} (h0 : w.cell? ⟨b, 0, none⟩ = some v0) (h1 : w.cell? ⟨b, 1, none⟩ = some v1) : There w b 2 := fun j hj => by
  match j, hj with
  | 0, _ => rw [h0]; rfl
  | 1, _ => rw [h1]; rfl
theorem there3 {w : World} {b : Nat} {v0 v1 v2 : Value} (h0 : w.cell? ⟨b, 0, none⟩ = some v0) (h1 : w.cell? ⟨b, 1, none⟩ = some v1) (h2 : w.cell? ⟨b, 2, none⟩ = some v2) : There w b 3 := fun j hj => by
  match j, hj with
  | 0, _ => rw [h0]; rfl
  | 1, _ => rw [h1]; rfl
  | 2, _ => rw [h2]; rfl
theorem there5 {w : World} {b : Nat} {v0 v1 v2 v3 v4 : Value} (h0 : w.cell? ⟨b, 0, none⟩ = some v0) (h1 : w.cell? ⟨b, 1, none⟩ = some v1) (h2 : w.cell? ⟨b, 2, none⟩ = some v2) (h3 : w.cell? ⟨b, 3, none⟩ = some v3) (h4 : w.cell? ⟨b, 4, none⟩ = some v4) : There w b 5 := fun j hj => by
  match j, hj with
  | 0, _ => rw [h0]; rfl
  | 1, _ => rw [h1]; rfl
  | 2, _ => rw [h2]; rfl
  | 3, _ => rw [h3]; rfl
  | 4, _ => rw [h4]; rfl
theorem there8 {w : World} {b : Nat} {v0 v1 v2 v3 v4 v5 v6 v7 : Value} (h0 : w.cell? ⟨b, 0, none⟩ = some v0) (h1 : w.cell? ⟨b, 1, none⟩ = some v1) (h2 : w.cell? ⟨b, 2, none⟩ = some v2) (h3 : w.cell? ⟨b, 3, none⟩ = some v3) (h4 : w.cell? ⟨b, 4, none⟩ = some v4) (h5 : w.cell? ⟨b, 5, none⟩ = some v5) (h6 : w.cell? ⟨b, 6, none⟩ = some v6) (h7 : w.cell? ⟨b, 7, none⟩ = some v7) : There w b 8 := fun j hj => by
  match j, hj with
  | 0, _ => rw [h0]; rfl
  | 1, _ => rw [h1]; rfl
  | 2, _ => rw [h2]; rfl
  | 3, _ => rw [h3]; rfl
  | 4, _ => rw [h4]; rfl
  | 5, _ => rw [h5]; rfl
  | 6, _ => rw [h6]; rfl
  | 7, _ => rw [h7]; rfl
theorem there12 {w : World} {b : Nat} {v0 v1 v2 v3 v4 v5 v6 v7 v8 v9 v10 v11 : Value} (h0 : w.cell? ⟨b, 0, none⟩ = some v0) (h1 : w.cell? ⟨b, 1, none⟩ = some v1) (h2 : w.cell? ⟨b, 2, none⟩ = some v2) (h3 : w.cell? ⟨b, 3, none⟩ = some v3) (h4 : w.cell? ⟨b, 4, none⟩ = some v4) (h5 : w.cell? ⟨b, 5, none⟩ = some v5) (h6 : w.cell? ⟨b, 6, none⟩ = some v6) (h7 : w.cell? ⟨b, 7, none⟩ = some v7) (h8 : w.cell? ⟨b, 8, none⟩ = some v8) (h9 : w.cell? ⟨b, 9, none⟩ = some v9) (h10 : w.cell? ⟨b, 10, none⟩ = some v10) (h11 : w.cell? ⟨b, 11, none⟩ = some v11) : There w b 12 := fun j hj => by
  match j, hj with
  | 0, _ => rw [h0]; rfl
  | 1, _ => rw [h1]; rfl
  | 2, _ => rw [h2]; rfl
  | 3, _ => rw [h3]; rfl
  | 4, _ => rw [h4]; rfl
  | 5, _ => rw [h5]; rfl
  | 6, _ => rw [h6]; rfl
  | 7, _ => rw [h7]; rfl
  | 8, _ => rw [h8]; rfl
  | 9, _ => rw [h9]; rfl
  | 10, _ => rw [h10]; rfl
  | 11, _ => rw [h11]; rfl
end Go.Proofs.YtdcegdonppfbkaaDoor
