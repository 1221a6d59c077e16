/- What the cells of units are. -/
import Derived.Test.YtbipmoehcmighaaRead
import Derived.Test.YtbipmoehcmighaaChain
namespace Go.Proofs.Ytbipmoehcmighaa
set_option linter.unusedSimpArgs false
set_option linter.unusedVariables false
open Go.ChangeShapes Go.WideShapes Go.ChangeAt Go.RowKit Go.Deep Go.Joins
theorem cells_unit : Try.prog.cellsOf 34 = 2 := by kernel_rfl
theorem cells_entries : Try.prog.cellsOf 32 = 1 := by kernel_rfl
set_option maxRecDepth 100000 in
theorem reads_unit {w : World} {cs : List Value} (h : Reads w 34 cs) : ∃ v, cs = encU v ∧ (I64 v.ep ∧ S w 5 v.A v.n (v.cells.map encE) ∧ v.n ≤ v.c ∧ v.c ≤ maxLen) := by
  obtain ⟨hl, hf⟩ := reads_struct Try.underlying34 h
  rw [cells_unit] at hl
  match cs, hl with
  | [c0, c1], _ =>
    simp only [allF, cells_int, cells_entries] at hf
    obtain ⟨h0, h1, _⟩ := hf
    obtain ⟨z0, e0, i0⟩ := reads_int h0
    obtain ⟨A, n, c, l, e1, hnc, hcm, _, hs⟩ := reads_entries h1
    simp at e0 e1
    exact ⟨⟨z0, A, n, c, l⟩, by simp [encU, e0, e1], i0, hs, hnc, hcm⟩
set_option maxRecDepth 100000 in
theorem reads_units {w : World} {cs : List Value} (h : Reads w 22 cs) : ∃ (A : Option Addr) (n c : Nat) (l : List UV), cs = [.slice A n c] ∧ n ≤ c ∧ c ≤ maxLen ∧ Us w A n l := by
  obtain ⟨A, n, c, l, e, hnc, hcm, hR, hs⟩ := reads_rows encU (fun v => I64 v.ep ∧ S w 5 v.A v.n (v.cells.map encE) ∧ v.n ≤ v.c ∧ v.c ≤ maxLen) Try.underlying22 cells_unit (by omega) (fun _ => rfl) (fun _ _ h => reads_unit h) h
  exact ⟨A, n, c, l, e, hnc, hcm, hs, fun v hv => (hR v hv).2.1, fun v hv => (hR v hv).2.2⟩
end Go.Proofs.Ytbipmoehcmighaa
