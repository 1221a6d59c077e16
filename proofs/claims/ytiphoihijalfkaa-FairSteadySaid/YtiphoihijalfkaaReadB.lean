/- What the cells of a book are. -/
import Derived.Test.YtiphoihijalfkaaRead
import Derived.Test.YtiphoihijalfkaaSpec
namespace Go.Proofs.Ytiphoihijalfkaa
set_option linter.unusedSimpArgs false
set_option linter.unusedVariables false
open Go.ChangeShapes Go.WideShapes Go.ChangeAt Go.RowKit Go.Deep Go.Joins
theorem cells_job : Try.prog.cellsOf 46 = 3 := by kernel_rfl
theorem cells_rung : Try.prog.cellsOf 56 = 3 := by kernel_rfl
theorem cells_jobs : Try.prog.cellsOf 35 = 1 := by kernel_rfl
theorem cells_rungs : Try.prog.cellsOf 36 = 1 := by kernel_rfl
theorem cells_book : Try.prog.cellsOf 38 = 2 := by kernel_rfl
set_option maxRecDepth 100000 in
theorem reads_job {w : World} {cs : List Value} (h : Reads w 46 cs) : ∃ x, cs = encJ x ∧ (I64 x.id ∧ I64 x.every ∧ I64 x.next) := by
  obtain ⟨hl, hf⟩ := reads_struct Try.underlying46 h
  rw [cells_job] at hl
  match cs, hl with
  | [c0, c1, c2], _ =>
    simp only [allF, cells_int] at hf
    obtain ⟨h0, h1, h2, _⟩ := hf
    obtain ⟨z0, e0, i0⟩ := reads_int h0; obtain ⟨z1, e1, i1⟩ := reads_int h1; obtain ⟨z2, e2, i2⟩ := reads_int h2
    simp at e0 e1 e2
    exact ⟨⟨z0, z1, z2⟩, by simp [encJ, e0, e1, e2], i0, i1, i2⟩
set_option maxRecDepth 100000 in
theorem reads_rung {w : World} {cs : List Value} (h : Reads w 56 cs) : ∃ x, cs = encR x ∧ (I64 x.job ∧ I64 x.time ∧ I64 x.client) := by
  obtain ⟨hl, hf⟩ := reads_struct Try.underlying56 h
  rw [cells_rung] at hl
  match cs, hl with
  | [c0, c1, c2], _ =>
    simp only [allF, cells_int] at hf
    obtain ⟨h0, h1, h2, _⟩ := hf
    obtain ⟨z0, e0, i0⟩ := reads_int h0; obtain ⟨z1, e1, i1⟩ := reads_int h1; obtain ⟨z2, e2, i2⟩ := reads_int h2
    simp at e0 e1 e2
    exact ⟨⟨z0, z1, z2⟩, by simp [encR, e0, e1, e2], i0, i1, i2⟩
set_option maxRecDepth 100000 in
theorem reads_book {w : World} {cs : List Value} (h : Reads w 38 cs) : ∃ (A : Option Addr) (n c : Nat) (A' : Option Addr) (m d : Nat) (b : Book), cs = [.slice A n c, .slice A' m d] ∧ n ≤ c ∧ c ≤ maxLen ∧ m ≤ d ∧ d ≤ maxLen ∧
    (∀ x ∈ b.jobs, I64 x.id ∧ I64 x.every ∧ I64 x.next) ∧ (∀ x ∈ b.rung, I64 x.job ∧ I64 x.time ∧ I64 x.client) ∧ Sl w w.heap.size 3 A n (b.jobs.map encJ) ∧ Sl w w.heap.size 3 A' m (b.rung.map encR) := by
  obtain ⟨hl, hf⟩ := reads_struct Try.underlying38 h
  rw [cells_book] at hl
  match cs, hl with
  | [c0, c1], _ =>
    simp only [allF, cells_jobs, cells_rungs] at hf
    obtain ⟨h0, h1, _⟩ := hf
    obtain ⟨A, n, c, l, e0, hnc, hc, hR, hs⟩ := reads_rows encJ _ Try.underlying35 cells_job (by omega) (fun _ => rfl) (fun _ _ h => reads_job h) h0
    obtain ⟨A', m, d, l', e1, hmd, hd, hR', hs'⟩ := reads_rows encR _ Try.underlying36 cells_rung (by omega) (fun _ => rfl) (fun _ _ h => reads_rung h) h1
    simp at e0 e1
    exact ⟨A, n, c, A', m, d, ⟨l, l'⟩, by simp [e0, e1], hnc, hc, hmd, hd, hR, hR', hs, hs'⟩
end Go.Proofs.Ytiphoihijalfkaa
