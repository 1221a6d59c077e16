/- What the cells of a client are. -/
import Derived.Test.YtbipmoehcmighaaReadB
import Derived.Test.YtbipmoehcmighaaClient
namespace Go.Proofs.Ytbipmoehcmighaa
set_option linter.unusedSimpArgs false
set_option linter.unusedVariables false
open Go.ChangeShapes Go.WideShapes Go.ChangeAt Go.RowKit Go.Deep Go.Joins
theorem cells_client : Try.prog.cellsOf 56 = 12 := by kernel_rfl
set_option maxRecDepth 100000 in
theorem reads_client {w : World} {cs : List Value} (h : Reads w 56 cs) : ∃ (c : Cli) (A : Option Addr) (n k : Nat) (A' : Option Addr) (m d : Nat),
    cs = [.int .i64 c.epoch, .int .i64 c.doing, .int .i64 c.e.kind, .int .i64 c.e.job, .int .i64 c.e.every, .int .i64 c.e.time, .int .i64 c.e.client, .int .i64 c.at_, .int .i64 c.link, .int .i64 c.played, .slice A n k, .slice A' m d] ∧
    n ≤ k ∧ k ≤ maxLen ∧ m ≤ d ∧ d ≤ maxLen ∧ I64 c.epoch ∧ I64 c.doing ∧ (I64 c.e.kind ∧ I64 c.e.job ∧ I64 c.e.every ∧ I64 c.e.time ∧ I64 c.e.client) ∧ I64 c.at_ ∧ I64 c.link ∧ I64 c.played ∧
    S w 3 A n (c.b.jobs.map encJ) ∧ S w 3 A' m (c.b.rung.map encR) := by
  obtain ⟨hl, hf⟩ := reads_struct Try.underlying56 h
  rw [cells_client] at hl
  match cs, hl with
  | [c0, c1, c2, c3, c4, c5, c6, c7, c8, c9, c10, c11], _ =>
    simp only [allF, cells_int, cells_entry, cells_book] at hf
    obtain ⟨h0, h1, h2, h3, h4, h5, h6, _⟩ := hf
    obtain ⟨z0, e0, i0⟩ := reads_int h0; obtain ⟨z1, e1, i1⟩ := reads_int h1
    obtain ⟨x, e2, i2⟩ := reads_entry h2
    obtain ⟨z3, e3, i3⟩ := reads_int h3; obtain ⟨z4, e4, i4⟩ := reads_int h4; obtain ⟨z5, e5, i5⟩ := reads_int h5
    obtain ⟨A, n, k, A', m, d, b, e6, hnc, hc, hmd, hd, hR, hR', hs, hs'⟩ := reads_book h6
    simp [encE] at e0 e1 e2 e3 e4 e5 e6
    refine ⟨⟨z0, z1, x, z3, z4, z5, b⟩, A, n, k, A', m, d, ?_, hnc, hc, hmd, hd, i0, i1, i2, i3, i4, i5, hs, hs'⟩
    obtain ⟨rfl, rfl, rfl, rfl, rfl⟩ := e2
    obtain ⟨rfl, rfl⟩ := e6
    subst e0 e1 e3 e4 e5
    rfl
end Go.Proofs.Ytbipmoehcmighaa
