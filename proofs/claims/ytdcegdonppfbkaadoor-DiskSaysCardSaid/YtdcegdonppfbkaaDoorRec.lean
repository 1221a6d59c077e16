/- Rows of records: what their cells are; what records make of a new unit, as a plain function. -/
import Derived.Test.YtdcegdonppfbkaaDoorSee
import Derived.Test.YtdcegdonppfbkaaDoorRead
import Derived.Test.YtdcegdonppfbkaaDoorSpecR
namespace Go.Proofs.YtdcegdonppfbkaaDoor
set_option linter.unusedSimpArgs false
set_option linter.unusedVariables false
open Go.ChangeShapes Go.WideShapes Go.ChangeAt Go.RowKit Go.Deep Go.Joins

def encQ (r : Rec) : List Value := [.int .i64 r.kind, .int .i64 r.at_, .int .i64 r.epoch, .int .i64 r.e.kind, .int .i64 r.e.job, .int .i64 r.e.every, .int .i64 r.e.time, .int .i64 r.e.client]
theorem S.atQ {w : World} {A : Option Addr} {n : Nat} {l : List Rec} (h : S w 8 A n (l.map encQ)) {i : Nat} (hi : i < n) : ∃ b off x, A = some ⟨b, off, none⟩ ∧ b < w.heap.size ∧ l[i]? = some x ∧
    w.cell? ⟨b, off + i * 8, none⟩ = some (.int .i64 x.kind) ∧ w.cell? ⟨b, off + i * 8 + 1, none⟩ = some (.int .i64 x.at_) ∧ w.cell? ⟨b, off + i * 8 + 2, none⟩ = some (.int .i64 x.epoch) ∧
    w.cell? ⟨b, off + i * 8 + 3, none⟩ = some (.int .i64 x.e.kind) ∧ w.cell? ⟨b, off + i * 8 + 4, none⟩ = some (.int .i64 x.e.job) ∧ w.cell? ⟨b, off + i * 8 + 5, none⟩ = some (.int .i64 x.e.every) ∧ w.cell? ⟨b, off + i * 8 + 6, none⟩ = some (.int .i64 x.e.time) ∧ w.cell? ⟨b, off + i * 8 + 7, none⟩ = some (.int .i64 x.e.client) := by
  obtain ⟨b, off, x, e, hb, hx, hc⟩ := Sl.at_ h hi
  exact ⟨b, off, x, e, hb, hx, by simpa using hc 0 _ rfl, hc 1 _ rfl, hc 2 _ rfl, hc 3 _ rfl, hc 4 _ rfl, hc 5 _ rfl, hc 6 _ rfl, hc 7 _ rfl⟩
theorem cells_rec : Tryd.prog.cellsOf 35 = 8 := by kernel_rfl
set_option maxRecDepth 100000 in
theorem reads_rec {w : World} {cs : List Value} (h : Reads w 35 cs) : ∃ x, cs = encQ x ∧ (I64 x.kind ∧ I64 x.at_ ∧ I64 x.epoch) := by
  obtain ⟨hl, hf⟩ := reads_struct Tryd.underlying35 h
  rw [cells_rec] at hl
  match cs, hl with
  | [c0, c1, c2, c3, c4, c5, c6, c7], _ =>
    simp only [allF, cells_int, cells_entry] at hf
    obtain ⟨h0, h1, h2, h3, _⟩ := hf
    obtain ⟨z0, e0, i0⟩ := reads_int h0; obtain ⟨z1, e1, i1⟩ := reads_int h1; obtain ⟨z2, e2, i2⟩ := reads_int h2
    obtain ⟨x, e3, _⟩ := reads_entry h3
    simp [encE] at e0 e1 e2 e3
    obtain ⟨f0, f1, f2, f3, f4⟩ := e3
    exact ⟨⟨z0, z1, z2, x⟩, by simp [encQ, e0, e1, e2, f0, f1, f2, f3, f4], i0, i1, i2⟩
set_option maxRecDepth 100000 in
theorem reads_recs {w : World} {cs : List Value} (h : Reads w 50 cs) : ∃ (A : Option Addr) (n c : Nat) (l : List Rec), cs = [.slice A n c] ∧ n ≤ c ∧ c ≤ maxLen ∧ S w 8 A n (l.map encQ) := by
  obtain ⟨A, n, c, l, e, hnc, hcm, _, hs⟩ := reads_rows encQ (fun x => I64 x.kind ∧ I64 x.at_ ∧ I64 x.epoch) Tryd.underlying50 cells_rec (by omega) (fun _ => rfl) (fun _ _ h => reads_rec h) h
  exact ⟨A, n, c, l, e, hnc, hcm, hs⟩
end Go.Proofs.YtdcegdonppfbkaaDoor
