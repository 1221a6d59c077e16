/- unit.New. -/
import Derived.Test.YtdcegdonppfbkaaDoorUnit2
namespace Go.Proofs.YtdcegdonppfbkaaDoor
set_option linter.unusedSimpArgs false
set_option linter.unusedVariables false
open Go.RowKit

/-- One row in a block that was just made. -/
theorem Sl.one {w : World} {t : TypeId} (x : Entry) : Sl (w.alloc (Obj.cells #[.int .i64 x.kind, .int .i64 x.job, .int .i64 x.every, .int .i64 x.time, .int .i64 x.client] t)) (w.heap.size + 1) 5 (some ⟨w.heap.size, 0, none⟩) 1 [encE x] := by
  have := Sl.block (k := 5) (w := w.alloc (Obj.cells #[.int .i64 x.kind, .int .i64 x.job, .int .i64 x.every, .int .i64 x.time, .int .i64 x.client] t)) [encE x] (hNew rfl) (by simp [encE]) (by rfl)
  simpa using this

set_option maxHeartbeats 4000000 in
set_option maxRecDepth 100000 in
theorem UNew_calls (w : World) : Calls Tryd.prog 49 #[] w fun e w' => ∃ A c, e = .returned (.agg #[.int .i64 1, .slice A 60 c]) ∧ S w' 5 A 60 (newU.cells.map encE) ∧ Onto w w' ∧ 60 ≤ c ∧ c ≤ maxLen := by
  go_enter Tryd.func49, Tryd.ntmps49
  go_wp2_with fail
  go_loopw [3] (fun s wr => ∃ (k : Nat) (A : Option Addr) (c : Nat), k ≤ 60 ∧ s = .int .i64 k ∧ Hid (Own wr (w.heap.size + 2) 23 5 (.slice A k c) k ((List.replicate k blank).map encE)) ∧ wr.cell? ⟨w.heap.size + 1, 0, none⟩ = some (.int .i64 1) ∧ wr.cell? ⟨w.heap.size + 1, 1, none⟩ = some (.slice A k c) ∧
    wr.frozen? ⟨w.heap.size + 1, 1, none⟩ = false ∧ wr.cell? ⟨w.heap.size, 0, none⟩ = some (.int .i64 0) ∧ wr.cell? ⟨w.heap.size, 1, none⟩ = some (.slice none 0 0) ∧ wr.frozen? ⟨w.heap.size, 0, none⟩ = false ∧ wr.frozen? ⟨w.heap.size, 1, none⟩ = false ∧ Onto w wr) (fun s _ => 60 - (intOf s).toNat)
  case atStart =>
    refine ⟨0, none, 0, by omega, rfl, Own.nil _ _ _ _, by simp [go_sem], by simp [go_sem], by simp [go_sem], by simp [go_sem], by simp [go_sem], by simp [go_sem], by simp [go_sem], ?_⟩
    repeat (first | exact Below.refl _ _ | refine Below.setCell ?_ (by simp) _ | refine Below.alloc ?_ (by simp <;> omega) _)
  case round =>
    obtain ⟨k, A, c, hk, rfl, HO, q0, q1, f1, p0, p1, g0, g1, hbr⟩ := hrel
    have hz : w.heap.size + 1 < wr.heap.size := World.block_lt_of_cell? _ _ q0
    by_cases hlt : k < 60
    · obtain ⟨i0, hi0, hzz0, hzz1, hzz2⟩ := info_parts infoE
      have HI0 := Lib.hid hi0; have HZ0 := Lib.hid hzz0; have HZ1 := Lib.hid hzz1; have HZ2 := Lib.hid hzz2
      clear hi0 hzz0 hzz1 hzz2
      have hnew : Sl (wr.alloc (Obj.cells #[.int .i64 4, .int .i64 0, .int .i64 0, .int .i64 0, .int .i64 0] 23)) (wr.heap.size + 1) 5 (some ⟨wr.heap.size, 0, none⟩) 1 [encE blank] := Sl.one blank
      have HNEW := Lib.hid hnew
      clear hnew
      go_wp2_with (at_builtin; refine wpList_append_sl _ rfl (.tmp 6) (.tmp 8) 40 rfl (w.heap.size + 2) 23 i0 _ 5 40 Tryd.underlying40 HI0.out HZ0.out HZ1.out HZ2.out rfl (by decide) (.slice A k c) k ((List.replicate k blank).map encE) rfl (HO.out.alloc _) (wr.heap.size + 1) (some ⟨wr.heap.size, 0, none⟩) 1 1 [encE blank] rfl HNEW.out (by simp [encE, Value.oneCell']) (by unfold maxLen; omega) (by omega) (by simp; omega) ?_)
      intro v8 w8 own8 grow8 hv8
      obtain ⟨A8, c8, rfl, _, _⟩ := own8.slice
      have nr : ∀ z, z < w.heap.size + 2 → some z ≠ Value.ownBlock (.slice A k c) := fun z hz => HO.out.notBelow hz
      have hbA : Below wr.heap.size wr (wr.alloc (Obj.cells #[.int .i64 4, .int .i64 0, .int .i64 0, .int .i64 0, .int .i64 0] 23)) := (Below.refl _ _).alloc (Nat.le_refl _) _
      have q0' := grow_cell grow8 (cellB hbA q0) (nr _ (by simp only; omega)); have q1' := grow_cell grow8 (cellB hbA q1) (nr _ (by simp only; omega))
      have p0' := grow_cell grow8 (cellB hbA p0) (nr _ (by simp only; omega)); have p1' := grow_cell grow8 (cellB hbA p1) (nr _ (by simp only; omega))
      have f1' := grow_froz grow8 (cellB hbA q1) (frozB hbA q1 f1) (nr _ (by simp only; omega))
      have g0' := grow_froz grow8 (cellB hbA p0) (frozB hbA p0 g0) (nr _ (by simp only; omega)); have g1' := grow_froz grow8 (cellB hbA p1) (frozB hbA p1 g1) (nr _ (by simp only; omega))
      have hB8 : Below w.heap.size w w8 := below_grown (hbr.alloc (by omega) _) (by simp; omega) grow8 (fun g hg => by have := (HO.out.1.lt g hg).1; omega)
      have hz8 : w.heap.size + 1 < w8.heap.size := World.block_lt_of_cell? _ _ q0'
      have HO8 := Lib.hid own8
      clear q0 q1 p0 p1 f1 g0 g1 hbA nr grow8 hv8 hbr hz own8 HO HI0 HZ0 HZ1 HZ2 HNEW
      go_wp2_with fail
      go_roundw
      case measure => simp [intOf] <;> omega
      case rel =>
        refine ⟨k + 1, A8, c8, by omega, by go_num, ?_, by simp [go_sem, q0', q1'], by simp [go_sem, q1'], by simp [f1'], by simp [go_sem, p0'], by simp [go_sem, p1'], by simp [g0'], by simp [g1'], hB8.setCell (by simp) _⟩
        have h := HO8.out.setCell (p := ⟨w.heap.size + 1, 1, none⟩) (by simp only; omega) (.slice A8 (k + 1) c8)
        refine Lib.hid ?_
        have e : (List.replicate (k + 1) blank).map encE = (List.replicate k blank).map encE ++ [encE blank] := by rw [List.replicate_succ', List.map_append]; rfl
        rw [e]
        first | exact h | (rw [List.map_replicate]; exact h)
    · obtain rfl : k = 60 := by omega
      go_wp2_with fail
      refine bodyPost_ret (v := .agg #[.int .i64 1, .slice A 60 c]) (by simp [results, Tryd.results49, go_sem, p0, p1]) rfl ⟨A, c, rfl, ?_, ?_, HO.out.le_cap, HO.out.cap_max⟩
      · have h := ((HO.out.setCell (p := ⟨w.heap.size, 0, none⟩) (by simp only; omega) (.int .i64 1)).setCell (p := ⟨w.heap.size, 1, none⟩) (by simp only; omega) (.slice A 60 c)).sl
        exact Sl.more h (by simp)
      · exact (hbr.setCell (by simp) _).setCell (by simp) _
end Go.Proofs.YtdcegdonppfbkaaDoor
