/- The closed fact 'rung': it holds. -/
import Derived.Test.YtiphoihijalfkaaReplay
import Derived.Test.YtiphoihijalfkaaMem
namespace Go.Proofs.Ytiphoihijalfkaa
set_option linter.unusedSimpArgs false
set_option linter.unusedVariables false
open Go.RowKit

theorem ring_calls (j t c : Int) (w : World) :
    Calls Try.prog 45 #[.int .i64 j, .int .i64 t, .int .i64 c] w fun e w' => e = .returned (.agg #[.int .i64 3, .int .i64 j, .int .i64 0, .int .i64 t, .int .i64 c]) ∧ Below w.heap.size w w' := by
  go_enter Try.func45, Try.ntmps45
  go_wp2
  refine bodyPost_ret (v := .agg #[.int .i64 3, .int .i64 j, .int .i64 0, .int .i64 t, .int .i64 c]) (by simp [results, Try.results45, go_sem]) rfl ⟨rfl, ?_⟩
  repeat (first | exact Below.refl _ _ | refine Below.alloc ?_ (by simp <;> omega) _ | refine Below.setCell ?_ (by simp) _)
def rungL : List Entry := [⟨1, 2, 5, 10, 0⟩, ⟨3, 2, 0, 10, 1⟩, ⟨3, 2, 0, 10, 0⟩, ⟨3, 2, 0, 15, 0⟩, ⟨3, 3, 0, 1, 0⟩, ⟨1, 1, 7, 3, 0⟩]
def rungB : Book := ⟨[⟨1, 7, 3⟩, ⟨2, 5, 20⟩], [⟨2, 10, 1⟩, ⟨2, 15, 0⟩]⟩
def rungC : Book := ⟨[⟨1, 7, 3⟩], [⟨2, 10, 1⟩, ⟨2, 15, 0⟩]⟩
theorem rung_replay : replay rungL = (rungB, 0) := by kernel_rfl
theorem rung_drop : applyB rungB ⟨2, 2, 0, 0, 0⟩ = (rungC, 0) := by kernel_rfl

set_option maxHeartbeats 4000000 in
set_option maxRecDepth 100000 in
theorem rung_calls (w : World) : Calls Try.prog 25 #[] w fun e w' => e = .returned (.bool true) ∧ Below w.heap.size w w' := by
  go_enter Try.func25, Try.ntmps25
  go_wp2_with fail
  refine Calls.mono (put_calls _ _ _ _) ?_
  rintro e w1 ⟨rfl, hb1⟩
  go_wp2_with fail
  refine Calls.mono (ring_calls _ _ _ _) ?_
  rintro e w2 ⟨rfl, hb2⟩
  go_wp2_with fail
  refine Calls.mono (ring_calls _ _ _ _) ?_
  rintro e w3 ⟨rfl, hb3⟩
  go_wp2_with fail
  refine Calls.mono (ring_calls _ _ _ _) ?_
  rintro e w4 ⟨rfl, hb4⟩
  go_wp2_with fail
  refine Calls.mono (ring_calls _ _ _ _) ?_
  rintro e w5 ⟨rfl, hb5⟩
  go_wp2_with fail
  refine Calls.mono (put_calls _ _ _ _) ?_
  rintro e w6 ⟨rfl, hb6⟩
  have h6 : Below w.heap.size w w6 := ((((hb1.trans (hb2.mono hb1.size)).trans (hb3.mono (Nat.le_trans hb1.size hb2.size))).trans (hb4.mono (by have := hb1.size; have := hb2.size; have := hb3.size; omega))).trans (hb5.mono (by have := hb1.size; have := hb2.size; have := hb3.size; have := hb4.size; omega))).trans (hb6.mono (by have := hb1.size; have := hb2.size; have := hb3.size; have := hb4.size; have := hb5.size; omega))
  clear hb1 hb2 hb3 hb4 hb5 hb6
  go_wp2_with fail
  refine Calls.mono (Replay_calls (some ⟨w6.heap.size, 0, none⟩) 6 6 _ rungL _ (Sl.block (rungL.map encE) (hNew rfl) (by simp [rungL, encE]) (by rfl)) (Nat.le_refl _)) ?_
  rw [rung_replay]
  rintro e w7 ⟨A1, n1, c1, A2, n2, c2, rfl, hs1, hs2, hb7, hf1, hf2, _, _⟩
  have hn1 := hs1.len; have hn2 := hs2.len
  simp [rungB] at hn1 hn2
  subst hn1; subst hn2
  have h7 : Below w.heap.size w w7 := (h6.alloc h6.size _).trans (hb7.mono (by have := h6.size; simp; omega))
  clear hb7 h6
  go_wp2_with fail
  have B7 := w7.heap.size
  refine Calls.mono (Apply_calls A1 A2 2 c1 2 c2 w7.heap.size rungB _ _ _ _ _ _ (by simpa using (hs1.alloc (Nat.le_refl _) _)) (by simpa using hs2.alloc (Nat.le_refl _) _) (by simp)) ?_
  rw [rung_drop]
  rintro e w8 ⟨A3, n3, c3, A4, n4, c4, rfl, hs3, hs4, hb8, hf3, hf4, _, _⟩
  have hn3 := hs3.len; have hn4 := hs4.len
  simp [rungC] at hn3 hn4
  subst hn3; subst hn4
  have h78 : Below w7.heap.size w7 w8 := ((Below.refl _ _).alloc (Nat.le_refl _) _).trans (hb8.mono (by simp))
  have q0 : w8.cell? ⟨w7.heap.size, 0, none⟩ = some (.slice A1 2 c1) := cellB hb8 (by simp [go_sem])
  have q1 : w8.cell? ⟨w7.heap.size, 1, none⟩ = some (.slice A2 2 c2) := cellB hb8 (by simp [go_sem])
  have hz8 : w7.heap.size < w8.heap.size := by have := hb8.size; simp at this; omega
  have hz8a : w7.heap.size < w8.heap.size + 1 := by omega
  have hz8b : w7.heap.size < w8.heap.size + 1 + 1 := by omega
  have h8 : Below w.heap.size w w8 := h7.trans (h78.mono h7.size)
  clear hb8 hf1 hf2 hf3 hf4 B7
  go_wp2_with fail
  refine Calls.mono (EqualJ_calls A1 (some ⟨w8.heap.size + 1, 0, none⟩) 2 2 c1 2 _ rungB.jobs rungB.jobs _ ((hs1.under (Nat.le_refl _) (by repeat (first | exact Below.refl _ _ | exact h78 | refine below_drewN ?_ _ | refine Below.alloc ?_ (by first | omega | (simp <;> omega)) _))).more ?b1) (Sl.block (rungB.jobs.map encJ) (hNew (by simp)) (by simp [rungB, encJ]) (by rfl)) (by omega)) ?_
  case b1 => simp; omega
  rintro e w9 ⟨rfl, q, rfl⟩
  rw [show decide (rungB.jobs = rungB.jobs) = true by simp]
  go_wp2_with fail
  refine Calls.mono (EqualR_calls A2 (some ⟨w8.heap.size + 1 + 1, 0, none⟩) 2 2 c2 2 _ rungB.rung rungB.rung _ ((hs2.under (Nat.le_refl _) (by repeat (first | exact Below.refl _ _ | exact h78 | refine below_drewN ?_ _ | refine Below.alloc ?_ (by first | omega | (simp <;> omega)) _))).more ?b2) (Sl.block (rungB.rung.map encR) (hNew (by simp)) (by simp [rungB, encR]) (by rfl)) (by omega)) ?_
  case b2 => simp; omega
  rintro e w9 ⟨rfl, q', rfl⟩
  rw [show decide (rungB.rung = rungB.rung) = true by simp]
  go_wp2_with fail
  refine Calls.mono (Find_calls A1 A2 2 c1 2 c2 w7.heap.size 2 rungB.jobs rungB.rung _ (hs1.under (Nat.le_refl _) (by repeat (first | exact Below.refl _ _ | exact h78 | refine below_drewN ?_ _ | refine Below.alloc ?_ (by first | omega | (simp <;> omega)) _))) (by simp; omega) (by omega)) ?_
  rw [show findB ⟨rungB.jobs, rungB.rung⟩ 2 = 1 by kernel_rfl]
  rintro e w10 ⟨rfl, hb10⟩
  have k0 : w10.cell? ⟨w7.heap.size, 0, none⟩ = some (.slice A1 2 c1) := cellB hb10 (by simp [go_sem, q0, hz8, hz8a, hz8b])
  have k1 : w10.cell? ⟨w7.heap.size, 1, none⟩ = some (.slice A2 2 c2) := cellB hb10 (by simp [go_sem, q1, hz8, hz8a, hz8b])
  have l0 : w10.cell? ⟨w8.heap.size, 0, none⟩ = some (.slice A3 1 c3) := cellB hb10 (by simp [go_sem])
  have l1 : w10.cell? ⟨w8.heap.size, 1, none⟩ = some (.slice A4 2 c4) := cellB hb10 (by simp [go_sem])
  have h810 : Below w8.heap.size w8 w10 := by
    refine Below.trans ?_ (hb10.mono (by simp <;> omega))
    repeat (first | exact Below.refl _ _ | exact Below.refl _ _ | refine below_drewN ?_ _ | refine Below.alloc ?_ (by first | omega | (simp <;> omega)) _)
  have h710 : Below w7.heap.size w7 w10 := h78.trans (h810.mono (by omega))
  have hz10 : w8.heap.size ≤ w10.heap.size := h810.size
  clear hb10 q0 q1 hz8a hz8b
  go_wp2_with fail
  refine Calls.mono (Find_calls A3 A4 1 c3 2 c4 w8.heap.size 2 rungC.jobs rungC.rung _ (hs3.under (Nat.le_refl _) (by repeat (first | exact Below.refl _ _ | exact h810 | refine below_drewN ?_ _ | refine Below.alloc ?_ (by first | omega | (simp <;> omega)) _))) (by first | omega | (simp <;> omega)) (by omega)) ?_
  rw [show findB ⟨rungC.jobs, rungC.rung⟩ 2 = -1 by kernel_rfl]
  rintro e w11 ⟨rfl, hb11⟩
  have k0' := cellB hb11 k0; have k1' := cellB hb11 k1
  have h711 : Below w7.heap.size w7 w11 := h710.trans (hb11.mono (by omega))
  clear k0 k1 l0 l1
  go_wp2_with fail
  refine Calls.mono (BSame_calls A1 A2 A1 A2 2 c1 2 c2 2 c1 2 c2 w7.heap.size rungB.jobs rungB.jobs rungB.rung rungB.rung _ (hs1.under (Nat.le_refl _) (by repeat (first | exact Below.refl _ _ | exact h711 | refine below_drewN ?_ _ | refine Below.alloc ?_ (by first | omega | (simp <;> omega)) _))) (hs2.under (Nat.le_refl _) (by repeat (first | exact Below.refl _ _ | exact h711 | refine below_drewN ?_ _ | refine Below.alloc ?_ (by first | omega | (simp <;> omega)) _))) (hs1.under (Nat.le_refl _) (by repeat (first | exact Below.refl _ _ | exact h711 | refine below_drewN ?_ _ | refine Below.alloc ?_ (by first | omega | (simp <;> omega)) _))) (hs2.under (Nat.le_refl _) (by repeat (first | exact Below.refl _ _ | exact h711 | refine below_drewN ?_ _ | refine Below.alloc ?_ (by first | omega | (simp <;> omega)) _))) h711.size (by omega) (by omega)) ?_
  rw [show decide ((⟨rungB.jobs, rungB.rung⟩ : Book) = ⟨rungB.jobs, rungB.rung⟩) = true by simp]
  rintro e w12 ⟨rfl, hb12⟩
  go_wp2_with fail
  go_ret
  exact ⟨rfl, h7.trans ((h711.trans (hb12.mono h711.size)).mono h7.size)⟩
end Go.Proofs.Ytiphoihijalfkaa
