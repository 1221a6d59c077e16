/- client.Place, Fill. -/
import Derived.Test.YtbipmoehcmighaaClient4
namespace Go.Proofs.Ytbipmoehcmighaa
set_option linter.unusedSimpArgs false
set_option linter.unusedVariables false
open Go.RowKit

set_option maxHeartbeats 8000000 in
set_option maxRecDepth 100000 in
theorem ClPlace_calls (ep dg at_ ln pl : Int) (x : Entry) (A A' : Option Addr) (n c m d : Nat) (b : Book) (v : Int) (w : World) (h : S w 3 A n (b.jobs.map encJ)) (h' : S w 3 A' m (b.rung.map encR)) :
    Calls Try.prog 48 #[.agg #[.int .i64 ep, .int .i64 dg, .int .i64 x.kind, .int .i64 x.job, .int .i64 x.every, .int .i64 x.time, .int .i64 x.client, .int .i64 at_, .int .i64 ln, .int .i64 pl, .slice A n c, .slice A' m d], .int .i64 v] w (ClPost w (placeCl ⟨ep, dg, x, at_, ln, pl, b⟩ v).1 (placeCl ⟨ep, dg, x, at_, ln, pl, b⟩ v).2) := by
  obtain ⟨q, hq⟩ : ∃ q, q = checkCl ⟨ep, dg, x, at_, ln, pl, b⟩ := ⟨_, rfl⟩
  obtain ⟨r, hr⟩ : ∃ r, r = placeCl ⟨ep, dg, x, at_, ln, pl, b⟩ v := ⟨_, rfl⟩
  rw [← hr]
  unfold placeCl at hr
  rw [← hq] at hr
  dsimp only at hr
  have HQ := Lib.hid hq; have HR0 := Lib.hid hr
  clear hq hr
  go_enter Try.func48, Try.ntmps48
  go_wp2_with fail
  refine Calls.mono (ClCheck_calls ep dg at_ ln pl x A A' n c m d b _ ((h.new _).new _) ((h'.new _).new _)) ?_
  rw [← HQ.out]
  rintro e w1 ⟨rfl, hb1⟩
  have q0a : w1.cell? ⟨w.heap.size, 0, none⟩ = some (.int .i64 ep) := cellB hb1 (by simp [go_sem])
  have fq0a : w1.frozen? ⟨w.heap.size, 0, none⟩ = false := frozB hb1 (v := .int .i64 ep) (by simp [go_sem]) (by simp [go_sem])
  have q1a : w1.cell? ⟨w.heap.size, 1, none⟩ = some (.int .i64 dg) := cellB hb1 (by simp [go_sem])
  have fq1a : w1.frozen? ⟨w.heap.size, 1, none⟩ = false := frozB hb1 (v := .int .i64 dg) (by simp [go_sem]) (by simp [go_sem])
  have q2a : w1.cell? ⟨w.heap.size, 2, none⟩ = some (.int .i64 x.kind) := cellB hb1 (by simp [go_sem])
  have fq2a : w1.frozen? ⟨w.heap.size, 2, none⟩ = false := frozB hb1 (v := .int .i64 x.kind) (by simp [go_sem]) (by simp [go_sem])
  have q3a : w1.cell? ⟨w.heap.size, 3, none⟩ = some (.int .i64 x.job) := cellB hb1 (by simp [go_sem])
  have fq3a : w1.frozen? ⟨w.heap.size, 3, none⟩ = false := frozB hb1 (v := .int .i64 x.job) (by simp [go_sem]) (by simp [go_sem])
  have q4a : w1.cell? ⟨w.heap.size, 4, none⟩ = some (.int .i64 x.every) := cellB hb1 (by simp [go_sem])
  have fq4a : w1.frozen? ⟨w.heap.size, 4, none⟩ = false := frozB hb1 (v := .int .i64 x.every) (by simp [go_sem]) (by simp [go_sem])
  have q5a : w1.cell? ⟨w.heap.size, 5, none⟩ = some (.int .i64 x.time) := cellB hb1 (by simp [go_sem])
  have fq5a : w1.frozen? ⟨w.heap.size, 5, none⟩ = false := frozB hb1 (v := .int .i64 x.time) (by simp [go_sem]) (by simp [go_sem])
  have q6a : w1.cell? ⟨w.heap.size, 6, none⟩ = some (.int .i64 x.client) := cellB hb1 (by simp [go_sem])
  have fq6a : w1.frozen? ⟨w.heap.size, 6, none⟩ = false := frozB hb1 (v := .int .i64 x.client) (by simp [go_sem]) (by simp [go_sem])
  have q7a : w1.cell? ⟨w.heap.size, 7, none⟩ = some (.int .i64 at_) := cellB hb1 (by simp [go_sem])
  have fq7a : w1.frozen? ⟨w.heap.size, 7, none⟩ = false := frozB hb1 (v := .int .i64 at_) (by simp [go_sem]) (by simp [go_sem])
  have q8a : w1.cell? ⟨w.heap.size, 8, none⟩ = some (.int .i64 ln) := cellB hb1 (by simp [go_sem])
  have fq8a : w1.frozen? ⟨w.heap.size, 8, none⟩ = false := frozB hb1 (v := .int .i64 ln) (by simp [go_sem]) (by simp [go_sem])
  have q9a : w1.cell? ⟨w.heap.size, 9, none⟩ = some (.int .i64 pl) := cellB hb1 (by simp [go_sem])
  have fq9a : w1.frozen? ⟨w.heap.size, 9, none⟩ = false := frozB hb1 (v := .int .i64 pl) (by simp [go_sem]) (by simp [go_sem])
  have q10a : w1.cell? ⟨w.heap.size, 10, none⟩ = some (.slice A n c) := cellB hb1 (by simp [go_sem])
  have fq10a : w1.frozen? ⟨w.heap.size, 10, none⟩ = false := frozB hb1 (v := .slice A n c) (by simp [go_sem]) (by simp [go_sem])
  have q11a : w1.cell? ⟨w.heap.size, 11, none⟩ = some (.slice A' m d) := cellB hb1 (by simp [go_sem])
  have fq11a : w1.frozen? ⟨w.heap.size, 11, none⟩ = false := frozB hb1 (v := .slice A' m d) (by simp [go_sem]) (by simp [go_sem])
  have p0a : w1.cell? ⟨w.heap.size + 1, 0, none⟩ = some (.int .i64 0) := cellB hb1 (by simp [go_sem])
  have fp0a : w1.frozen? ⟨w.heap.size + 1, 0, none⟩ = false := frozB hb1 (v := .int .i64 0) (by simp [go_sem]) (by simp [go_sem])
  have p1a : w1.cell? ⟨w.heap.size + 1, 1, none⟩ = some (.int .i64 0) := cellB hb1 (by simp [go_sem])
  have fp1a : w1.frozen? ⟨w.heap.size + 1, 1, none⟩ = false := frozB hb1 (v := .int .i64 0) (by simp [go_sem]) (by simp [go_sem])
  have p2a : w1.cell? ⟨w.heap.size + 1, 2, none⟩ = some (.int .i64 0) := cellB hb1 (by simp [go_sem])
  have fp2a : w1.frozen? ⟨w.heap.size + 1, 2, none⟩ = false := frozB hb1 (v := .int .i64 0) (by simp [go_sem]) (by simp [go_sem])
  have p3a : w1.cell? ⟨w.heap.size + 1, 3, none⟩ = some (.int .i64 0) := cellB hb1 (by simp [go_sem])
  have fp3a : w1.frozen? ⟨w.heap.size + 1, 3, none⟩ = false := frozB hb1 (v := .int .i64 0) (by simp [go_sem]) (by simp [go_sem])
  have p4a : w1.cell? ⟨w.heap.size + 1, 4, none⟩ = some (.int .i64 0) := cellB hb1 (by simp [go_sem])
  have fp4a : w1.frozen? ⟨w.heap.size + 1, 4, none⟩ = false := frozB hb1 (v := .int .i64 0) (by simp [go_sem]) (by simp [go_sem])
  have p5a : w1.cell? ⟨w.heap.size + 1, 5, none⟩ = some (.int .i64 0) := cellB hb1 (by simp [go_sem])
  have fp5a : w1.frozen? ⟨w.heap.size + 1, 5, none⟩ = false := frozB hb1 (v := .int .i64 0) (by simp [go_sem]) (by simp [go_sem])
  have p6a : w1.cell? ⟨w.heap.size + 1, 6, none⟩ = some (.int .i64 0) := cellB hb1 (by simp [go_sem])
  have fp6a : w1.frozen? ⟨w.heap.size + 1, 6, none⟩ = false := frozB hb1 (v := .int .i64 0) (by simp [go_sem]) (by simp [go_sem])
  have p7a : w1.cell? ⟨w.heap.size + 1, 7, none⟩ = some (.int .i64 0) := cellB hb1 (by simp [go_sem])
  have fp7a : w1.frozen? ⟨w.heap.size + 1, 7, none⟩ = false := frozB hb1 (v := .int .i64 0) (by simp [go_sem]) (by simp [go_sem])
  have p8a : w1.cell? ⟨w.heap.size + 1, 8, none⟩ = some (.int .i64 0) := cellB hb1 (by simp [go_sem])
  have fp8a : w1.frozen? ⟨w.heap.size + 1, 8, none⟩ = false := frozB hb1 (v := .int .i64 0) (by simp [go_sem]) (by simp [go_sem])
  have p9a : w1.cell? ⟨w.heap.size + 1, 9, none⟩ = some (.int .i64 0) := cellB hb1 (by simp [go_sem])
  have fp9a : w1.frozen? ⟨w.heap.size + 1, 9, none⟩ = false := frozB hb1 (v := .int .i64 0) (by simp [go_sem]) (by simp [go_sem])
  have p10a : w1.cell? ⟨w.heap.size + 1, 10, none⟩ = some (.slice none 0 0) := cellB hb1 (by simp [go_sem])
  have fp10a : w1.frozen? ⟨w.heap.size + 1, 10, none⟩ = false := frozB hb1 (v := .slice none 0 0) (by simp [go_sem]) (by simp [go_sem])
  have p11a : w1.cell? ⟨w.heap.size + 1, 11, none⟩ = some (.slice none 0 0) := cellB hb1 (by simp [go_sem])
  have fp11a : w1.frozen? ⟨w.heap.size + 1, 11, none⟩ = false := frozB hb1 (v := .slice none 0 0) (by simp [go_sem]) (by simp [go_sem])
  have h01 : Onto w w1 := (((Below.refl _ _).alloc (Nat.le_refl _) _).alloc (by simp) _).trans (hb1.mono (by simp; omega))
  have g1 := h.onto h01; have g1' := h'.onto h01
  have hz1 : w.heap.size + 1 < w1.heap.size := World.block_lt_of_cell? _ _ p0a
  clear hb1 h h'
  have hr := HR0.out
  by_cases h0 : q = 0
  · rw [if_neg (by simp [h0])] at hr
    have hgb := checkCl_book (HQ.out.symm.trans h0)
    have hn : n ≤ 1000000 := by have h9 := hgb.nj; dsimp only at h9; have := g1.len; simp only [List.length_map] at this; omega
    have hm : m ≤ 1000000 := by have h9 := hgb.nr; dsimp only at h9; have := g1'.len; simp only [List.length_map] at this; omega
    subst h0
    clear hgb HR0
    by_cases hc : dg ≠ 1
    · rw [if_pos hc] at hr
      have HR := Lib.hid hr
      clear hr g1 g1'
      have hd3 : (dg != 1) = true := by simpa using hc
      clear hc
      go_wp2_with fail
      rw [show ((((((((((((w1.setCell ⟨w.heap.size + 1, 0, none⟩ (.int .i64 0)).setCell ⟨w.heap.size + 1, 1, none⟩ (.int .i64 0)).setCell ⟨w.heap.size + 1, 2, none⟩ (.int .i64 0)).setCell ⟨w.heap.size + 1, 3, none⟩ (.int .i64 0)).setCell ⟨w.heap.size + 1, 4, none⟩ (.int .i64 0)).setCell ⟨w.heap.size + 1, 5, none⟩ (.int .i64 0)).setCell ⟨w.heap.size + 1, 6, none⟩ (.int .i64 0)).setCell ⟨w.heap.size + 1, 7, none⟩ (.int .i64 0)).setCell ⟨w.heap.size + 1, 8, none⟩ (.int .i64 0)).setCell ⟨w.heap.size + 1, 9, none⟩ (.int .i64 0)).setCell ⟨w.heap.size + 1, 10, none⟩ (.slice none 0 0)).setCell ⟨w.heap.size + 1, 11, none⟩ (.slice none 0 0)) = (w1.setCells (w.heap.size + 1) 0 [.int .i64 0, .int .i64 0, .int .i64 0, .int .i64 0, .int .i64 0, .int .i64 0, .int .i64 0, .int .i64 0, .int .i64 0, .int .i64 0, .slice none 0 0, .slice none 0 0]) from rfl]
      have hE : Onto w (w1.setCells (w.heap.size + 1) 0 [.int .i64 0, .int .i64 0, .int .i64 0, .int .i64 0, .int .i64 0, .int .i64 0, .int .i64 0, .int .i64 0, .int .i64 0, .int .i64 0, .slice none 0 0, .slice none 0 0]) := put_onto (by omega) h01
      have F : ∀ (j : Nat) vv, ([.int .i64 0, .int .i64 0, .int .i64 0, .int .i64 0, .int .i64 0, .int .i64 0, .int .i64 0, .int .i64 0, .int .i64 0, .int .i64 0, .slice none 0 0, .slice none 0 0] : List Value)[j]? = some vv → (w1.setCells (w.heap.size + 1) 0 [.int .i64 0, .int .i64 0, .int .i64 0, .int .i64 0, .int .i64 0, .int .i64 0, .int .i64 0, .int .i64 0, .int .i64 0, .int .i64 0, .slice none 0 0, .slice none 0 0]).cell? ⟨w.heap.size + 1, j, none⟩ = some vv := fun j vv hv => put_in (w := w1) (b := w.heap.size + 1) (vs := [.int .i64 0, .int .i64 0, .int .i64 0, .int .i64 0, .int .i64 0, .int .i64 0, .int .i64 0, .int .i64 0, .int .i64 0, .int .i64 0, .slice none 0 0, .slice none 0 0]) (there12 p0a p1a p2a p3a p4a p5a p6a p7a p8a p9a p10a p11a) hv
      generalize (w1.setCells (w.heap.size + 1) 0 [.int .i64 0, .int .i64 0, .int .i64 0, .int .i64 0, .int .i64 0, .int .i64 0, .int .i64 0, .int .i64 0, .int .i64 0, .int .i64 0, .slice none 0 0, .slice none 0 0]) = wf at F hE ⊢
      have z0 := F 0 _ rfl
      have z1 := F 1 _ rfl
      have z2 := F 2 _ rfl
      have z3 := F 3 _ rfl
      have z4 := F 4 _ rfl
      have z5 := F 5 _ rfl
      have z6 := F 6 _ rfl
      have z7 := F 7 _ rfl
      have z8 := F 8 _ rfl
      have z9 := F 9 _ rfl
      have z10 := F 10 _ rfl
      have z11 := F 11 _ rfl
      refine bodyPost_ret (v := .tuple #[.agg #[.int .i64 0, .int .i64 0, .int .i64 0, .int .i64 0, .int .i64 0, .int .i64 0, .int .i64 0, .int .i64 0, .int .i64 0, .int .i64 0, .slice none 0 0, .slice none 0 0], .int .i64 7]) (by simp [results, Try.results48, go_sem, z0, z1, z2, z3, z4, z5, z6, z7, z8, z9, z10, z11]) rfl ?_
      rw [HR.out]
      exact ⟨none, 0, 0, none, 0, 0, rfl, Sl.nil, Sl.nil, hE, Nat.le_refl _, Nat.le_refl _, Fresh.none_ _, Fresh.none_ _⟩
    · rw [if_neg hc] at hr
      have hd3 : (dg != 1) = false := by simpa using hc
      clear hc
      by_cases hc : v < 0 ∨ 60 ≤ v
      · rw [if_pos hc] at hr
        have HR := Lib.hid hr
        clear hr g1 g1'
        by_cases hcc : v < 0
        · clear hc
          go_wp2_with fail
          rw [show ((((((((((((w1.setCell ⟨w.heap.size + 1, 0, none⟩ (.int .i64 0)).setCell ⟨w.heap.size + 1, 1, none⟩ (.int .i64 0)).setCell ⟨w.heap.size + 1, 2, none⟩ (.int .i64 0)).setCell ⟨w.heap.size + 1, 3, none⟩ (.int .i64 0)).setCell ⟨w.heap.size + 1, 4, none⟩ (.int .i64 0)).setCell ⟨w.heap.size + 1, 5, none⟩ (.int .i64 0)).setCell ⟨w.heap.size + 1, 6, none⟩ (.int .i64 0)).setCell ⟨w.heap.size + 1, 7, none⟩ (.int .i64 0)).setCell ⟨w.heap.size + 1, 8, none⟩ (.int .i64 0)).setCell ⟨w.heap.size + 1, 9, none⟩ (.int .i64 0)).setCell ⟨w.heap.size + 1, 10, none⟩ (.slice none 0 0)).setCell ⟨w.heap.size + 1, 11, none⟩ (.slice none 0 0)) = (w1.setCells (w.heap.size + 1) 0 [.int .i64 0, .int .i64 0, .int .i64 0, .int .i64 0, .int .i64 0, .int .i64 0, .int .i64 0, .int .i64 0, .int .i64 0, .int .i64 0, .slice none 0 0, .slice none 0 0]) from rfl]
          have hE : Onto w (w1.setCells (w.heap.size + 1) 0 [.int .i64 0, .int .i64 0, .int .i64 0, .int .i64 0, .int .i64 0, .int .i64 0, .int .i64 0, .int .i64 0, .int .i64 0, .int .i64 0, .slice none 0 0, .slice none 0 0]) := put_onto (by omega) h01
          have F : ∀ (j : Nat) vv, ([.int .i64 0, .int .i64 0, .int .i64 0, .int .i64 0, .int .i64 0, .int .i64 0, .int .i64 0, .int .i64 0, .int .i64 0, .int .i64 0, .slice none 0 0, .slice none 0 0] : List Value)[j]? = some vv → (w1.setCells (w.heap.size + 1) 0 [.int .i64 0, .int .i64 0, .int .i64 0, .int .i64 0, .int .i64 0, .int .i64 0, .int .i64 0, .int .i64 0, .int .i64 0, .int .i64 0, .slice none 0 0, .slice none 0 0]).cell? ⟨w.heap.size + 1, j, none⟩ = some vv := fun j vv hv => put_in (w := w1) (b := w.heap.size + 1) (vs := [.int .i64 0, .int .i64 0, .int .i64 0, .int .i64 0, .int .i64 0, .int .i64 0, .int .i64 0, .int .i64 0, .int .i64 0, .int .i64 0, .slice none 0 0, .slice none 0 0]) (there12 p0a p1a p2a p3a p4a p5a p6a p7a p8a p9a p10a p11a) hv
          generalize (w1.setCells (w.heap.size + 1) 0 [.int .i64 0, .int .i64 0, .int .i64 0, .int .i64 0, .int .i64 0, .int .i64 0, .int .i64 0, .int .i64 0, .int .i64 0, .int .i64 0, .slice none 0 0, .slice none 0 0]) = wf at F hE ⊢
          have z0 := F 0 _ rfl
          have z1 := F 1 _ rfl
          have z2 := F 2 _ rfl
          have z3 := F 3 _ rfl
          have z4 := F 4 _ rfl
          have z5 := F 5 _ rfl
          have z6 := F 6 _ rfl
          have z7 := F 7 _ rfl
          have z8 := F 8 _ rfl
          have z9 := F 9 _ rfl
          have z10 := F 10 _ rfl
          have z11 := F 11 _ rfl
          refine bodyPost_ret (v := .tuple #[.agg #[.int .i64 0, .int .i64 0, .int .i64 0, .int .i64 0, .int .i64 0, .int .i64 0, .int .i64 0, .int .i64 0, .int .i64 0, .int .i64 0, .slice none 0 0, .slice none 0 0], .int .i64 5]) (by simp [results, Try.results48, go_sem, z0, z1, z2, z3, z4, z5, z6, z7, z8, z9, z10, z11]) rfl ?_
          rw [HR.out]
          exact ⟨none, 0, 0, none, 0, 0, rfl, Sl.nil, Sl.nil, hE, Nat.le_refl _, Nat.le_refl _, Fresh.none_ _, Fresh.none_ _⟩
        · have hd2 : 60 ≤ v := by omega
          clear hc
          go_wp2_with fail
          rw [show ((((((((((((w1.setCell ⟨w.heap.size + 1, 0, none⟩ (.int .i64 0)).setCell ⟨w.heap.size + 1, 1, none⟩ (.int .i64 0)).setCell ⟨w.heap.size + 1, 2, none⟩ (.int .i64 0)).setCell ⟨w.heap.size + 1, 3, none⟩ (.int .i64 0)).setCell ⟨w.heap.size + 1, 4, none⟩ (.int .i64 0)).setCell ⟨w.heap.size + 1, 5, none⟩ (.int .i64 0)).setCell ⟨w.heap.size + 1, 6, none⟩ (.int .i64 0)).setCell ⟨w.heap.size + 1, 7, none⟩ (.int .i64 0)).setCell ⟨w.heap.size + 1, 8, none⟩ (.int .i64 0)).setCell ⟨w.heap.size + 1, 9, none⟩ (.int .i64 0)).setCell ⟨w.heap.size + 1, 10, none⟩ (.slice none 0 0)).setCell ⟨w.heap.size + 1, 11, none⟩ (.slice none 0 0)) = (w1.setCells (w.heap.size + 1) 0 [.int .i64 0, .int .i64 0, .int .i64 0, .int .i64 0, .int .i64 0, .int .i64 0, .int .i64 0, .int .i64 0, .int .i64 0, .int .i64 0, .slice none 0 0, .slice none 0 0]) from rfl]
          have hE : Onto w (w1.setCells (w.heap.size + 1) 0 [.int .i64 0, .int .i64 0, .int .i64 0, .int .i64 0, .int .i64 0, .int .i64 0, .int .i64 0, .int .i64 0, .int .i64 0, .int .i64 0, .slice none 0 0, .slice none 0 0]) := put_onto (by omega) h01
          have F : ∀ (j : Nat) vv, ([.int .i64 0, .int .i64 0, .int .i64 0, .int .i64 0, .int .i64 0, .int .i64 0, .int .i64 0, .int .i64 0, .int .i64 0, .int .i64 0, .slice none 0 0, .slice none 0 0] : List Value)[j]? = some vv → (w1.setCells (w.heap.size + 1) 0 [.int .i64 0, .int .i64 0, .int .i64 0, .int .i64 0, .int .i64 0, .int .i64 0, .int .i64 0, .int .i64 0, .int .i64 0, .int .i64 0, .slice none 0 0, .slice none 0 0]).cell? ⟨w.heap.size + 1, j, none⟩ = some vv := fun j vv hv => put_in (w := w1) (b := w.heap.size + 1) (vs := [.int .i64 0, .int .i64 0, .int .i64 0, .int .i64 0, .int .i64 0, .int .i64 0, .int .i64 0, .int .i64 0, .int .i64 0, .int .i64 0, .slice none 0 0, .slice none 0 0]) (there12 p0a p1a p2a p3a p4a p5a p6a p7a p8a p9a p10a p11a) hv
          generalize (w1.setCells (w.heap.size + 1) 0 [.int .i64 0, .int .i64 0, .int .i64 0, .int .i64 0, .int .i64 0, .int .i64 0, .int .i64 0, .int .i64 0, .int .i64 0, .int .i64 0, .slice none 0 0, .slice none 0 0]) = wf at F hE ⊢
          have z0 := F 0 _ rfl
          have z1 := F 1 _ rfl
          have z2 := F 2 _ rfl
          have z3 := F 3 _ rfl
          have z4 := F 4 _ rfl
          have z5 := F 5 _ rfl
          have z6 := F 6 _ rfl
          have z7 := F 7 _ rfl
          have z8 := F 8 _ rfl
          have z9 := F 9 _ rfl
          have z10 := F 10 _ rfl
          have z11 := F 11 _ rfl
          refine bodyPost_ret (v := .tuple #[.agg #[.int .i64 0, .int .i64 0, .int .i64 0, .int .i64 0, .int .i64 0, .int .i64 0, .int .i64 0, .int .i64 0, .int .i64 0, .int .i64 0, .slice none 0 0, .slice none 0 0], .int .i64 5]) (by simp [results, Try.results48, go_sem, z0, z1, z2, z3, z4, z5, z6, z7, z8, z9, z10, z11]) rfl ?_
          rw [HR.out]
          exact ⟨none, 0, 0, none, 0, 0, rfl, Sl.nil, Sl.nil, hE, Nat.le_refl _, Nat.le_refl _, Fresh.none_ _, Fresh.none_ _⟩
      · rw [if_neg hc] at hr
        have hd1 : ¬ v < 0 := by omega
        have hd2 : ¬ 60 ≤ v := by omega
        clear hc
        have HR := Lib.hid hr
        clear hr
        go_wp2_with fail
        refine Calls.mono (ClCopy_calls ep dg at_ ln pl x A A' n c m d b _ g1 g1' hn hm) ?_
        rintro e w2 ⟨A1, c1, A2, c2, rfl, s1, s2, hb2, hc1, hc2, fr1, fr2⟩
        have q0b := cellB hb2 q0a; have fq0b := frozB hb2 q0a fq0a; have q1b := cellB hb2 q1a; have fq1b := frozB hb2 q1a fq1a; have q2b := cellB hb2 q2a; have fq2b := frozB hb2 q2a fq2a; have q3b := cellB hb2 q3a; have fq3b := frozB hb2 q3a fq3a; have q4b := cellB hb2 q4a; have fq4b := frozB hb2 q4a fq4a; have q5b := cellB hb2 q5a; have fq5b := frozB hb2 q5a fq5a; have q6b := cellB hb2 q6a; have fq6b := frozB hb2 q6a fq6a; have q7b := cellB hb2 q7a; have fq7b := frozB hb2 q7a fq7a; have q8b := cellB hb2 q8a; have fq8b := frozB hb2 q8a fq8a; have q9b := cellB hb2 q9a; have fq9b := frozB hb2 q9a fq9a; have q10b := cellB hb2 q10a; have fq10b := frozB hb2 q10a fq10a; have q11b := cellB hb2 q11a; have fq11b := frozB hb2 q11a fq11a; have p0b := cellB hb2 p0a; have fp0b := frozB hb2 p0a fp0a; have p1b := cellB hb2 p1a; have fp1b := frozB hb2 p1a fp1a; have p2b := cellB hb2 p2a; have fp2b := frozB hb2 p2a fp2a; have p3b := cellB hb2 p3a; have fp3b := frozB hb2 p3a fp3a; have p4b := cellB hb2 p4a; have fp4b := frozB hb2 p4a fp4a; have p5b := cellB hb2 p5a; have fp5b := frozB hb2 p5a fp5a; have p6b := cellB hb2 p6a; have fp6b := frozB hb2 p6a fp6a; have p7b := cellB hb2 p7a; have fp7b := frozB hb2 p7a fp7a; have p8b := cellB hb2 p8a; have fp8b := frozB hb2 p8a fp8a; have p9b := cellB hb2 p9a; have fp9b := frozB hb2 p9a fp9a; have p10b := cellB hb2 p10a; have fp10b := frozB hb2 p10a fp10a; have p11b := cellB hb2 p11a; have fp11b := frozB hb2 p11a fp11a
        clear q0a fq0a q1a fq1a q2a fq2a q3a fq3a q4a fq4a q5a fq5a q6a fq6a q7a fq7a q8a fq8a q9a fq9a q10a fq10a q11a fq11a p0a fp0a p1a fp1a p2a fp2a p3a fp3a p4a fp4a p5a fp5a p6a fp6a p7a fp7a p8a fp8a p9a fp9a p10a fp10a p11a fp11a
        have h02 := Onto.to h01 hb2
        have hz2 : w.heap.size + 1 < w2.heap.size := World.block_lt_of_cell? _ _ p0b
        have o1 : OffN n w.heap.size A1 := fr1.offN (by omega)
        have o2 : OffN m w.heap.size A2 := fr2.offN (by omega)
        have o1' : OffN n (w.heap.size + 1) A1 := fr1.offN (by omega)
        have o2' : OffN m (w.heap.size + 1) A2 := fr2.offN (by omega)
        have fA : Fresh w.heap.size A1 := fun a e => by have := fr1 a e; omega
        have fB : Fresh w.heap.size A2 := fun a e => by have := fr2 a e; omega
        clear hb2 h01 g1 g1' hz1
        go_upto_region 9 with fail
        rw [show ((((((((((((w2.setCell ⟨w.heap.size, 0, none⟩ (.int .i64 ep)).setCell ⟨w.heap.size, 1, none⟩ (.int .i64 dg)).setCell ⟨w.heap.size, 2, none⟩ (.int .i64 x.kind)).setCell ⟨w.heap.size, 3, none⟩ (.int .i64 x.job)).setCell ⟨w.heap.size, 4, none⟩ (.int .i64 x.every)).setCell ⟨w.heap.size, 5, none⟩ (.int .i64 x.time)).setCell ⟨w.heap.size, 6, none⟩ (.int .i64 x.client)).setCell ⟨w.heap.size, 7, none⟩ (.int .i64 at_)).setCell ⟨w.heap.size, 8, none⟩ (.int .i64 ln)).setCell ⟨w.heap.size, 9, none⟩ (.int .i64 pl)).setCell ⟨w.heap.size, 10, none⟩ (.slice A1 n c1)).setCell ⟨w.heap.size, 11, none⟩ (.slice A2 m c2)) = (w2.setCells w.heap.size 0 [.int .i64 ep, .int .i64 dg, .int .i64 x.kind, .int .i64 x.job, .int .i64 x.every, .int .i64 x.time, .int .i64 x.client, .int .i64 at_, .int .i64 ln, .int .i64 pl, .slice A1 n c1, .slice A2 m c2]) from rfl]
        have h03 : Onto w (w2.setCells w.heap.size 0 [.int .i64 ep, .int .i64 dg, .int .i64 x.kind, .int .i64 x.job, .int .i64 x.every, .int .i64 x.time, .int .i64 x.client, .int .i64 at_, .int .i64 ln, .int .i64 pl, .slice A1 n c1, .slice A2 m c2]) := put_onto (by omega) h02
        have F0 : ∀ (j : Nat) vv, ([.int .i64 ep, .int .i64 dg, .int .i64 x.kind, .int .i64 x.job, .int .i64 x.every, .int .i64 x.time, .int .i64 x.client, .int .i64 at_, .int .i64 ln, .int .i64 pl, .slice A1 n c1, .slice A2 m c2] : List Value)[j]? = some vv → (w2.setCells w.heap.size 0 [.int .i64 ep, .int .i64 dg, .int .i64 x.kind, .int .i64 x.job, .int .i64 x.every, .int .i64 x.time, .int .i64 x.client, .int .i64 at_, .int .i64 ln, .int .i64 pl, .slice A1 n c1, .slice A2 m c2]).cell? ⟨w.heap.size, j, none⟩ = some vv := fun j vv hv => put_in (w := w2) (b := w.heap.size) (vs := [.int .i64 ep, .int .i64 dg, .int .i64 x.kind, .int .i64 x.job, .int .i64 x.every, .int .i64 x.time, .int .i64 x.client, .int .i64 at_, .int .i64 ln, .int .i64 pl, .slice A1 n c1, .slice A2 m c2]) (there12 q0b q1b q2b q3b q4b q5b q6b q7b q8b q9b q10b q11b) hv
        have s3 := put_S (vs := [.int .i64 ep, .int .i64 dg, .int .i64 x.kind, .int .i64 x.job, .int .i64 x.every, .int .i64 x.time, .int .i64 x.client, .int .i64 at_, .int .i64 ln, .int .i64 pl, .slice A1 n c1, .slice A2 m c2]) (b := w.heap.size) (o := 0) (w := w2) o1 s1
        have s3' := put_S (vs := [.int .i64 ep, .int .i64 dg, .int .i64 x.kind, .int .i64 x.job, .int .i64 x.every, .int .i64 x.time, .int .i64 x.client, .int .i64 at_, .int .i64 ln, .int .i64 pl, .slice A1 n c1, .slice A2 m c2]) (b := w.heap.size) (o := 0) (w := w2) o2 s2
        have p0c : (w2.setCells w.heap.size 0 [.int .i64 ep, .int .i64 dg, .int .i64 x.kind, .int .i64 x.job, .int .i64 x.every, .int .i64 x.time, .int .i64 x.client, .int .i64 at_, .int .i64 ln, .int .i64 pl, .slice A1 n c1, .slice A2 m c2]).cell? ⟨w.heap.size + 1, 0, none⟩ = some (.int .i64 0) := (put_out (by simp)).trans p0b
        have fp0c : (w2.setCells w.heap.size 0 [.int .i64 ep, .int .i64 dg, .int .i64 x.kind, .int .i64 x.job, .int .i64 x.every, .int .i64 x.time, .int .i64 x.client, .int .i64 at_, .int .i64 ln, .int .i64 pl, .slice A1 n c1, .slice A2 m c2]).frozen? ⟨w.heap.size + 1, 0, none⟩ = false := (World.frozen?_setCells _ _ _ _ _).trans fp0b
        have fq0c : (w2.setCells w.heap.size 0 [.int .i64 ep, .int .i64 dg, .int .i64 x.kind, .int .i64 x.job, .int .i64 x.every, .int .i64 x.time, .int .i64 x.client, .int .i64 at_, .int .i64 ln, .int .i64 pl, .slice A1 n c1, .slice A2 m c2]).frozen? ⟨w.heap.size, 0, none⟩ = false := (World.frozen?_setCells _ _ _ _ _).trans fq0b
        have p1c : (w2.setCells w.heap.size 0 [.int .i64 ep, .int .i64 dg, .int .i64 x.kind, .int .i64 x.job, .int .i64 x.every, .int .i64 x.time, .int .i64 x.client, .int .i64 at_, .int .i64 ln, .int .i64 pl, .slice A1 n c1, .slice A2 m c2]).cell? ⟨w.heap.size + 1, 1, none⟩ = some (.int .i64 0) := (put_out (by simp)).trans p1b
        have fp1c : (w2.setCells w.heap.size 0 [.int .i64 ep, .int .i64 dg, .int .i64 x.kind, .int .i64 x.job, .int .i64 x.every, .int .i64 x.time, .int .i64 x.client, .int .i64 at_, .int .i64 ln, .int .i64 pl, .slice A1 n c1, .slice A2 m c2]).frozen? ⟨w.heap.size + 1, 1, none⟩ = false := (World.frozen?_setCells _ _ _ _ _).trans fp1b
        have fq1c : (w2.setCells w.heap.size 0 [.int .i64 ep, .int .i64 dg, .int .i64 x.kind, .int .i64 x.job, .int .i64 x.every, .int .i64 x.time, .int .i64 x.client, .int .i64 at_, .int .i64 ln, .int .i64 pl, .slice A1 n c1, .slice A2 m c2]).frozen? ⟨w.heap.size, 1, none⟩ = false := (World.frozen?_setCells _ _ _ _ _).trans fq1b
        have p2c : (w2.setCells w.heap.size 0 [.int .i64 ep, .int .i64 dg, .int .i64 x.kind, .int .i64 x.job, .int .i64 x.every, .int .i64 x.time, .int .i64 x.client, .int .i64 at_, .int .i64 ln, .int .i64 pl, .slice A1 n c1, .slice A2 m c2]).cell? ⟨w.heap.size + 1, 2, none⟩ = some (.int .i64 0) := (put_out (by simp)).trans p2b
        have fp2c : (w2.setCells w.heap.size 0 [.int .i64 ep, .int .i64 dg, .int .i64 x.kind, .int .i64 x.job, .int .i64 x.every, .int .i64 x.time, .int .i64 x.client, .int .i64 at_, .int .i64 ln, .int .i64 pl, .slice A1 n c1, .slice A2 m c2]).frozen? ⟨w.heap.size + 1, 2, none⟩ = false := (World.frozen?_setCells _ _ _ _ _).trans fp2b
        have fq2c : (w2.setCells w.heap.size 0 [.int .i64 ep, .int .i64 dg, .int .i64 x.kind, .int .i64 x.job, .int .i64 x.every, .int .i64 x.time, .int .i64 x.client, .int .i64 at_, .int .i64 ln, .int .i64 pl, .slice A1 n c1, .slice A2 m c2]).frozen? ⟨w.heap.size, 2, none⟩ = false := (World.frozen?_setCells _ _ _ _ _).trans fq2b
        have p3c : (w2.setCells w.heap.size 0 [.int .i64 ep, .int .i64 dg, .int .i64 x.kind, .int .i64 x.job, .int .i64 x.every, .int .i64 x.time, .int .i64 x.client, .int .i64 at_, .int .i64 ln, .int .i64 pl, .slice A1 n c1, .slice A2 m c2]).cell? ⟨w.heap.size + 1, 3, none⟩ = some (.int .i64 0) := (put_out (by simp)).trans p3b
        have fp3c : (w2.setCells w.heap.size 0 [.int .i64 ep, .int .i64 dg, .int .i64 x.kind, .int .i64 x.job, .int .i64 x.every, .int .i64 x.time, .int .i64 x.client, .int .i64 at_, .int .i64 ln, .int .i64 pl, .slice A1 n c1, .slice A2 m c2]).frozen? ⟨w.heap.size + 1, 3, none⟩ = false := (World.frozen?_setCells _ _ _ _ _).trans fp3b
        have fq3c : (w2.setCells w.heap.size 0 [.int .i64 ep, .int .i64 dg, .int .i64 x.kind, .int .i64 x.job, .int .i64 x.every, .int .i64 x.time, .int .i64 x.client, .int .i64 at_, .int .i64 ln, .int .i64 pl, .slice A1 n c1, .slice A2 m c2]).frozen? ⟨w.heap.size, 3, none⟩ = false := (World.frozen?_setCells _ _ _ _ _).trans fq3b
        have p4c : (w2.setCells w.heap.size 0 [.int .i64 ep, .int .i64 dg, .int .i64 x.kind, .int .i64 x.job, .int .i64 x.every, .int .i64 x.time, .int .i64 x.client, .int .i64 at_, .int .i64 ln, .int .i64 pl, .slice A1 n c1, .slice A2 m c2]).cell? ⟨w.heap.size + 1, 4, none⟩ = some (.int .i64 0) := (put_out (by simp)).trans p4b
        have fp4c : (w2.setCells w.heap.size 0 [.int .i64 ep, .int .i64 dg, .int .i64 x.kind, .int .i64 x.job, .int .i64 x.every, .int .i64 x.time, .int .i64 x.client, .int .i64 at_, .int .i64 ln, .int .i64 pl, .slice A1 n c1, .slice A2 m c2]).frozen? ⟨w.heap.size + 1, 4, none⟩ = false := (World.frozen?_setCells _ _ _ _ _).trans fp4b
        have fq4c : (w2.setCells w.heap.size 0 [.int .i64 ep, .int .i64 dg, .int .i64 x.kind, .int .i64 x.job, .int .i64 x.every, .int .i64 x.time, .int .i64 x.client, .int .i64 at_, .int .i64 ln, .int .i64 pl, .slice A1 n c1, .slice A2 m c2]).frozen? ⟨w.heap.size, 4, none⟩ = false := (World.frozen?_setCells _ _ _ _ _).trans fq4b
        have p5c : (w2.setCells w.heap.size 0 [.int .i64 ep, .int .i64 dg, .int .i64 x.kind, .int .i64 x.job, .int .i64 x.every, .int .i64 x.time, .int .i64 x.client, .int .i64 at_, .int .i64 ln, .int .i64 pl, .slice A1 n c1, .slice A2 m c2]).cell? ⟨w.heap.size + 1, 5, none⟩ = some (.int .i64 0) := (put_out (by simp)).trans p5b
        have fp5c : (w2.setCells w.heap.size 0 [.int .i64 ep, .int .i64 dg, .int .i64 x.kind, .int .i64 x.job, .int .i64 x.every, .int .i64 x.time, .int .i64 x.client, .int .i64 at_, .int .i64 ln, .int .i64 pl, .slice A1 n c1, .slice A2 m c2]).frozen? ⟨w.heap.size + 1, 5, none⟩ = false := (World.frozen?_setCells _ _ _ _ _).trans fp5b
        have fq5c : (w2.setCells w.heap.size 0 [.int .i64 ep, .int .i64 dg, .int .i64 x.kind, .int .i64 x.job, .int .i64 x.every, .int .i64 x.time, .int .i64 x.client, .int .i64 at_, .int .i64 ln, .int .i64 pl, .slice A1 n c1, .slice A2 m c2]).frozen? ⟨w.heap.size, 5, none⟩ = false := (World.frozen?_setCells _ _ _ _ _).trans fq5b
        have p6c : (w2.setCells w.heap.size 0 [.int .i64 ep, .int .i64 dg, .int .i64 x.kind, .int .i64 x.job, .int .i64 x.every, .int .i64 x.time, .int .i64 x.client, .int .i64 at_, .int .i64 ln, .int .i64 pl, .slice A1 n c1, .slice A2 m c2]).cell? ⟨w.heap.size + 1, 6, none⟩ = some (.int .i64 0) := (put_out (by simp)).trans p6b
        have fp6c : (w2.setCells w.heap.size 0 [.int .i64 ep, .int .i64 dg, .int .i64 x.kind, .int .i64 x.job, .int .i64 x.every, .int .i64 x.time, .int .i64 x.client, .int .i64 at_, .int .i64 ln, .int .i64 pl, .slice A1 n c1, .slice A2 m c2]).frozen? ⟨w.heap.size + 1, 6, none⟩ = false := (World.frozen?_setCells _ _ _ _ _).trans fp6b
        have fq6c : (w2.setCells w.heap.size 0 [.int .i64 ep, .int .i64 dg, .int .i64 x.kind, .int .i64 x.job, .int .i64 x.every, .int .i64 x.time, .int .i64 x.client, .int .i64 at_, .int .i64 ln, .int .i64 pl, .slice A1 n c1, .slice A2 m c2]).frozen? ⟨w.heap.size, 6, none⟩ = false := (World.frozen?_setCells _ _ _ _ _).trans fq6b
        have p7c : (w2.setCells w.heap.size 0 [.int .i64 ep, .int .i64 dg, .int .i64 x.kind, .int .i64 x.job, .int .i64 x.every, .int .i64 x.time, .int .i64 x.client, .int .i64 at_, .int .i64 ln, .int .i64 pl, .slice A1 n c1, .slice A2 m c2]).cell? ⟨w.heap.size + 1, 7, none⟩ = some (.int .i64 0) := (put_out (by simp)).trans p7b
        have fp7c : (w2.setCells w.heap.size 0 [.int .i64 ep, .int .i64 dg, .int .i64 x.kind, .int .i64 x.job, .int .i64 x.every, .int .i64 x.time, .int .i64 x.client, .int .i64 at_, .int .i64 ln, .int .i64 pl, .slice A1 n c1, .slice A2 m c2]).frozen? ⟨w.heap.size + 1, 7, none⟩ = false := (World.frozen?_setCells _ _ _ _ _).trans fp7b
        have fq7c : (w2.setCells w.heap.size 0 [.int .i64 ep, .int .i64 dg, .int .i64 x.kind, .int .i64 x.job, .int .i64 x.every, .int .i64 x.time, .int .i64 x.client, .int .i64 at_, .int .i64 ln, .int .i64 pl, .slice A1 n c1, .slice A2 m c2]).frozen? ⟨w.heap.size, 7, none⟩ = false := (World.frozen?_setCells _ _ _ _ _).trans fq7b
        have p8c : (w2.setCells w.heap.size 0 [.int .i64 ep, .int .i64 dg, .int .i64 x.kind, .int .i64 x.job, .int .i64 x.every, .int .i64 x.time, .int .i64 x.client, .int .i64 at_, .int .i64 ln, .int .i64 pl, .slice A1 n c1, .slice A2 m c2]).cell? ⟨w.heap.size + 1, 8, none⟩ = some (.int .i64 0) := (put_out (by simp)).trans p8b
        have fp8c : (w2.setCells w.heap.size 0 [.int .i64 ep, .int .i64 dg, .int .i64 x.kind, .int .i64 x.job, .int .i64 x.every, .int .i64 x.time, .int .i64 x.client, .int .i64 at_, .int .i64 ln, .int .i64 pl, .slice A1 n c1, .slice A2 m c2]).frozen? ⟨w.heap.size + 1, 8, none⟩ = false := (World.frozen?_setCells _ _ _ _ _).trans fp8b
        have fq8c : (w2.setCells w.heap.size 0 [.int .i64 ep, .int .i64 dg, .int .i64 x.kind, .int .i64 x.job, .int .i64 x.every, .int .i64 x.time, .int .i64 x.client, .int .i64 at_, .int .i64 ln, .int .i64 pl, .slice A1 n c1, .slice A2 m c2]).frozen? ⟨w.heap.size, 8, none⟩ = false := (World.frozen?_setCells _ _ _ _ _).trans fq8b
        have p9c : (w2.setCells w.heap.size 0 [.int .i64 ep, .int .i64 dg, .int .i64 x.kind, .int .i64 x.job, .int .i64 x.every, .int .i64 x.time, .int .i64 x.client, .int .i64 at_, .int .i64 ln, .int .i64 pl, .slice A1 n c1, .slice A2 m c2]).cell? ⟨w.heap.size + 1, 9, none⟩ = some (.int .i64 0) := (put_out (by simp)).trans p9b
        have fp9c : (w2.setCells w.heap.size 0 [.int .i64 ep, .int .i64 dg, .int .i64 x.kind, .int .i64 x.job, .int .i64 x.every, .int .i64 x.time, .int .i64 x.client, .int .i64 at_, .int .i64 ln, .int .i64 pl, .slice A1 n c1, .slice A2 m c2]).frozen? ⟨w.heap.size + 1, 9, none⟩ = false := (World.frozen?_setCells _ _ _ _ _).trans fp9b
        have fq9c : (w2.setCells w.heap.size 0 [.int .i64 ep, .int .i64 dg, .int .i64 x.kind, .int .i64 x.job, .int .i64 x.every, .int .i64 x.time, .int .i64 x.client, .int .i64 at_, .int .i64 ln, .int .i64 pl, .slice A1 n c1, .slice A2 m c2]).frozen? ⟨w.heap.size, 9, none⟩ = false := (World.frozen?_setCells _ _ _ _ _).trans fq9b
        have p10c : (w2.setCells w.heap.size 0 [.int .i64 ep, .int .i64 dg, .int .i64 x.kind, .int .i64 x.job, .int .i64 x.every, .int .i64 x.time, .int .i64 x.client, .int .i64 at_, .int .i64 ln, .int .i64 pl, .slice A1 n c1, .slice A2 m c2]).cell? ⟨w.heap.size + 1, 10, none⟩ = some (.slice none 0 0) := (put_out (by simp)).trans p10b
        have fp10c : (w2.setCells w.heap.size 0 [.int .i64 ep, .int .i64 dg, .int .i64 x.kind, .int .i64 x.job, .int .i64 x.every, .int .i64 x.time, .int .i64 x.client, .int .i64 at_, .int .i64 ln, .int .i64 pl, .slice A1 n c1, .slice A2 m c2]).frozen? ⟨w.heap.size + 1, 10, none⟩ = false := (World.frozen?_setCells _ _ _ _ _).trans fp10b
        have fq10c : (w2.setCells w.heap.size 0 [.int .i64 ep, .int .i64 dg, .int .i64 x.kind, .int .i64 x.job, .int .i64 x.every, .int .i64 x.time, .int .i64 x.client, .int .i64 at_, .int .i64 ln, .int .i64 pl, .slice A1 n c1, .slice A2 m c2]).frozen? ⟨w.heap.size, 10, none⟩ = false := (World.frozen?_setCells _ _ _ _ _).trans fq10b
        have p11c : (w2.setCells w.heap.size 0 [.int .i64 ep, .int .i64 dg, .int .i64 x.kind, .int .i64 x.job, .int .i64 x.every, .int .i64 x.time, .int .i64 x.client, .int .i64 at_, .int .i64 ln, .int .i64 pl, .slice A1 n c1, .slice A2 m c2]).cell? ⟨w.heap.size + 1, 11, none⟩ = some (.slice none 0 0) := (put_out (by simp)).trans p11b
        have fp11c : (w2.setCells w.heap.size 0 [.int .i64 ep, .int .i64 dg, .int .i64 x.kind, .int .i64 x.job, .int .i64 x.every, .int .i64 x.time, .int .i64 x.client, .int .i64 at_, .int .i64 ln, .int .i64 pl, .slice A1 n c1, .slice A2 m c2]).frozen? ⟨w.heap.size + 1, 11, none⟩ = false := (World.frozen?_setCells _ _ _ _ _).trans fp11b
        have fq11c : (w2.setCells w.heap.size 0 [.int .i64 ep, .int .i64 dg, .int .i64 x.kind, .int .i64 x.job, .int .i64 x.every, .int .i64 x.time, .int .i64 x.client, .int .i64 at_, .int .i64 ln, .int .i64 pl, .slice A1 n c1, .slice A2 m c2]).frozen? ⟨w.heap.size, 11, none⟩ = false := (World.frozen?_setCells _ _ _ _ _).trans fq11b
        generalize (w2.setCells w.heap.size 0 [.int .i64 ep, .int .i64 dg, .int .i64 x.kind, .int .i64 x.job, .int .i64 x.every, .int .i64 x.time, .int .i64 x.client, .int .i64 at_, .int .i64 ln, .int .i64 pl, .slice A1 n c1, .slice A2 m c2]) = w3 at *
        have q0c := F0 0 _ rfl
        have q1c := F0 1 _ rfl
        have q2c := F0 2 _ rfl
        have q3c := F0 3 _ rfl
        have q4c := F0 4 _ rfl
        have q5c := F0 5 _ rfl
        have q6c := F0 6 _ rfl
        have q7c := F0 7 _ rfl
        have q8c := F0 8 _ rfl
        have q9c := F0 9 _ rfl
        have q10c := F0 10 _ rfl
        have q11c := F0 11 _ rfl
        have hz3 : w.heap.size + 1 < w3.heap.size := World.block_lt_of_cell? _ _ p0c
        clear F0 s1 s2 h02 hz2 q0b fq0b q1b fq1b q2b fq2b q3b fq3b q4b fq4b q5b fq5b q6b fq6b q7b fq7b q8b fq8b q9b fq9b q10b fq10b q11b fq11b p0b fp0b p1b fp1b p2b fp2b p3b fp3b p4b fp4b p5b fp5b p6b fp6b p7b fp7b p8b fp8b p9b fp9b p10b fp10b p11b fp11b
        go_upto_region 10 with fail
        have h04 : Onto w ((w3.setCell ⟨w.heap.size, 1, none⟩ (.int .i64 2)).setCell ⟨w.heap.size, 7, none⟩ (.int .i64 v)) := ((h03.put (by simp) _).put (by simp) _)
        have t1 := (S.off (S.off s3 (p := ⟨w.heap.size, 1, none⟩) o1 (.int .i64 2)) (p := ⟨w.heap.size, 7, none⟩) o1 (.int .i64 v))
        have t2 := (S.off (S.off s3' (p := ⟨w.heap.size, 1, none⟩) o2 (.int .i64 2)) (p := ⟨w.heap.size, 7, none⟩) o2 (.int .i64 v))
        have q0d : ((w3.setCell ⟨w.heap.size, 1, none⟩ (.int .i64 2)).setCell ⟨w.heap.size, 7, none⟩ (.int .i64 v)).cell? ⟨w.heap.size, 0, none⟩ = some (.int .i64 ep) := by simp [go_sem, q0c, q1c, q7c]
        have q1d : ((w3.setCell ⟨w.heap.size, 1, none⟩ (.int .i64 2)).setCell ⟨w.heap.size, 7, none⟩ (.int .i64 v)).cell? ⟨w.heap.size, 1, none⟩ = some (.int .i64 2) := by simp [go_sem, q1c, q1c, q7c]
        have q2d : ((w3.setCell ⟨w.heap.size, 1, none⟩ (.int .i64 2)).setCell ⟨w.heap.size, 7, none⟩ (.int .i64 v)).cell? ⟨w.heap.size, 2, none⟩ = some (.int .i64 x.kind) := by simp [go_sem, q2c, q1c, q7c]
        have q3d : ((w3.setCell ⟨w.heap.size, 1, none⟩ (.int .i64 2)).setCell ⟨w.heap.size, 7, none⟩ (.int .i64 v)).cell? ⟨w.heap.size, 3, none⟩ = some (.int .i64 x.job) := by simp [go_sem, q3c, q1c, q7c]
        have q4d : ((w3.setCell ⟨w.heap.size, 1, none⟩ (.int .i64 2)).setCell ⟨w.heap.size, 7, none⟩ (.int .i64 v)).cell? ⟨w.heap.size, 4, none⟩ = some (.int .i64 x.every) := by simp [go_sem, q4c, q1c, q7c]
        have q5d : ((w3.setCell ⟨w.heap.size, 1, none⟩ (.int .i64 2)).setCell ⟨w.heap.size, 7, none⟩ (.int .i64 v)).cell? ⟨w.heap.size, 5, none⟩ = some (.int .i64 x.time) := by simp [go_sem, q5c, q1c, q7c]
        have q6d : ((w3.setCell ⟨w.heap.size, 1, none⟩ (.int .i64 2)).setCell ⟨w.heap.size, 7, none⟩ (.int .i64 v)).cell? ⟨w.heap.size, 6, none⟩ = some (.int .i64 x.client) := by simp [go_sem, q6c, q1c, q7c]
        have q7d : ((w3.setCell ⟨w.heap.size, 1, none⟩ (.int .i64 2)).setCell ⟨w.heap.size, 7, none⟩ (.int .i64 v)).cell? ⟨w.heap.size, 7, none⟩ = some (.int .i64 v) := by simp [go_sem, q7c, q1c, q7c]
        have q8d : ((w3.setCell ⟨w.heap.size, 1, none⟩ (.int .i64 2)).setCell ⟨w.heap.size, 7, none⟩ (.int .i64 v)).cell? ⟨w.heap.size, 8, none⟩ = some (.int .i64 ln) := by simp [go_sem, q8c, q1c, q7c]
        have q9d : ((w3.setCell ⟨w.heap.size, 1, none⟩ (.int .i64 2)).setCell ⟨w.heap.size, 7, none⟩ (.int .i64 v)).cell? ⟨w.heap.size, 9, none⟩ = some (.int .i64 pl) := by simp [go_sem, q9c, q1c, q7c]
        have q10d : ((w3.setCell ⟨w.heap.size, 1, none⟩ (.int .i64 2)).setCell ⟨w.heap.size, 7, none⟩ (.int .i64 v)).cell? ⟨w.heap.size, 10, none⟩ = some (.slice A1 n c1) := by simp [go_sem, q10c, q1c, q7c]
        have q11d : ((w3.setCell ⟨w.heap.size, 1, none⟩ (.int .i64 2)).setCell ⟨w.heap.size, 7, none⟩ (.int .i64 v)).cell? ⟨w.heap.size, 11, none⟩ = some (.slice A2 m c2) := by simp [go_sem, q11c, q1c, q7c]
        have p0d : ((w3.setCell ⟨w.heap.size, 1, none⟩ (.int .i64 2)).setCell ⟨w.heap.size, 7, none⟩ (.int .i64 v)).cell? ⟨w.heap.size + 1, 0, none⟩ = some (.int .i64 0) := by simp [go_sem, p0c]
        have fp0d : ((w3.setCell ⟨w.heap.size, 1, none⟩ (.int .i64 2)).setCell ⟨w.heap.size, 7, none⟩ (.int .i64 v)).frozen? ⟨w.heap.size + 1, 0, none⟩ = false := by simp [fp0c]
        have p1d : ((w3.setCell ⟨w.heap.size, 1, none⟩ (.int .i64 2)).setCell ⟨w.heap.size, 7, none⟩ (.int .i64 v)).cell? ⟨w.heap.size + 1, 1, none⟩ = some (.int .i64 0) := by simp [go_sem, p1c]
        have fp1d : ((w3.setCell ⟨w.heap.size, 1, none⟩ (.int .i64 2)).setCell ⟨w.heap.size, 7, none⟩ (.int .i64 v)).frozen? ⟨w.heap.size + 1, 1, none⟩ = false := by simp [fp1c]
        have p2d : ((w3.setCell ⟨w.heap.size, 1, none⟩ (.int .i64 2)).setCell ⟨w.heap.size, 7, none⟩ (.int .i64 v)).cell? ⟨w.heap.size + 1, 2, none⟩ = some (.int .i64 0) := by simp [go_sem, p2c]
        have fp2d : ((w3.setCell ⟨w.heap.size, 1, none⟩ (.int .i64 2)).setCell ⟨w.heap.size, 7, none⟩ (.int .i64 v)).frozen? ⟨w.heap.size + 1, 2, none⟩ = false := by simp [fp2c]
        have p3d : ((w3.setCell ⟨w.heap.size, 1, none⟩ (.int .i64 2)).setCell ⟨w.heap.size, 7, none⟩ (.int .i64 v)).cell? ⟨w.heap.size + 1, 3, none⟩ = some (.int .i64 0) := by simp [go_sem, p3c]
        have fp3d : ((w3.setCell ⟨w.heap.size, 1, none⟩ (.int .i64 2)).setCell ⟨w.heap.size, 7, none⟩ (.int .i64 v)).frozen? ⟨w.heap.size + 1, 3, none⟩ = false := by simp [fp3c]
        have p4d : ((w3.setCell ⟨w.heap.size, 1, none⟩ (.int .i64 2)).setCell ⟨w.heap.size, 7, none⟩ (.int .i64 v)).cell? ⟨w.heap.size + 1, 4, none⟩ = some (.int .i64 0) := by simp [go_sem, p4c]
        have fp4d : ((w3.setCell ⟨w.heap.size, 1, none⟩ (.int .i64 2)).setCell ⟨w.heap.size, 7, none⟩ (.int .i64 v)).frozen? ⟨w.heap.size + 1, 4, none⟩ = false := by simp [fp4c]
        have p5d : ((w3.setCell ⟨w.heap.size, 1, none⟩ (.int .i64 2)).setCell ⟨w.heap.size, 7, none⟩ (.int .i64 v)).cell? ⟨w.heap.size + 1, 5, none⟩ = some (.int .i64 0) := by simp [go_sem, p5c]
        have fp5d : ((w3.setCell ⟨w.heap.size, 1, none⟩ (.int .i64 2)).setCell ⟨w.heap.size, 7, none⟩ (.int .i64 v)).frozen? ⟨w.heap.size + 1, 5, none⟩ = false := by simp [fp5c]
        have p6d : ((w3.setCell ⟨w.heap.size, 1, none⟩ (.int .i64 2)).setCell ⟨w.heap.size, 7, none⟩ (.int .i64 v)).cell? ⟨w.heap.size + 1, 6, none⟩ = some (.int .i64 0) := by simp [go_sem, p6c]
        have fp6d : ((w3.setCell ⟨w.heap.size, 1, none⟩ (.int .i64 2)).setCell ⟨w.heap.size, 7, none⟩ (.int .i64 v)).frozen? ⟨w.heap.size + 1, 6, none⟩ = false := by simp [fp6c]
        have p7d : ((w3.setCell ⟨w.heap.size, 1, none⟩ (.int .i64 2)).setCell ⟨w.heap.size, 7, none⟩ (.int .i64 v)).cell? ⟨w.heap.size + 1, 7, none⟩ = some (.int .i64 0) := by simp [go_sem, p7c]
        have fp7d : ((w3.setCell ⟨w.heap.size, 1, none⟩ (.int .i64 2)).setCell ⟨w.heap.size, 7, none⟩ (.int .i64 v)).frozen? ⟨w.heap.size + 1, 7, none⟩ = false := by simp [fp7c]
        have p8d : ((w3.setCell ⟨w.heap.size, 1, none⟩ (.int .i64 2)).setCell ⟨w.heap.size, 7, none⟩ (.int .i64 v)).cell? ⟨w.heap.size + 1, 8, none⟩ = some (.int .i64 0) := by simp [go_sem, p8c]
        have fp8d : ((w3.setCell ⟨w.heap.size, 1, none⟩ (.int .i64 2)).setCell ⟨w.heap.size, 7, none⟩ (.int .i64 v)).frozen? ⟨w.heap.size + 1, 8, none⟩ = false := by simp [fp8c]
        have p9d : ((w3.setCell ⟨w.heap.size, 1, none⟩ (.int .i64 2)).setCell ⟨w.heap.size, 7, none⟩ (.int .i64 v)).cell? ⟨w.heap.size + 1, 9, none⟩ = some (.int .i64 0) := by simp [go_sem, p9c]
        have fp9d : ((w3.setCell ⟨w.heap.size, 1, none⟩ (.int .i64 2)).setCell ⟨w.heap.size, 7, none⟩ (.int .i64 v)).frozen? ⟨w.heap.size + 1, 9, none⟩ = false := by simp [fp9c]
        have p10d : ((w3.setCell ⟨w.heap.size, 1, none⟩ (.int .i64 2)).setCell ⟨w.heap.size, 7, none⟩ (.int .i64 v)).cell? ⟨w.heap.size + 1, 10, none⟩ = some (.slice none 0 0) := by simp [go_sem, p10c]
        have fp10d : ((w3.setCell ⟨w.heap.size, 1, none⟩ (.int .i64 2)).setCell ⟨w.heap.size, 7, none⟩ (.int .i64 v)).frozen? ⟨w.heap.size + 1, 10, none⟩ = false := by simp [fp10c]
        have p11d : ((w3.setCell ⟨w.heap.size, 1, none⟩ (.int .i64 2)).setCell ⟨w.heap.size, 7, none⟩ (.int .i64 v)).cell? ⟨w.heap.size + 1, 11, none⟩ = some (.slice none 0 0) := by simp [go_sem, p11c]
        have fp11d : ((w3.setCell ⟨w.heap.size, 1, none⟩ (.int .i64 2)).setCell ⟨w.heap.size, 7, none⟩ (.int .i64 v)).frozen? ⟨w.heap.size + 1, 11, none⟩ = false := by simp [fp11c]
        clear h03 s3 s3' hz3 q0c fq0c q1c fq1c q2c fq2c q3c fq3c q4c fq4c q5c fq5c q6c fq6c q7c fq7c q8c fq8c q9c fq9c q10c fq10c q11c fq11c p0c fp0c p1c fp1c p2c fp2c p3c fp3c p4c fp4c p5c fp5c p6c fp6c p7c fp7c p8c fp8c p9c fp9c p10c fp10c p11c fp11c
        change Code.wp _ _ _ _ ((w3.setCell ⟨w.heap.size, 1, none⟩ (.int .i64 2)).setCell ⟨w.heap.size, 7, none⟩ (.int .i64 v))
        generalize ((w3.setCell ⟨w.heap.size, 1, none⟩ (.int .i64 2)).setCell ⟨w.heap.size, 7, none⟩ (.int .i64 v)) = w4 at *
        have hz4 : w.heap.size + 1 < w4.heap.size := World.block_lt_of_cell? _ _ p0d
        go_wp2_with fail
        rw [show ((((((((((((w4.setCell ⟨w.heap.size + 1, 0, none⟩ (.int .i64 ep)).setCell ⟨w.heap.size + 1, 1, none⟩ (.int .i64 2)).setCell ⟨w.heap.size + 1, 2, none⟩ (.int .i64 x.kind)).setCell ⟨w.heap.size + 1, 3, none⟩ (.int .i64 x.job)).setCell ⟨w.heap.size + 1, 4, none⟩ (.int .i64 x.every)).setCell ⟨w.heap.size + 1, 5, none⟩ (.int .i64 x.time)).setCell ⟨w.heap.size + 1, 6, none⟩ (.int .i64 x.client)).setCell ⟨w.heap.size + 1, 7, none⟩ (.int .i64 v)).setCell ⟨w.heap.size + 1, 8, none⟩ (.int .i64 ln)).setCell ⟨w.heap.size + 1, 9, none⟩ (.int .i64 pl)).setCell ⟨w.heap.size + 1, 10, none⟩ (.slice A1 n c1)).setCell ⟨w.heap.size + 1, 11, none⟩ (.slice A2 m c2)) = (w4.setCells (w.heap.size + 1) 0 [.int .i64 ep, .int .i64 2, .int .i64 x.kind, .int .i64 x.job, .int .i64 x.every, .int .i64 x.time, .int .i64 x.client, .int .i64 v, .int .i64 ln, .int .i64 pl, .slice A1 n c1, .slice A2 m c2]) from rfl]
        have hE : Onto w (w4.setCells (w.heap.size + 1) 0 [.int .i64 ep, .int .i64 2, .int .i64 x.kind, .int .i64 x.job, .int .i64 x.every, .int .i64 x.time, .int .i64 x.client, .int .i64 v, .int .i64 ln, .int .i64 pl, .slice A1 n c1, .slice A2 m c2]) := put_onto (by omega) h04
        have F : ∀ (j : Nat) vv, ([.int .i64 ep, .int .i64 2, .int .i64 x.kind, .int .i64 x.job, .int .i64 x.every, .int .i64 x.time, .int .i64 x.client, .int .i64 v, .int .i64 ln, .int .i64 pl, .slice A1 n c1, .slice A2 m c2] : List Value)[j]? = some vv → (w4.setCells (w.heap.size + 1) 0 [.int .i64 ep, .int .i64 2, .int .i64 x.kind, .int .i64 x.job, .int .i64 x.every, .int .i64 x.time, .int .i64 x.client, .int .i64 v, .int .i64 ln, .int .i64 pl, .slice A1 n c1, .slice A2 m c2]).cell? ⟨w.heap.size + 1, j, none⟩ = some vv := fun j vv hv => put_in (w := w4) (b := w.heap.size + 1) (vs := [.int .i64 ep, .int .i64 2, .int .i64 x.kind, .int .i64 x.job, .int .i64 x.every, .int .i64 x.time, .int .i64 x.client, .int .i64 v, .int .i64 ln, .int .i64 pl, .slice A1 n c1, .slice A2 m c2]) (there12 p0d p1d p2d p3d p4d p5d p6d p7d p8d p9d p10d p11d) hv
        have u1 := put_S (vs := [.int .i64 ep, .int .i64 2, .int .i64 x.kind, .int .i64 x.job, .int .i64 x.every, .int .i64 x.time, .int .i64 x.client, .int .i64 v, .int .i64 ln, .int .i64 pl, .slice A1 n c1, .slice A2 m c2]) (b := w.heap.size + 1) (o := 0) (w := w4) (o1') t1
        have u2 := put_S (vs := [.int .i64 ep, .int .i64 2, .int .i64 x.kind, .int .i64 x.job, .int .i64 x.every, .int .i64 x.time, .int .i64 x.client, .int .i64 v, .int .i64 ln, .int .i64 pl, .slice A1 n c1, .slice A2 m c2]) (b := w.heap.size + 1) (o := 0) (w := w4) (o2') t2
        generalize (w4.setCells (w.heap.size + 1) 0 [.int .i64 ep, .int .i64 2, .int .i64 x.kind, .int .i64 x.job, .int .i64 x.every, .int .i64 x.time, .int .i64 x.client, .int .i64 v, .int .i64 ln, .int .i64 pl, .slice A1 n c1, .slice A2 m c2]) = wf at F hE u1 u2 ⊢
        have z0 := F 0 _ rfl
        have z1 := F 1 _ rfl
        have z2 := F 2 _ rfl
        have z3 := F 3 _ rfl
        have z4 := F 4 _ rfl
        have z5 := F 5 _ rfl
        have z6 := F 6 _ rfl
        have z7 := F 7 _ rfl
        have z8 := F 8 _ rfl
        have z9 := F 9 _ rfl
        have z10 := F 10 _ rfl
        have z11 := F 11 _ rfl
        refine bodyPost_ret (v := .tuple #[.agg #[.int .i64 ep, .int .i64 2, .int .i64 x.kind, .int .i64 x.job, .int .i64 x.every, .int .i64 x.time, .int .i64 x.client, .int .i64 v, .int .i64 ln, .int .i64 pl, .slice A1 n c1, .slice A2 m c2], .int .i64 0]) (by simp [results, Try.results48, go_sem, z0, z1, z2, z3, z4, z5, z6, z7, z8, z9, z10, z11]) rfl ?_
        rw [HR.out]
        exact ⟨A1, n, c1, A2, m, c2, rfl, u1, u2, hE, hc1, hc2, fA, fB⟩
  · rw [if_pos h0] at hr
    have HR := Lib.hid hr
    have hd : (q != 0) = true := by simpa using h0
    clear hr HR0 h0 g1 g1'
    go_wp2_with fail
    rw [show ((((((((((((w1.setCell ⟨w.heap.size + 1, 0, none⟩ (.int .i64 0)).setCell ⟨w.heap.size + 1, 1, none⟩ (.int .i64 0)).setCell ⟨w.heap.size + 1, 2, none⟩ (.int .i64 0)).setCell ⟨w.heap.size + 1, 3, none⟩ (.int .i64 0)).setCell ⟨w.heap.size + 1, 4, none⟩ (.int .i64 0)).setCell ⟨w.heap.size + 1, 5, none⟩ (.int .i64 0)).setCell ⟨w.heap.size + 1, 6, none⟩ (.int .i64 0)).setCell ⟨w.heap.size + 1, 7, none⟩ (.int .i64 0)).setCell ⟨w.heap.size + 1, 8, none⟩ (.int .i64 0)).setCell ⟨w.heap.size + 1, 9, none⟩ (.int .i64 0)).setCell ⟨w.heap.size + 1, 10, none⟩ (.slice none 0 0)).setCell ⟨w.heap.size + 1, 11, none⟩ (.slice none 0 0)) = (w1.setCells (w.heap.size + 1) 0 [.int .i64 0, .int .i64 0, .int .i64 0, .int .i64 0, .int .i64 0, .int .i64 0, .int .i64 0, .int .i64 0, .int .i64 0, .int .i64 0, .slice none 0 0, .slice none 0 0]) from rfl]
    have hE : Onto w (w1.setCells (w.heap.size + 1) 0 [.int .i64 0, .int .i64 0, .int .i64 0, .int .i64 0, .int .i64 0, .int .i64 0, .int .i64 0, .int .i64 0, .int .i64 0, .int .i64 0, .slice none 0 0, .slice none 0 0]) := put_onto (by omega) h01
    have F : ∀ (j : Nat) vv, ([.int .i64 0, .int .i64 0, .int .i64 0, .int .i64 0, .int .i64 0, .int .i64 0, .int .i64 0, .int .i64 0, .int .i64 0, .int .i64 0, .slice none 0 0, .slice none 0 0] : List Value)[j]? = some vv → (w1.setCells (w.heap.size + 1) 0 [.int .i64 0, .int .i64 0, .int .i64 0, .int .i64 0, .int .i64 0, .int .i64 0, .int .i64 0, .int .i64 0, .int .i64 0, .int .i64 0, .slice none 0 0, .slice none 0 0]).cell? ⟨w.heap.size + 1, j, none⟩ = some vv := fun j vv hv => put_in (w := w1) (b := w.heap.size + 1) (vs := [.int .i64 0, .int .i64 0, .int .i64 0, .int .i64 0, .int .i64 0, .int .i64 0, .int .i64 0, .int .i64 0, .int .i64 0, .int .i64 0, .slice none 0 0, .slice none 0 0]) (there12 p0a p1a p2a p3a p4a p5a p6a p7a p8a p9a p10a p11a) hv
    generalize (w1.setCells (w.heap.size + 1) 0 [.int .i64 0, .int .i64 0, .int .i64 0, .int .i64 0, .int .i64 0, .int .i64 0, .int .i64 0, .int .i64 0, .int .i64 0, .int .i64 0, .slice none 0 0, .slice none 0 0]) = wf at F hE ⊢
    have z0 := F 0 _ rfl
    have z1 := F 1 _ rfl
    have z2 := F 2 _ rfl
    have z3 := F 3 _ rfl
    have z4 := F 4 _ rfl
    have z5 := F 5 _ rfl
    have z6 := F 6 _ rfl
    have z7 := F 7 _ rfl
    have z8 := F 8 _ rfl
    have z9 := F 9 _ rfl
    have z10 := F 10 _ rfl
    have z11 := F 11 _ rfl
    refine bodyPost_ret (v := .tuple #[.agg #[.int .i64 0, .int .i64 0, .int .i64 0, .int .i64 0, .int .i64 0, .int .i64 0, .int .i64 0, .int .i64 0, .int .i64 0, .int .i64 0, .slice none 0 0, .slice none 0 0], .int .i64 q]) (by simp [results, Try.results48, go_sem, z0, z1, z2, z3, z4, z5, z6, z7, z8, z9, z10, z11]) rfl ?_
    rw [HR.out]
    exact ⟨none, 0, 0, none, 0, 0, rfl, Sl.nil, Sl.nil, hE, Nat.le_refl _, Nat.le_refl _, Fresh.none_ _, Fresh.none_ _⟩

set_option maxHeartbeats 8000000 in
set_option maxRecDepth 100000 in
theorem ClFill_calls (ep dg at_ ln pl : Int) (x : Entry) (A A' : Option Addr) (n c m d : Nat) (b : Book) (v : Int) (w : World) (h : S w 3 A n (b.jobs.map encJ)) (h' : S w 3 A' m (b.rung.map encR)) :
    Calls Try.prog 37 #[.agg #[.int .i64 ep, .int .i64 dg, .int .i64 x.kind, .int .i64 x.job, .int .i64 x.every, .int .i64 x.time, .int .i64 x.client, .int .i64 at_, .int .i64 ln, .int .i64 pl, .slice A n c, .slice A' m d], .int .i64 v] w (ClPost w (fillCl ⟨ep, dg, x, at_, ln, pl, b⟩ v).1 (fillCl ⟨ep, dg, x, at_, ln, pl, b⟩ v).2) := by
  obtain ⟨q, hq⟩ : ∃ q, q = restsCl ⟨ep, dg, x, at_, ln, pl, b⟩ := ⟨_, rfl⟩
  obtain ⟨r, hr⟩ : ∃ r, r = fillCl ⟨ep, dg, x, at_, ln, pl, b⟩ v := ⟨_, rfl⟩
  rw [← hr]
  unfold fillCl at hr
  rw [← hq] at hr
  dsimp only at hr
  have HQ := Lib.hid hq; have HR0 := Lib.hid hr
  clear hq hr
  go_enter Try.func37, Try.ntmps37
  go_wp2_with fail
  refine Calls.mono (ClRests_calls ep dg at_ ln pl x A A' n c m d b _ ((h.new _).new _) ((h'.new _).new _)) ?_
  rw [← HQ.out]
  rintro e w1 ⟨rfl, hb1⟩
  have q0a : w1.cell? ⟨w.heap.size, 0, none⟩ = some (.int .i64 ep) := cellB hb1 (by simp [go_sem])
  have fq0a : w1.frozen? ⟨w.heap.size, 0, none⟩ = false := frozB hb1 (v := .int .i64 ep) (by simp [go_sem]) (by simp [go_sem])
  have q1a : w1.cell? ⟨w.heap.size, 1, none⟩ = some (.int .i64 dg) := cellB hb1 (by simp [go_sem])
  have fq1a : w1.frozen? ⟨w.heap.size, 1, none⟩ = false := frozB hb1 (v := .int .i64 dg) (by simp [go_sem]) (by simp [go_sem])
  have q2a : w1.cell? ⟨w.heap.size, 2, none⟩ = some (.int .i64 x.kind) := cellB hb1 (by simp [go_sem])
  have fq2a : w1.frozen? ⟨w.heap.size, 2, none⟩ = false := frozB hb1 (v := .int .i64 x.kind) (by simp [go_sem]) (by simp [go_sem])
  have q3a : w1.cell? ⟨w.heap.size, 3, none⟩ = some (.int .i64 x.job) := cellB hb1 (by simp [go_sem])
  have fq3a : w1.frozen? ⟨w.heap.size, 3, none⟩ = false := frozB hb1 (v := .int .i64 x.job) (by simp [go_sem]) (by simp [go_sem])
  have q4a : w1.cell? ⟨w.heap.size, 4, none⟩ = some (.int .i64 x.every) := cellB hb1 (by simp [go_sem])
  have fq4a : w1.frozen? ⟨w.heap.size, 4, none⟩ = false := frozB hb1 (v := .int .i64 x.every) (by simp [go_sem]) (by simp [go_sem])
  have q5a : w1.cell? ⟨w.heap.size, 5, none⟩ = some (.int .i64 x.time) := cellB hb1 (by simp [go_sem])
  have fq5a : w1.frozen? ⟨w.heap.size, 5, none⟩ = false := frozB hb1 (v := .int .i64 x.time) (by simp [go_sem]) (by simp [go_sem])
  have q6a : w1.cell? ⟨w.heap.size, 6, none⟩ = some (.int .i64 x.client) := cellB hb1 (by simp [go_sem])
  have fq6a : w1.frozen? ⟨w.heap.size, 6, none⟩ = false := frozB hb1 (v := .int .i64 x.client) (by simp [go_sem]) (by simp [go_sem])
  have q7a : w1.cell? ⟨w.heap.size, 7, none⟩ = some (.int .i64 at_) := cellB hb1 (by simp [go_sem])
  have fq7a : w1.frozen? ⟨w.heap.size, 7, none⟩ = false := frozB hb1 (v := .int .i64 at_) (by simp [go_sem]) (by simp [go_sem])
  have q8a : w1.cell? ⟨w.heap.size, 8, none⟩ = some (.int .i64 ln) := cellB hb1 (by simp [go_sem])
  have fq8a : w1.frozen? ⟨w.heap.size, 8, none⟩ = false := frozB hb1 (v := .int .i64 ln) (by simp [go_sem]) (by simp [go_sem])
  have q9a : w1.cell? ⟨w.heap.size, 9, none⟩ = some (.int .i64 pl) := cellB hb1 (by simp [go_sem])
  have fq9a : w1.frozen? ⟨w.heap.size, 9, none⟩ = false := frozB hb1 (v := .int .i64 pl) (by simp [go_sem]) (by simp [go_sem])
  have q10a : w1.cell? ⟨w.heap.size, 10, none⟩ = some (.slice A n c) := cellB hb1 (by simp [go_sem])
  have fq10a : w1.frozen? ⟨w.heap.size, 10, none⟩ = false := frozB hb1 (v := .slice A n c) (by simp [go_sem]) (by simp [go_sem])
  have q11a : w1.cell? ⟨w.heap.size, 11, none⟩ = some (.slice A' m d) := cellB hb1 (by simp [go_sem])
  have fq11a : w1.frozen? ⟨w.heap.size, 11, none⟩ = false := frozB hb1 (v := .slice A' m d) (by simp [go_sem]) (by simp [go_sem])
  have p0a : w1.cell? ⟨w.heap.size + 1, 0, none⟩ = some (.int .i64 0) := cellB hb1 (by simp [go_sem])
  have fp0a : w1.frozen? ⟨w.heap.size + 1, 0, none⟩ = false := frozB hb1 (v := .int .i64 0) (by simp [go_sem]) (by simp [go_sem])
  have p1a : w1.cell? ⟨w.heap.size + 1, 1, none⟩ = some (.int .i64 0) := cellB hb1 (by simp [go_sem])
  have fp1a : w1.frozen? ⟨w.heap.size + 1, 1, none⟩ = false := frozB hb1 (v := .int .i64 0) (by simp [go_sem]) (by simp [go_sem])
  have p2a : w1.cell? ⟨w.heap.size + 1, 2, none⟩ = some (.int .i64 0) := cellB hb1 (by simp [go_sem])
  have fp2a : w1.frozen? ⟨w.heap.size + 1, 2, none⟩ = false := frozB hb1 (v := .int .i64 0) (by simp [go_sem]) (by simp [go_sem])
  have p3a : w1.cell? ⟨w.heap.size + 1, 3, none⟩ = some (.int .i64 0) := cellB hb1 (by simp [go_sem])
  have fp3a : w1.frozen? ⟨w.heap.size + 1, 3, none⟩ = false := frozB hb1 (v := .int .i64 0) (by simp [go_sem]) (by simp [go_sem])
  have p4a : w1.cell? ⟨w.heap.size + 1, 4, none⟩ = some (.int .i64 0) := cellB hb1 (by simp [go_sem])
  have fp4a : w1.frozen? ⟨w.heap.size + 1, 4, none⟩ = false := frozB hb1 (v := .int .i64 0) (by simp [go_sem]) (by simp [go_sem])
  have p5a : w1.cell? ⟨w.heap.size + 1, 5, none⟩ = some (.int .i64 0) := cellB hb1 (by simp [go_sem])
  have fp5a : w1.frozen? ⟨w.heap.size + 1, 5, none⟩ = false := frozB hb1 (v := .int .i64 0) (by simp [go_sem]) (by simp [go_sem])
  have p6a : w1.cell? ⟨w.heap.size + 1, 6, none⟩ = some (.int .i64 0) := cellB hb1 (by simp [go_sem])
  have fp6a : w1.frozen? ⟨w.heap.size + 1, 6, none⟩ = false := frozB hb1 (v := .int .i64 0) (by simp [go_sem]) (by simp [go_sem])
  have p7a : w1.cell? ⟨w.heap.size + 1, 7, none⟩ = some (.int .i64 0) := cellB hb1 (by simp [go_sem])
  have fp7a : w1.frozen? ⟨w.heap.size + 1, 7, none⟩ = false := frozB hb1 (v := .int .i64 0) (by simp [go_sem]) (by simp [go_sem])
  have p8a : w1.cell? ⟨w.heap.size + 1, 8, none⟩ = some (.int .i64 0) := cellB hb1 (by simp [go_sem])
  have fp8a : w1.frozen? ⟨w.heap.size + 1, 8, none⟩ = false := frozB hb1 (v := .int .i64 0) (by simp [go_sem]) (by simp [go_sem])
  have p9a : w1.cell? ⟨w.heap.size + 1, 9, none⟩ = some (.int .i64 0) := cellB hb1 (by simp [go_sem])
  have fp9a : w1.frozen? ⟨w.heap.size + 1, 9, none⟩ = false := frozB hb1 (v := .int .i64 0) (by simp [go_sem]) (by simp [go_sem])
  have p10a : w1.cell? ⟨w.heap.size + 1, 10, none⟩ = some (.slice none 0 0) := cellB hb1 (by simp [go_sem])
  have fp10a : w1.frozen? ⟨w.heap.size + 1, 10, none⟩ = false := frozB hb1 (v := .slice none 0 0) (by simp [go_sem]) (by simp [go_sem])
  have p11a : w1.cell? ⟨w.heap.size + 1, 11, none⟩ = some (.slice none 0 0) := cellB hb1 (by simp [go_sem])
  have fp11a : w1.frozen? ⟨w.heap.size + 1, 11, none⟩ = false := frozB hb1 (v := .slice none 0 0) (by simp [go_sem]) (by simp [go_sem])
  have h01 : Onto w w1 := (((Below.refl _ _).alloc (Nat.le_refl _) _).alloc (by simp) _).trans (hb1.mono (by simp; omega))
  have g1 := h.onto h01; have g1' := h'.onto h01
  have hz1 : w.heap.size + 1 < w1.heap.size := World.block_lt_of_cell? _ _ p0a
  clear hb1 h h'
  have hr := HR0.out
  by_cases h0 : q = 0
  · rw [if_neg (by simp [h0])] at hr
    have hgb := restsCl_book (HQ.out.symm.trans h0)
    have hn : n ≤ 1000000 := by have h9 := hgb.nj; dsimp only at h9; have := g1.len; simp only [List.length_map] at this; omega
    have hm : m ≤ 1000000 := by have h9 := hgb.nr; dsimp only at h9; have := g1'.len; simp only [List.length_map] at this; omega
    subst h0
    clear hgb HR0
    by_cases hc : v < 0 ∨ 60 ≤ v
    · rw [if_pos hc] at hr
      have HR := Lib.hid hr
      clear hr g1 g1'
      by_cases hcc : v < 0
      · clear hc
        go_wp2_with fail
        rw [show ((((((((((((w1.setCell ⟨w.heap.size + 1, 0, none⟩ (.int .i64 0)).setCell ⟨w.heap.size + 1, 1, none⟩ (.int .i64 0)).setCell ⟨w.heap.size + 1, 2, none⟩ (.int .i64 0)).setCell ⟨w.heap.size + 1, 3, none⟩ (.int .i64 0)).setCell ⟨w.heap.size + 1, 4, none⟩ (.int .i64 0)).setCell ⟨w.heap.size + 1, 5, none⟩ (.int .i64 0)).setCell ⟨w.heap.size + 1, 6, none⟩ (.int .i64 0)).setCell ⟨w.heap.size + 1, 7, none⟩ (.int .i64 0)).setCell ⟨w.heap.size + 1, 8, none⟩ (.int .i64 0)).setCell ⟨w.heap.size + 1, 9, none⟩ (.int .i64 0)).setCell ⟨w.heap.size + 1, 10, none⟩ (.slice none 0 0)).setCell ⟨w.heap.size + 1, 11, none⟩ (.slice none 0 0)) = (w1.setCells (w.heap.size + 1) 0 [.int .i64 0, .int .i64 0, .int .i64 0, .int .i64 0, .int .i64 0, .int .i64 0, .int .i64 0, .int .i64 0, .int .i64 0, .int .i64 0, .slice none 0 0, .slice none 0 0]) from rfl]
        have hE : Onto w (w1.setCells (w.heap.size + 1) 0 [.int .i64 0, .int .i64 0, .int .i64 0, .int .i64 0, .int .i64 0, .int .i64 0, .int .i64 0, .int .i64 0, .int .i64 0, .int .i64 0, .slice none 0 0, .slice none 0 0]) := put_onto (by omega) h01
        have F : ∀ (j : Nat) vv, ([.int .i64 0, .int .i64 0, .int .i64 0, .int .i64 0, .int .i64 0, .int .i64 0, .int .i64 0, .int .i64 0, .int .i64 0, .int .i64 0, .slice none 0 0, .slice none 0 0] : List Value)[j]? = some vv → (w1.setCells (w.heap.size + 1) 0 [.int .i64 0, .int .i64 0, .int .i64 0, .int .i64 0, .int .i64 0, .int .i64 0, .int .i64 0, .int .i64 0, .int .i64 0, .int .i64 0, .slice none 0 0, .slice none 0 0]).cell? ⟨w.heap.size + 1, j, none⟩ = some vv := fun j vv hv => put_in (w := w1) (b := w.heap.size + 1) (vs := [.int .i64 0, .int .i64 0, .int .i64 0, .int .i64 0, .int .i64 0, .int .i64 0, .int .i64 0, .int .i64 0, .int .i64 0, .int .i64 0, .slice none 0 0, .slice none 0 0]) (there12 p0a p1a p2a p3a p4a p5a p6a p7a p8a p9a p10a p11a) hv
        generalize (w1.setCells (w.heap.size + 1) 0 [.int .i64 0, .int .i64 0, .int .i64 0, .int .i64 0, .int .i64 0, .int .i64 0, .int .i64 0, .int .i64 0, .int .i64 0, .int .i64 0, .slice none 0 0, .slice none 0 0]) = wf at F hE ⊢
        have z0 := F 0 _ rfl
        have z1 := F 1 _ rfl
        have z2 := F 2 _ rfl
        have z3 := F 3 _ rfl
        have z4 := F 4 _ rfl
        have z5 := F 5 _ rfl
        have z6 := F 6 _ rfl
        have z7 := F 7 _ rfl
        have z8 := F 8 _ rfl
        have z9 := F 9 _ rfl
        have z10 := F 10 _ rfl
        have z11 := F 11 _ rfl
        refine bodyPost_ret (v := .tuple #[.agg #[.int .i64 0, .int .i64 0, .int .i64 0, .int .i64 0, .int .i64 0, .int .i64 0, .int .i64 0, .int .i64 0, .int .i64 0, .int .i64 0, .slice none 0 0, .slice none 0 0], .int .i64 5]) (by simp [results, Try.results37, go_sem, z0, z1, z2, z3, z4, z5, z6, z7, z8, z9, z10, z11]) rfl ?_
        rw [HR.out]
        exact ⟨none, 0, 0, none, 0, 0, rfl, Sl.nil, Sl.nil, hE, Nat.le_refl _, Nat.le_refl _, Fresh.none_ _, Fresh.none_ _⟩
      · have hd2 : 60 ≤ v := by omega
        clear hc
        go_wp2_with fail
        rw [show ((((((((((((w1.setCell ⟨w.heap.size + 1, 0, none⟩ (.int .i64 0)).setCell ⟨w.heap.size + 1, 1, none⟩ (.int .i64 0)).setCell ⟨w.heap.size + 1, 2, none⟩ (.int .i64 0)).setCell ⟨w.heap.size + 1, 3, none⟩ (.int .i64 0)).setCell ⟨w.heap.size + 1, 4, none⟩ (.int .i64 0)).setCell ⟨w.heap.size + 1, 5, none⟩ (.int .i64 0)).setCell ⟨w.heap.size + 1, 6, none⟩ (.int .i64 0)).setCell ⟨w.heap.size + 1, 7, none⟩ (.int .i64 0)).setCell ⟨w.heap.size + 1, 8, none⟩ (.int .i64 0)).setCell ⟨w.heap.size + 1, 9, none⟩ (.int .i64 0)).setCell ⟨w.heap.size + 1, 10, none⟩ (.slice none 0 0)).setCell ⟨w.heap.size + 1, 11, none⟩ (.slice none 0 0)) = (w1.setCells (w.heap.size + 1) 0 [.int .i64 0, .int .i64 0, .int .i64 0, .int .i64 0, .int .i64 0, .int .i64 0, .int .i64 0, .int .i64 0, .int .i64 0, .int .i64 0, .slice none 0 0, .slice none 0 0]) from rfl]
        have hE : Onto w (w1.setCells (w.heap.size + 1) 0 [.int .i64 0, .int .i64 0, .int .i64 0, .int .i64 0, .int .i64 0, .int .i64 0, .int .i64 0, .int .i64 0, .int .i64 0, .int .i64 0, .slice none 0 0, .slice none 0 0]) := put_onto (by omega) h01
        have F : ∀ (j : Nat) vv, ([.int .i64 0, .int .i64 0, .int .i64 0, .int .i64 0, .int .i64 0, .int .i64 0, .int .i64 0, .int .i64 0, .int .i64 0, .int .i64 0, .slice none 0 0, .slice none 0 0] : List Value)[j]? = some vv → (w1.setCells (w.heap.size + 1) 0 [.int .i64 0, .int .i64 0, .int .i64 0, .int .i64 0, .int .i64 0, .int .i64 0, .int .i64 0, .int .i64 0, .int .i64 0, .int .i64 0, .slice none 0 0, .slice none 0 0]).cell? ⟨w.heap.size + 1, j, none⟩ = some vv := fun j vv hv => put_in (w := w1) (b := w.heap.size + 1) (vs := [.int .i64 0, .int .i64 0, .int .i64 0, .int .i64 0, .int .i64 0, .int .i64 0, .int .i64 0, .int .i64 0, .int .i64 0, .int .i64 0, .slice none 0 0, .slice none 0 0]) (there12 p0a p1a p2a p3a p4a p5a p6a p7a p8a p9a p10a p11a) hv
        generalize (w1.setCells (w.heap.size + 1) 0 [.int .i64 0, .int .i64 0, .int .i64 0, .int .i64 0, .int .i64 0, .int .i64 0, .int .i64 0, .int .i64 0, .int .i64 0, .int .i64 0, .slice none 0 0, .slice none 0 0]) = wf at F hE ⊢
        have z0 := F 0 _ rfl
        have z1 := F 1 _ rfl
        have z2 := F 2 _ rfl
        have z3 := F 3 _ rfl
        have z4 := F 4 _ rfl
        have z5 := F 5 _ rfl
        have z6 := F 6 _ rfl
        have z7 := F 7 _ rfl
        have z8 := F 8 _ rfl
        have z9 := F 9 _ rfl
        have z10 := F 10 _ rfl
        have z11 := F 11 _ rfl
        refine bodyPost_ret (v := .tuple #[.agg #[.int .i64 0, .int .i64 0, .int .i64 0, .int .i64 0, .int .i64 0, .int .i64 0, .int .i64 0, .int .i64 0, .int .i64 0, .int .i64 0, .slice none 0 0, .slice none 0 0], .int .i64 5]) (by simp [results, Try.results37, go_sem, z0, z1, z2, z3, z4, z5, z6, z7, z8, z9, z10, z11]) rfl ?_
        rw [HR.out]
        exact ⟨none, 0, 0, none, 0, 0, rfl, Sl.nil, Sl.nil, hE, Nat.le_refl _, Nat.le_refl _, Fresh.none_ _, Fresh.none_ _⟩
    · rw [if_neg hc] at hr
      have hd1 : ¬ v < 0 := by omega
      have hd2 : ¬ 60 ≤ v := by omega
      clear hc
      have HR := Lib.hid hr
      clear hr
      go_wp2_with fail
      refine Calls.mono (ClCopy_calls ep dg at_ ln pl x A A' n c m d b _ g1 g1' hn hm) ?_
      rintro e w2 ⟨A1, c1, A2, c2, rfl, s1, s2, hb2, hc1, hc2, fr1, fr2⟩
      have q0b := cellB hb2 q0a; have fq0b := frozB hb2 q0a fq0a; have q1b := cellB hb2 q1a; have fq1b := frozB hb2 q1a fq1a; have q2b := cellB hb2 q2a; have fq2b := frozB hb2 q2a fq2a; have q3b := cellB hb2 q3a; have fq3b := frozB hb2 q3a fq3a; have q4b := cellB hb2 q4a; have fq4b := frozB hb2 q4a fq4a; have q5b := cellB hb2 q5a; have fq5b := frozB hb2 q5a fq5a; have q6b := cellB hb2 q6a; have fq6b := frozB hb2 q6a fq6a; have q7b := cellB hb2 q7a; have fq7b := frozB hb2 q7a fq7a; have q8b := cellB hb2 q8a; have fq8b := frozB hb2 q8a fq8a; have q9b := cellB hb2 q9a; have fq9b := frozB hb2 q9a fq9a; have q10b := cellB hb2 q10a; have fq10b := frozB hb2 q10a fq10a; have q11b := cellB hb2 q11a; have fq11b := frozB hb2 q11a fq11a; have p0b := cellB hb2 p0a; have fp0b := frozB hb2 p0a fp0a; have p1b := cellB hb2 p1a; have fp1b := frozB hb2 p1a fp1a; have p2b := cellB hb2 p2a; have fp2b := frozB hb2 p2a fp2a; have p3b := cellB hb2 p3a; have fp3b := frozB hb2 p3a fp3a; have p4b := cellB hb2 p4a; have fp4b := frozB hb2 p4a fp4a; have p5b := cellB hb2 p5a; have fp5b := frozB hb2 p5a fp5a; have p6b := cellB hb2 p6a; have fp6b := frozB hb2 p6a fp6a; have p7b := cellB hb2 p7a; have fp7b := frozB hb2 p7a fp7a; have p8b := cellB hb2 p8a; have fp8b := frozB hb2 p8a fp8a; have p9b := cellB hb2 p9a; have fp9b := frozB hb2 p9a fp9a; have p10b := cellB hb2 p10a; have fp10b := frozB hb2 p10a fp10a; have p11b := cellB hb2 p11a; have fp11b := frozB hb2 p11a fp11a
      clear q0a fq0a q1a fq1a q2a fq2a q3a fq3a q4a fq4a q5a fq5a q6a fq6a q7a fq7a q8a fq8a q9a fq9a q10a fq10a q11a fq11a p0a fp0a p1a fp1a p2a fp2a p3a fp3a p4a fp4a p5a fp5a p6a fp6a p7a fp7a p8a fp8a p9a fp9a p10a fp10a p11a fp11a
      have h02 := Onto.to h01 hb2
      have hz2 : w.heap.size + 1 < w2.heap.size := World.block_lt_of_cell? _ _ p0b
      have o1 : OffN n w.heap.size A1 := fr1.offN (by omega)
      have o2 : OffN m w.heap.size A2 := fr2.offN (by omega)
      have o1' : OffN n (w.heap.size + 1) A1 := fr1.offN (by omega)
      have o2' : OffN m (w.heap.size + 1) A2 := fr2.offN (by omega)
      have fA : Fresh w.heap.size A1 := fun a e => by have := fr1 a e; omega
      have fB : Fresh w.heap.size A2 := fun a e => by have := fr2 a e; omega
      clear hb2 h01 g1 g1' hz1
      go_upto_region 7 with fail
      rw [show ((((((((((((w2.setCell ⟨w.heap.size, 0, none⟩ (.int .i64 ep)).setCell ⟨w.heap.size, 1, none⟩ (.int .i64 dg)).setCell ⟨w.heap.size, 2, none⟩ (.int .i64 x.kind)).setCell ⟨w.heap.size, 3, none⟩ (.int .i64 x.job)).setCell ⟨w.heap.size, 4, none⟩ (.int .i64 x.every)).setCell ⟨w.heap.size, 5, none⟩ (.int .i64 x.time)).setCell ⟨w.heap.size, 6, none⟩ (.int .i64 x.client)).setCell ⟨w.heap.size, 7, none⟩ (.int .i64 at_)).setCell ⟨w.heap.size, 8, none⟩ (.int .i64 ln)).setCell ⟨w.heap.size, 9, none⟩ (.int .i64 pl)).setCell ⟨w.heap.size, 10, none⟩ (.slice A1 n c1)).setCell ⟨w.heap.size, 11, none⟩ (.slice A2 m c2)) = (w2.setCells w.heap.size 0 [.int .i64 ep, .int .i64 dg, .int .i64 x.kind, .int .i64 x.job, .int .i64 x.every, .int .i64 x.time, .int .i64 x.client, .int .i64 at_, .int .i64 ln, .int .i64 pl, .slice A1 n c1, .slice A2 m c2]) from rfl]
      have h03 : Onto w (w2.setCells w.heap.size 0 [.int .i64 ep, .int .i64 dg, .int .i64 x.kind, .int .i64 x.job, .int .i64 x.every, .int .i64 x.time, .int .i64 x.client, .int .i64 at_, .int .i64 ln, .int .i64 pl, .slice A1 n c1, .slice A2 m c2]) := put_onto (by omega) h02
      have F0 : ∀ (j : Nat) vv, ([.int .i64 ep, .int .i64 dg, .int .i64 x.kind, .int .i64 x.job, .int .i64 x.every, .int .i64 x.time, .int .i64 x.client, .int .i64 at_, .int .i64 ln, .int .i64 pl, .slice A1 n c1, .slice A2 m c2] : List Value)[j]? = some vv → (w2.setCells w.heap.size 0 [.int .i64 ep, .int .i64 dg, .int .i64 x.kind, .int .i64 x.job, .int .i64 x.every, .int .i64 x.time, .int .i64 x.client, .int .i64 at_, .int .i64 ln, .int .i64 pl, .slice A1 n c1, .slice A2 m c2]).cell? ⟨w.heap.size, j, none⟩ = some vv := fun j vv hv => put_in (w := w2) (b := w.heap.size) (vs := [.int .i64 ep, .int .i64 dg, .int .i64 x.kind, .int .i64 x.job, .int .i64 x.every, .int .i64 x.time, .int .i64 x.client, .int .i64 at_, .int .i64 ln, .int .i64 pl, .slice A1 n c1, .slice A2 m c2]) (there12 q0b q1b q2b q3b q4b q5b q6b q7b q8b q9b q10b q11b) hv
      have s3 := put_S (vs := [.int .i64 ep, .int .i64 dg, .int .i64 x.kind, .int .i64 x.job, .int .i64 x.every, .int .i64 x.time, .int .i64 x.client, .int .i64 at_, .int .i64 ln, .int .i64 pl, .slice A1 n c1, .slice A2 m c2]) (b := w.heap.size) (o := 0) (w := w2) o1 s1
      have s3' := put_S (vs := [.int .i64 ep, .int .i64 dg, .int .i64 x.kind, .int .i64 x.job, .int .i64 x.every, .int .i64 x.time, .int .i64 x.client, .int .i64 at_, .int .i64 ln, .int .i64 pl, .slice A1 n c1, .slice A2 m c2]) (b := w.heap.size) (o := 0) (w := w2) o2 s2
      have p0c : (w2.setCells w.heap.size 0 [.int .i64 ep, .int .i64 dg, .int .i64 x.kind, .int .i64 x.job, .int .i64 x.every, .int .i64 x.time, .int .i64 x.client, .int .i64 at_, .int .i64 ln, .int .i64 pl, .slice A1 n c1, .slice A2 m c2]).cell? ⟨w.heap.size + 1, 0, none⟩ = some (.int .i64 0) := (put_out (by simp)).trans p0b
      have fp0c : (w2.setCells w.heap.size 0 [.int .i64 ep, .int .i64 dg, .int .i64 x.kind, .int .i64 x.job, .int .i64 x.every, .int .i64 x.time, .int .i64 x.client, .int .i64 at_, .int .i64 ln, .int .i64 pl, .slice A1 n c1, .slice A2 m c2]).frozen? ⟨w.heap.size + 1, 0, none⟩ = false := (World.frozen?_setCells _ _ _ _ _).trans fp0b
      have fq0c : (w2.setCells w.heap.size 0 [.int .i64 ep, .int .i64 dg, .int .i64 x.kind, .int .i64 x.job, .int .i64 x.every, .int .i64 x.time, .int .i64 x.client, .int .i64 at_, .int .i64 ln, .int .i64 pl, .slice A1 n c1, .slice A2 m c2]).frozen? ⟨w.heap.size, 0, none⟩ = false := (World.frozen?_setCells _ _ _ _ _).trans fq0b
      have p1c : (w2.setCells w.heap.size 0 [.int .i64 ep, .int .i64 dg, .int .i64 x.kind, .int .i64 x.job, .int .i64 x.every, .int .i64 x.time, .int .i64 x.client, .int .i64 at_, .int .i64 ln, .int .i64 pl, .slice A1 n c1, .slice A2 m c2]).cell? ⟨w.heap.size + 1, 1, none⟩ = some (.int .i64 0) := (put_out (by simp)).trans p1b
      have fp1c : (w2.setCells w.heap.size 0 [.int .i64 ep, .int .i64 dg, .int .i64 x.kind, .int .i64 x.job, .int .i64 x.every, .int .i64 x.time, .int .i64 x.client, .int .i64 at_, .int .i64 ln, .int .i64 pl, .slice A1 n c1, .slice A2 m c2]).frozen? ⟨w.heap.size + 1, 1, none⟩ = false := (World.frozen?_setCells _ _ _ _ _).trans fp1b
      have fq1c : (w2.setCells w.heap.size 0 [.int .i64 ep, .int .i64 dg, .int .i64 x.kind, .int .i64 x.job, .int .i64 x.every, .int .i64 x.time, .int .i64 x.client, .int .i64 at_, .int .i64 ln, .int .i64 pl, .slice A1 n c1, .slice A2 m c2]).frozen? ⟨w.heap.size, 1, none⟩ = false := (World.frozen?_setCells _ _ _ _ _).trans fq1b
      have p2c : (w2.setCells w.heap.size 0 [.int .i64 ep, .int .i64 dg, .int .i64 x.kind, .int .i64 x.job, .int .i64 x.every, .int .i64 x.time, .int .i64 x.client, .int .i64 at_, .int .i64 ln, .int .i64 pl, .slice A1 n c1, .slice A2 m c2]).cell? ⟨w.heap.size + 1, 2, none⟩ = some (.int .i64 0) := (put_out (by simp)).trans p2b
      have fp2c : (w2.setCells w.heap.size 0 [.int .i64 ep, .int .i64 dg, .int .i64 x.kind, .int .i64 x.job, .int .i64 x.every, .int .i64 x.time, .int .i64 x.client, .int .i64 at_, .int .i64 ln, .int .i64 pl, .slice A1 n c1, .slice A2 m c2]).frozen? ⟨w.heap.size + 1, 2, none⟩ = false := (World.frozen?_setCells _ _ _ _ _).trans fp2b
      have fq2c : (w2.setCells w.heap.size 0 [.int .i64 ep, .int .i64 dg, .int .i64 x.kind, .int .i64 x.job, .int .i64 x.every, .int .i64 x.time, .int .i64 x.client, .int .i64 at_, .int .i64 ln, .int .i64 pl, .slice A1 n c1, .slice A2 m c2]).frozen? ⟨w.heap.size, 2, none⟩ = false := (World.frozen?_setCells _ _ _ _ _).trans fq2b
      have p3c : (w2.setCells w.heap.size 0 [.int .i64 ep, .int .i64 dg, .int .i64 x.kind, .int .i64 x.job, .int .i64 x.every, .int .i64 x.time, .int .i64 x.client, .int .i64 at_, .int .i64 ln, .int .i64 pl, .slice A1 n c1, .slice A2 m c2]).cell? ⟨w.heap.size + 1, 3, none⟩ = some (.int .i64 0) := (put_out (by simp)).trans p3b
      have fp3c : (w2.setCells w.heap.size 0 [.int .i64 ep, .int .i64 dg, .int .i64 x.kind, .int .i64 x.job, .int .i64 x.every, .int .i64 x.time, .int .i64 x.client, .int .i64 at_, .int .i64 ln, .int .i64 pl, .slice A1 n c1, .slice A2 m c2]).frozen? ⟨w.heap.size + 1, 3, none⟩ = false := (World.frozen?_setCells _ _ _ _ _).trans fp3b
      have fq3c : (w2.setCells w.heap.size 0 [.int .i64 ep, .int .i64 dg, .int .i64 x.kind, .int .i64 x.job, .int .i64 x.every, .int .i64 x.time, .int .i64 x.client, .int .i64 at_, .int .i64 ln, .int .i64 pl, .slice A1 n c1, .slice A2 m c2]).frozen? ⟨w.heap.size, 3, none⟩ = false := (World.frozen?_setCells _ _ _ _ _).trans fq3b
      have p4c : (w2.setCells w.heap.size 0 [.int .i64 ep, .int .i64 dg, .int .i64 x.kind, .int .i64 x.job, .int .i64 x.every, .int .i64 x.time, .int .i64 x.client, .int .i64 at_, .int .i64 ln, .int .i64 pl, .slice A1 n c1, .slice A2 m c2]).cell? ⟨w.heap.size + 1, 4, none⟩ = some (.int .i64 0) := (put_out (by simp)).trans p4b
      have fp4c : (w2.setCells w.heap.size 0 [.int .i64 ep, .int .i64 dg, .int .i64 x.kind, .int .i64 x.job, .int .i64 x.every, .int .i64 x.time, .int .i64 x.client, .int .i64 at_, .int .i64 ln, .int .i64 pl, .slice A1 n c1, .slice A2 m c2]).frozen? ⟨w.heap.size + 1, 4, none⟩ = false := (World.frozen?_setCells _ _ _ _ _).trans fp4b
      have fq4c : (w2.setCells w.heap.size 0 [.int .i64 ep, .int .i64 dg, .int .i64 x.kind, .int .i64 x.job, .int .i64 x.every, .int .i64 x.time, .int .i64 x.client, .int .i64 at_, .int .i64 ln, .int .i64 pl, .slice A1 n c1, .slice A2 m c2]).frozen? ⟨w.heap.size, 4, none⟩ = false := (World.frozen?_setCells _ _ _ _ _).trans fq4b
      have p5c : (w2.setCells w.heap.size 0 [.int .i64 ep, .int .i64 dg, .int .i64 x.kind, .int .i64 x.job, .int .i64 x.every, .int .i64 x.time, .int .i64 x.client, .int .i64 at_, .int .i64 ln, .int .i64 pl, .slice A1 n c1, .slice A2 m c2]).cell? ⟨w.heap.size + 1, 5, none⟩ = some (.int .i64 0) := (put_out (by simp)).trans p5b
      have fp5c : (w2.setCells w.heap.size 0 [.int .i64 ep, .int .i64 dg, .int .i64 x.kind, .int .i64 x.job, .int .i64 x.every, .int .i64 x.time, .int .i64 x.client, .int .i64 at_, .int .i64 ln, .int .i64 pl, .slice A1 n c1, .slice A2 m c2]).frozen? ⟨w.heap.size + 1, 5, none⟩ = false := (World.frozen?_setCells _ _ _ _ _).trans fp5b
      have fq5c : (w2.setCells w.heap.size 0 [.int .i64 ep, .int .i64 dg, .int .i64 x.kind, .int .i64 x.job, .int .i64 x.every, .int .i64 x.time, .int .i64 x.client, .int .i64 at_, .int .i64 ln, .int .i64 pl, .slice A1 n c1, .slice A2 m c2]).frozen? ⟨w.heap.size, 5, none⟩ = false := (World.frozen?_setCells _ _ _ _ _).trans fq5b
      have p6c : (w2.setCells w.heap.size 0 [.int .i64 ep, .int .i64 dg, .int .i64 x.kind, .int .i64 x.job, .int .i64 x.every, .int .i64 x.time, .int .i64 x.client, .int .i64 at_, .int .i64 ln, .int .i64 pl, .slice A1 n c1, .slice A2 m c2]).cell? ⟨w.heap.size + 1, 6, none⟩ = some (.int .i64 0) := (put_out (by simp)).trans p6b
      have fp6c : (w2.setCells w.heap.size 0 [.int .i64 ep, .int .i64 dg, .int .i64 x.kind, .int .i64 x.job, .int .i64 x.every, .int .i64 x.time, .int .i64 x.client, .int .i64 at_, .int .i64 ln, .int .i64 pl, .slice A1 n c1, .slice A2 m c2]).frozen? ⟨w.heap.size + 1, 6, none⟩ = false := (World.frozen?_setCells _ _ _ _ _).trans fp6b
      have fq6c : (w2.setCells w.heap.size 0 [.int .i64 ep, .int .i64 dg, .int .i64 x.kind, .int .i64 x.job, .int .i64 x.every, .int .i64 x.time, .int .i64 x.client, .int .i64 at_, .int .i64 ln, .int .i64 pl, .slice A1 n c1, .slice A2 m c2]).frozen? ⟨w.heap.size, 6, none⟩ = false := (World.frozen?_setCells _ _ _ _ _).trans fq6b
      have p7c : (w2.setCells w.heap.size 0 [.int .i64 ep, .int .i64 dg, .int .i64 x.kind, .int .i64 x.job, .int .i64 x.every, .int .i64 x.time, .int .i64 x.client, .int .i64 at_, .int .i64 ln, .int .i64 pl, .slice A1 n c1, .slice A2 m c2]).cell? ⟨w.heap.size + 1, 7, none⟩ = some (.int .i64 0) := (put_out (by simp)).trans p7b
      have fp7c : (w2.setCells w.heap.size 0 [.int .i64 ep, .int .i64 dg, .int .i64 x.kind, .int .i64 x.job, .int .i64 x.every, .int .i64 x.time, .int .i64 x.client, .int .i64 at_, .int .i64 ln, .int .i64 pl, .slice A1 n c1, .slice A2 m c2]).frozen? ⟨w.heap.size + 1, 7, none⟩ = false := (World.frozen?_setCells _ _ _ _ _).trans fp7b
      have fq7c : (w2.setCells w.heap.size 0 [.int .i64 ep, .int .i64 dg, .int .i64 x.kind, .int .i64 x.job, .int .i64 x.every, .int .i64 x.time, .int .i64 x.client, .int .i64 at_, .int .i64 ln, .int .i64 pl, .slice A1 n c1, .slice A2 m c2]).frozen? ⟨w.heap.size, 7, none⟩ = false := (World.frozen?_setCells _ _ _ _ _).trans fq7b
      have p8c : (w2.setCells w.heap.size 0 [.int .i64 ep, .int .i64 dg, .int .i64 x.kind, .int .i64 x.job, .int .i64 x.every, .int .i64 x.time, .int .i64 x.client, .int .i64 at_, .int .i64 ln, .int .i64 pl, .slice A1 n c1, .slice A2 m c2]).cell? ⟨w.heap.size + 1, 8, none⟩ = some (.int .i64 0) := (put_out (by simp)).trans p8b
      have fp8c : (w2.setCells w.heap.size 0 [.int .i64 ep, .int .i64 dg, .int .i64 x.kind, .int .i64 x.job, .int .i64 x.every, .int .i64 x.time, .int .i64 x.client, .int .i64 at_, .int .i64 ln, .int .i64 pl, .slice A1 n c1, .slice A2 m c2]).frozen? ⟨w.heap.size + 1, 8, none⟩ = false := (World.frozen?_setCells _ _ _ _ _).trans fp8b
      have fq8c : (w2.setCells w.heap.size 0 [.int .i64 ep, .int .i64 dg, .int .i64 x.kind, .int .i64 x.job, .int .i64 x.every, .int .i64 x.time, .int .i64 x.client, .int .i64 at_, .int .i64 ln, .int .i64 pl, .slice A1 n c1, .slice A2 m c2]).frozen? ⟨w.heap.size, 8, none⟩ = false := (World.frozen?_setCells _ _ _ _ _).trans fq8b
      have p9c : (w2.setCells w.heap.size 0 [.int .i64 ep, .int .i64 dg, .int .i64 x.kind, .int .i64 x.job, .int .i64 x.every, .int .i64 x.time, .int .i64 x.client, .int .i64 at_, .int .i64 ln, .int .i64 pl, .slice A1 n c1, .slice A2 m c2]).cell? ⟨w.heap.size + 1, 9, none⟩ = some (.int .i64 0) := (put_out (by simp)).trans p9b
      have fp9c : (w2.setCells w.heap.size 0 [.int .i64 ep, .int .i64 dg, .int .i64 x.kind, .int .i64 x.job, .int .i64 x.every, .int .i64 x.time, .int .i64 x.client, .int .i64 at_, .int .i64 ln, .int .i64 pl, .slice A1 n c1, .slice A2 m c2]).frozen? ⟨w.heap.size + 1, 9, none⟩ = false := (World.frozen?_setCells _ _ _ _ _).trans fp9b
      have fq9c : (w2.setCells w.heap.size 0 [.int .i64 ep, .int .i64 dg, .int .i64 x.kind, .int .i64 x.job, .int .i64 x.every, .int .i64 x.time, .int .i64 x.client, .int .i64 at_, .int .i64 ln, .int .i64 pl, .slice A1 n c1, .slice A2 m c2]).frozen? ⟨w.heap.size, 9, none⟩ = false := (World.frozen?_setCells _ _ _ _ _).trans fq9b
      have p10c : (w2.setCells w.heap.size 0 [.int .i64 ep, .int .i64 dg, .int .i64 x.kind, .int .i64 x.job, .int .i64 x.every, .int .i64 x.time, .int .i64 x.client, .int .i64 at_, .int .i64 ln, .int .i64 pl, .slice A1 n c1, .slice A2 m c2]).cell? ⟨w.heap.size + 1, 10, none⟩ = some (.slice none 0 0) := (put_out (by simp)).trans p10b
      have fp10c : (w2.setCells w.heap.size 0 [.int .i64 ep, .int .i64 dg, .int .i64 x.kind, .int .i64 x.job, .int .i64 x.every, .int .i64 x.time, .int .i64 x.client, .int .i64 at_, .int .i64 ln, .int .i64 pl, .slice A1 n c1, .slice A2 m c2]).frozen? ⟨w.heap.size + 1, 10, none⟩ = false := (World.frozen?_setCells _ _ _ _ _).trans fp10b
      have fq10c : (w2.setCells w.heap.size 0 [.int .i64 ep, .int .i64 dg, .int .i64 x.kind, .int .i64 x.job, .int .i64 x.every, .int .i64 x.time, .int .i64 x.client, .int .i64 at_, .int .i64 ln, .int .i64 pl, .slice A1 n c1, .slice A2 m c2]).frozen? ⟨w.heap.size, 10, none⟩ = false := (World.frozen?_setCells _ _ _ _ _).trans fq10b
      have p11c : (w2.setCells w.heap.size 0 [.int .i64 ep, .int .i64 dg, .int .i64 x.kind, .int .i64 x.job, .int .i64 x.every, .int .i64 x.time, .int .i64 x.client, .int .i64 at_, .int .i64 ln, .int .i64 pl, .slice A1 n c1, .slice A2 m c2]).cell? ⟨w.heap.size + 1, 11, none⟩ = some (.slice none 0 0) := (put_out (by simp)).trans p11b
      have fp11c : (w2.setCells w.heap.size 0 [.int .i64 ep, .int .i64 dg, .int .i64 x.kind, .int .i64 x.job, .int .i64 x.every, .int .i64 x.time, .int .i64 x.client, .int .i64 at_, .int .i64 ln, .int .i64 pl, .slice A1 n c1, .slice A2 m c2]).frozen? ⟨w.heap.size + 1, 11, none⟩ = false := (World.frozen?_setCells _ _ _ _ _).trans fp11b
      have fq11c : (w2.setCells w.heap.size 0 [.int .i64 ep, .int .i64 dg, .int .i64 x.kind, .int .i64 x.job, .int .i64 x.every, .int .i64 x.time, .int .i64 x.client, .int .i64 at_, .int .i64 ln, .int .i64 pl, .slice A1 n c1, .slice A2 m c2]).frozen? ⟨w.heap.size, 11, none⟩ = false := (World.frozen?_setCells _ _ _ _ _).trans fq11b
      generalize (w2.setCells w.heap.size 0 [.int .i64 ep, .int .i64 dg, .int .i64 x.kind, .int .i64 x.job, .int .i64 x.every, .int .i64 x.time, .int .i64 x.client, .int .i64 at_, .int .i64 ln, .int .i64 pl, .slice A1 n c1, .slice A2 m c2]) = w3 at *
      have q0c := F0 0 _ rfl
      have q1c := F0 1 _ rfl
      have q2c := F0 2 _ rfl
      have q3c := F0 3 _ rfl
      have q4c := F0 4 _ rfl
      have q5c := F0 5 _ rfl
      have q6c := F0 6 _ rfl
      have q7c := F0 7 _ rfl
      have q8c := F0 8 _ rfl
      have q9c := F0 9 _ rfl
      have q10c := F0 10 _ rfl
      have q11c := F0 11 _ rfl
      have hz3 : w.heap.size + 1 < w3.heap.size := World.block_lt_of_cell? _ _ p0c
      clear F0 s1 s2 h02 hz2 q0b fq0b q1b fq1b q2b fq2b q3b fq3b q4b fq4b q5b fq5b q6b fq6b q7b fq7b q8b fq8b q9b fq9b q10b fq10b q11b fq11b p0b fp0b p1b fp1b p2b fp2b p3b fp3b p4b fp4b p5b fp5b p6b fp6b p7b fp7b p8b fp8b p9b fp9b p10b fp10b p11b fp11b
      go_upto_region 8 with fail
      have h04 : Onto w ((w3.setCell ⟨w.heap.size, 1, none⟩ (.int .i64 2)).setCell ⟨w.heap.size, 7, none⟩ (.int .i64 v)) := ((h03.put (by simp) _).put (by simp) _)
      have t1 := (S.off (S.off s3 (p := ⟨w.heap.size, 1, none⟩) o1 (.int .i64 2)) (p := ⟨w.heap.size, 7, none⟩) o1 (.int .i64 v))
      have t2 := (S.off (S.off s3' (p := ⟨w.heap.size, 1, none⟩) o2 (.int .i64 2)) (p := ⟨w.heap.size, 7, none⟩) o2 (.int .i64 v))
      have q0d : ((w3.setCell ⟨w.heap.size, 1, none⟩ (.int .i64 2)).setCell ⟨w.heap.size, 7, none⟩ (.int .i64 v)).cell? ⟨w.heap.size, 0, none⟩ = some (.int .i64 ep) := by simp [go_sem, q0c, q1c, q7c]
      have q1d : ((w3.setCell ⟨w.heap.size, 1, none⟩ (.int .i64 2)).setCell ⟨w.heap.size, 7, none⟩ (.int .i64 v)).cell? ⟨w.heap.size, 1, none⟩ = some (.int .i64 2) := by simp [go_sem, q1c, q1c, q7c]
      have q2d : ((w3.setCell ⟨w.heap.size, 1, none⟩ (.int .i64 2)).setCell ⟨w.heap.size, 7, none⟩ (.int .i64 v)).cell? ⟨w.heap.size, 2, none⟩ = some (.int .i64 x.kind) := by simp [go_sem, q2c, q1c, q7c]
      have q3d : ((w3.setCell ⟨w.heap.size, 1, none⟩ (.int .i64 2)).setCell ⟨w.heap.size, 7, none⟩ (.int .i64 v)).cell? ⟨w.heap.size, 3, none⟩ = some (.int .i64 x.job) := by simp [go_sem, q3c, q1c, q7c]
      have q4d : ((w3.setCell ⟨w.heap.size, 1, none⟩ (.int .i64 2)).setCell ⟨w.heap.size, 7, none⟩ (.int .i64 v)).cell? ⟨w.heap.size, 4, none⟩ = some (.int .i64 x.every) := by simp [go_sem, q4c, q1c, q7c]
      have q5d : ((w3.setCell ⟨w.heap.size, 1, none⟩ (.int .i64 2)).setCell ⟨w.heap.size, 7, none⟩ (.int .i64 v)).cell? ⟨w.heap.size, 5, none⟩ = some (.int .i64 x.time) := by simp [go_sem, q5c, q1c, q7c]
      have q6d : ((w3.setCell ⟨w.heap.size, 1, none⟩ (.int .i64 2)).setCell ⟨w.heap.size, 7, none⟩ (.int .i64 v)).cell? ⟨w.heap.size, 6, none⟩ = some (.int .i64 x.client) := by simp [go_sem, q6c, q1c, q7c]
      have q7d : ((w3.setCell ⟨w.heap.size, 1, none⟩ (.int .i64 2)).setCell ⟨w.heap.size, 7, none⟩ (.int .i64 v)).cell? ⟨w.heap.size, 7, none⟩ = some (.int .i64 v) := by simp [go_sem, q7c, q1c, q7c]
      have q8d : ((w3.setCell ⟨w.heap.size, 1, none⟩ (.int .i64 2)).setCell ⟨w.heap.size, 7, none⟩ (.int .i64 v)).cell? ⟨w.heap.size, 8, none⟩ = some (.int .i64 ln) := by simp [go_sem, q8c, q1c, q7c]
      have q9d : ((w3.setCell ⟨w.heap.size, 1, none⟩ (.int .i64 2)).setCell ⟨w.heap.size, 7, none⟩ (.int .i64 v)).cell? ⟨w.heap.size, 9, none⟩ = some (.int .i64 pl) := by simp [go_sem, q9c, q1c, q7c]
      have q10d : ((w3.setCell ⟨w.heap.size, 1, none⟩ (.int .i64 2)).setCell ⟨w.heap.size, 7, none⟩ (.int .i64 v)).cell? ⟨w.heap.size, 10, none⟩ = some (.slice A1 n c1) := by simp [go_sem, q10c, q1c, q7c]
      have q11d : ((w3.setCell ⟨w.heap.size, 1, none⟩ (.int .i64 2)).setCell ⟨w.heap.size, 7, none⟩ (.int .i64 v)).cell? ⟨w.heap.size, 11, none⟩ = some (.slice A2 m c2) := by simp [go_sem, q11c, q1c, q7c]
      have p0d : ((w3.setCell ⟨w.heap.size, 1, none⟩ (.int .i64 2)).setCell ⟨w.heap.size, 7, none⟩ (.int .i64 v)).cell? ⟨w.heap.size + 1, 0, none⟩ = some (.int .i64 0) := by simp [go_sem, p0c]
      have fp0d : ((w3.setCell ⟨w.heap.size, 1, none⟩ (.int .i64 2)).setCell ⟨w.heap.size, 7, none⟩ (.int .i64 v)).frozen? ⟨w.heap.size + 1, 0, none⟩ = false := by simp [fp0c]
      have p1d : ((w3.setCell ⟨w.heap.size, 1, none⟩ (.int .i64 2)).setCell ⟨w.heap.size, 7, none⟩ (.int .i64 v)).cell? ⟨w.heap.size + 1, 1, none⟩ = some (.int .i64 0) := by simp [go_sem, p1c]
      have fp1d : ((w3.setCell ⟨w.heap.size, 1, none⟩ (.int .i64 2)).setCell ⟨w.heap.size, 7, none⟩ (.int .i64 v)).frozen? ⟨w.heap.size + 1, 1, none⟩ = false := by simp [fp1c]
      have p2d : ((w3.setCell ⟨w.heap.size, 1, none⟩ (.int .i64 2)).setCell ⟨w.heap.size, 7, none⟩ (.int .i64 v)).cell? ⟨w.heap.size + 1, 2, none⟩ = some (.int .i64 0) := by simp [go_sem, p2c]
      have fp2d : ((w3.setCell ⟨w.heap.size, 1, none⟩ (.int .i64 2)).setCell ⟨w.heap.size, 7, none⟩ (.int .i64 v)).frozen? ⟨w.heap.size + 1, 2, none⟩ = false := by simp [fp2c]
      have p3d : ((w3.setCell ⟨w.heap.size, 1, none⟩ (.int .i64 2)).setCell ⟨w.heap.size, 7, none⟩ (.int .i64 v)).cell? ⟨w.heap.size + 1, 3, none⟩ = some (.int .i64 0) := by simp [go_sem, p3c]
      have fp3d : ((w3.setCell ⟨w.heap.size, 1, none⟩ (.int .i64 2)).setCell ⟨w.heap.size, 7, none⟩ (.int .i64 v)).frozen? ⟨w.heap.size + 1, 3, none⟩ = false := by simp [fp3c]
      have p4d : ((w3.setCell ⟨w.heap.size, 1, none⟩ (.int .i64 2)).setCell ⟨w.heap.size, 7, none⟩ (.int .i64 v)).cell? ⟨w.heap.size + 1, 4, none⟩ = some (.int .i64 0) := by simp [go_sem, p4c]
      have fp4d : ((w3.setCell ⟨w.heap.size, 1, none⟩ (.int .i64 2)).setCell ⟨w.heap.size, 7, none⟩ (.int .i64 v)).frozen? ⟨w.heap.size + 1, 4, none⟩ = false := by simp [fp4c]
      have p5d : ((w3.setCell ⟨w.heap.size, 1, none⟩ (.int .i64 2)).setCell ⟨w.heap.size, 7, none⟩ (.int .i64 v)).cell? ⟨w.heap.size + 1, 5, none⟩ = some (.int .i64 0) := by simp [go_sem, p5c]
      have fp5d : ((w3.setCell ⟨w.heap.size, 1, none⟩ (.int .i64 2)).setCell ⟨w.heap.size, 7, none⟩ (.int .i64 v)).frozen? ⟨w.heap.size + 1, 5, none⟩ = false := by simp [fp5c]
      have p6d : ((w3.setCell ⟨w.heap.size, 1, none⟩ (.int .i64 2)).setCell ⟨w.heap.size, 7, none⟩ (.int .i64 v)).cell? ⟨w.heap.size + 1, 6, none⟩ = some (.int .i64 0) := by simp [go_sem, p6c]
      have fp6d : ((w3.setCell ⟨w.heap.size, 1, none⟩ (.int .i64 2)).setCell ⟨w.heap.size, 7, none⟩ (.int .i64 v)).frozen? ⟨w.heap.size + 1, 6, none⟩ = false := by simp [fp6c]
      have p7d : ((w3.setCell ⟨w.heap.size, 1, none⟩ (.int .i64 2)).setCell ⟨w.heap.size, 7, none⟩ (.int .i64 v)).cell? ⟨w.heap.size + 1, 7, none⟩ = some (.int .i64 0) := by simp [go_sem, p7c]
      have fp7d : ((w3.setCell ⟨w.heap.size, 1, none⟩ (.int .i64 2)).setCell ⟨w.heap.size, 7, none⟩ (.int .i64 v)).frozen? ⟨w.heap.size + 1, 7, none⟩ = false := by simp [fp7c]
      have p8d : ((w3.setCell ⟨w.heap.size, 1, none⟩ (.int .i64 2)).setCell ⟨w.heap.size, 7, none⟩ (.int .i64 v)).cell? ⟨w.heap.size + 1, 8, none⟩ = some (.int .i64 0) := by simp [go_sem, p8c]
      have fp8d : ((w3.setCell ⟨w.heap.size, 1, none⟩ (.int .i64 2)).setCell ⟨w.heap.size, 7, none⟩ (.int .i64 v)).frozen? ⟨w.heap.size + 1, 8, none⟩ = false := by simp [fp8c]
      have p9d : ((w3.setCell ⟨w.heap.size, 1, none⟩ (.int .i64 2)).setCell ⟨w.heap.size, 7, none⟩ (.int .i64 v)).cell? ⟨w.heap.size + 1, 9, none⟩ = some (.int .i64 0) := by simp [go_sem, p9c]
      have fp9d : ((w3.setCell ⟨w.heap.size, 1, none⟩ (.int .i64 2)).setCell ⟨w.heap.size, 7, none⟩ (.int .i64 v)).frozen? ⟨w.heap.size + 1, 9, none⟩ = false := by simp [fp9c]
      have p10d : ((w3.setCell ⟨w.heap.size, 1, none⟩ (.int .i64 2)).setCell ⟨w.heap.size, 7, none⟩ (.int .i64 v)).cell? ⟨w.heap.size + 1, 10, none⟩ = some (.slice none 0 0) := by simp [go_sem, p10c]
      have fp10d : ((w3.setCell ⟨w.heap.size, 1, none⟩ (.int .i64 2)).setCell ⟨w.heap.size, 7, none⟩ (.int .i64 v)).frozen? ⟨w.heap.size + 1, 10, none⟩ = false := by simp [fp10c]
      have p11d : ((w3.setCell ⟨w.heap.size, 1, none⟩ (.int .i64 2)).setCell ⟨w.heap.size, 7, none⟩ (.int .i64 v)).cell? ⟨w.heap.size + 1, 11, none⟩ = some (.slice none 0 0) := by simp [go_sem, p11c]
      have fp11d : ((w3.setCell ⟨w.heap.size, 1, none⟩ (.int .i64 2)).setCell ⟨w.heap.size, 7, none⟩ (.int .i64 v)).frozen? ⟨w.heap.size + 1, 11, none⟩ = false := by simp [fp11c]
      clear h03 s3 s3' hz3 q0c fq0c q1c fq1c q2c fq2c q3c fq3c q4c fq4c q5c fq5c q6c fq6c q7c fq7c q8c fq8c q9c fq9c q10c fq10c q11c fq11c p0c fp0c p1c fp1c p2c fp2c p3c fp3c p4c fp4c p5c fp5c p6c fp6c p7c fp7c p8c fp8c p9c fp9c p10c fp10c p11c fp11c
      change Code.wp _ _ _ _ ((w3.setCell ⟨w.heap.size, 1, none⟩ (.int .i64 2)).setCell ⟨w.heap.size, 7, none⟩ (.int .i64 v))
      generalize ((w3.setCell ⟨w.heap.size, 1, none⟩ (.int .i64 2)).setCell ⟨w.heap.size, 7, none⟩ (.int .i64 v)) = w4 at *
      have hz4 : w.heap.size + 1 < w4.heap.size := World.block_lt_of_cell? _ _ p0d
      go_wp2_with fail
      rw [show ((((((((((((w4.setCell ⟨w.heap.size + 1, 0, none⟩ (.int .i64 ep)).setCell ⟨w.heap.size + 1, 1, none⟩ (.int .i64 2)).setCell ⟨w.heap.size + 1, 2, none⟩ (.int .i64 x.kind)).setCell ⟨w.heap.size + 1, 3, none⟩ (.int .i64 x.job)).setCell ⟨w.heap.size + 1, 4, none⟩ (.int .i64 x.every)).setCell ⟨w.heap.size + 1, 5, none⟩ (.int .i64 x.time)).setCell ⟨w.heap.size + 1, 6, none⟩ (.int .i64 x.client)).setCell ⟨w.heap.size + 1, 7, none⟩ (.int .i64 v)).setCell ⟨w.heap.size + 1, 8, none⟩ (.int .i64 ln)).setCell ⟨w.heap.size + 1, 9, none⟩ (.int .i64 pl)).setCell ⟨w.heap.size + 1, 10, none⟩ (.slice A1 n c1)).setCell ⟨w.heap.size + 1, 11, none⟩ (.slice A2 m c2)) = (w4.setCells (w.heap.size + 1) 0 [.int .i64 ep, .int .i64 2, .int .i64 x.kind, .int .i64 x.job, .int .i64 x.every, .int .i64 x.time, .int .i64 x.client, .int .i64 v, .int .i64 ln, .int .i64 pl, .slice A1 n c1, .slice A2 m c2]) from rfl]
      have hE : Onto w (w4.setCells (w.heap.size + 1) 0 [.int .i64 ep, .int .i64 2, .int .i64 x.kind, .int .i64 x.job, .int .i64 x.every, .int .i64 x.time, .int .i64 x.client, .int .i64 v, .int .i64 ln, .int .i64 pl, .slice A1 n c1, .slice A2 m c2]) := put_onto (by omega) h04
      have F : ∀ (j : Nat) vv, ([.int .i64 ep, .int .i64 2, .int .i64 x.kind, .int .i64 x.job, .int .i64 x.every, .int .i64 x.time, .int .i64 x.client, .int .i64 v, .int .i64 ln, .int .i64 pl, .slice A1 n c1, .slice A2 m c2] : List Value)[j]? = some vv → (w4.setCells (w.heap.size + 1) 0 [.int .i64 ep, .int .i64 2, .int .i64 x.kind, .int .i64 x.job, .int .i64 x.every, .int .i64 x.time, .int .i64 x.client, .int .i64 v, .int .i64 ln, .int .i64 pl, .slice A1 n c1, .slice A2 m c2]).cell? ⟨w.heap.size + 1, j, none⟩ = some vv := fun j vv hv => put_in (w := w4) (b := w.heap.size + 1) (vs := [.int .i64 ep, .int .i64 2, .int .i64 x.kind, .int .i64 x.job, .int .i64 x.every, .int .i64 x.time, .int .i64 x.client, .int .i64 v, .int .i64 ln, .int .i64 pl, .slice A1 n c1, .slice A2 m c2]) (there12 p0d p1d p2d p3d p4d p5d p6d p7d p8d p9d p10d p11d) hv
      have u1 := put_S (vs := [.int .i64 ep, .int .i64 2, .int .i64 x.kind, .int .i64 x.job, .int .i64 x.every, .int .i64 x.time, .int .i64 x.client, .int .i64 v, .int .i64 ln, .int .i64 pl, .slice A1 n c1, .slice A2 m c2]) (b := w.heap.size + 1) (o := 0) (w := w4) (o1') t1
      have u2 := put_S (vs := [.int .i64 ep, .int .i64 2, .int .i64 x.kind, .int .i64 x.job, .int .i64 x.every, .int .i64 x.time, .int .i64 x.client, .int .i64 v, .int .i64 ln, .int .i64 pl, .slice A1 n c1, .slice A2 m c2]) (b := w.heap.size + 1) (o := 0) (w := w4) (o2') t2
      generalize (w4.setCells (w.heap.size + 1) 0 [.int .i64 ep, .int .i64 2, .int .i64 x.kind, .int .i64 x.job, .int .i64 x.every, .int .i64 x.time, .int .i64 x.client, .int .i64 v, .int .i64 ln, .int .i64 pl, .slice A1 n c1, .slice A2 m c2]) = wf at F hE u1 u2 ⊢
      have z0 := F 0 _ rfl
      have z1 := F 1 _ rfl
      have z2 := F 2 _ rfl
      have z3 := F 3 _ rfl
      have z4 := F 4 _ rfl
      have z5 := F 5 _ rfl
      have z6 := F 6 _ rfl
      have z7 := F 7 _ rfl
      have z8 := F 8 _ rfl
      have z9 := F 9 _ rfl
      have z10 := F 10 _ rfl
      have z11 := F 11 _ rfl
      refine bodyPost_ret (v := .tuple #[.agg #[.int .i64 ep, .int .i64 2, .int .i64 x.kind, .int .i64 x.job, .int .i64 x.every, .int .i64 x.time, .int .i64 x.client, .int .i64 v, .int .i64 ln, .int .i64 pl, .slice A1 n c1, .slice A2 m c2], .int .i64 0]) (by simp [results, Try.results37, go_sem, z0, z1, z2, z3, z4, z5, z6, z7, z8, z9, z10, z11]) rfl ?_
      rw [HR.out]
      exact ⟨A1, n, c1, A2, m, c2, rfl, u1, u2, hE, hc1, hc2, fA, fB⟩
  · rw [if_pos h0] at hr
    have HR := Lib.hid hr
    have hd : (q != 0) = true := by simpa using h0
    clear hr HR0 h0 g1 g1'
    go_wp2_with fail
    rw [show ((((((((((((w1.setCell ⟨w.heap.size + 1, 0, none⟩ (.int .i64 0)).setCell ⟨w.heap.size + 1, 1, none⟩ (.int .i64 0)).setCell ⟨w.heap.size + 1, 2, none⟩ (.int .i64 0)).setCell ⟨w.heap.size + 1, 3, none⟩ (.int .i64 0)).setCell ⟨w.heap.size + 1, 4, none⟩ (.int .i64 0)).setCell ⟨w.heap.size + 1, 5, none⟩ (.int .i64 0)).setCell ⟨w.heap.size + 1, 6, none⟩ (.int .i64 0)).setCell ⟨w.heap.size + 1, 7, none⟩ (.int .i64 0)).setCell ⟨w.heap.size + 1, 8, none⟩ (.int .i64 0)).setCell ⟨w.heap.size + 1, 9, none⟩ (.int .i64 0)).setCell ⟨w.heap.size + 1, 10, none⟩ (.slice none 0 0)).setCell ⟨w.heap.size + 1, 11, none⟩ (.slice none 0 0)) = (w1.setCells (w.heap.size + 1) 0 [.int .i64 0, .int .i64 0, .int .i64 0, .int .i64 0, .int .i64 0, .int .i64 0, .int .i64 0, .int .i64 0, .int .i64 0, .int .i64 0, .slice none 0 0, .slice none 0 0]) from rfl]
    have hE : Onto w (w1.setCells (w.heap.size + 1) 0 [.int .i64 0, .int .i64 0, .int .i64 0, .int .i64 0, .int .i64 0, .int .i64 0, .int .i64 0, .int .i64 0, .int .i64 0, .int .i64 0, .slice none 0 0, .slice none 0 0]) := put_onto (by omega) h01
    have F : ∀ (j : Nat) vv, ([.int .i64 0, .int .i64 0, .int .i64 0, .int .i64 0, .int .i64 0, .int .i64 0, .int .i64 0, .int .i64 0, .int .i64 0, .int .i64 0, .slice none 0 0, .slice none 0 0] : List Value)[j]? = some vv → (w1.setCells (w.heap.size + 1) 0 [.int .i64 0, .int .i64 0, .int .i64 0, .int .i64 0, .int .i64 0, .int .i64 0, .int .i64 0, .int .i64 0, .int .i64 0, .int .i64 0, .slice none 0 0, .slice none 0 0]).cell? ⟨w.heap.size + 1, j, none⟩ = some vv := fun j vv hv => put_in (w := w1) (b := w.heap.size + 1) (vs := [.int .i64 0, .int .i64 0, .int .i64 0, .int .i64 0, .int .i64 0, .int .i64 0, .int .i64 0, .int .i64 0, .int .i64 0, .int .i64 0, .slice none 0 0, .slice none 0 0]) (there12 p0a p1a p2a p3a p4a p5a p6a p7a p8a p9a p10a p11a) hv
    generalize (w1.setCells (w.heap.size + 1) 0 [.int .i64 0, .int .i64 0, .int .i64 0, .int .i64 0, .int .i64 0, .int .i64 0, .int .i64 0, .int .i64 0, .int .i64 0, .int .i64 0, .slice none 0 0, .slice none 0 0]) = wf at F hE ⊢
    have z0 := F 0 _ rfl
    have z1 := F 1 _ rfl
    have z2 := F 2 _ rfl
    have z3 := F 3 _ rfl
    have z4 := F 4 _ rfl
    have z5 := F 5 _ rfl
    have z6 := F 6 _ rfl
    have z7 := F 7 _ rfl
    have z8 := F 8 _ rfl
    have z9 := F 9 _ rfl
    have z10 := F 10 _ rfl
    have z11 := F 11 _ rfl
    refine bodyPost_ret (v := .tuple #[.agg #[.int .i64 0, .int .i64 0, .int .i64 0, .int .i64 0, .int .i64 0, .int .i64 0, .int .i64 0, .int .i64 0, .int .i64 0, .int .i64 0, .slice none 0 0, .slice none 0 0], .int .i64 q]) (by simp [results, Try.results37, go_sem, z0, z1, z2, z3, z4, z5, z6, z7, z8, z9, z10, z11]) rfl ?_
    rw [HR.out]
    exact ⟨none, 0, 0, none, 0, 0, rfl, Sl.nil, Sl.nil, hE, Nat.le_refl _, Nat.le_refl _, Fresh.none_ _, Fresh.none_ _⟩
end Go.Proofs.Ytbipmoehcmighaa
