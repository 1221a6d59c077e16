/- client.Want. -/
import Derived.Test.YtbipmoehcmighaaClient4
namespace Go.Proofs.Ytbipmoehcmighaa
set_option linter.unusedSimpArgs false
set_option linter.unusedVariables false
open Go.RowKit

def wantCl (c : Cli) (y : Entry) : Cli × Int :=
  if restsCl c ≠ 0 then (zeroCl, restsCl c) else if checkE y ≠ 0 then (zeroCl, checkE y) else if y.kind = 0 then (zeroCl, 4) else (⟨c.epoch, 1, y, c.at_, c.link, c.played, c.b⟩, 0)

set_option maxHeartbeats 8000000 in
set_option maxRecDepth 100000 in
theorem ClWant_calls (ep dg at_ ln pl : Int) (x y : Entry) (A A' : Option Addr) (n c m d : Nat) (b : Book) (w : World) (h : S w 3 A n (b.jobs.map encJ)) (h' : S w 3 A' m (b.rung.map encR)) :
    Calls Try.prog 46 #[.agg #[.int .i64 ep, .int .i64 dg, .int .i64 x.kind, .int .i64 x.job, .int .i64 x.every, .int .i64 x.time, .int .i64 x.client, .int .i64 at_, .int .i64 ln, .int .i64 pl, .slice A n c, .slice A' m d], .agg #[.int .i64 y.kind, .int .i64 y.job, .int .i64 y.every, .int .i64 y.time, .int .i64 y.client]] w (ClPost w (wantCl ⟨ep, dg, x, at_, ln, pl, b⟩ y).1 (wantCl ⟨ep, dg, x, at_, ln, pl, b⟩ y).2) := by
  obtain ⟨q, hq⟩ : ∃ q, q = restsCl ⟨ep, dg, x, at_, ln, pl, b⟩ := ⟨_, rfl⟩
  obtain ⟨q2, hq2⟩ : ∃ q2, q2 = checkE y := ⟨_, rfl⟩
  obtain ⟨r, hr⟩ : ∃ r, r = wantCl ⟨ep, dg, x, at_, ln, pl, b⟩ y := ⟨_, rfl⟩
  rw [← hr]
  unfold wantCl at hr
  rw [← hq, ← hq2] at hr
  dsimp only at hr
  have HQ := Lib.hid hq; have HR0 := Lib.hid hr; have HQ2 := Lib.hid hq2
  clear hq hr hq2
  go_enter Try.func46, Try.ntmps46
  go_wp2_with fail
  refine Calls.mono (ClRests_calls ep dg at_ ln pl x A A' n c m d b _ (((h.new _).new _).new _) (((h'.new _).new _).new _)) ?_
  rw [← HQ.out]
  rintro e w1 ⟨rfl, hb1⟩
  have q0a : w1.cell? ⟨w.heap.size, 0, none⟩ = some (.int .i64 ep) := cellB hb1 (by simp [go_sem])
  have fq0a : w1.frozen? ⟨w.heap.size, 0, none⟩ = false := frozB hb1 (v := .int .i64 ep) (by simp [go_sem]) (by simp [go_sem])
  have q1a : w1.cell? ⟨w.heap.size, 1, none⟩ = some (.int .i64 dg) := cellB hb1 (by simp [go_sem])
  have fq1a : w1.frozen? ⟨w.heap.size, 1, none⟩ = false := frozB hb1 (v := .int .i64 dg) (by simp [go_sem]) (by simp [go_sem])
  have q2a : w1.cell? ⟨w.heap.size, 2, none⟩ = some (.int .i64 x.kind) := cellB hb1 (by simp [go_sem])
  have fq2a : w1.frozen? ⟨w.heap.size, 2, none⟩ = false := frozB hb1 (v := .int .i64 x.kind) (by simp [go_sem]) (by simp [go_sem])
  have q3a : w1.cell? ⟨w.heap.size, 3, none⟩ = some (.int .i64 x.job) := cellB hb1 (by simp [go_sem])
  have fq3a : w1.frozen? ⟨w.heap.size, 3, none⟩ = false := frozB hb1 (v := .int .i64 x.job) (by simp [go_sem]) (by simp [go_sem])
  have q4a : w1.cell? ⟨w.heap.size, 4, none⟩ = some (.int .i64 x.every) := cellB hb1 (by simp [go_sem])
  have fq4a : w1.frozen? ⟨w.heap.size, 4, none⟩ = false := frozB hb1 (v := .int .i64 x.every) (by simp [go_sem]) (by simp [go_sem])
  have q5a : w1.cell? ⟨w.heap.size, 5, none⟩ = some (.int .i64 x.time) := cellB hb1 (by simp [go_sem])
  have fq5a : w1.frozen? ⟨w.heap.size, 5, none⟩ = false := frozB hb1 (v := .int .i64 x.time) (by simp [go_sem]) (by simp [go_sem])
  have q6a : w1.cell? ⟨w.heap.size, 6, none⟩ = some (.int .i64 x.client) := cellB hb1 (by simp [go_sem])
  have fq6a : w1.frozen? ⟨w.heap.size, 6, none⟩ = false := frozB hb1 (v := .int .i64 x.client) (by simp [go_sem]) (by simp [go_sem])
  have q7a : w1.cell? ⟨w.heap.size, 7, none⟩ = some (.int .i64 at_) := cellB hb1 (by simp [go_sem])
  have fq7a : w1.frozen? ⟨w.heap.size, 7, none⟩ = false := frozB hb1 (v := .int .i64 at_) (by simp [go_sem]) (by simp [go_sem])
  have q8a : w1.cell? ⟨w.heap.size, 8, none⟩ = some (.int .i64 ln) := cellB hb1 (by simp [go_sem])
  have fq8a : w1.frozen? ⟨w.heap.size, 8, none⟩ = false := frozB hb1 (v := .int .i64 ln) (by simp [go_sem]) (by simp [go_sem])
  have q9a : w1.cell? ⟨w.heap.size, 9, none⟩ = some (.int .i64 pl) := cellB hb1 (by simp [go_sem])
  have fq9a : w1.frozen? ⟨w.heap.size, 9, none⟩ = false := frozB hb1 (v := .int .i64 pl) (by simp [go_sem]) (by simp [go_sem])
  have q10a : w1.cell? ⟨w.heap.size, 10, none⟩ = some (.slice A n c) := cellB hb1 (by simp [go_sem])
  have fq10a : w1.frozen? ⟨w.heap.size, 10, none⟩ = false := frozB hb1 (v := .slice A n c) (by simp [go_sem]) (by simp [go_sem])
  have q11a : w1.cell? ⟨w.heap.size, 11, none⟩ = some (.slice A' m d) := cellB hb1 (by simp [go_sem])
  have fq11a : w1.frozen? ⟨w.heap.size, 11, none⟩ = false := frozB hb1 (v := .slice A' m d) (by simp [go_sem]) (by simp [go_sem])
  have p0a : w1.cell? ⟨w.heap.size + 1 + 1, 0, none⟩ = some (.int .i64 0) := cellB hb1 (by simp [go_sem])
  have fp0a : w1.frozen? ⟨w.heap.size + 1 + 1, 0, none⟩ = false := frozB hb1 (v := .int .i64 0) (by simp [go_sem]) (by simp [go_sem])
  have p1a : w1.cell? ⟨w.heap.size + 1 + 1, 1, none⟩ = some (.int .i64 0) := cellB hb1 (by simp [go_sem])
  have fp1a : w1.frozen? ⟨w.heap.size + 1 + 1, 1, none⟩ = false := frozB hb1 (v := .int .i64 0) (by simp [go_sem]) (by simp [go_sem])
  have p2a : w1.cell? ⟨w.heap.size + 1 + 1, 2, none⟩ = some (.int .i64 0) := cellB hb1 (by simp [go_sem])
  have fp2a : w1.frozen? ⟨w.heap.size + 1 + 1, 2, none⟩ = false := frozB hb1 (v := .int .i64 0) (by simp [go_sem]) (by simp [go_sem])
  have p3a : w1.cell? ⟨w.heap.size + 1 + 1, 3, none⟩ = some (.int .i64 0) := cellB hb1 (by simp [go_sem])
  have fp3a : w1.frozen? ⟨w.heap.size + 1 + 1, 3, none⟩ = false := frozB hb1 (v := .int .i64 0) (by simp [go_sem]) (by simp [go_sem])
  have p4a : w1.cell? ⟨w.heap.size + 1 + 1, 4, none⟩ = some (.int .i64 0) := cellB hb1 (by simp [go_sem])
  have fp4a : w1.frozen? ⟨w.heap.size + 1 + 1, 4, none⟩ = false := frozB hb1 (v := .int .i64 0) (by simp [go_sem]) (by simp [go_sem])
  have p5a : w1.cell? ⟨w.heap.size + 1 + 1, 5, none⟩ = some (.int .i64 0) := cellB hb1 (by simp [go_sem])
  have fp5a : w1.frozen? ⟨w.heap.size + 1 + 1, 5, none⟩ = false := frozB hb1 (v := .int .i64 0) (by simp [go_sem]) (by simp [go_sem])
  have p6a : w1.cell? ⟨w.heap.size + 1 + 1, 6, none⟩ = some (.int .i64 0) := cellB hb1 (by simp [go_sem])
  have fp6a : w1.frozen? ⟨w.heap.size + 1 + 1, 6, none⟩ = false := frozB hb1 (v := .int .i64 0) (by simp [go_sem]) (by simp [go_sem])
  have p7a : w1.cell? ⟨w.heap.size + 1 + 1, 7, none⟩ = some (.int .i64 0) := cellB hb1 (by simp [go_sem])
  have fp7a : w1.frozen? ⟨w.heap.size + 1 + 1, 7, none⟩ = false := frozB hb1 (v := .int .i64 0) (by simp [go_sem]) (by simp [go_sem])
  have p8a : w1.cell? ⟨w.heap.size + 1 + 1, 8, none⟩ = some (.int .i64 0) := cellB hb1 (by simp [go_sem])
  have fp8a : w1.frozen? ⟨w.heap.size + 1 + 1, 8, none⟩ = false := frozB hb1 (v := .int .i64 0) (by simp [go_sem]) (by simp [go_sem])
  have p9a : w1.cell? ⟨w.heap.size + 1 + 1, 9, none⟩ = some (.int .i64 0) := cellB hb1 (by simp [go_sem])
  have fp9a : w1.frozen? ⟨w.heap.size + 1 + 1, 9, none⟩ = false := frozB hb1 (v := .int .i64 0) (by simp [go_sem]) (by simp [go_sem])
  have p10a : w1.cell? ⟨w.heap.size + 1 + 1, 10, none⟩ = some (.slice none 0 0) := cellB hb1 (by simp [go_sem])
  have fp10a : w1.frozen? ⟨w.heap.size + 1 + 1, 10, none⟩ = false := frozB hb1 (v := .slice none 0 0) (by simp [go_sem]) (by simp [go_sem])
  have p11a : w1.cell? ⟨w.heap.size + 1 + 1, 11, none⟩ = some (.slice none 0 0) := cellB hb1 (by simp [go_sem])
  have fp11a : w1.frozen? ⟨w.heap.size + 1 + 1, 11, none⟩ = false := frozB hb1 (v := .slice none 0 0) (by simp [go_sem]) (by simp [go_sem])
  have e0a : w1.cell? ⟨w.heap.size + 1, 0, none⟩ = some (.int .i64 y.kind) := cellB hb1 (by simp [go_sem])
  have e1a : w1.cell? ⟨w.heap.size + 1, 1, none⟩ = some (.int .i64 y.job) := cellB hb1 (by simp [go_sem])
  have e2a : w1.cell? ⟨w.heap.size + 1, 2, none⟩ = some (.int .i64 y.every) := cellB hb1 (by simp [go_sem])
  have e3a : w1.cell? ⟨w.heap.size + 1, 3, none⟩ = some (.int .i64 y.time) := cellB hb1 (by simp [go_sem])
  have e4a : w1.cell? ⟨w.heap.size + 1, 4, none⟩ = some (.int .i64 y.client) := cellB hb1 (by simp [go_sem])
  have h01 : Onto w w1 := ((((Below.refl _ _).alloc (Nat.le_refl _) _).alloc (by simp) _).alloc (by simp; omega) _).trans (hb1.mono (by simp; omega))
  have g1 := h.onto h01; have g1' := h'.onto h01
  have hz1 : w.heap.size + 1 + 1 < w1.heap.size := World.block_lt_of_cell? _ _ p0a
  clear hb1 h h'
  by_cases h0 : q = 0
  · have hgb := restsCl_book (HQ.out.symm.trans h0)
    have hn : n ≤ 1000000 := by have h9 := hgb.nj; dsimp only at h9; have := g1.len; simp only [List.length_map] at this; omega
    have hm : m ≤ 1000000 := by have h9 := hgb.nr; dsimp only at h9; have := g1'.len; simp only [List.length_map] at this; omega
    have hr0 := HR0.out
    rw [if_neg (by simp [h0])] at hr0
    have HR1 := Lib.hid hr0
    subst h0
    clear hgb HR0 hr0
    go_wp2_with fail
    refine Calls.mono (Check_calls y.kind y.job y.every y.time y.client _) ?_
    rw [show checkE ⟨y.kind, y.job, y.every, y.time, y.client⟩ = q2 from HQ2.out.symm]
    rintro e w2 ⟨rfl, hb2⟩
    have q0b := cellB hb2 q0a; have fq0b := frozB hb2 q0a fq0a; have q1b := cellB hb2 q1a; have fq1b := frozB hb2 q1a fq1a; have q2b := cellB hb2 q2a; have fq2b := frozB hb2 q2a fq2a; have q3b := cellB hb2 q3a; have fq3b := frozB hb2 q3a fq3a; have q4b := cellB hb2 q4a; have fq4b := frozB hb2 q4a fq4a; have q5b := cellB hb2 q5a; have fq5b := frozB hb2 q5a fq5a; have q6b := cellB hb2 q6a; have fq6b := frozB hb2 q6a fq6a; have q7b := cellB hb2 q7a; have fq7b := frozB hb2 q7a fq7a; have q8b := cellB hb2 q8a; have fq8b := frozB hb2 q8a fq8a; have q9b := cellB hb2 q9a; have fq9b := frozB hb2 q9a fq9a; have q10b := cellB hb2 q10a; have fq10b := frozB hb2 q10a fq10a; have q11b := cellB hb2 q11a; have fq11b := frozB hb2 q11a fq11a; have p0b := cellB hb2 p0a; have fp0b := frozB hb2 p0a fp0a; have p1b := cellB hb2 p1a; have fp1b := frozB hb2 p1a fp1a; have p2b := cellB hb2 p2a; have fp2b := frozB hb2 p2a fp2a; have p3b := cellB hb2 p3a; have fp3b := frozB hb2 p3a fp3a; have p4b := cellB hb2 p4a; have fp4b := frozB hb2 p4a fp4a; have p5b := cellB hb2 p5a; have fp5b := frozB hb2 p5a fp5a; have p6b := cellB hb2 p6a; have fp6b := frozB hb2 p6a fp6a; have p7b := cellB hb2 p7a; have fp7b := frozB hb2 p7a fp7a; have p8b := cellB hb2 p8a; have fp8b := frozB hb2 p8a fp8a; have p9b := cellB hb2 p9a; have fp9b := frozB hb2 p9a fp9a; have p10b := cellB hb2 p10a; have fp10b := frozB hb2 p10a fp10a; have p11b := cellB hb2 p11a; have fp11b := frozB hb2 p11a fp11a
    clear q0a fq0a q1a fq1a q2a fq2a q3a fq3a q4a fq4a q5a fq5a q6a fq6a q7a fq7a q8a fq8a q9a fq9a q10a fq10a q11a fq11a p0a fp0a p1a fp1a p2a fp2a p3a fp3a p4a fp4a p5a fp5a p6a fp6a p7a fp7a p8a fp8a p9a fp9a p10a fp10a p11a fp11a
    have e0b := cellB hb2 e0a; have e1b := cellB hb2 e1a; have e2b := cellB hb2 e2a; have e3b := cellB hb2 e3a; have e4b := cellB hb2 e4a
    have h02 := Onto.to h01 hb2
    have g2 := S.onto g1 hb2; have g2' := S.onto g1' hb2
    have hz2 : w.heap.size + 1 + 1 < w2.heap.size := World.block_lt_of_cell? _ _ p0b
    clear hb2 h01 g1 g1' hz1 e0a e1a e2a e3a e4a
    have hr := HR1.out
    by_cases h20 : q2 ≠ 0
    · rw [if_pos h20] at hr
      have HR := Lib.hid hr
      have hd : (q2 != 0) = true := by simpa using h20
      clear hr h20 g2 g2'
      go_wp2_with fail
      rw [show ((((((((((((w2.setCell ⟨w.heap.size + 1 + 1, 0, none⟩ (.int .i64 0)).setCell ⟨w.heap.size + 1 + 1, 1, none⟩ (.int .i64 0)).setCell ⟨w.heap.size + 1 + 1, 2, none⟩ (.int .i64 0)).setCell ⟨w.heap.size + 1 + 1, 3, none⟩ (.int .i64 0)).setCell ⟨w.heap.size + 1 + 1, 4, none⟩ (.int .i64 0)).setCell ⟨w.heap.size + 1 + 1, 5, none⟩ (.int .i64 0)).setCell ⟨w.heap.size + 1 + 1, 6, none⟩ (.int .i64 0)).setCell ⟨w.heap.size + 1 + 1, 7, none⟩ (.int .i64 0)).setCell ⟨w.heap.size + 1 + 1, 8, none⟩ (.int .i64 0)).setCell ⟨w.heap.size + 1 + 1, 9, none⟩ (.int .i64 0)).setCell ⟨w.heap.size + 1 + 1, 10, none⟩ (.slice none 0 0)).setCell ⟨w.heap.size + 1 + 1, 11, none⟩ (.slice none 0 0)) = (w2.setCells (w.heap.size + 1 + 1) 0 [.int .i64 0, .int .i64 0, .int .i64 0, .int .i64 0, .int .i64 0, .int .i64 0, .int .i64 0, .int .i64 0, .int .i64 0, .int .i64 0, .slice none 0 0, .slice none 0 0]) from rfl]
      have hE : Onto w (w2.setCells (w.heap.size + 1 + 1) 0 [.int .i64 0, .int .i64 0, .int .i64 0, .int .i64 0, .int .i64 0, .int .i64 0, .int .i64 0, .int .i64 0, .int .i64 0, .int .i64 0, .slice none 0 0, .slice none 0 0]) := put_onto (by omega) h02
      have F : ∀ (j : Nat) vv, ([.int .i64 0, .int .i64 0, .int .i64 0, .int .i64 0, .int .i64 0, .int .i64 0, .int .i64 0, .int .i64 0, .int .i64 0, .int .i64 0, .slice none 0 0, .slice none 0 0] : List Value)[j]? = some vv → (w2.setCells (w.heap.size + 1 + 1) 0 [.int .i64 0, .int .i64 0, .int .i64 0, .int .i64 0, .int .i64 0, .int .i64 0, .int .i64 0, .int .i64 0, .int .i64 0, .int .i64 0, .slice none 0 0, .slice none 0 0]).cell? ⟨w.heap.size + 1 + 1, j, none⟩ = some vv := fun j vv hv => put_in (w := w2) (b := w.heap.size + 1 + 1) (vs := [.int .i64 0, .int .i64 0, .int .i64 0, .int .i64 0, .int .i64 0, .int .i64 0, .int .i64 0, .int .i64 0, .int .i64 0, .int .i64 0, .slice none 0 0, .slice none 0 0]) (there12 p0b p1b p2b p3b p4b p5b p6b p7b p8b p9b p10b p11b) hv
      generalize (w2.setCells (w.heap.size + 1 + 1) 0 [.int .i64 0, .int .i64 0, .int .i64 0, .int .i64 0, .int .i64 0, .int .i64 0, .int .i64 0, .int .i64 0, .int .i64 0, .int .i64 0, .slice none 0 0, .slice none 0 0]) = wf at F hE ⊢
      have z0 := F 0 _ rfl
      have z1 := F 1 _ rfl
      have z2 := F 2 _ rfl
      have z3 := F 3 _ rfl
      have z4 := F 4 _ rfl
      have z5 := F 5 _ rfl
      have z6 := F 6 _ rfl
      have z7 := F 7 _ rfl
      have z8 := F 8 _ rfl
      have z9 := F 9 _ rfl
      have z10 := F 10 _ rfl
      have z11 := F 11 _ rfl
      refine bodyPost_ret (v := .tuple #[.agg #[.int .i64 0, .int .i64 0, .int .i64 0, .int .i64 0, .int .i64 0, .int .i64 0, .int .i64 0, .int .i64 0, .int .i64 0, .int .i64 0, .slice none 0 0, .slice none 0 0], .int .i64 q2]) (by simp [results, Try.results46, go_sem, z0, z1, z2, z3, z4, z5, z6, z7, z8, z9, z10, z11]) rfl ?_
      rw [HR.out]
      exact ⟨none, 0, 0, none, 0, 0, rfl, Sl.nil, Sl.nil, hE, Nat.le_refl _, Nat.le_refl _, Fresh.none_ _, Fresh.none_ _⟩
    · rw [if_neg h20] at hr
      have hd : (q2 != 0) = false := by simpa using h20
      clear h20
      by_cases hk : y.kind = 0
      · rw [if_pos hk] at hr
        have HR := Lib.hid hr
        have hd2 : (y.kind == 0) = true := by simpa using hk
        clear hr hk g2 g2'
        go_wp2_with fail
        rw [show ((((((((((((w2.setCell ⟨w.heap.size + 1 + 1, 0, none⟩ (.int .i64 0)).setCell ⟨w.heap.size + 1 + 1, 1, none⟩ (.int .i64 0)).setCell ⟨w.heap.size + 1 + 1, 2, none⟩ (.int .i64 0)).setCell ⟨w.heap.size + 1 + 1, 3, none⟩ (.int .i64 0)).setCell ⟨w.heap.size + 1 + 1, 4, none⟩ (.int .i64 0)).setCell ⟨w.heap.size + 1 + 1, 5, none⟩ (.int .i64 0)).setCell ⟨w.heap.size + 1 + 1, 6, none⟩ (.int .i64 0)).setCell ⟨w.heap.size + 1 + 1, 7, none⟩ (.int .i64 0)).setCell ⟨w.heap.size + 1 + 1, 8, none⟩ (.int .i64 0)).setCell ⟨w.heap.size + 1 + 1, 9, none⟩ (.int .i64 0)).setCell ⟨w.heap.size + 1 + 1, 10, none⟩ (.slice none 0 0)).setCell ⟨w.heap.size + 1 + 1, 11, none⟩ (.slice none 0 0)) = (w2.setCells (w.heap.size + 1 + 1) 0 [.int .i64 0, .int .i64 0, .int .i64 0, .int .i64 0, .int .i64 0, .int .i64 0, .int .i64 0, .int .i64 0, .int .i64 0, .int .i64 0, .slice none 0 0, .slice none 0 0]) from rfl]
        have hE : Onto w (w2.setCells (w.heap.size + 1 + 1) 0 [.int .i64 0, .int .i64 0, .int .i64 0, .int .i64 0, .int .i64 0, .int .i64 0, .int .i64 0, .int .i64 0, .int .i64 0, .int .i64 0, .slice none 0 0, .slice none 0 0]) := put_onto (by omega) h02
        have F : ∀ (j : Nat) vv, ([.int .i64 0, .int .i64 0, .int .i64 0, .int .i64 0, .int .i64 0, .int .i64 0, .int .i64 0, .int .i64 0, .int .i64 0, .int .i64 0, .slice none 0 0, .slice none 0 0] : List Value)[j]? = some vv → (w2.setCells (w.heap.size + 1 + 1) 0 [.int .i64 0, .int .i64 0, .int .i64 0, .int .i64 0, .int .i64 0, .int .i64 0, .int .i64 0, .int .i64 0, .int .i64 0, .int .i64 0, .slice none 0 0, .slice none 0 0]).cell? ⟨w.heap.size + 1 + 1, j, none⟩ = some vv := fun j vv hv => put_in (w := w2) (b := w.heap.size + 1 + 1) (vs := [.int .i64 0, .int .i64 0, .int .i64 0, .int .i64 0, .int .i64 0, .int .i64 0, .int .i64 0, .int .i64 0, .int .i64 0, .int .i64 0, .slice none 0 0, .slice none 0 0]) (there12 p0b p1b p2b p3b p4b p5b p6b p7b p8b p9b p10b p11b) hv
        generalize (w2.setCells (w.heap.size + 1 + 1) 0 [.int .i64 0, .int .i64 0, .int .i64 0, .int .i64 0, .int .i64 0, .int .i64 0, .int .i64 0, .int .i64 0, .int .i64 0, .int .i64 0, .slice none 0 0, .slice none 0 0]) = wf at F hE ⊢
        have z0 := F 0 _ rfl
        have z1 := F 1 _ rfl
        have z2 := F 2 _ rfl
        have z3 := F 3 _ rfl
        have z4 := F 4 _ rfl
        have z5 := F 5 _ rfl
        have z6 := F 6 _ rfl
        have z7 := F 7 _ rfl
        have z8 := F 8 _ rfl
        have z9 := F 9 _ rfl
        have z10 := F 10 _ rfl
        have z11 := F 11 _ rfl
        refine bodyPost_ret (v := .tuple #[.agg #[.int .i64 0, .int .i64 0, .int .i64 0, .int .i64 0, .int .i64 0, .int .i64 0, .int .i64 0, .int .i64 0, .int .i64 0, .int .i64 0, .slice none 0 0, .slice none 0 0], .int .i64 4]) (by simp [results, Try.results46, go_sem, z0, z1, z2, z3, z4, z5, z6, z7, z8, z9, z10, z11]) rfl ?_
        rw [HR.out]
        exact ⟨none, 0, 0, none, 0, 0, rfl, Sl.nil, Sl.nil, hE, Nat.le_refl _, Nat.le_refl _, Fresh.none_ _, Fresh.none_ _⟩
      · rw [if_neg hk] at hr
        have HR := Lib.hid hr
        have hd2 : (y.kind == 0) = false := by simpa using hk
        clear hr hk
        go_wp2_with fail
        refine Calls.mono (ClCopy_calls ep dg at_ ln pl x A A' n c m d b _ g2 g2' hn hm) ?_
        rintro e w3 ⟨A1, c1, A2, c2, rfl, s1, s2, hb3, hc1, hc2, fr1, fr2⟩
        have q0c := cellB hb3 q0b; have fq0c := frozB hb3 q0b fq0b; have q1c := cellB hb3 q1b; have fq1c := frozB hb3 q1b fq1b; have q2c := cellB hb3 q2b; have fq2c := frozB hb3 q2b fq2b; have q3c := cellB hb3 q3b; have fq3c := frozB hb3 q3b fq3b; have q4c := cellB hb3 q4b; have fq4c := frozB hb3 q4b fq4b; have q5c := cellB hb3 q5b; have fq5c := frozB hb3 q5b fq5b; have q6c := cellB hb3 q6b; have fq6c := frozB hb3 q6b fq6b; have q7c := cellB hb3 q7b; have fq7c := frozB hb3 q7b fq7b; have q8c := cellB hb3 q8b; have fq8c := frozB hb3 q8b fq8b; have q9c := cellB hb3 q9b; have fq9c := frozB hb3 q9b fq9b; have q10c := cellB hb3 q10b; have fq10c := frozB hb3 q10b fq10b; have q11c := cellB hb3 q11b; have fq11c := frozB hb3 q11b fq11b; have p0c := cellB hb3 p0b; have fp0c := frozB hb3 p0b fp0b; have p1c := cellB hb3 p1b; have fp1c := frozB hb3 p1b fp1b; have p2c := cellB hb3 p2b; have fp2c := frozB hb3 p2b fp2b; have p3c := cellB hb3 p3b; have fp3c := frozB hb3 p3b fp3b; have p4c := cellB hb3 p4b; have fp4c := frozB hb3 p4b fp4b; have p5c := cellB hb3 p5b; have fp5c := frozB hb3 p5b fp5b; have p6c := cellB hb3 p6b; have fp6c := frozB hb3 p6b fp6b; have p7c := cellB hb3 p7b; have fp7c := frozB hb3 p7b fp7b; have p8c := cellB hb3 p8b; have fp8c := frozB hb3 p8b fp8b; have p9c := cellB hb3 p9b; have fp9c := frozB hb3 p9b fp9b; have p10c := cellB hb3 p10b; have fp10c := frozB hb3 p10b fp10b; have p11c := cellB hb3 p11b; have fp11c := frozB hb3 p11b fp11b
        clear q0b fq0b q1b fq1b q2b fq2b q3b fq3b q4b fq4b q5b fq5b q6b fq6b q7b fq7b q8b fq8b q9b fq9b q10b fq10b q11b fq11b p0b fp0b p1b fp1b p2b fp2b p3b fp3b p4b fp4b p5b fp5b p6b fp6b p7b fp7b p8b fp8b p9b fp9b p10b fp10b p11b fp11b
        have e0c := cellB hb3 e0b; have e1c := cellB hb3 e1b; have e2c := cellB hb3 e2b; have e3c := cellB hb3 e3b; have e4c := cellB hb3 e4b
        have h03 := Onto.to h02 hb3
        have hz3 : w.heap.size + 1 + 1 < w3.heap.size := World.block_lt_of_cell? _ _ p0c
        have o1 : OffN n w.heap.size A1 := fr1.offN (by omega)
        have o2 : OffN m w.heap.size A2 := fr2.offN (by omega)
        have o1' : OffN n (w.heap.size + 1 + 1) A1 := fr1.offN (by omega)
        have o2' : OffN m (w.heap.size + 1 + 1) A2 := fr2.offN (by omega)
        have fA : Fresh w.heap.size A1 := fun a e => by have := fr1 a e; omega
        have fB : Fresh w.heap.size A2 := fun a e => by have := fr2 a e; omega
        clear hb3 h02 g2 g2' hz2 e0b e1b e2b e3b e4b
        go_upto_region 10 with fail
        rw [show ((((((((((((w3.setCell ⟨w.heap.size, 0, none⟩ (.int .i64 ep)).setCell ⟨w.heap.size, 1, none⟩ (.int .i64 dg)).setCell ⟨w.heap.size, 2, none⟩ (.int .i64 x.kind)).setCell ⟨w.heap.size, 3, none⟩ (.int .i64 x.job)).setCell ⟨w.heap.size, 4, none⟩ (.int .i64 x.every)).setCell ⟨w.heap.size, 5, none⟩ (.int .i64 x.time)).setCell ⟨w.heap.size, 6, none⟩ (.int .i64 x.client)).setCell ⟨w.heap.size, 7, none⟩ (.int .i64 at_)).setCell ⟨w.heap.size, 8, none⟩ (.int .i64 ln)).setCell ⟨w.heap.size, 9, none⟩ (.int .i64 pl)).setCell ⟨w.heap.size, 10, none⟩ (.slice A1 n c1)).setCell ⟨w.heap.size, 11, none⟩ (.slice A2 m c2)) = (w3.setCells w.heap.size 0 [.int .i64 ep, .int .i64 dg, .int .i64 x.kind, .int .i64 x.job, .int .i64 x.every, .int .i64 x.time, .int .i64 x.client, .int .i64 at_, .int .i64 ln, .int .i64 pl, .slice A1 n c1, .slice A2 m c2]) from rfl]
        have h04 : Onto w (w3.setCells w.heap.size 0 [.int .i64 ep, .int .i64 dg, .int .i64 x.kind, .int .i64 x.job, .int .i64 x.every, .int .i64 x.time, .int .i64 x.client, .int .i64 at_, .int .i64 ln, .int .i64 pl, .slice A1 n c1, .slice A2 m c2]) := put_onto (by omega) h03
        have F0 : ∀ (j : Nat) vv, ([.int .i64 ep, .int .i64 dg, .int .i64 x.kind, .int .i64 x.job, .int .i64 x.every, .int .i64 x.time, .int .i64 x.client, .int .i64 at_, .int .i64 ln, .int .i64 pl, .slice A1 n c1, .slice A2 m c2] : List Value)[j]? = some vv → (w3.setCells w.heap.size 0 [.int .i64 ep, .int .i64 dg, .int .i64 x.kind, .int .i64 x.job, .int .i64 x.every, .int .i64 x.time, .int .i64 x.client, .int .i64 at_, .int .i64 ln, .int .i64 pl, .slice A1 n c1, .slice A2 m c2]).cell? ⟨w.heap.size, j, none⟩ = some vv := fun j vv hv => put_in (w := w3) (b := w.heap.size) (vs := [.int .i64 ep, .int .i64 dg, .int .i64 x.kind, .int .i64 x.job, .int .i64 x.every, .int .i64 x.time, .int .i64 x.client, .int .i64 at_, .int .i64 ln, .int .i64 pl, .slice A1 n c1, .slice A2 m c2]) (there12 q0c q1c q2c q3c q4c q5c q6c q7c q8c q9c q10c q11c) hv
        have s3 := put_S (vs := [.int .i64 ep, .int .i64 dg, .int .i64 x.kind, .int .i64 x.job, .int .i64 x.every, .int .i64 x.time, .int .i64 x.client, .int .i64 at_, .int .i64 ln, .int .i64 pl, .slice A1 n c1, .slice A2 m c2]) (b := w.heap.size) (o := 0) (w := w3) o1 s1
        have s3' := put_S (vs := [.int .i64 ep, .int .i64 dg, .int .i64 x.kind, .int .i64 x.job, .int .i64 x.every, .int .i64 x.time, .int .i64 x.client, .int .i64 at_, .int .i64 ln, .int .i64 pl, .slice A1 n c1, .slice A2 m c2]) (b := w.heap.size) (o := 0) (w := w3) o2 s2
        have p0d : (w3.setCells w.heap.size 0 [.int .i64 ep, .int .i64 dg, .int .i64 x.kind, .int .i64 x.job, .int .i64 x.every, .int .i64 x.time, .int .i64 x.client, .int .i64 at_, .int .i64 ln, .int .i64 pl, .slice A1 n c1, .slice A2 m c2]).cell? ⟨w.heap.size + 1 + 1, 0, none⟩ = some (.int .i64 0) := (put_out (by simp only; omega)).trans p0c
        have fp0d : (w3.setCells w.heap.size 0 [.int .i64 ep, .int .i64 dg, .int .i64 x.kind, .int .i64 x.job, .int .i64 x.every, .int .i64 x.time, .int .i64 x.client, .int .i64 at_, .int .i64 ln, .int .i64 pl, .slice A1 n c1, .slice A2 m c2]).frozen? ⟨w.heap.size + 1 + 1, 0, none⟩ = false := (World.frozen?_setCells _ _ _ _ _).trans fp0c
        have fq0d : (w3.setCells w.heap.size 0 [.int .i64 ep, .int .i64 dg, .int .i64 x.kind, .int .i64 x.job, .int .i64 x.every, .int .i64 x.time, .int .i64 x.client, .int .i64 at_, .int .i64 ln, .int .i64 pl, .slice A1 n c1, .slice A2 m c2]).frozen? ⟨w.heap.size, 0, none⟩ = false := (World.frozen?_setCells _ _ _ _ _).trans fq0c
        have p1d : (w3.setCells w.heap.size 0 [.int .i64 ep, .int .i64 dg, .int .i64 x.kind, .int .i64 x.job, .int .i64 x.every, .int .i64 x.time, .int .i64 x.client, .int .i64 at_, .int .i64 ln, .int .i64 pl, .slice A1 n c1, .slice A2 m c2]).cell? ⟨w.heap.size + 1 + 1, 1, none⟩ = some (.int .i64 0) := (put_out (by simp only; omega)).trans p1c
        have fp1d : (w3.setCells w.heap.size 0 [.int .i64 ep, .int .i64 dg, .int .i64 x.kind, .int .i64 x.job, .int .i64 x.every, .int .i64 x.time, .int .i64 x.client, .int .i64 at_, .int .i64 ln, .int .i64 pl, .slice A1 n c1, .slice A2 m c2]).frozen? ⟨w.heap.size + 1 + 1, 1, none⟩ = false := (World.frozen?_setCells _ _ _ _ _).trans fp1c
        have fq1d : (w3.setCells w.heap.size 0 [.int .i64 ep, .int .i64 dg, .int .i64 x.kind, .int .i64 x.job, .int .i64 x.every, .int .i64 x.time, .int .i64 x.client, .int .i64 at_, .int .i64 ln, .int .i64 pl, .slice A1 n c1, .slice A2 m c2]).frozen? ⟨w.heap.size, 1, none⟩ = false := (World.frozen?_setCells _ _ _ _ _).trans fq1c
        have p2d : (w3.setCells w.heap.size 0 [.int .i64 ep, .int .i64 dg, .int .i64 x.kind, .int .i64 x.job, .int .i64 x.every, .int .i64 x.time, .int .i64 x.client, .int .i64 at_, .int .i64 ln, .int .i64 pl, .slice A1 n c1, .slice A2 m c2]).cell? ⟨w.heap.size + 1 + 1, 2, none⟩ = some (.int .i64 0) := (put_out (by simp only; omega)).trans p2c
        have fp2d : (w3.setCells w.heap.size 0 [.int .i64 ep, .int .i64 dg, .int .i64 x.kind, .int .i64 x.job, .int .i64 x.every, .int .i64 x.time, .int .i64 x.client, .int .i64 at_, .int .i64 ln, .int .i64 pl, .slice A1 n c1, .slice A2 m c2]).frozen? ⟨w.heap.size + 1 + 1, 2, none⟩ = false := (World.frozen?_setCells _ _ _ _ _).trans fp2c
        have fq2d : (w3.setCells w.heap.size 0 [.int .i64 ep, .int .i64 dg, .int .i64 x.kind, .int .i64 x.job, .int .i64 x.every, .int .i64 x.time, .int .i64 x.client, .int .i64 at_, .int .i64 ln, .int .i64 pl, .slice A1 n c1, .slice A2 m c2]).frozen? ⟨w.heap.size, 2, none⟩ = false := (World.frozen?_setCells _ _ _ _ _).trans fq2c
        have p3d : (w3.setCells w.heap.size 0 [.int .i64 ep, .int .i64 dg, .int .i64 x.kind, .int .i64 x.job, .int .i64 x.every, .int .i64 x.time, .int .i64 x.client, .int .i64 at_, .int .i64 ln, .int .i64 pl, .slice A1 n c1, .slice A2 m c2]).cell? ⟨w.heap.size + 1 + 1, 3, none⟩ = some (.int .i64 0) := (put_out (by simp only; omega)).trans p3c
        have fp3d : (w3.setCells w.heap.size 0 [.int .i64 ep, .int .i64 dg, .int .i64 x.kind, .int .i64 x.job, .int .i64 x.every, .int .i64 x.time, .int .i64 x.client, .int .i64 at_, .int .i64 ln, .int .i64 pl, .slice A1 n c1, .slice A2 m c2]).frozen? ⟨w.heap.size + 1 + 1, 3, none⟩ = false := (World.frozen?_setCells _ _ _ _ _).trans fp3c
        have fq3d : (w3.setCells w.heap.size 0 [.int .i64 ep, .int .i64 dg, .int .i64 x.kind, .int .i64 x.job, .int .i64 x.every, .int .i64 x.time, .int .i64 x.client, .int .i64 at_, .int .i64 ln, .int .i64 pl, .slice A1 n c1, .slice A2 m c2]).frozen? ⟨w.heap.size, 3, none⟩ = false := (World.frozen?_setCells _ _ _ _ _).trans fq3c
        have p4d : (w3.setCells w.heap.size 0 [.int .i64 ep, .int .i64 dg, .int .i64 x.kind, .int .i64 x.job, .int .i64 x.every, .int .i64 x.time, .int .i64 x.client, .int .i64 at_, .int .i64 ln, .int .i64 pl, .slice A1 n c1, .slice A2 m c2]).cell? ⟨w.heap.size + 1 + 1, 4, none⟩ = some (.int .i64 0) := (put_out (by simp only; omega)).trans p4c
        have fp4d : (w3.setCells w.heap.size 0 [.int .i64 ep, .int .i64 dg, .int .i64 x.kind, .int .i64 x.job, .int .i64 x.every, .int .i64 x.time, .int .i64 x.client, .int .i64 at_, .int .i64 ln, .int .i64 pl, .slice A1 n c1, .slice A2 m c2]).frozen? ⟨w.heap.size + 1 + 1, 4, none⟩ = false := (World.frozen?_setCells _ _ _ _ _).trans fp4c
        have fq4d : (w3.setCells w.heap.size 0 [.int .i64 ep, .int .i64 dg, .int .i64 x.kind, .int .i64 x.job, .int .i64 x.every, .int .i64 x.time, .int .i64 x.client, .int .i64 at_, .int .i64 ln, .int .i64 pl, .slice A1 n c1, .slice A2 m c2]).frozen? ⟨w.heap.size, 4, none⟩ = false := (World.frozen?_setCells _ _ _ _ _).trans fq4c
        have p5d : (w3.setCells w.heap.size 0 [.int .i64 ep, .int .i64 dg, .int .i64 x.kind, .int .i64 x.job, .int .i64 x.every, .int .i64 x.time, .int .i64 x.client, .int .i64 at_, .int .i64 ln, .int .i64 pl, .slice A1 n c1, .slice A2 m c2]).cell? ⟨w.heap.size + 1 + 1, 5, none⟩ = some (.int .i64 0) := (put_out (by simp only; omega)).trans p5c
        have fp5d : (w3.setCells w.heap.size 0 [.int .i64 ep, .int .i64 dg, .int .i64 x.kind, .int .i64 x.job, .int .i64 x.every, .int .i64 x.time, .int .i64 x.client, .int .i64 at_, .int .i64 ln, .int .i64 pl, .slice A1 n c1, .slice A2 m c2]).frozen? ⟨w.heap.size + 1 + 1, 5, none⟩ = false := (World.frozen?_setCells _ _ _ _ _).trans fp5c
        have fq5d : (w3.setCells w.heap.size 0 [.int .i64 ep, .int .i64 dg, .int .i64 x.kind, .int .i64 x.job, .int .i64 x.every, .int .i64 x.time, .int .i64 x.client, .int .i64 at_, .int .i64 ln, .int .i64 pl, .slice A1 n c1, .slice A2 m c2]).frozen? ⟨w.heap.size, 5, none⟩ = false := (World.frozen?_setCells _ _ _ _ _).trans fq5c
        have p6d : (w3.setCells w.heap.size 0 [.int .i64 ep, .int .i64 dg, .int .i64 x.kind, .int .i64 x.job, .int .i64 x.every, .int .i64 x.time, .int .i64 x.client, .int .i64 at_, .int .i64 ln, .int .i64 pl, .slice A1 n c1, .slice A2 m c2]).cell? ⟨w.heap.size + 1 + 1, 6, none⟩ = some (.int .i64 0) := (put_out (by simp only; omega)).trans p6c
        have fp6d : (w3.setCells w.heap.size 0 [.int .i64 ep, .int .i64 dg, .int .i64 x.kind, .int .i64 x.job, .int .i64 x.every, .int .i64 x.time, .int .i64 x.client, .int .i64 at_, .int .i64 ln, .int .i64 pl, .slice A1 n c1, .slice A2 m c2]).frozen? ⟨w.heap.size + 1 + 1, 6, none⟩ = false := (World.frozen?_setCells _ _ _ _ _).trans fp6c
        have fq6d : (w3.setCells w.heap.size 0 [.int .i64 ep, .int .i64 dg, .int .i64 x.kind, .int .i64 x.job, .int .i64 x.every, .int .i64 x.time, .int .i64 x.client, .int .i64 at_, .int .i64 ln, .int .i64 pl, .slice A1 n c1, .slice A2 m c2]).frozen? ⟨w.heap.size, 6, none⟩ = false := (World.frozen?_setCells _ _ _ _ _).trans fq6c
        have p7d : (w3.setCells w.heap.size 0 [.int .i64 ep, .int .i64 dg, .int .i64 x.kind, .int .i64 x.job, .int .i64 x.every, .int .i64 x.time, .int .i64 x.client, .int .i64 at_, .int .i64 ln, .int .i64 pl, .slice A1 n c1, .slice A2 m c2]).cell? ⟨w.heap.size + 1 + 1, 7, none⟩ = some (.int .i64 0) := (put_out (by simp only; omega)).trans p7c
        have fp7d : (w3.setCells w.heap.size 0 [.int .i64 ep, .int .i64 dg, .int .i64 x.kind, .int .i64 x.job, .int .i64 x.every, .int .i64 x.time, .int .i64 x.client, .int .i64 at_, .int .i64 ln, .int .i64 pl, .slice A1 n c1, .slice A2 m c2]).frozen? ⟨w.heap.size + 1 + 1, 7, none⟩ = false := (World.frozen?_setCells _ _ _ _ _).trans fp7c
        have fq7d : (w3.setCells w.heap.size 0 [.int .i64 ep, .int .i64 dg, .int .i64 x.kind, .int .i64 x.job, .int .i64 x.every, .int .i64 x.time, .int .i64 x.client, .int .i64 at_, .int .i64 ln, .int .i64 pl, .slice A1 n c1, .slice A2 m c2]).frozen? ⟨w.heap.size, 7, none⟩ = false := (World.frozen?_setCells _ _ _ _ _).trans fq7c
        have p8d : (w3.setCells w.heap.size 0 [.int .i64 ep, .int .i64 dg, .int .i64 x.kind, .int .i64 x.job, .int .i64 x.every, .int .i64 x.time, .int .i64 x.client, .int .i64 at_, .int .i64 ln, .int .i64 pl, .slice A1 n c1, .slice A2 m c2]).cell? ⟨w.heap.size + 1 + 1, 8, none⟩ = some (.int .i64 0) := (put_out (by simp only; omega)).trans p8c
        have fp8d : (w3.setCells w.heap.size 0 [.int .i64 ep, .int .i64 dg, .int .i64 x.kind, .int .i64 x.job, .int .i64 x.every, .int .i64 x.time, .int .i64 x.client, .int .i64 at_, .int .i64 ln, .int .i64 pl, .slice A1 n c1, .slice A2 m c2]).frozen? ⟨w.heap.size + 1 + 1, 8, none⟩ = false := (World.frozen?_setCells _ _ _ _ _).trans fp8c
        have fq8d : (w3.setCells w.heap.size 0 [.int .i64 ep, .int .i64 dg, .int .i64 x.kind, .int .i64 x.job, .int .i64 x.every, .int .i64 x.time, .int .i64 x.client, .int .i64 at_, .int .i64 ln, .int .i64 pl, .slice A1 n c1, .slice A2 m c2]).frozen? ⟨w.heap.size, 8, none⟩ = false := (World.frozen?_setCells _ _ _ _ _).trans fq8c
        have p9d : (w3.setCells w.heap.size 0 [.int .i64 ep, .int .i64 dg, .int .i64 x.kind, .int .i64 x.job, .int .i64 x.every, .int .i64 x.time, .int .i64 x.client, .int .i64 at_, .int .i64 ln, .int .i64 pl, .slice A1 n c1, .slice A2 m c2]).cell? ⟨w.heap.size + 1 + 1, 9, none⟩ = some (.int .i64 0) := (put_out (by simp only; omega)).trans p9c
        have fp9d : (w3.setCells w.heap.size 0 [.int .i64 ep, .int .i64 dg, .int .i64 x.kind, .int .i64 x.job, .int .i64 x.every, .int .i64 x.time, .int .i64 x.client, .int .i64 at_, .int .i64 ln, .int .i64 pl, .slice A1 n c1, .slice A2 m c2]).frozen? ⟨w.heap.size + 1 + 1, 9, none⟩ = false := (World.frozen?_setCells _ _ _ _ _).trans fp9c
        have fq9d : (w3.setCells w.heap.size 0 [.int .i64 ep, .int .i64 dg, .int .i64 x.kind, .int .i64 x.job, .int .i64 x.every, .int .i64 x.time, .int .i64 x.client, .int .i64 at_, .int .i64 ln, .int .i64 pl, .slice A1 n c1, .slice A2 m c2]).frozen? ⟨w.heap.size, 9, none⟩ = false := (World.frozen?_setCells _ _ _ _ _).trans fq9c
        have p10d : (w3.setCells w.heap.size 0 [.int .i64 ep, .int .i64 dg, .int .i64 x.kind, .int .i64 x.job, .int .i64 x.every, .int .i64 x.time, .int .i64 x.client, .int .i64 at_, .int .i64 ln, .int .i64 pl, .slice A1 n c1, .slice A2 m c2]).cell? ⟨w.heap.size + 1 + 1, 10, none⟩ = some (.slice none 0 0) := (put_out (by simp only; omega)).trans p10c
        have fp10d : (w3.setCells w.heap.size 0 [.int .i64 ep, .int .i64 dg, .int .i64 x.kind, .int .i64 x.job, .int .i64 x.every, .int .i64 x.time, .int .i64 x.client, .int .i64 at_, .int .i64 ln, .int .i64 pl, .slice A1 n c1, .slice A2 m c2]).frozen? ⟨w.heap.size + 1 + 1, 10, none⟩ = false := (World.frozen?_setCells _ _ _ _ _).trans fp10c
        have fq10d : (w3.setCells w.heap.size 0 [.int .i64 ep, .int .i64 dg, .int .i64 x.kind, .int .i64 x.job, .int .i64 x.every, .int .i64 x.time, .int .i64 x.client, .int .i64 at_, .int .i64 ln, .int .i64 pl, .slice A1 n c1, .slice A2 m c2]).frozen? ⟨w.heap.size, 10, none⟩ = false := (World.frozen?_setCells _ _ _ _ _).trans fq10c
        have p11d : (w3.setCells w.heap.size 0 [.int .i64 ep, .int .i64 dg, .int .i64 x.kind, .int .i64 x.job, .int .i64 x.every, .int .i64 x.time, .int .i64 x.client, .int .i64 at_, .int .i64 ln, .int .i64 pl, .slice A1 n c1, .slice A2 m c2]).cell? ⟨w.heap.size + 1 + 1, 11, none⟩ = some (.slice none 0 0) := (put_out (by simp only; omega)).trans p11c
        have fp11d : (w3.setCells w.heap.size 0 [.int .i64 ep, .int .i64 dg, .int .i64 x.kind, .int .i64 x.job, .int .i64 x.every, .int .i64 x.time, .int .i64 x.client, .int .i64 at_, .int .i64 ln, .int .i64 pl, .slice A1 n c1, .slice A2 m c2]).frozen? ⟨w.heap.size + 1 + 1, 11, none⟩ = false := (World.frozen?_setCells _ _ _ _ _).trans fp11c
        have fq11d : (w3.setCells w.heap.size 0 [.int .i64 ep, .int .i64 dg, .int .i64 x.kind, .int .i64 x.job, .int .i64 x.every, .int .i64 x.time, .int .i64 x.client, .int .i64 at_, .int .i64 ln, .int .i64 pl, .slice A1 n c1, .slice A2 m c2]).frozen? ⟨w.heap.size, 11, none⟩ = false := (World.frozen?_setCells _ _ _ _ _).trans fq11c
        have e0d : (w3.setCells w.heap.size 0 [.int .i64 ep, .int .i64 dg, .int .i64 x.kind, .int .i64 x.job, .int .i64 x.every, .int .i64 x.time, .int .i64 x.client, .int .i64 at_, .int .i64 ln, .int .i64 pl, .slice A1 n c1, .slice A2 m c2]).cell? ⟨w.heap.size + 1, 0, none⟩ = some (.int .i64 y.kind) := (put_out (by simp only; omega)).trans e0c
        have e1d : (w3.setCells w.heap.size 0 [.int .i64 ep, .int .i64 dg, .int .i64 x.kind, .int .i64 x.job, .int .i64 x.every, .int .i64 x.time, .int .i64 x.client, .int .i64 at_, .int .i64 ln, .int .i64 pl, .slice A1 n c1, .slice A2 m c2]).cell? ⟨w.heap.size + 1, 1, none⟩ = some (.int .i64 y.job) := (put_out (by simp only; omega)).trans e1c
        have e2d : (w3.setCells w.heap.size 0 [.int .i64 ep, .int .i64 dg, .int .i64 x.kind, .int .i64 x.job, .int .i64 x.every, .int .i64 x.time, .int .i64 x.client, .int .i64 at_, .int .i64 ln, .int .i64 pl, .slice A1 n c1, .slice A2 m c2]).cell? ⟨w.heap.size + 1, 2, none⟩ = some (.int .i64 y.every) := (put_out (by simp only; omega)).trans e2c
        have e3d : (w3.setCells w.heap.size 0 [.int .i64 ep, .int .i64 dg, .int .i64 x.kind, .int .i64 x.job, .int .i64 x.every, .int .i64 x.time, .int .i64 x.client, .int .i64 at_, .int .i64 ln, .int .i64 pl, .slice A1 n c1, .slice A2 m c2]).cell? ⟨w.heap.size + 1, 3, none⟩ = some (.int .i64 y.time) := (put_out (by simp only; omega)).trans e3c
        have e4d : (w3.setCells w.heap.size 0 [.int .i64 ep, .int .i64 dg, .int .i64 x.kind, .int .i64 x.job, .int .i64 x.every, .int .i64 x.time, .int .i64 x.client, .int .i64 at_, .int .i64 ln, .int .i64 pl, .slice A1 n c1, .slice A2 m c2]).cell? ⟨w.heap.size + 1, 4, none⟩ = some (.int .i64 y.client) := (put_out (by simp only; omega)).trans e4c
        generalize (w3.setCells w.heap.size 0 [.int .i64 ep, .int .i64 dg, .int .i64 x.kind, .int .i64 x.job, .int .i64 x.every, .int .i64 x.time, .int .i64 x.client, .int .i64 at_, .int .i64 ln, .int .i64 pl, .slice A1 n c1, .slice A2 m c2]) = w4 at *
        have q0d := F0 0 _ rfl
        have q1d := F0 1 _ rfl
        have q2d := F0 2 _ rfl
        have q3d := F0 3 _ rfl
        have q4d := F0 4 _ rfl
        have q5d := F0 5 _ rfl
        have q6d := F0 6 _ rfl
        have q7d := F0 7 _ rfl
        have q8d := F0 8 _ rfl
        have q9d := F0 9 _ rfl
        have q10d := F0 10 _ rfl
        have q11d := F0 11 _ rfl
        have hz4 : w.heap.size + 1 + 1 < w4.heap.size := World.block_lt_of_cell? _ _ p0d
        clear F0 s1 s2 h03 hz3 fr1 fr2 q0c fq0c q1c fq1c q2c fq2c q3c fq3c q4c fq4c q5c fq5c q6c fq6c q7c fq7c q8c fq8c q9c fq9c q10c fq10c q11c fq11c p0c fp0c p1c fp1c p2c fp2c p3c fp3c p4c fp4c p5c fp5c p6c fp6c p7c fp7c p8c fp8c p9c fp9c p10c fp10c p11c fp11c e0c e1c e2c e3c e4c
        go_region
        go_upto_region 11 with fail
        have h05 : Onto w (((((((w4.setCell ⟨w.heap.size, 1, none⟩ (.int .i64 1)).setCell ⟨w.heap.size, 2, none⟩ (.int .i64 y.kind)).setCell ⟨w.heap.size, 3, none⟩ (.int .i64 y.job)).setCell ⟨w.heap.size, 4, none⟩ (.int .i64 y.every)).setCell ⟨w.heap.size, 5, none⟩ (.int .i64 y.time)).setCell ⟨w.heap.size, 6, none⟩ (.int .i64 y.client)).drew) := Onto.draw (((((((h04.put (by simp) _).put (by simp) _).put (by simp) _).put (by simp) _).put (by simp) _).put (by simp) _))
        have t1 := S.draw (S.off (S.off (S.off (S.off (S.off (S.off s3 (p := ⟨w.heap.size, 1, none⟩) o1 (.int .i64 1)) (p := ⟨w.heap.size, 2, none⟩) o1 (.int .i64 y.kind)) (p := ⟨w.heap.size, 3, none⟩) o1 (.int .i64 y.job)) (p := ⟨w.heap.size, 4, none⟩) o1 (.int .i64 y.every)) (p := ⟨w.heap.size, 5, none⟩) o1 (.int .i64 y.time)) (p := ⟨w.heap.size, 6, none⟩) o1 (.int .i64 y.client))
        have t2 := S.draw (S.off (S.off (S.off (S.off (S.off (S.off s3' (p := ⟨w.heap.size, 1, none⟩) o2 (.int .i64 1)) (p := ⟨w.heap.size, 2, none⟩) o2 (.int .i64 y.kind)) (p := ⟨w.heap.size, 3, none⟩) o2 (.int .i64 y.job)) (p := ⟨w.heap.size, 4, none⟩) o2 (.int .i64 y.every)) (p := ⟨w.heap.size, 5, none⟩) o2 (.int .i64 y.time)) (p := ⟨w.heap.size, 6, none⟩) o2 (.int .i64 y.client))
        have q0e : (((((((w4.setCell ⟨w.heap.size, 1, none⟩ (.int .i64 1)).setCell ⟨w.heap.size, 2, none⟩ (.int .i64 y.kind)).setCell ⟨w.heap.size, 3, none⟩ (.int .i64 y.job)).setCell ⟨w.heap.size, 4, none⟩ (.int .i64 y.every)).setCell ⟨w.heap.size, 5, none⟩ (.int .i64 y.time)).setCell ⟨w.heap.size, 6, none⟩ (.int .i64 y.client)).drew).cell? ⟨w.heap.size, 0, none⟩ = some (.int .i64 ep) := by simp [go_sem, q0d, q1d, q2d, q3d, q4d, q5d, q6d]
        have q1e : (((((((w4.setCell ⟨w.heap.size, 1, none⟩ (.int .i64 1)).setCell ⟨w.heap.size, 2, none⟩ (.int .i64 y.kind)).setCell ⟨w.heap.size, 3, none⟩ (.int .i64 y.job)).setCell ⟨w.heap.size, 4, none⟩ (.int .i64 y.every)).setCell ⟨w.heap.size, 5, none⟩ (.int .i64 y.time)).setCell ⟨w.heap.size, 6, none⟩ (.int .i64 y.client)).drew).cell? ⟨w.heap.size, 1, none⟩ = some (.int .i64 1) := by simp [go_sem, q1d, q1d, q2d, q3d, q4d, q5d, q6d]
        have q2e : (((((((w4.setCell ⟨w.heap.size, 1, none⟩ (.int .i64 1)).setCell ⟨w.heap.size, 2, none⟩ (.int .i64 y.kind)).setCell ⟨w.heap.size, 3, none⟩ (.int .i64 y.job)).setCell ⟨w.heap.size, 4, none⟩ (.int .i64 y.every)).setCell ⟨w.heap.size, 5, none⟩ (.int .i64 y.time)).setCell ⟨w.heap.size, 6, none⟩ (.int .i64 y.client)).drew).cell? ⟨w.heap.size, 2, none⟩ = some (.int .i64 y.kind) := by simp [go_sem, q2d, q1d, q2d, q3d, q4d, q5d, q6d]
        have q3e : (((((((w4.setCell ⟨w.heap.size, 1, none⟩ (.int .i64 1)).setCell ⟨w.heap.size, 2, none⟩ (.int .i64 y.kind)).setCell ⟨w.heap.size, 3, none⟩ (.int .i64 y.job)).setCell ⟨w.heap.size, 4, none⟩ (.int .i64 y.every)).setCell ⟨w.heap.size, 5, none⟩ (.int .i64 y.time)).setCell ⟨w.heap.size, 6, none⟩ (.int .i64 y.client)).drew).cell? ⟨w.heap.size, 3, none⟩ = some (.int .i64 y.job) := by simp [go_sem, q3d, q1d, q2d, q3d, q4d, q5d, q6d]
        have q4e : (((((((w4.setCell ⟨w.heap.size, 1, none⟩ (.int .i64 1)).setCell ⟨w.heap.size, 2, none⟩ (.int .i64 y.kind)).setCell ⟨w.heap.size, 3, none⟩ (.int .i64 y.job)).setCell ⟨w.heap.size, 4, none⟩ (.int .i64 y.every)).setCell ⟨w.heap.size, 5, none⟩ (.int .i64 y.time)).setCell ⟨w.heap.size, 6, none⟩ (.int .i64 y.client)).drew).cell? ⟨w.heap.size, 4, none⟩ = some (.int .i64 y.every) := by simp [go_sem, q4d, q1d, q2d, q3d, q4d, q5d, q6d]
        have q5e : (((((((w4.setCell ⟨w.heap.size, 1, none⟩ (.int .i64 1)).setCell ⟨w.heap.size, 2, none⟩ (.int .i64 y.kind)).setCell ⟨w.heap.size, 3, none⟩ (.int .i64 y.job)).setCell ⟨w.heap.size, 4, none⟩ (.int .i64 y.every)).setCell ⟨w.heap.size, 5, none⟩ (.int .i64 y.time)).setCell ⟨w.heap.size, 6, none⟩ (.int .i64 y.client)).drew).cell? ⟨w.heap.size, 5, none⟩ = some (.int .i64 y.time) := by simp [go_sem, q5d, q1d, q2d, q3d, q4d, q5d, q6d]
        have q6e : (((((((w4.setCell ⟨w.heap.size, 1, none⟩ (.int .i64 1)).setCell ⟨w.heap.size, 2, none⟩ (.int .i64 y.kind)).setCell ⟨w.heap.size, 3, none⟩ (.int .i64 y.job)).setCell ⟨w.heap.size, 4, none⟩ (.int .i64 y.every)).setCell ⟨w.heap.size, 5, none⟩ (.int .i64 y.time)).setCell ⟨w.heap.size, 6, none⟩ (.int .i64 y.client)).drew).cell? ⟨w.heap.size, 6, none⟩ = some (.int .i64 y.client) := by simp [go_sem, q6d, q1d, q2d, q3d, q4d, q5d, q6d]
        have q7e : (((((((w4.setCell ⟨w.heap.size, 1, none⟩ (.int .i64 1)).setCell ⟨w.heap.size, 2, none⟩ (.int .i64 y.kind)).setCell ⟨w.heap.size, 3, none⟩ (.int .i64 y.job)).setCell ⟨w.heap.size, 4, none⟩ (.int .i64 y.every)).setCell ⟨w.heap.size, 5, none⟩ (.int .i64 y.time)).setCell ⟨w.heap.size, 6, none⟩ (.int .i64 y.client)).drew).cell? ⟨w.heap.size, 7, none⟩ = some (.int .i64 at_) := by simp [go_sem, q7d, q1d, q2d, q3d, q4d, q5d, q6d]
        have q8e : (((((((w4.setCell ⟨w.heap.size, 1, none⟩ (.int .i64 1)).setCell ⟨w.heap.size, 2, none⟩ (.int .i64 y.kind)).setCell ⟨w.heap.size, 3, none⟩ (.int .i64 y.job)).setCell ⟨w.heap.size, 4, none⟩ (.int .i64 y.every)).setCell ⟨w.heap.size, 5, none⟩ (.int .i64 y.time)).setCell ⟨w.heap.size, 6, none⟩ (.int .i64 y.client)).drew).cell? ⟨w.heap.size, 8, none⟩ = some (.int .i64 ln) := by simp [go_sem, q8d, q1d, q2d, q3d, q4d, q5d, q6d]
        have q9e : (((((((w4.setCell ⟨w.heap.size, 1, none⟩ (.int .i64 1)).setCell ⟨w.heap.size, 2, none⟩ (.int .i64 y.kind)).setCell ⟨w.heap.size, 3, none⟩ (.int .i64 y.job)).setCell ⟨w.heap.size, 4, none⟩ (.int .i64 y.every)).setCell ⟨w.heap.size, 5, none⟩ (.int .i64 y.time)).setCell ⟨w.heap.size, 6, none⟩ (.int .i64 y.client)).drew).cell? ⟨w.heap.size, 9, none⟩ = some (.int .i64 pl) := by simp [go_sem, q9d, q1d, q2d, q3d, q4d, q5d, q6d]
        have q10e : (((((((w4.setCell ⟨w.heap.size, 1, none⟩ (.int .i64 1)).setCell ⟨w.heap.size, 2, none⟩ (.int .i64 y.kind)).setCell ⟨w.heap.size, 3, none⟩ (.int .i64 y.job)).setCell ⟨w.heap.size, 4, none⟩ (.int .i64 y.every)).setCell ⟨w.heap.size, 5, none⟩ (.int .i64 y.time)).setCell ⟨w.heap.size, 6, none⟩ (.int .i64 y.client)).drew).cell? ⟨w.heap.size, 10, none⟩ = some (.slice A1 n c1) := by simp [go_sem, q10d, q1d, q2d, q3d, q4d, q5d, q6d]
        have q11e : (((((((w4.setCell ⟨w.heap.size, 1, none⟩ (.int .i64 1)).setCell ⟨w.heap.size, 2, none⟩ (.int .i64 y.kind)).setCell ⟨w.heap.size, 3, none⟩ (.int .i64 y.job)).setCell ⟨w.heap.size, 4, none⟩ (.int .i64 y.every)).setCell ⟨w.heap.size, 5, none⟩ (.int .i64 y.time)).setCell ⟨w.heap.size, 6, none⟩ (.int .i64 y.client)).drew).cell? ⟨w.heap.size, 11, none⟩ = some (.slice A2 m c2) := by simp [go_sem, q11d, q1d, q2d, q3d, q4d, q5d, q6d]
        have p0e : (((((((w4.setCell ⟨w.heap.size, 1, none⟩ (.int .i64 1)).setCell ⟨w.heap.size, 2, none⟩ (.int .i64 y.kind)).setCell ⟨w.heap.size, 3, none⟩ (.int .i64 y.job)).setCell ⟨w.heap.size, 4, none⟩ (.int .i64 y.every)).setCell ⟨w.heap.size, 5, none⟩ (.int .i64 y.time)).setCell ⟨w.heap.size, 6, none⟩ (.int .i64 y.client)).drew).cell? ⟨w.heap.size + 1 + 1, 0, none⟩ = some (.int .i64 0) := by simp [go_sem, p0d]
        have fp0e : (((((((w4.setCell ⟨w.heap.size, 1, none⟩ (.int .i64 1)).setCell ⟨w.heap.size, 2, none⟩ (.int .i64 y.kind)).setCell ⟨w.heap.size, 3, none⟩ (.int .i64 y.job)).setCell ⟨w.heap.size, 4, none⟩ (.int .i64 y.every)).setCell ⟨w.heap.size, 5, none⟩ (.int .i64 y.time)).setCell ⟨w.heap.size, 6, none⟩ (.int .i64 y.client)).drew).frozen? ⟨w.heap.size + 1 + 1, 0, none⟩ = false := by simp [fp0d]
        have p1e : (((((((w4.setCell ⟨w.heap.size, 1, none⟩ (.int .i64 1)).setCell ⟨w.heap.size, 2, none⟩ (.int .i64 y.kind)).setCell ⟨w.heap.size, 3, none⟩ (.int .i64 y.job)).setCell ⟨w.heap.size, 4, none⟩ (.int .i64 y.every)).setCell ⟨w.heap.size, 5, none⟩ (.int .i64 y.time)).setCell ⟨w.heap.size, 6, none⟩ (.int .i64 y.client)).drew).cell? ⟨w.heap.size + 1 + 1, 1, none⟩ = some (.int .i64 0) := by simp [go_sem, p1d]
        have fp1e : (((((((w4.setCell ⟨w.heap.size, 1, none⟩ (.int .i64 1)).setCell ⟨w.heap.size, 2, none⟩ (.int .i64 y.kind)).setCell ⟨w.heap.size, 3, none⟩ (.int .i64 y.job)).setCell ⟨w.heap.size, 4, none⟩ (.int .i64 y.every)).setCell ⟨w.heap.size, 5, none⟩ (.int .i64 y.time)).setCell ⟨w.heap.size, 6, none⟩ (.int .i64 y.client)).drew).frozen? ⟨w.heap.size + 1 + 1, 1, none⟩ = false := by simp [fp1d]
        have p2e : (((((((w4.setCell ⟨w.heap.size, 1, none⟩ (.int .i64 1)).setCell ⟨w.heap.size, 2, none⟩ (.int .i64 y.kind)).setCell ⟨w.heap.size, 3, none⟩ (.int .i64 y.job)).setCell ⟨w.heap.size, 4, none⟩ (.int .i64 y.every)).setCell ⟨w.heap.size, 5, none⟩ (.int .i64 y.time)).setCell ⟨w.heap.size, 6, none⟩ (.int .i64 y.client)).drew).cell? ⟨w.heap.size + 1 + 1, 2, none⟩ = some (.int .i64 0) := by simp [go_sem, p2d]
        have fp2e : (((((((w4.setCell ⟨w.heap.size, 1, none⟩ (.int .i64 1)).setCell ⟨w.heap.size, 2, none⟩ (.int .i64 y.kind)).setCell ⟨w.heap.size, 3, none⟩ (.int .i64 y.job)).setCell ⟨w.heap.size, 4, none⟩ (.int .i64 y.every)).setCell ⟨w.heap.size, 5, none⟩ (.int .i64 y.time)).setCell ⟨w.heap.size, 6, none⟩ (.int .i64 y.client)).drew).frozen? ⟨w.heap.size + 1 + 1, 2, none⟩ = false := by simp [fp2d]
        have p3e : (((((((w4.setCell ⟨w.heap.size, 1, none⟩ (.int .i64 1)).setCell ⟨w.heap.size, 2, none⟩ (.int .i64 y.kind)).setCell ⟨w.heap.size, 3, none⟩ (.int .i64 y.job)).setCell ⟨w.heap.size, 4, none⟩ (.int .i64 y.every)).setCell ⟨w.heap.size, 5, none⟩ (.int .i64 y.time)).setCell ⟨w.heap.size, 6, none⟩ (.int .i64 y.client)).drew).cell? ⟨w.heap.size + 1 + 1, 3, none⟩ = some (.int .i64 0) := by simp [go_sem, p3d]
        have fp3e : (((((((w4.setCell ⟨w.heap.size, 1, none⟩ (.int .i64 1)).setCell ⟨w.heap.size, 2, none⟩ (.int .i64 y.kind)).setCell ⟨w.heap.size, 3, none⟩ (.int .i64 y.job)).setCell ⟨w.heap.size, 4, none⟩ (.int .i64 y.every)).setCell ⟨w.heap.size, 5, none⟩ (.int .i64 y.time)).setCell ⟨w.heap.size, 6, none⟩ (.int .i64 y.client)).drew).frozen? ⟨w.heap.size + 1 + 1, 3, none⟩ = false := by simp [fp3d]
        have p4e : (((((((w4.setCell ⟨w.heap.size, 1, none⟩ (.int .i64 1)).setCell ⟨w.heap.size, 2, none⟩ (.int .i64 y.kind)).setCell ⟨w.heap.size, 3, none⟩ (.int .i64 y.job)).setCell ⟨w.heap.size, 4, none⟩ (.int .i64 y.every)).setCell ⟨w.heap.size, 5, none⟩ (.int .i64 y.time)).setCell ⟨w.heap.size, 6, none⟩ (.int .i64 y.client)).drew).cell? ⟨w.heap.size + 1 + 1, 4, none⟩ = some (.int .i64 0) := by simp [go_sem, p4d]
        have fp4e : (((((((w4.setCell ⟨w.heap.size, 1, none⟩ (.int .i64 1)).setCell ⟨w.heap.size, 2, none⟩ (.int .i64 y.kind)).setCell ⟨w.heap.size, 3, none⟩ (.int .i64 y.job)).setCell ⟨w.heap.size, 4, none⟩ (.int .i64 y.every)).setCell ⟨w.heap.size, 5, none⟩ (.int .i64 y.time)).setCell ⟨w.heap.size, 6, none⟩ (.int .i64 y.client)).drew).frozen? ⟨w.heap.size + 1 + 1, 4, none⟩ = false := by simp [fp4d]
        have p5e : (((((((w4.setCell ⟨w.heap.size, 1, none⟩ (.int .i64 1)).setCell ⟨w.heap.size, 2, none⟩ (.int .i64 y.kind)).setCell ⟨w.heap.size, 3, none⟩ (.int .i64 y.job)).setCell ⟨w.heap.size, 4, none⟩ (.int .i64 y.every)).setCell ⟨w.heap.size, 5, none⟩ (.int .i64 y.time)).setCell ⟨w.heap.size, 6, none⟩ (.int .i64 y.client)).drew).cell? ⟨w.heap.size + 1 + 1, 5, none⟩ = some (.int .i64 0) := by simp [go_sem, p5d]
        have fp5e : (((((((w4.setCell ⟨w.heap.size, 1, none⟩ (.int .i64 1)).setCell ⟨w.heap.size, 2, none⟩ (.int .i64 y.kind)).setCell ⟨w.heap.size, 3, none⟩ (.int .i64 y.job)).setCell ⟨w.heap.size, 4, none⟩ (.int .i64 y.every)).setCell ⟨w.heap.size, 5, none⟩ (.int .i64 y.time)).setCell ⟨w.heap.size, 6, none⟩ (.int .i64 y.client)).drew).frozen? ⟨w.heap.size + 1 + 1, 5, none⟩ = false := by simp [fp5d]
        have p6e : (((((((w4.setCell ⟨w.heap.size, 1, none⟩ (.int .i64 1)).setCell ⟨w.heap.size, 2, none⟩ (.int .i64 y.kind)).setCell ⟨w.heap.size, 3, none⟩ (.int .i64 y.job)).setCell ⟨w.heap.size, 4, none⟩ (.int .i64 y.every)).setCell ⟨w.heap.size, 5, none⟩ (.int .i64 y.time)).setCell ⟨w.heap.size, 6, none⟩ (.int .i64 y.client)).drew).cell? ⟨w.heap.size + 1 + 1, 6, none⟩ = some (.int .i64 0) := by simp [go_sem, p6d]
        have fp6e : (((((((w4.setCell ⟨w.heap.size, 1, none⟩ (.int .i64 1)).setCell ⟨w.heap.size, 2, none⟩ (.int .i64 y.kind)).setCell ⟨w.heap.size, 3, none⟩ (.int .i64 y.job)).setCell ⟨w.heap.size, 4, none⟩ (.int .i64 y.every)).setCell ⟨w.heap.size, 5, none⟩ (.int .i64 y.time)).setCell ⟨w.heap.size, 6, none⟩ (.int .i64 y.client)).drew).frozen? ⟨w.heap.size + 1 + 1, 6, none⟩ = false := by simp [fp6d]
        have p7e : (((((((w4.setCell ⟨w.heap.size, 1, none⟩ (.int .i64 1)).setCell ⟨w.heap.size, 2, none⟩ (.int .i64 y.kind)).setCell ⟨w.heap.size, 3, none⟩ (.int .i64 y.job)).setCell ⟨w.heap.size, 4, none⟩ (.int .i64 y.every)).setCell ⟨w.heap.size, 5, none⟩ (.int .i64 y.time)).setCell ⟨w.heap.size, 6, none⟩ (.int .i64 y.client)).drew).cell? ⟨w.heap.size + 1 + 1, 7, none⟩ = some (.int .i64 0) := by simp [go_sem, p7d]
        have fp7e : (((((((w4.setCell ⟨w.heap.size, 1, none⟩ (.int .i64 1)).setCell ⟨w.heap.size, 2, none⟩ (.int .i64 y.kind)).setCell ⟨w.heap.size, 3, none⟩ (.int .i64 y.job)).setCell ⟨w.heap.size, 4, none⟩ (.int .i64 y.every)).setCell ⟨w.heap.size, 5, none⟩ (.int .i64 y.time)).setCell ⟨w.heap.size, 6, none⟩ (.int .i64 y.client)).drew).frozen? ⟨w.heap.size + 1 + 1, 7, none⟩ = false := by simp [fp7d]
        have p8e : (((((((w4.setCell ⟨w.heap.size, 1, none⟩ (.int .i64 1)).setCell ⟨w.heap.size, 2, none⟩ (.int .i64 y.kind)).setCell ⟨w.heap.size, 3, none⟩ (.int .i64 y.job)).setCell ⟨w.heap.size, 4, none⟩ (.int .i64 y.every)).setCell ⟨w.heap.size, 5, none⟩ (.int .i64 y.time)).setCell ⟨w.heap.size, 6, none⟩ (.int .i64 y.client)).drew).cell? ⟨w.heap.size + 1 + 1, 8, none⟩ = some (.int .i64 0) := by simp [go_sem, p8d]
        have fp8e : (((((((w4.setCell ⟨w.heap.size, 1, none⟩ (.int .i64 1)).setCell ⟨w.heap.size, 2, none⟩ (.int .i64 y.kind)).setCell ⟨w.heap.size, 3, none⟩ (.int .i64 y.job)).setCell ⟨w.heap.size, 4, none⟩ (.int .i64 y.every)).setCell ⟨w.heap.size, 5, none⟩ (.int .i64 y.time)).setCell ⟨w.heap.size, 6, none⟩ (.int .i64 y.client)).drew).frozen? ⟨w.heap.size + 1 + 1, 8, none⟩ = false := by simp [fp8d]
        have p9e : (((((((w4.setCell ⟨w.heap.size, 1, none⟩ (.int .i64 1)).setCell ⟨w.heap.size, 2, none⟩ (.int .i64 y.kind)).setCell ⟨w.heap.size, 3, none⟩ (.int .i64 y.job)).setCell ⟨w.heap.size, 4, none⟩ (.int .i64 y.every)).setCell ⟨w.heap.size, 5, none⟩ (.int .i64 y.time)).setCell ⟨w.heap.size, 6, none⟩ (.int .i64 y.client)).drew).cell? ⟨w.heap.size + 1 + 1, 9, none⟩ = some (.int .i64 0) := by simp [go_sem, p9d]
        have fp9e : (((((((w4.setCell ⟨w.heap.size, 1, none⟩ (.int .i64 1)).setCell ⟨w.heap.size, 2, none⟩ (.int .i64 y.kind)).setCell ⟨w.heap.size, 3, none⟩ (.int .i64 y.job)).setCell ⟨w.heap.size, 4, none⟩ (.int .i64 y.every)).setCell ⟨w.heap.size, 5, none⟩ (.int .i64 y.time)).setCell ⟨w.heap.size, 6, none⟩ (.int .i64 y.client)).drew).frozen? ⟨w.heap.size + 1 + 1, 9, none⟩ = false := by simp [fp9d]
        have p10e : (((((((w4.setCell ⟨w.heap.size, 1, none⟩ (.int .i64 1)).setCell ⟨w.heap.size, 2, none⟩ (.int .i64 y.kind)).setCell ⟨w.heap.size, 3, none⟩ (.int .i64 y.job)).setCell ⟨w.heap.size, 4, none⟩ (.int .i64 y.every)).setCell ⟨w.heap.size, 5, none⟩ (.int .i64 y.time)).setCell ⟨w.heap.size, 6, none⟩ (.int .i64 y.client)).drew).cell? ⟨w.heap.size + 1 + 1, 10, none⟩ = some (.slice none 0 0) := by simp [go_sem, p10d]
        have fp10e : (((((((w4.setCell ⟨w.heap.size, 1, none⟩ (.int .i64 1)).setCell ⟨w.heap.size, 2, none⟩ (.int .i64 y.kind)).setCell ⟨w.heap.size, 3, none⟩ (.int .i64 y.job)).setCell ⟨w.heap.size, 4, none⟩ (.int .i64 y.every)).setCell ⟨w.heap.size, 5, none⟩ (.int .i64 y.time)).setCell ⟨w.heap.size, 6, none⟩ (.int .i64 y.client)).drew).frozen? ⟨w.heap.size + 1 + 1, 10, none⟩ = false := by simp [fp10d]
        have p11e : (((((((w4.setCell ⟨w.heap.size, 1, none⟩ (.int .i64 1)).setCell ⟨w.heap.size, 2, none⟩ (.int .i64 y.kind)).setCell ⟨w.heap.size, 3, none⟩ (.int .i64 y.job)).setCell ⟨w.heap.size, 4, none⟩ (.int .i64 y.every)).setCell ⟨w.heap.size, 5, none⟩ (.int .i64 y.time)).setCell ⟨w.heap.size, 6, none⟩ (.int .i64 y.client)).drew).cell? ⟨w.heap.size + 1 + 1, 11, none⟩ = some (.slice none 0 0) := by simp [go_sem, p11d]
        have fp11e : (((((((w4.setCell ⟨w.heap.size, 1, none⟩ (.int .i64 1)).setCell ⟨w.heap.size, 2, none⟩ (.int .i64 y.kind)).setCell ⟨w.heap.size, 3, none⟩ (.int .i64 y.job)).setCell ⟨w.heap.size, 4, none⟩ (.int .i64 y.every)).setCell ⟨w.heap.size, 5, none⟩ (.int .i64 y.time)).setCell ⟨w.heap.size, 6, none⟩ (.int .i64 y.client)).drew).frozen? ⟨w.heap.size + 1 + 1, 11, none⟩ = false := by simp [fp11d]
        clear h04 s3 s3' hz4 q0d fq0d q1d fq1d q2d fq2d q3d fq3d q4d fq4d q5d fq5d q6d fq6d q7d fq7d q8d fq8d q9d fq9d q10d fq10d q11d fq11d p0d fp0d p1d fp1d p2d fp2d p3d fp3d p4d fp4d p5d fp5d p6d fp6d p7d fp7d p8d fp8d p9d fp9d p10d fp10d p11d fp11d e0d e1d e2d e3d e4d
        change Code.wp _ _ _ _ (((((((w4.setCell ⟨w.heap.size, 1, none⟩ (.int .i64 1)).setCell ⟨w.heap.size, 2, none⟩ (.int .i64 y.kind)).setCell ⟨w.heap.size, 3, none⟩ (.int .i64 y.job)).setCell ⟨w.heap.size, 4, none⟩ (.int .i64 y.every)).setCell ⟨w.heap.size, 5, none⟩ (.int .i64 y.time)).setCell ⟨w.heap.size, 6, none⟩ (.int .i64 y.client)).drew)
        generalize (((((((w4.setCell ⟨w.heap.size, 1, none⟩ (.int .i64 1)).setCell ⟨w.heap.size, 2, none⟩ (.int .i64 y.kind)).setCell ⟨w.heap.size, 3, none⟩ (.int .i64 y.job)).setCell ⟨w.heap.size, 4, none⟩ (.int .i64 y.every)).setCell ⟨w.heap.size, 5, none⟩ (.int .i64 y.time)).setCell ⟨w.heap.size, 6, none⟩ (.int .i64 y.client)).drew) = w5 at *
        have hz5 : w.heap.size + 1 + 1 < w5.heap.size := World.block_lt_of_cell? _ _ p0e
        go_wp2_with fail
        rw [show ((((((((((((w5.setCell ⟨w.heap.size + 1 + 1, 0, none⟩ (.int .i64 ep)).setCell ⟨w.heap.size + 1 + 1, 1, none⟩ (.int .i64 1)).setCell ⟨w.heap.size + 1 + 1, 2, none⟩ (.int .i64 y.kind)).setCell ⟨w.heap.size + 1 + 1, 3, none⟩ (.int .i64 y.job)).setCell ⟨w.heap.size + 1 + 1, 4, none⟩ (.int .i64 y.every)).setCell ⟨w.heap.size + 1 + 1, 5, none⟩ (.int .i64 y.time)).setCell ⟨w.heap.size + 1 + 1, 6, none⟩ (.int .i64 y.client)).setCell ⟨w.heap.size + 1 + 1, 7, none⟩ (.int .i64 at_)).setCell ⟨w.heap.size + 1 + 1, 8, none⟩ (.int .i64 ln)).setCell ⟨w.heap.size + 1 + 1, 9, none⟩ (.int .i64 pl)).setCell ⟨w.heap.size + 1 + 1, 10, none⟩ (.slice A1 n c1)).setCell ⟨w.heap.size + 1 + 1, 11, none⟩ (.slice A2 m c2)) = (w5.setCells (w.heap.size + 1 + 1) 0 [.int .i64 ep, .int .i64 1, .int .i64 y.kind, .int .i64 y.job, .int .i64 y.every, .int .i64 y.time, .int .i64 y.client, .int .i64 at_, .int .i64 ln, .int .i64 pl, .slice A1 n c1, .slice A2 m c2]) from rfl]
        have hE : Onto w (w5.setCells (w.heap.size + 1 + 1) 0 [.int .i64 ep, .int .i64 1, .int .i64 y.kind, .int .i64 y.job, .int .i64 y.every, .int .i64 y.time, .int .i64 y.client, .int .i64 at_, .int .i64 ln, .int .i64 pl, .slice A1 n c1, .slice A2 m c2]) := put_onto (by omega) h05
        have F : ∀ (j : Nat) vv, ([.int .i64 ep, .int .i64 1, .int .i64 y.kind, .int .i64 y.job, .int .i64 y.every, .int .i64 y.time, .int .i64 y.client, .int .i64 at_, .int .i64 ln, .int .i64 pl, .slice A1 n c1, .slice A2 m c2] : List Value)[j]? = some vv → (w5.setCells (w.heap.size + 1 + 1) 0 [.int .i64 ep, .int .i64 1, .int .i64 y.kind, .int .i64 y.job, .int .i64 y.every, .int .i64 y.time, .int .i64 y.client, .int .i64 at_, .int .i64 ln, .int .i64 pl, .slice A1 n c1, .slice A2 m c2]).cell? ⟨w.heap.size + 1 + 1, j, none⟩ = some vv := fun j vv hv => put_in (w := w5) (b := w.heap.size + 1 + 1) (vs := [.int .i64 ep, .int .i64 1, .int .i64 y.kind, .int .i64 y.job, .int .i64 y.every, .int .i64 y.time, .int .i64 y.client, .int .i64 at_, .int .i64 ln, .int .i64 pl, .slice A1 n c1, .slice A2 m c2]) (there12 p0e p1e p2e p3e p4e p5e p6e p7e p8e p9e p10e p11e) hv
        have u1 := put_S (vs := [.int .i64 ep, .int .i64 1, .int .i64 y.kind, .int .i64 y.job, .int .i64 y.every, .int .i64 y.time, .int .i64 y.client, .int .i64 at_, .int .i64 ln, .int .i64 pl, .slice A1 n c1, .slice A2 m c2]) (b := w.heap.size + 1 + 1) (o := 0) (w := w5) (o1') t1
        have u2 := put_S (vs := [.int .i64 ep, .int .i64 1, .int .i64 y.kind, .int .i64 y.job, .int .i64 y.every, .int .i64 y.time, .int .i64 y.client, .int .i64 at_, .int .i64 ln, .int .i64 pl, .slice A1 n c1, .slice A2 m c2]) (b := w.heap.size + 1 + 1) (o := 0) (w := w5) (o2') t2
        generalize (w5.setCells (w.heap.size + 1 + 1) 0 [.int .i64 ep, .int .i64 1, .int .i64 y.kind, .int .i64 y.job, .int .i64 y.every, .int .i64 y.time, .int .i64 y.client, .int .i64 at_, .int .i64 ln, .int .i64 pl, .slice A1 n c1, .slice A2 m c2]) = wf at F hE u1 u2 ⊢
        have z0 := F 0 _ rfl
        have z1 := F 1 _ rfl
        have z2 := F 2 _ rfl
        have z3 := F 3 _ rfl
        have z4 := F 4 _ rfl
        have z5 := F 5 _ rfl
        have z6 := F 6 _ rfl
        have z7 := F 7 _ rfl
        have z8 := F 8 _ rfl
        have z9 := F 9 _ rfl
        have z10 := F 10 _ rfl
        have z11 := F 11 _ rfl
        refine bodyPost_ret (v := .tuple #[.agg #[.int .i64 ep, .int .i64 1, .int .i64 y.kind, .int .i64 y.job, .int .i64 y.every, .int .i64 y.time, .int .i64 y.client, .int .i64 at_, .int .i64 ln, .int .i64 pl, .slice A1 n c1, .slice A2 m c2], .int .i64 0]) (by simp [results, Try.results46, go_sem, z0, z1, z2, z3, z4, z5, z6, z7, z8, z9, z10, z11]) rfl ?_
        rw [HR.out]
        exact ⟨A1, n, c1, A2, m, c2, rfl, u1, u2, hE, hc1, hc2, fA, fB⟩
  · have hr := HR0.out
    rw [if_pos h0] at hr
    have HR := Lib.hid hr
    have hd : (q != 0) = true := by simpa using h0
    clear hr HR0 h0 g1 g1'
    go_wp2_with fail
    rw [show ((((((((((((w1.setCell ⟨w.heap.size + 1 + 1, 0, none⟩ (.int .i64 0)).setCell ⟨w.heap.size + 1 + 1, 1, none⟩ (.int .i64 0)).setCell ⟨w.heap.size + 1 + 1, 2, none⟩ (.int .i64 0)).setCell ⟨w.heap.size + 1 + 1, 3, none⟩ (.int .i64 0)).setCell ⟨w.heap.size + 1 + 1, 4, none⟩ (.int .i64 0)).setCell ⟨w.heap.size + 1 + 1, 5, none⟩ (.int .i64 0)).setCell ⟨w.heap.size + 1 + 1, 6, none⟩ (.int .i64 0)).setCell ⟨w.heap.size + 1 + 1, 7, none⟩ (.int .i64 0)).setCell ⟨w.heap.size + 1 + 1, 8, none⟩ (.int .i64 0)).setCell ⟨w.heap.size + 1 + 1, 9, none⟩ (.int .i64 0)).setCell ⟨w.heap.size + 1 + 1, 10, none⟩ (.slice none 0 0)).setCell ⟨w.heap.size + 1 + 1, 11, none⟩ (.slice none 0 0)) = (w1.setCells (w.heap.size + 1 + 1) 0 [.int .i64 0, .int .i64 0, .int .i64 0, .int .i64 0, .int .i64 0, .int .i64 0, .int .i64 0, .int .i64 0, .int .i64 0, .int .i64 0, .slice none 0 0, .slice none 0 0]) from rfl]
    have hE : Onto w (w1.setCells (w.heap.size + 1 + 1) 0 [.int .i64 0, .int .i64 0, .int .i64 0, .int .i64 0, .int .i64 0, .int .i64 0, .int .i64 0, .int .i64 0, .int .i64 0, .int .i64 0, .slice none 0 0, .slice none 0 0]) := put_onto (by omega) h01
    have F : ∀ (j : Nat) vv, ([.int .i64 0, .int .i64 0, .int .i64 0, .int .i64 0, .int .i64 0, .int .i64 0, .int .i64 0, .int .i64 0, .int .i64 0, .int .i64 0, .slice none 0 0, .slice none 0 0] : List Value)[j]? = some vv → (w1.setCells (w.heap.size + 1 + 1) 0 [.int .i64 0, .int .i64 0, .int .i64 0, .int .i64 0, .int .i64 0, .int .i64 0, .int .i64 0, .int .i64 0, .int .i64 0, .int .i64 0, .slice none 0 0, .slice none 0 0]).cell? ⟨w.heap.size + 1 + 1, j, none⟩ = some vv := fun j vv hv => put_in (w := w1) (b := w.heap.size + 1 + 1) (vs := [.int .i64 0, .int .i64 0, .int .i64 0, .int .i64 0, .int .i64 0, .int .i64 0, .int .i64 0, .int .i64 0, .int .i64 0, .int .i64 0, .slice none 0 0, .slice none 0 0]) (there12 p0a p1a p2a p3a p4a p5a p6a p7a p8a p9a p10a p11a) hv
    generalize (w1.setCells (w.heap.size + 1 + 1) 0 [.int .i64 0, .int .i64 0, .int .i64 0, .int .i64 0, .int .i64 0, .int .i64 0, .int .i64 0, .int .i64 0, .int .i64 0, .int .i64 0, .slice none 0 0, .slice none 0 0]) = wf at F hE ⊢
    have z0 := F 0 _ rfl
    have z1 := F 1 _ rfl
    have z2 := F 2 _ rfl
    have z3 := F 3 _ rfl
    have z4 := F 4 _ rfl
    have z5 := F 5 _ rfl
    have z6 := F 6 _ rfl
    have z7 := F 7 _ rfl
    have z8 := F 8 _ rfl
    have z9 := F 9 _ rfl
    have z10 := F 10 _ rfl
    have z11 := F 11 _ rfl
    refine bodyPost_ret (v := .tuple #[.agg #[.int .i64 0, .int .i64 0, .int .i64 0, .int .i64 0, .int .i64 0, .int .i64 0, .int .i64 0, .int .i64 0, .int .i64 0, .int .i64 0, .slice none 0 0, .slice none 0 0], .int .i64 q]) (by simp [results, Try.results46, go_sem, z0, z1, z2, z3, z4, z5, z6, z7, z8, z9, z10, z11]) rfl ?_
    rw [HR.out]
    exact ⟨none, 0, 0, none, 0, 0, rfl, Sl.nil, Sl.nil, hE, Nat.le_refl _, Nat.le_refl _, Fresh.none_ _, Fresh.none_ _⟩
end Go.Proofs.Ytbipmoehcmighaa
