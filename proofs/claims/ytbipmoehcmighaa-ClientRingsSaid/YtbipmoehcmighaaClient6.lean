/- client.Play. -/
import Derived.Test.YtbipmoehcmighaaClient4
namespace Go.Proofs.Ytbipmoehcmighaa
set_option linter.unusedSimpArgs false
set_option linter.unusedVariables false
open Go.RowKit

def playCl (c : Cli) (y : Entry) : Cli × Int :=
  if checkCl c ≠ 0 then (zeroCl, checkCl c) else if c.played = 60 then (zeroCl, 2) else if (applyB c.b y).2 ≠ 0 then (zeroCl, (applyB c.b y).2)
  else (⟨c.epoch, c.doing, c.e, c.at_, c.link, c.played + 1, (applyB c.b y).1⟩, 0)
theorem checkCl_played {c : Cli} (h : checkCl c = 0) : 0 ≤ c.played ∧ c.played ≤ 60 := by
  unfold checkCl at h
  split at h
  · cases h
  · omega

set_option maxHeartbeats 8000000 in
set_option maxRecDepth 100000 in
theorem ClPlay_calls (ep dg at_ ln pl : Int) (x y : Entry) (A A' : Option Addr) (n c m d : Nat) (b : Book) (w : World) (h : S w 3 A n (b.jobs.map encJ)) (h' : S w 3 A' m (b.rung.map encR)) :
    Calls Try.prog 36 #[.agg #[.int .i64 ep, .int .i64 dg, .int .i64 x.kind, .int .i64 x.job, .int .i64 x.every, .int .i64 x.time, .int .i64 x.client, .int .i64 at_, .int .i64 ln, .int .i64 pl, .slice A n c, .slice A' m d], .agg #[.int .i64 y.kind, .int .i64 y.job, .int .i64 y.every, .int .i64 y.time, .int .i64 y.client]] w (ClPost w (playCl ⟨ep, dg, x, at_, ln, pl, b⟩ y).1 (playCl ⟨ep, dg, x, at_, ln, pl, b⟩ y).2) := by
  obtain ⟨q, hq⟩ : ∃ q, q = checkCl ⟨ep, dg, x, at_, ln, pl, b⟩ := ⟨_, rfl⟩
  obtain ⟨ap, hap⟩ : ∃ ap, ap = applyB b y := ⟨_, rfl⟩
  obtain ⟨r, hr⟩ : ∃ r, r = playCl ⟨ep, dg, x, at_, ln, pl, b⟩ y := ⟨_, rfl⟩
  rw [← hr]
  unfold playCl at hr
  rw [← hq] at hr
  dsimp only at hr
  rw [← hap] at hr
  have HQ := Lib.hid hq; have HR0 := Lib.hid hr; have HAP := Lib.hid hap
  clear hq hr hap
  go_enter Try.func36, Try.ntmps36
  go_wp2_with fail
  refine Calls.mono (ClCheck_calls ep dg at_ ln pl x A A' n c m d b _ (((h.new _).new _).new _) (((h'.new _).new _).new _)) ?_
  rw [← HQ.out]
  rintro e w1 ⟨rfl, hb1⟩
  have q0a : w1.cell? ⟨w.heap.size, 0, none⟩ = some (.int .i64 ep) := cellB hb1 (by simp [go_sem])
  have fq0a : w1.frozen? ⟨w.heap.size, 0, none⟩ = false := frozB hb1 (v := .int .i64 ep) (by simp [go_sem]) (by simp [go_sem])
  have q1a : w1.cell? ⟨w.heap.size, 1, none⟩ = some (.int .i64 dg) := cellB hb1 (by simp [go_sem])
  have fq1a : w1.frozen? ⟨w.heap.size, 1, none⟩ = false := frozB hb1 (v := .int .i64 dg) (by simp [go_sem]) (by simp [go_sem])
  have q2a : w1.cell? ⟨w.heap.size, 2, none⟩ = some (.int .i64 x.kind) := cellB hb1 (by simp [go_sem])
  have fq2a : w1.frozen? ⟨w.heap.size, 2, none⟩ = false := frozB hb1 (v := .int .i64 x.kind) (by simp [go_sem]) (by simp [go_sem])
  have q3a : w1.cell? ⟨w.heap.size, 3, none⟩ = some (.int .i64 x.job) := cellB hb1 (by simp [go_sem])
  have fq3a : w1.frozen? ⟨w.heap.size, 3, none⟩ = false := frozB hb1 (v := .int .i64 x.job) (by simp [go_sem]) (by simp [go_sem])
  have q4a : w1.cell? ⟨w.heap.size, 4, none⟩ = some (.int .i64 x.every) := cellB hb1 (by simp [go_sem])
  have fq4a : w1.frozen? ⟨w.heap.size, 4, none⟩ = false := frozB hb1 (v := .int .i64 x.every) (by simp [go_sem]) (by simp [go_sem])
  have q5a : w1.cell? ⟨w.heap.size, 5, none⟩ = some (.int .i64 x.time) := cellB hb1 (by simp [go_sem])
  have fq5a : w1.frozen? ⟨w.heap.size, 5, none⟩ = false := frozB hb1 (v := .int .i64 x.time) (by simp [go_sem]) (by simp [go_sem])
  have q6a : w1.cell? ⟨w.heap.size, 6, none⟩ = some (.int .i64 x.client) := cellB hb1 (by simp [go_sem])
  have fq6a : w1.frozen? ⟨w.heap.size, 6, none⟩ = false := frozB hb1 (v := .int .i64 x.client) (by simp [go_sem]) (by simp [go_sem])
  have q7a : w1.cell? ⟨w.heap.size, 7, none⟩ = some (.int .i64 at_) := cellB hb1 (by simp [go_sem])
  have fq7a : w1.frozen? ⟨w.heap.size, 7, none⟩ = false := frozB hb1 (v := .int .i64 at_) (by simp [go_sem]) (by simp [go_sem])
  have q8a : w1.cell? ⟨w.heap.size, 8, none⟩ = some (.int .i64 ln) := cellB hb1 (by simp [go_sem])
  have fq8a : w1.frozen? ⟨w.heap.size, 8, none⟩ = false := frozB hb1 (v := .int .i64 ln) (by simp [go_sem]) (by simp [go_sem])
  have q9a : w1.cell? ⟨w.heap.size, 9, none⟩ = some (.int .i64 pl) := cellB hb1 (by simp [go_sem])
  have fq9a : w1.frozen? ⟨w.heap.size, 9, none⟩ = false := frozB hb1 (v := .int .i64 pl) (by simp [go_sem]) (by simp [go_sem])
  have q10a : w1.cell? ⟨w.heap.size, 10, none⟩ = some (.slice A n c) := cellB hb1 (by simp [go_sem])
  have fq10a : w1.frozen? ⟨w.heap.size, 10, none⟩ = false := frozB hb1 (v := .slice A n c) (by simp [go_sem]) (by simp [go_sem])
  have q11a : w1.cell? ⟨w.heap.size, 11, none⟩ = some (.slice A' m d) := cellB hb1 (by simp [go_sem])
  have fq11a : w1.frozen? ⟨w.heap.size, 11, none⟩ = false := frozB hb1 (v := .slice A' m d) (by simp [go_sem]) (by simp [go_sem])
  have p0a : w1.cell? ⟨w.heap.size + 1 + 1, 0, none⟩ = some (.int .i64 0) := cellB hb1 (by simp [go_sem])
  have fp0a : w1.frozen? ⟨w.heap.size + 1 + 1, 0, none⟩ = false := frozB hb1 (v := .int .i64 0) (by simp [go_sem]) (by simp [go_sem])
  have p1a : w1.cell? ⟨w.heap.size + 1 + 1, 1, none⟩ = some (.int .i64 0) := cellB hb1 (by simp [go_sem])
  have fp1a : w1.frozen? ⟨w.heap.size + 1 + 1, 1, none⟩ = false := frozB hb1 (v := .int .i64 0) (by simp [go_sem]) (by simp [go_sem])
  have p2a : w1.cell? ⟨w.heap.size + 1 + 1, 2, none⟩ = some (.int .i64 0) := cellB hb1 (by simp [go_sem])
  have fp2a : w1.frozen? ⟨w.heap.size + 1 + 1, 2, none⟩ = false := frozB hb1 (v := .int .i64 0) (by simp [go_sem]) (by simp [go_sem])
  have p3a : w1.cell? ⟨w.heap.size + 1 + 1, 3, none⟩ = some (.int .i64 0) := cellB hb1 (by simp [go_sem])
  have fp3a : w1.frozen? ⟨w.heap.size + 1 + 1, 3, none⟩ = false := frozB hb1 (v := .int .i64 0) (by simp [go_sem]) (by simp [go_sem])
  have p4a : w1.cell? ⟨w.heap.size + 1 + 1, 4, none⟩ = some (.int .i64 0) := cellB hb1 (by simp [go_sem])
  have fp4a : w1.frozen? ⟨w.heap.size + 1 + 1, 4, none⟩ = false := frozB hb1 (v := .int .i64 0) (by simp [go_sem]) (by simp [go_sem])
  have p5a : w1.cell? ⟨w.heap.size + 1 + 1, 5, none⟩ = some (.int .i64 0) := cellB hb1 (by simp [go_sem])
  have fp5a : w1.frozen? ⟨w.heap.size + 1 + 1, 5, none⟩ = false := frozB hb1 (v := .int .i64 0) (by simp [go_sem]) (by simp [go_sem])
  have p6a : w1.cell? ⟨w.heap.size + 1 + 1, 6, none⟩ = some (.int .i64 0) := cellB hb1 (by simp [go_sem])
  have fp6a : w1.frozen? ⟨w.heap.size + 1 + 1, 6, none⟩ = false := frozB hb1 (v := .int .i64 0) (by simp [go_sem]) (by simp [go_sem])
  have p7a : w1.cell? ⟨w.heap.size + 1 + 1, 7, none⟩ = some (.int .i64 0) := cellB hb1 (by simp [go_sem])
  have fp7a : w1.frozen? ⟨w.heap.size + 1 + 1, 7, none⟩ = false := frozB hb1 (v := .int .i64 0) (by simp [go_sem]) (by simp [go_sem])
  have p8a : w1.cell? ⟨w.heap.size + 1 + 1, 8, none⟩ = some (.int .i64 0) := cellB hb1 (by simp [go_sem])
  have fp8a : w1.frozen? ⟨w.heap.size + 1 + 1, 8, none⟩ = false := frozB hb1 (v := .int .i64 0) (by simp [go_sem]) (by simp [go_sem])
  have p9a : w1.cell? ⟨w.heap.size + 1 + 1, 9, none⟩ = some (.int .i64 0) := cellB hb1 (by simp [go_sem])
  have fp9a : w1.frozen? ⟨w.heap.size + 1 + 1, 9, none⟩ = false := frozB hb1 (v := .int .i64 0) (by simp [go_sem]) (by simp [go_sem])
  have p10a : w1.cell? ⟨w.heap.size + 1 + 1, 10, none⟩ = some (.slice none 0 0) := cellB hb1 (by simp [go_sem])
  have fp10a : w1.frozen? ⟨w.heap.size + 1 + 1, 10, none⟩ = false := frozB hb1 (v := .slice none 0 0) (by simp [go_sem]) (by simp [go_sem])
  have p11a : w1.cell? ⟨w.heap.size + 1 + 1, 11, none⟩ = some (.slice none 0 0) := cellB hb1 (by simp [go_sem])
  have fp11a : w1.frozen? ⟨w.heap.size + 1 + 1, 11, none⟩ = false := frozB hb1 (v := .slice none 0 0) (by simp [go_sem]) (by simp [go_sem])
  have e0a : w1.cell? ⟨w.heap.size + 1, 0, none⟩ = some (.int .i64 y.kind) := cellB hb1 (by simp [go_sem])
  have e1a : w1.cell? ⟨w.heap.size + 1, 1, none⟩ = some (.int .i64 y.job) := cellB hb1 (by simp [go_sem])
  have e2a : w1.cell? ⟨w.heap.size + 1, 2, none⟩ = some (.int .i64 y.every) := cellB hb1 (by simp [go_sem])
  have e3a : w1.cell? ⟨w.heap.size + 1, 3, none⟩ = some (.int .i64 y.time) := cellB hb1 (by simp [go_sem])
  have e4a : w1.cell? ⟨w.heap.size + 1, 4, none⟩ = some (.int .i64 y.client) := cellB hb1 (by simp [go_sem])
  have h01 : Onto w w1 := ((((Below.refl _ _).alloc (Nat.le_refl _) _).alloc (by simp) _).alloc (by simp; omega) _).trans (hb1.mono (by simp; omega))
  have g1 := h.onto h01; have g1' := h'.onto h01
  have hz1 : w.heap.size + 1 + 1 < w1.heap.size := World.block_lt_of_cell? _ _ p0a
  clear hb1 h h'
  have hr := HR0.out
  by_cases h0 : q = 0
  · rw [if_neg (by simp [h0])] at hr
    have hpl := checkCl_played (HQ.out.symm.trans h0)
    dsimp only at hpl
    obtain ⟨hp0, hp1⟩ := hpl
    subst h0
    clear HR0
    by_cases hc : pl = 60
    · rw [if_pos hc] at hr
      have HR := Lib.hid hr
      have hd : (pl == 60) = true := by simpa using hc
      clear hr g1 g1' hc
      go_wp2_with fail
      rw [show ((((((((((((w1.setCell ⟨w.heap.size + 1 + 1, 0, none⟩ (.int .i64 0)).setCell ⟨w.heap.size + 1 + 1, 1, none⟩ (.int .i64 0)).setCell ⟨w.heap.size + 1 + 1, 2, none⟩ (.int .i64 0)).setCell ⟨w.heap.size + 1 + 1, 3, none⟩ (.int .i64 0)).setCell ⟨w.heap.size + 1 + 1, 4, none⟩ (.int .i64 0)).setCell ⟨w.heap.size + 1 + 1, 5, none⟩ (.int .i64 0)).setCell ⟨w.heap.size + 1 + 1, 6, none⟩ (.int .i64 0)).setCell ⟨w.heap.size + 1 + 1, 7, none⟩ (.int .i64 0)).setCell ⟨w.heap.size + 1 + 1, 8, none⟩ (.int .i64 0)).setCell ⟨w.heap.size + 1 + 1, 9, none⟩ (.int .i64 0)).setCell ⟨w.heap.size + 1 + 1, 10, none⟩ (.slice none 0 0)).setCell ⟨w.heap.size + 1 + 1, 11, none⟩ (.slice none 0 0)) = (w1.setCells (w.heap.size + 1 + 1) 0 [.int .i64 0, .int .i64 0, .int .i64 0, .int .i64 0, .int .i64 0, .int .i64 0, .int .i64 0, .int .i64 0, .int .i64 0, .int .i64 0, .slice none 0 0, .slice none 0 0]) from rfl]
      have hE : Onto w (w1.setCells (w.heap.size + 1 + 1) 0 [.int .i64 0, .int .i64 0, .int .i64 0, .int .i64 0, .int .i64 0, .int .i64 0, .int .i64 0, .int .i64 0, .int .i64 0, .int .i64 0, .slice none 0 0, .slice none 0 0]) := put_onto (by omega) h01
      have F : ∀ (j : Nat) vv, ([.int .i64 0, .int .i64 0, .int .i64 0, .int .i64 0, .int .i64 0, .int .i64 0, .int .i64 0, .int .i64 0, .int .i64 0, .int .i64 0, .slice none 0 0, .slice none 0 0] : List Value)[j]? = some vv → (w1.setCells (w.heap.size + 1 + 1) 0 [.int .i64 0, .int .i64 0, .int .i64 0, .int .i64 0, .int .i64 0, .int .i64 0, .int .i64 0, .int .i64 0, .int .i64 0, .int .i64 0, .slice none 0 0, .slice none 0 0]).cell? ⟨w.heap.size + 1 + 1, j, none⟩ = some vv := fun j vv hv => put_in (w := w1) (b := w.heap.size + 1 + 1) (vs := [.int .i64 0, .int .i64 0, .int .i64 0, .int .i64 0, .int .i64 0, .int .i64 0, .int .i64 0, .int .i64 0, .int .i64 0, .int .i64 0, .slice none 0 0, .slice none 0 0]) (there12 p0a p1a p2a p3a p4a p5a p6a p7a p8a p9a p10a p11a) hv
      generalize (w1.setCells (w.heap.size + 1 + 1) 0 [.int .i64 0, .int .i64 0, .int .i64 0, .int .i64 0, .int .i64 0, .int .i64 0, .int .i64 0, .int .i64 0, .int .i64 0, .int .i64 0, .slice none 0 0, .slice none 0 0]) = wf at F hE ⊢
      have z0 := F 0 _ rfl
      have z1 := F 1 _ rfl
      have z2 := F 2 _ rfl
      have z3 := F 3 _ rfl
      have z4 := F 4 _ rfl
      have z5 := F 5 _ rfl
      have z6 := F 6 _ rfl
      have z7 := F 7 _ rfl
      have z8 := F 8 _ rfl
      have z9 := F 9 _ rfl
      have z10 := F 10 _ rfl
      have z11 := F 11 _ rfl
      refine bodyPost_ret (v := .tuple #[.agg #[.int .i64 0, .int .i64 0, .int .i64 0, .int .i64 0, .int .i64 0, .int .i64 0, .int .i64 0, .int .i64 0, .int .i64 0, .int .i64 0, .slice none 0 0, .slice none 0 0], .int .i64 2]) (by simp [results, Try.results36, go_sem, z0, z1, z2, z3, z4, z5, z6, z7, z8, z9, z10, z11]) rfl ?_
      rw [HR.out]
      exact ⟨none, 0, 0, none, 0, 0, rfl, Sl.nil, Sl.nil, hE, Nat.le_refl _, Nat.le_refl _, Fresh.none_ _, Fresh.none_ _⟩
    · rw [if_neg hc] at hr
      have hd : (pl == 60) = false := by simpa using hc
      have hwp : IntKind.i64.wrap (pl + 1) = pl + 1 := by rw [IntKind.wrap_i64]; omega
      have HR1 := Lib.hid hr
      clear hc hr
      go_wp2_with fail
      refine Calls.mono (Apply_calls A A' n c m d _ b y.kind y.job y.every y.time y.client _ g1 g1' (Nat.le_refl _)) ?_
      rw [show applyB b ⟨y.kind, y.job, y.every, y.time, y.client⟩ = ap from HAP.out.symm]
      rintro e w2 ⟨A1, n1, c1, A2, n2, c2, rfl, s1, s2, hb2, fr1, fr2, hc1, hc2⟩
      have q0b := cellB hb2 q0a; have fq0b := frozB hb2 q0a fq0a; have q1b := cellB hb2 q1a; have fq1b := frozB hb2 q1a fq1a; have q2b := cellB hb2 q2a; have fq2b := frozB hb2 q2a fq2a; have q3b := cellB hb2 q3a; have fq3b := frozB hb2 q3a fq3a; have q4b := cellB hb2 q4a; have fq4b := frozB hb2 q4a fq4a; have q5b := cellB hb2 q5a; have fq5b := frozB hb2 q5a fq5a; have q6b := cellB hb2 q6a; have fq6b := frozB hb2 q6a fq6a; have q7b := cellB hb2 q7a; have fq7b := frozB hb2 q7a fq7a; have q8b := cellB hb2 q8a; have fq8b := frozB hb2 q8a fq8a; have q9b := cellB hb2 q9a; have fq9b := frozB hb2 q9a fq9a; have q10b := cellB hb2 q10a; have fq10b := frozB hb2 q10a fq10a; have q11b := cellB hb2 q11a; have fq11b := frozB hb2 q11a fq11a; have p0b := cellB hb2 p0a; have fp0b := frozB hb2 p0a fp0a; have p1b := cellB hb2 p1a; have fp1b := frozB hb2 p1a fp1a; have p2b := cellB hb2 p2a; have fp2b := frozB hb2 p2a fp2a; have p3b := cellB hb2 p3a; have fp3b := frozB hb2 p3a fp3a; have p4b := cellB hb2 p4a; have fp4b := frozB hb2 p4a fp4a; have p5b := cellB hb2 p5a; have fp5b := frozB hb2 p5a fp5a; have p6b := cellB hb2 p6a; have fp6b := frozB hb2 p6a fp6a; have p7b := cellB hb2 p7a; have fp7b := frozB hb2 p7a fp7a; have p8b := cellB hb2 p8a; have fp8b := frozB hb2 p8a fp8a; have p9b := cellB hb2 p9a; have fp9b := frozB hb2 p9a fp9a; have p10b := cellB hb2 p10a; have fp10b := frozB hb2 p10a fp10a; have p11b := cellB hb2 p11a; have fp11b := frozB hb2 p11a fp11a
      clear q0a fq0a q1a fq1a q2a fq2a q3a fq3a q4a fq4a q5a fq5a q6a fq6a q7a fq7a q8a fq8a q9a fq9a q10a fq10a q11a fq11a p0a fp0a p1a fp1a p2a fp2a p3a fp3a p4a fp4a p5a fp5a p6a fp6a p7a fp7a p8a fp8a p9a fp9a p10a fp10a p11a fp11a
      have h02 := Onto.to h01 hb2
      have hz2 : w.heap.size + 1 + 1 < w2.heap.size := World.block_lt_of_cell? _ _ p0b
      have o1 : OffN n1 w.heap.size A1 := fr1.offN (by omega)
      have o2 : OffN n2 w.heap.size A2 := fr2.offN (by omega)
      have o1' : OffN n1 (w.heap.size + 1 + 1) A1 := fr1.offN (by omega)
      have o2' : OffN n2 (w.heap.size + 1 + 1) A2 := fr2.offN (by omega)
      have fA : Fresh w.heap.size A1 := fun a e => by have := fr1 a e; omega
      have fB : Fresh w.heap.size A2 := fun a e => by have := fr2 a e; omega
      clear hb2 h01 g1 g1' hz1 fr1 fr2 e0a e1a e2a e3a e4a
      go_upto_region 7 with fail
      have hb3 : Onto w2 (w2.alloc (Obj.cells #[.slice A1 n1 c1, .slice A2 n2 c2] 54)) := (Below.refl _ _).alloc (Nat.le_refl _) _
      have t0 : (w2.alloc (Obj.cells #[.slice A1 n1 c1, .slice A2 n2 c2] 54)).cell? ⟨w2.heap.size, 0, none⟩ = some (.slice A1 n1 c1) := by simp [go_sem]
      have t1 : (w2.alloc (Obj.cells #[.slice A1 n1 c1, .slice A2 n2 c2] 54)).cell? ⟨w2.heap.size, 1, none⟩ = some (.slice A2 n2 c2) := by simp [go_sem]
      have q0c := cellB hb3 q0b; have fq0c := frozB hb3 q0b fq0b; have q1c := cellB hb3 q1b; have fq1c := frozB hb3 q1b fq1b; have q2c := cellB hb3 q2b; have fq2c := frozB hb3 q2b fq2b; have q3c := cellB hb3 q3b; have fq3c := frozB hb3 q3b fq3b; have q4c := cellB hb3 q4b; have fq4c := frozB hb3 q4b fq4b; have q5c := cellB hb3 q5b; have fq5c := frozB hb3 q5b fq5b; have q6c := cellB hb3 q6b; have fq6c := frozB hb3 q6b fq6b; have q7c := cellB hb3 q7b; have fq7c := frozB hb3 q7b fq7b; have q8c := cellB hb3 q8b; have fq8c := frozB hb3 q8b fq8b; have q9c := cellB hb3 q9b; have fq9c := frozB hb3 q9b fq9b; have q10c := cellB hb3 q10b; have fq10c := frozB hb3 q10b fq10b; have q11c := cellB hb3 q11b; have fq11c := frozB hb3 q11b fq11b; have p0c := cellB hb3 p0b; have fp0c := frozB hb3 p0b fp0b; have p1c := cellB hb3 p1b; have fp1c := frozB hb3 p1b fp1b; have p2c := cellB hb3 p2b; have fp2c := frozB hb3 p2b fp2b; have p3c := cellB hb3 p3b; have fp3c := frozB hb3 p3b fp3b; have p4c := cellB hb3 p4b; have fp4c := frozB hb3 p4b fp4b; have p5c := cellB hb3 p5b; have fp5c := frozB hb3 p5b fp5b; have p6c := cellB hb3 p6b; have fp6c := frozB hb3 p6b fp6b; have p7c := cellB hb3 p7b; have fp7c := frozB hb3 p7b fp7b; have p8c := cellB hb3 p8b; have fp8c := frozB hb3 p8b fp8b; have p9c := cellB hb3 p9b; have fp9c := frozB hb3 p9b fp9b; have p10c := cellB hb3 p10b; have fp10c := frozB hb3 p10b fp10b; have p11c := cellB hb3 p11b; have fp11c := frozB hb3 p11b fp11b
      clear q0b fq0b q1b fq1b q2b fq2b q3b fq3b q4b fq4b q5b fq5b q6b fq6b q7b fq7b q8b fq8b q9b fq9b q10b fq10b q11b fq11b p0b fp0b p1b fp1b p2b fp2b p3b fp3b p4b fp4b p5b fp5b p6b fp6b p7b fp7b p8b fp8b p9b fp9b p10b fp10b p11b fp11b
      have h03 := Onto.to h02 hb3
      have s3 := S.onto s1 hb3; have s3' := S.onto s2 hb3
      have hzt : w2.heap.size < (w2.alloc (Obj.cells #[.slice A1 n1 c1, .slice A2 n2 c2] 54)).heap.size := by simp
      clear hb3 h02 s1 s2
      change Code.wp _ _ _ _ (w2.alloc (Obj.cells #[.slice A1 n1 c1, .slice A2 n2 c2] 54))
      generalize (w2.alloc (Obj.cells #[.slice A1 n1 c1, .slice A2 n2 c2] 54)) = w3 at *
      have hz3 : w.heap.size + 1 + 1 < w3.heap.size := World.block_lt_of_cell? _ _ p0c
      have hr := HR1.out
      by_cases ha : ap.2 ≠ 0
      · rw [if_pos ha] at hr
        have HR := Lib.hid hr
        have hd2 : (ap.2 != 0) = true := by simpa using ha
        clear hr ha s3 s3'
        go_wp2_with fail
        rw [show ((((((((((((w3.setCell ⟨w.heap.size + 1 + 1, 0, none⟩ (.int .i64 0)).setCell ⟨w.heap.size + 1 + 1, 1, none⟩ (.int .i64 0)).setCell ⟨w.heap.size + 1 + 1, 2, none⟩ (.int .i64 0)).setCell ⟨w.heap.size + 1 + 1, 3, none⟩ (.int .i64 0)).setCell ⟨w.heap.size + 1 + 1, 4, none⟩ (.int .i64 0)).setCell ⟨w.heap.size + 1 + 1, 5, none⟩ (.int .i64 0)).setCell ⟨w.heap.size + 1 + 1, 6, none⟩ (.int .i64 0)).setCell ⟨w.heap.size + 1 + 1, 7, none⟩ (.int .i64 0)).setCell ⟨w.heap.size + 1 + 1, 8, none⟩ (.int .i64 0)).setCell ⟨w.heap.size + 1 + 1, 9, none⟩ (.int .i64 0)).setCell ⟨w.heap.size + 1 + 1, 10, none⟩ (.slice none 0 0)).setCell ⟨w.heap.size + 1 + 1, 11, none⟩ (.slice none 0 0)) = (w3.setCells (w.heap.size + 1 + 1) 0 [.int .i64 0, .int .i64 0, .int .i64 0, .int .i64 0, .int .i64 0, .int .i64 0, .int .i64 0, .int .i64 0, .int .i64 0, .int .i64 0, .slice none 0 0, .slice none 0 0]) from rfl]
        have hE : Onto w (w3.setCells (w.heap.size + 1 + 1) 0 [.int .i64 0, .int .i64 0, .int .i64 0, .int .i64 0, .int .i64 0, .int .i64 0, .int .i64 0, .int .i64 0, .int .i64 0, .int .i64 0, .slice none 0 0, .slice none 0 0]) := put_onto (by omega) h03
        have F : ∀ (j : Nat) vv, ([.int .i64 0, .int .i64 0, .int .i64 0, .int .i64 0, .int .i64 0, .int .i64 0, .int .i64 0, .int .i64 0, .int .i64 0, .int .i64 0, .slice none 0 0, .slice none 0 0] : List Value)[j]? = some vv → (w3.setCells (w.heap.size + 1 + 1) 0 [.int .i64 0, .int .i64 0, .int .i64 0, .int .i64 0, .int .i64 0, .int .i64 0, .int .i64 0, .int .i64 0, .int .i64 0, .int .i64 0, .slice none 0 0, .slice none 0 0]).cell? ⟨w.heap.size + 1 + 1, j, none⟩ = some vv := fun j vv hv => put_in (w := w3) (b := w.heap.size + 1 + 1) (vs := [.int .i64 0, .int .i64 0, .int .i64 0, .int .i64 0, .int .i64 0, .int .i64 0, .int .i64 0, .int .i64 0, .int .i64 0, .int .i64 0, .slice none 0 0, .slice none 0 0]) (there12 p0c p1c p2c p3c p4c p5c p6c p7c p8c p9c p10c p11c) hv
        generalize (w3.setCells (w.heap.size + 1 + 1) 0 [.int .i64 0, .int .i64 0, .int .i64 0, .int .i64 0, .int .i64 0, .int .i64 0, .int .i64 0, .int .i64 0, .int .i64 0, .int .i64 0, .slice none 0 0, .slice none 0 0]) = wf at F hE ⊢
        have z0 := F 0 _ rfl
        have z1 := F 1 _ rfl
        have z2 := F 2 _ rfl
        have z3 := F 3 _ rfl
        have z4 := F 4 _ rfl
        have z5 := F 5 _ rfl
        have z6 := F 6 _ rfl
        have z7 := F 7 _ rfl
        have z8 := F 8 _ rfl
        have z9 := F 9 _ rfl
        have z10 := F 10 _ rfl
        have z11 := F 11 _ rfl
        refine bodyPost_ret (v := .tuple #[.agg #[.int .i64 0, .int .i64 0, .int .i64 0, .int .i64 0, .int .i64 0, .int .i64 0, .int .i64 0, .int .i64 0, .int .i64 0, .int .i64 0, .slice none 0 0, .slice none 0 0], .int .i64 ap.2]) (by simp [results, Try.results36, go_sem, z0, z1, z2, z3, z4, z5, z6, z7, z8, z9, z10, z11]) rfl ?_
        rw [HR.out]
        exact ⟨none, 0, 0, none, 0, 0, rfl, Sl.nil, Sl.nil, hE, Nat.le_refl _, Nat.le_refl _, Fresh.none_ _, Fresh.none_ _⟩
      · rw [if_neg ha] at hr
        have HR := Lib.hid hr
        have hd2 : (ap.2 != 0) = false := by simpa using ha
        clear hr ha
        go_upto_region 11 with fail
        have h04 : Onto w (((w3.setCell ⟨w.heap.size, 10, none⟩ (.slice A1 n1 c1)).setCell ⟨w.heap.size, 11, none⟩ (.slice A2 n2 c2)).setCell ⟨w.heap.size, 9, none⟩ (.int .i64 (pl + 1))) := (((h03.put (by simp) _).put (by simp) _).put (by simp) _)
        have t1' := (S.off (S.off (S.off s3 (p := ⟨w.heap.size, 10, none⟩) o1 (.slice A1 n1 c1)) (p := ⟨w.heap.size, 11, none⟩) o1 (.slice A2 n2 c2)) (p := ⟨w.heap.size, 9, none⟩) o1 (.int .i64 (pl + 1)))
        have t2' := (S.off (S.off (S.off s3' (p := ⟨w.heap.size, 10, none⟩) o2 (.slice A1 n1 c1)) (p := ⟨w.heap.size, 11, none⟩) o2 (.slice A2 n2 c2)) (p := ⟨w.heap.size, 9, none⟩) o2 (.int .i64 (pl + 1)))
        have q0d : (((w3.setCell ⟨w.heap.size, 10, none⟩ (.slice A1 n1 c1)).setCell ⟨w.heap.size, 11, none⟩ (.slice A2 n2 c2)).setCell ⟨w.heap.size, 9, none⟩ (.int .i64 (pl + 1))).cell? ⟨w.heap.size, 0, none⟩ = some (.int .i64 ep) := by simp [go_sem, q0c, q9c, q10c, q11c]
        have q1d : (((w3.setCell ⟨w.heap.size, 10, none⟩ (.slice A1 n1 c1)).setCell ⟨w.heap.size, 11, none⟩ (.slice A2 n2 c2)).setCell ⟨w.heap.size, 9, none⟩ (.int .i64 (pl + 1))).cell? ⟨w.heap.size, 1, none⟩ = some (.int .i64 dg) := by simp [go_sem, q1c, q9c, q10c, q11c]
        have q2d : (((w3.setCell ⟨w.heap.size, 10, none⟩ (.slice A1 n1 c1)).setCell ⟨w.heap.size, 11, none⟩ (.slice A2 n2 c2)).setCell ⟨w.heap.size, 9, none⟩ (.int .i64 (pl + 1))).cell? ⟨w.heap.size, 2, none⟩ = some (.int .i64 x.kind) := by simp [go_sem, q2c, q9c, q10c, q11c]
        have q3d : (((w3.setCell ⟨w.heap.size, 10, none⟩ (.slice A1 n1 c1)).setCell ⟨w.heap.size, 11, none⟩ (.slice A2 n2 c2)).setCell ⟨w.heap.size, 9, none⟩ (.int .i64 (pl + 1))).cell? ⟨w.heap.size, 3, none⟩ = some (.int .i64 x.job) := by simp [go_sem, q3c, q9c, q10c, q11c]
        have q4d : (((w3.setCell ⟨w.heap.size, 10, none⟩ (.slice A1 n1 c1)).setCell ⟨w.heap.size, 11, none⟩ (.slice A2 n2 c2)).setCell ⟨w.heap.size, 9, none⟩ (.int .i64 (pl + 1))).cell? ⟨w.heap.size, 4, none⟩ = some (.int .i64 x.every) := by simp [go_sem, q4c, q9c, q10c, q11c]
        have q5d : (((w3.setCell ⟨w.heap.size, 10, none⟩ (.slice A1 n1 c1)).setCell ⟨w.heap.size, 11, none⟩ (.slice A2 n2 c2)).setCell ⟨w.heap.size, 9, none⟩ (.int .i64 (pl + 1))).cell? ⟨w.heap.size, 5, none⟩ = some (.int .i64 x.time) := by simp [go_sem, q5c, q9c, q10c, q11c]
        have q6d : (((w3.setCell ⟨w.heap.size, 10, none⟩ (.slice A1 n1 c1)).setCell ⟨w.heap.size, 11, none⟩ (.slice A2 n2 c2)).setCell ⟨w.heap.size, 9, none⟩ (.int .i64 (pl + 1))).cell? ⟨w.heap.size, 6, none⟩ = some (.int .i64 x.client) := by simp [go_sem, q6c, q9c, q10c, q11c]
        have q7d : (((w3.setCell ⟨w.heap.size, 10, none⟩ (.slice A1 n1 c1)).setCell ⟨w.heap.size, 11, none⟩ (.slice A2 n2 c2)).setCell ⟨w.heap.size, 9, none⟩ (.int .i64 (pl + 1))).cell? ⟨w.heap.size, 7, none⟩ = some (.int .i64 at_) := by simp [go_sem, q7c, q9c, q10c, q11c]
        have q8d : (((w3.setCell ⟨w.heap.size, 10, none⟩ (.slice A1 n1 c1)).setCell ⟨w.heap.size, 11, none⟩ (.slice A2 n2 c2)).setCell ⟨w.heap.size, 9, none⟩ (.int .i64 (pl + 1))).cell? ⟨w.heap.size, 8, none⟩ = some (.int .i64 ln) := by simp [go_sem, q8c, q9c, q10c, q11c]
        have q9d : (((w3.setCell ⟨w.heap.size, 10, none⟩ (.slice A1 n1 c1)).setCell ⟨w.heap.size, 11, none⟩ (.slice A2 n2 c2)).setCell ⟨w.heap.size, 9, none⟩ (.int .i64 (pl + 1))).cell? ⟨w.heap.size, 9, none⟩ = some (.int .i64 (pl + 1)) := by simp [go_sem, q9c, q9c, q10c, q11c]
        have q10d : (((w3.setCell ⟨w.heap.size, 10, none⟩ (.slice A1 n1 c1)).setCell ⟨w.heap.size, 11, none⟩ (.slice A2 n2 c2)).setCell ⟨w.heap.size, 9, none⟩ (.int .i64 (pl + 1))).cell? ⟨w.heap.size, 10, none⟩ = some (.slice A1 n1 c1) := by simp [go_sem, q10c, q9c, q10c, q11c]
        have q11d : (((w3.setCell ⟨w.heap.size, 10, none⟩ (.slice A1 n1 c1)).setCell ⟨w.heap.size, 11, none⟩ (.slice A2 n2 c2)).setCell ⟨w.heap.size, 9, none⟩ (.int .i64 (pl + 1))).cell? ⟨w.heap.size, 11, none⟩ = some (.slice A2 n2 c2) := by simp [go_sem, q11c, q9c, q10c, q11c]
        have p0d : (((w3.setCell ⟨w.heap.size, 10, none⟩ (.slice A1 n1 c1)).setCell ⟨w.heap.size, 11, none⟩ (.slice A2 n2 c2)).setCell ⟨w.heap.size, 9, none⟩ (.int .i64 (pl + 1))).cell? ⟨w.heap.size + 1 + 1, 0, none⟩ = some (.int .i64 0) := by simp [go_sem, p0c]
        have fp0d : (((w3.setCell ⟨w.heap.size, 10, none⟩ (.slice A1 n1 c1)).setCell ⟨w.heap.size, 11, none⟩ (.slice A2 n2 c2)).setCell ⟨w.heap.size, 9, none⟩ (.int .i64 (pl + 1))).frozen? ⟨w.heap.size + 1 + 1, 0, none⟩ = false := by simp [fp0c]
        have p1d : (((w3.setCell ⟨w.heap.size, 10, none⟩ (.slice A1 n1 c1)).setCell ⟨w.heap.size, 11, none⟩ (.slice A2 n2 c2)).setCell ⟨w.heap.size, 9, none⟩ (.int .i64 (pl + 1))).cell? ⟨w.heap.size + 1 + 1, 1, none⟩ = some (.int .i64 0) := by simp [go_sem, p1c]
        have fp1d : (((w3.setCell ⟨w.heap.size, 10, none⟩ (.slice A1 n1 c1)).setCell ⟨w.heap.size, 11, none⟩ (.slice A2 n2 c2)).setCell ⟨w.heap.size, 9, none⟩ (.int .i64 (pl + 1))).frozen? ⟨w.heap.size + 1 + 1, 1, none⟩ = false := by simp [fp1c]
        have p2d : (((w3.setCell ⟨w.heap.size, 10, none⟩ (.slice A1 n1 c1)).setCell ⟨w.heap.size, 11, none⟩ (.slice A2 n2 c2)).setCell ⟨w.heap.size, 9, none⟩ (.int .i64 (pl + 1))).cell? ⟨w.heap.size + 1 + 1, 2, none⟩ = some (.int .i64 0) := by simp [go_sem, p2c]
        have fp2d : (((w3.setCell ⟨w.heap.size, 10, none⟩ (.slice A1 n1 c1)).setCell ⟨w.heap.size, 11, none⟩ (.slice A2 n2 c2)).setCell ⟨w.heap.size, 9, none⟩ (.int .i64 (pl + 1))).frozen? ⟨w.heap.size + 1 + 1, 2, none⟩ = false := by simp [fp2c]
        have p3d : (((w3.setCell ⟨w.heap.size, 10, none⟩ (.slice A1 n1 c1)).setCell ⟨w.heap.size, 11, none⟩ (.slice A2 n2 c2)).setCell ⟨w.heap.size, 9, none⟩ (.int .i64 (pl + 1))).cell? ⟨w.heap.size + 1 + 1, 3, none⟩ = some (.int .i64 0) := by simp [go_sem, p3c]
        have fp3d : (((w3.setCell ⟨w.heap.size, 10, none⟩ (.slice A1 n1 c1)).setCell ⟨w.heap.size, 11, none⟩ (.slice A2 n2 c2)).setCell ⟨w.heap.size, 9, none⟩ (.int .i64 (pl + 1))).frozen? ⟨w.heap.size + 1 + 1, 3, none⟩ = false := by simp [fp3c]
        have p4d : (((w3.setCell ⟨w.heap.size, 10, none⟩ (.slice A1 n1 c1)).setCell ⟨w.heap.size, 11, none⟩ (.slice A2 n2 c2)).setCell ⟨w.heap.size, 9, none⟩ (.int .i64 (pl + 1))).cell? ⟨w.heap.size + 1 + 1, 4, none⟩ = some (.int .i64 0) := by simp [go_sem, p4c]
        have fp4d : (((w3.setCell ⟨w.heap.size, 10, none⟩ (.slice A1 n1 c1)).setCell ⟨w.heap.size, 11, none⟩ (.slice A2 n2 c2)).setCell ⟨w.heap.size, 9, none⟩ (.int .i64 (pl + 1))).frozen? ⟨w.heap.size + 1 + 1, 4, none⟩ = false := by simp [fp4c]
        have p5d : (((w3.setCell ⟨w.heap.size, 10, none⟩ (.slice A1 n1 c1)).setCell ⟨w.heap.size, 11, none⟩ (.slice A2 n2 c2)).setCell ⟨w.heap.size, 9, none⟩ (.int .i64 (pl + 1))).cell? ⟨w.heap.size + 1 + 1, 5, none⟩ = some (.int .i64 0) := by simp [go_sem, p5c]
        have fp5d : (((w3.setCell ⟨w.heap.size, 10, none⟩ (.slice A1 n1 c1)).setCell ⟨w.heap.size, 11, none⟩ (.slice A2 n2 c2)).setCell ⟨w.heap.size, 9, none⟩ (.int .i64 (pl + 1))).frozen? ⟨w.heap.size + 1 + 1, 5, none⟩ = false := by simp [fp5c]
        have p6d : (((w3.setCell ⟨w.heap.size, 10, none⟩ (.slice A1 n1 c1)).setCell ⟨w.heap.size, 11, none⟩ (.slice A2 n2 c2)).setCell ⟨w.heap.size, 9, none⟩ (.int .i64 (pl + 1))).cell? ⟨w.heap.size + 1 + 1, 6, none⟩ = some (.int .i64 0) := by simp [go_sem, p6c]
        have fp6d : (((w3.setCell ⟨w.heap.size, 10, none⟩ (.slice A1 n1 c1)).setCell ⟨w.heap.size, 11, none⟩ (.slice A2 n2 c2)).setCell ⟨w.heap.size, 9, none⟩ (.int .i64 (pl + 1))).frozen? ⟨w.heap.size + 1 + 1, 6, none⟩ = false := by simp [fp6c]
        have p7d : (((w3.setCell ⟨w.heap.size, 10, none⟩ (.slice A1 n1 c1)).setCell ⟨w.heap.size, 11, none⟩ (.slice A2 n2 c2)).setCell ⟨w.heap.size, 9, none⟩ (.int .i64 (pl + 1))).cell? ⟨w.heap.size + 1 + 1, 7, none⟩ = some (.int .i64 0) := by simp [go_sem, p7c]
        have fp7d : (((w3.setCell ⟨w.heap.size, 10, none⟩ (.slice A1 n1 c1)).setCell ⟨w.heap.size, 11, none⟩ (.slice A2 n2 c2)).setCell ⟨w.heap.size, 9, none⟩ (.int .i64 (pl + 1))).frozen? ⟨w.heap.size + 1 + 1, 7, none⟩ = false := by simp [fp7c]
        have p8d : (((w3.setCell ⟨w.heap.size, 10, none⟩ (.slice A1 n1 c1)).setCell ⟨w.heap.size, 11, none⟩ (.slice A2 n2 c2)).setCell ⟨w.heap.size, 9, none⟩ (.int .i64 (pl + 1))).cell? ⟨w.heap.size + 1 + 1, 8, none⟩ = some (.int .i64 0) := by simp [go_sem, p8c]
        have fp8d : (((w3.setCell ⟨w.heap.size, 10, none⟩ (.slice A1 n1 c1)).setCell ⟨w.heap.size, 11, none⟩ (.slice A2 n2 c2)).setCell ⟨w.heap.size, 9, none⟩ (.int .i64 (pl + 1))).frozen? ⟨w.heap.size + 1 + 1, 8, none⟩ = false := by simp [fp8c]
        have p9d : (((w3.setCell ⟨w.heap.size, 10, none⟩ (.slice A1 n1 c1)).setCell ⟨w.heap.size, 11, none⟩ (.slice A2 n2 c2)).setCell ⟨w.heap.size, 9, none⟩ (.int .i64 (pl + 1))).cell? ⟨w.heap.size + 1 + 1, 9, none⟩ = some (.int .i64 0) := by simp [go_sem, p9c]
        have fp9d : (((w3.setCell ⟨w.heap.size, 10, none⟩ (.slice A1 n1 c1)).setCell ⟨w.heap.size, 11, none⟩ (.slice A2 n2 c2)).setCell ⟨w.heap.size, 9, none⟩ (.int .i64 (pl + 1))).frozen? ⟨w.heap.size + 1 + 1, 9, none⟩ = false := by simp [fp9c]
        have p10d : (((w3.setCell ⟨w.heap.size, 10, none⟩ (.slice A1 n1 c1)).setCell ⟨w.heap.size, 11, none⟩ (.slice A2 n2 c2)).setCell ⟨w.heap.size, 9, none⟩ (.int .i64 (pl + 1))).cell? ⟨w.heap.size + 1 + 1, 10, none⟩ = some (.slice none 0 0) := by simp [go_sem, p10c]
        have fp10d : (((w3.setCell ⟨w.heap.size, 10, none⟩ (.slice A1 n1 c1)).setCell ⟨w.heap.size, 11, none⟩ (.slice A2 n2 c2)).setCell ⟨w.heap.size, 9, none⟩ (.int .i64 (pl + 1))).frozen? ⟨w.heap.size + 1 + 1, 10, none⟩ = false := by simp [fp10c]
        have p11d : (((w3.setCell ⟨w.heap.size, 10, none⟩ (.slice A1 n1 c1)).setCell ⟨w.heap.size, 11, none⟩ (.slice A2 n2 c2)).setCell ⟨w.heap.size, 9, none⟩ (.int .i64 (pl + 1))).cell? ⟨w.heap.size + 1 + 1, 11, none⟩ = some (.slice none 0 0) := by simp [go_sem, p11c]
        have fp11d : (((w3.setCell ⟨w.heap.size, 10, none⟩ (.slice A1 n1 c1)).setCell ⟨w.heap.size, 11, none⟩ (.slice A2 n2 c2)).setCell ⟨w.heap.size, 9, none⟩ (.int .i64 (pl + 1))).frozen? ⟨w.heap.size + 1 + 1, 11, none⟩ = false := by simp [fp11c]
        clear h03 s3 s3' t0 t1 hz3 q0c fq0c q1c fq1c q2c fq2c q3c fq3c q4c fq4c q5c fq5c q6c fq6c q7c fq7c q8c fq8c q9c fq9c q10c fq10c q11c fq11c p0c fp0c p1c fp1c p2c fp2c p3c fp3c p4c fp4c p5c fp5c p6c fp6c p7c fp7c p8c fp8c p9c fp9c p10c fp10c p11c fp11c
        have t1 := t1'
        have t2 := t2'
        clear t1' t2'
        change Code.wp _ _ _ _ (((w3.setCell ⟨w.heap.size, 10, none⟩ (.slice A1 n1 c1)).setCell ⟨w.heap.size, 11, none⟩ (.slice A2 n2 c2)).setCell ⟨w.heap.size, 9, none⟩ (.int .i64 (pl + 1)))
        generalize (((w3.setCell ⟨w.heap.size, 10, none⟩ (.slice A1 n1 c1)).setCell ⟨w.heap.size, 11, none⟩ (.slice A2 n2 c2)).setCell ⟨w.heap.size, 9, none⟩ (.int .i64 (pl + 1))) = w4 at *
        have hz4 : w.heap.size + 1 + 1 < w4.heap.size := World.block_lt_of_cell? _ _ p0d
        go_wp2_with fail
        rw [show ((((((((((((w4.setCell ⟨w.heap.size + 1 + 1, 0, none⟩ (.int .i64 ep)).setCell ⟨w.heap.size + 1 + 1, 1, none⟩ (.int .i64 dg)).setCell ⟨w.heap.size + 1 + 1, 2, none⟩ (.int .i64 x.kind)).setCell ⟨w.heap.size + 1 + 1, 3, none⟩ (.int .i64 x.job)).setCell ⟨w.heap.size + 1 + 1, 4, none⟩ (.int .i64 x.every)).setCell ⟨w.heap.size + 1 + 1, 5, none⟩ (.int .i64 x.time)).setCell ⟨w.heap.size + 1 + 1, 6, none⟩ (.int .i64 x.client)).setCell ⟨w.heap.size + 1 + 1, 7, none⟩ (.int .i64 at_)).setCell ⟨w.heap.size + 1 + 1, 8, none⟩ (.int .i64 ln)).setCell ⟨w.heap.size + 1 + 1, 9, none⟩ (.int .i64 (pl + 1))).setCell ⟨w.heap.size + 1 + 1, 10, none⟩ (.slice A1 n1 c1)).setCell ⟨w.heap.size + 1 + 1, 11, none⟩ (.slice A2 n2 c2)) = (w4.setCells (w.heap.size + 1 + 1) 0 [.int .i64 ep, .int .i64 dg, .int .i64 x.kind, .int .i64 x.job, .int .i64 x.every, .int .i64 x.time, .int .i64 x.client, .int .i64 at_, .int .i64 ln, .int .i64 (pl + 1), .slice A1 n1 c1, .slice A2 n2 c2]) from rfl]
        have hE : Onto w (w4.setCells (w.heap.size + 1 + 1) 0 [.int .i64 ep, .int .i64 dg, .int .i64 x.kind, .int .i64 x.job, .int .i64 x.every, .int .i64 x.time, .int .i64 x.client, .int .i64 at_, .int .i64 ln, .int .i64 (pl + 1), .slice A1 n1 c1, .slice A2 n2 c2]) := put_onto (by omega) h04
        have F : ∀ (j : Nat) vv, ([.int .i64 ep, .int .i64 dg, .int .i64 x.kind, .int .i64 x.job, .int .i64 x.every, .int .i64 x.time, .int .i64 x.client, .int .i64 at_, .int .i64 ln, .int .i64 (pl + 1), .slice A1 n1 c1, .slice A2 n2 c2] : List Value)[j]? = some vv → (w4.setCells (w.heap.size + 1 + 1) 0 [.int .i64 ep, .int .i64 dg, .int .i64 x.kind, .int .i64 x.job, .int .i64 x.every, .int .i64 x.time, .int .i64 x.client, .int .i64 at_, .int .i64 ln, .int .i64 (pl + 1), .slice A1 n1 c1, .slice A2 n2 c2]).cell? ⟨w.heap.size + 1 + 1, j, none⟩ = some vv := fun j vv hv => put_in (w := w4) (b := w.heap.size + 1 + 1) (vs := [.int .i64 ep, .int .i64 dg, .int .i64 x.kind, .int .i64 x.job, .int .i64 x.every, .int .i64 x.time, .int .i64 x.client, .int .i64 at_, .int .i64 ln, .int .i64 (pl + 1), .slice A1 n1 c1, .slice A2 n2 c2]) (there12 p0d p1d p2d p3d p4d p5d p6d p7d p8d p9d p10d p11d) hv
        have u1 := put_S (vs := [.int .i64 ep, .int .i64 dg, .int .i64 x.kind, .int .i64 x.job, .int .i64 x.every, .int .i64 x.time, .int .i64 x.client, .int .i64 at_, .int .i64 ln, .int .i64 (pl + 1), .slice A1 n1 c1, .slice A2 n2 c2]) (b := w.heap.size + 1 + 1) (o := 0) (w := w4) (o1') t1
        have u2 := put_S (vs := [.int .i64 ep, .int .i64 dg, .int .i64 x.kind, .int .i64 x.job, .int .i64 x.every, .int .i64 x.time, .int .i64 x.client, .int .i64 at_, .int .i64 ln, .int .i64 (pl + 1), .slice A1 n1 c1, .slice A2 n2 c2]) (b := w.heap.size + 1 + 1) (o := 0) (w := w4) (o2') t2
        generalize (w4.setCells (w.heap.size + 1 + 1) 0 [.int .i64 ep, .int .i64 dg, .int .i64 x.kind, .int .i64 x.job, .int .i64 x.every, .int .i64 x.time, .int .i64 x.client, .int .i64 at_, .int .i64 ln, .int .i64 (pl + 1), .slice A1 n1 c1, .slice A2 n2 c2]) = wf at F hE u1 u2 ⊢
        have z0 := F 0 _ rfl
        have z1 := F 1 _ rfl
        have z2 := F 2 _ rfl
        have z3 := F 3 _ rfl
        have z4 := F 4 _ rfl
        have z5 := F 5 _ rfl
        have z6 := F 6 _ rfl
        have z7 := F 7 _ rfl
        have z8 := F 8 _ rfl
        have z9 := F 9 _ rfl
        have z10 := F 10 _ rfl
        have z11 := F 11 _ rfl
        refine bodyPost_ret (v := .tuple #[.agg #[.int .i64 ep, .int .i64 dg, .int .i64 x.kind, .int .i64 x.job, .int .i64 x.every, .int .i64 x.time, .int .i64 x.client, .int .i64 at_, .int .i64 ln, .int .i64 (pl + 1), .slice A1 n1 c1, .slice A2 n2 c2], .int .i64 0]) (by simp [results, Try.results36, go_sem, z0, z1, z2, z3, z4, z5, z6, z7, z8, z9, z10, z11]) rfl ?_
        rw [HR.out]
        exact ⟨A1, n1, c1, A2, n2, c2, rfl, u1, u2, hE, hc1, hc2, fA, fB⟩
  · rw [if_pos h0] at hr
    have HR := Lib.hid hr
    have hd : (q != 0) = true := by simpa using h0
    clear hr HR0 h0 g1 g1'
    go_wp2_with fail
    rw [show ((((((((((((w1.setCell ⟨w.heap.size + 1 + 1, 0, none⟩ (.int .i64 0)).setCell ⟨w.heap.size + 1 + 1, 1, none⟩ (.int .i64 0)).setCell ⟨w.heap.size + 1 + 1, 2, none⟩ (.int .i64 0)).setCell ⟨w.heap.size + 1 + 1, 3, none⟩ (.int .i64 0)).setCell ⟨w.heap.size + 1 + 1, 4, none⟩ (.int .i64 0)).setCell ⟨w.heap.size + 1 + 1, 5, none⟩ (.int .i64 0)).setCell ⟨w.heap.size + 1 + 1, 6, none⟩ (.int .i64 0)).setCell ⟨w.heap.size + 1 + 1, 7, none⟩ (.int .i64 0)).setCell ⟨w.heap.size + 1 + 1, 8, none⟩ (.int .i64 0)).setCell ⟨w.heap.size + 1 + 1, 9, none⟩ (.int .i64 0)).setCell ⟨w.heap.size + 1 + 1, 10, none⟩ (.slice none 0 0)).setCell ⟨w.heap.size + 1 + 1, 11, none⟩ (.slice none 0 0)) = (w1.setCells (w.heap.size + 1 + 1) 0 [.int .i64 0, .int .i64 0, .int .i64 0, .int .i64 0, .int .i64 0, .int .i64 0, .int .i64 0, .int .i64 0, .int .i64 0, .int .i64 0, .slice none 0 0, .slice none 0 0]) from rfl]
    have hE : Onto w (w1.setCells (w.heap.size + 1 + 1) 0 [.int .i64 0, .int .i64 0, .int .i64 0, .int .i64 0, .int .i64 0, .int .i64 0, .int .i64 0, .int .i64 0, .int .i64 0, .int .i64 0, .slice none 0 0, .slice none 0 0]) := put_onto (by omega) h01
    have F : ∀ (j : Nat) vv, ([.int .i64 0, .int .i64 0, .int .i64 0, .int .i64 0, .int .i64 0, .int .i64 0, .int .i64 0, .int .i64 0, .int .i64 0, .int .i64 0, .slice none 0 0, .slice none 0 0] : List Value)[j]? = some vv → (w1.setCells (w.heap.size + 1 + 1) 0 [.int .i64 0, .int .i64 0, .int .i64 0, .int .i64 0, .int .i64 0, .int .i64 0, .int .i64 0, .int .i64 0, .int .i64 0, .int .i64 0, .slice none 0 0, .slice none 0 0]).cell? ⟨w.heap.size + 1 + 1, j, none⟩ = some vv := fun j vv hv => put_in (w := w1) (b := w.heap.size + 1 + 1) (vs := [.int .i64 0, .int .i64 0, .int .i64 0, .int .i64 0, .int .i64 0, .int .i64 0, .int .i64 0, .int .i64 0, .int .i64 0, .int .i64 0, .slice none 0 0, .slice none 0 0]) (there12 p0a p1a p2a p3a p4a p5a p6a p7a p8a p9a p10a p11a) hv
    generalize (w1.setCells (w.heap.size + 1 + 1) 0 [.int .i64 0, .int .i64 0, .int .i64 0, .int .i64 0, .int .i64 0, .int .i64 0, .int .i64 0, .int .i64 0, .int .i64 0, .int .i64 0, .slice none 0 0, .slice none 0 0]) = wf at F hE ⊢
    have z0 := F 0 _ rfl
    have z1 := F 1 _ rfl
    have z2 := F 2 _ rfl
    have z3 := F 3 _ rfl
    have z4 := F 4 _ rfl
    have z5 := F 5 _ rfl
    have z6 := F 6 _ rfl
    have z7 := F 7 _ rfl
    have z8 := F 8 _ rfl
    have z9 := F 9 _ rfl
    have z10 := F 10 _ rfl
    have z11 := F 11 _ rfl
    refine bodyPost_ret (v := .tuple #[.agg #[.int .i64 0, .int .i64 0, .int .i64 0, .int .i64 0, .int .i64 0, .int .i64 0, .int .i64 0, .int .i64 0, .int .i64 0, .int .i64 0, .slice none 0 0, .slice none 0 0], .int .i64 q]) (by simp [results, Try.results36, go_sem, z0, z1, z2, z3, z4, z5, z6, z7, z8, z9, z10, z11]) rfl ?_
    rw [HR.out]
    exact ⟨none, 0, 0, none, 0, 0, rfl, Sl.nil, Sl.nil, hE, Nat.le_refl _, Nat.le_refl _, Fresh.none_ _, Fresh.none_ _⟩
end Go.Proofs.Ytbipmoehcmighaa
