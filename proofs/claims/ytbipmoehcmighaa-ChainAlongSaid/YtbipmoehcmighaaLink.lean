/- chain.Link. -/
import Derived.Test.YtbipmoehcmighaaChain
import Derived.Test.YtbipmoehcmighaaPut
namespace Go.Proofs.Ytbipmoehcmighaa
set_option linter.unusedSimpArgs false
set_option linter.unusedVariables false
open Go.RowKit

/-- What chain.Link leaves. -/
def LPost (w : World) (r : Rec × Entry × Int) (e : Ending) (w' : World) : Prop := e = .returned (.tuple #[.agg #[.int .i64 r.1.kind, .int .i64 r.1.at_, .int .i64 r.1.epoch, .int .i64 r.1.e.kind, .int .i64 r.1.e.job, .int .i64 r.1.e.every, .int .i64 r.1.e.time, .int .i64 r.1.e.client], .agg #[.int .i64 r.2.1.kind, .int .i64 r.2.1.job, .int .i64 r.2.1.every, .int .i64 r.2.1.time, .int .i64 r.2.1.client], .int .i64 r.2.2]) ∧ Onto w w'

set_option maxHeartbeats 8000000 in
set_option maxRecDepth 100000 in
theorem Link_calls (A : Option Addr) (n c : Nat) (l : List UV) (k a : Int) (x : Entry) (ep : Int) (w : World) (h : Us w A n l) :
    Calls Try.prog 12 #[.slice A n c, .int .i64 k, .int .i64 a, .agg #[.int .i64 x.kind, .int .i64 x.job, .int .i64 x.every, .int .i64 x.time, .int .i64 x.client], .int .i64 ep] w (LPost w (linkC (unis l) k a x ep)) := by
  obtain ⟨q, hq⟩ : ∃ q, q = checkC (unis l) := ⟨_, rfl⟩
  obtain ⟨q2, hq2⟩ : ∃ q2, q2 = checkE x := ⟨_, rfl⟩
  obtain ⟨r, hr⟩ : ∃ r, r = linkC (unis l) k a x ep := ⟨_, rfl⟩
  rw [← hr]
  unfold linkC at hr
  rw [← hq, ← hq2] at hr
  have HQ := Lib.hid hq; have HQ2 := Lib.hid hq2; have HR0 := Lib.hid hr
  clear hq hq2 hr
  go_enter Try.func12, Try.ntmps12
  have hne := neqE
  go_wp2_with fail
  refine Calls.mono (CCheck_calls A n c l _ (((h.new _).new _).new _)) ?_
  rw [← HQ.out]
  rintro e w1 ⟨rfl, hb1⟩
  have x0a : w1.cell? ⟨w.heap.size, 0, none⟩ = some (.int .i64 x.kind) := cellB hb1 (by simp [go_sem])
  have x1a : w1.cell? ⟨w.heap.size, 1, none⟩ = some (.int .i64 x.job) := cellB hb1 (by simp [go_sem])
  have x2a : w1.cell? ⟨w.heap.size, 2, none⟩ = some (.int .i64 x.every) := cellB hb1 (by simp [go_sem])
  have x3a : w1.cell? ⟨w.heap.size, 3, none⟩ = some (.int .i64 x.time) := cellB hb1 (by simp [go_sem])
  have x4a : w1.cell? ⟨w.heap.size, 4, none⟩ = some (.int .i64 x.client) := cellB hb1 (by simp [go_sem])
  have r0a : w1.cell? ⟨w.heap.size + 1, 0, none⟩ = some (.int .i64 0) := cellB hb1 (by simp [go_sem])
  have r1a : w1.cell? ⟨w.heap.size + 1, 1, none⟩ = some (.int .i64 0) := cellB hb1 (by simp [go_sem])
  have r2a : w1.cell? ⟨w.heap.size + 1, 2, none⟩ = some (.int .i64 0) := cellB hb1 (by simp [go_sem])
  have r3a : w1.cell? ⟨w.heap.size + 1, 3, none⟩ = some (.int .i64 0) := cellB hb1 (by simp [go_sem])
  have r4a : w1.cell? ⟨w.heap.size + 1, 4, none⟩ = some (.int .i64 0) := cellB hb1 (by simp [go_sem])
  have r5a : w1.cell? ⟨w.heap.size + 1, 5, none⟩ = some (.int .i64 0) := cellB hb1 (by simp [go_sem])
  have r6a : w1.cell? ⟨w.heap.size + 1, 6, none⟩ = some (.int .i64 0) := cellB hb1 (by simp [go_sem])
  have r7a : w1.cell? ⟨w.heap.size + 1, 7, none⟩ = some (.int .i64 0) := cellB hb1 (by simp [go_sem])
  have y0a : w1.cell? ⟨w.heap.size + 1 + 1, 0, none⟩ = some (.int .i64 0) := cellB hb1 (by simp [go_sem])
  have y1a : w1.cell? ⟨w.heap.size + 1 + 1, 1, none⟩ = some (.int .i64 0) := cellB hb1 (by simp [go_sem])
  have y2a : w1.cell? ⟨w.heap.size + 1 + 1, 2, none⟩ = some (.int .i64 0) := cellB hb1 (by simp [go_sem])
  have y3a : w1.cell? ⟨w.heap.size + 1 + 1, 3, none⟩ = some (.int .i64 0) := cellB hb1 (by simp [go_sem])
  have y4a : w1.cell? ⟨w.heap.size + 1 + 1, 4, none⟩ = some (.int .i64 0) := cellB hb1 (by simp [go_sem])
  have fr0a : w1.frozen? ⟨w.heap.size + 1, 0, none⟩ = false := frozB hb1 (v := .int .i64 0) (by simp [go_sem]) (by simp [go_sem])
  have fr1a : w1.frozen? ⟨w.heap.size + 1, 1, none⟩ = false := frozB hb1 (v := .int .i64 0) (by simp [go_sem]) (by simp [go_sem])
  have fr2a : w1.frozen? ⟨w.heap.size + 1, 2, none⟩ = false := frozB hb1 (v := .int .i64 0) (by simp [go_sem]) (by simp [go_sem])
  have fr3a : w1.frozen? ⟨w.heap.size + 1, 3, none⟩ = false := frozB hb1 (v := .int .i64 0) (by simp [go_sem]) (by simp [go_sem])
  have fr4a : w1.frozen? ⟨w.heap.size + 1, 4, none⟩ = false := frozB hb1 (v := .int .i64 0) (by simp [go_sem]) (by simp [go_sem])
  have fr5a : w1.frozen? ⟨w.heap.size + 1, 5, none⟩ = false := frozB hb1 (v := .int .i64 0) (by simp [go_sem]) (by simp [go_sem])
  have fr6a : w1.frozen? ⟨w.heap.size + 1, 6, none⟩ = false := frozB hb1 (v := .int .i64 0) (by simp [go_sem]) (by simp [go_sem])
  have fr7a : w1.frozen? ⟨w.heap.size + 1, 7, none⟩ = false := frozB hb1 (v := .int .i64 0) (by simp [go_sem]) (by simp [go_sem])
  have fy0a : w1.frozen? ⟨w.heap.size + 1 + 1, 0, none⟩ = false := frozB hb1 (v := .int .i64 0) (by simp [go_sem]) (by simp [go_sem])
  have fy1a : w1.frozen? ⟨w.heap.size + 1 + 1, 1, none⟩ = false := frozB hb1 (v := .int .i64 0) (by simp [go_sem]) (by simp [go_sem])
  have fy2a : w1.frozen? ⟨w.heap.size + 1 + 1, 2, none⟩ = false := frozB hb1 (v := .int .i64 0) (by simp [go_sem]) (by simp [go_sem])
  have fy3a : w1.frozen? ⟨w.heap.size + 1 + 1, 3, none⟩ = false := frozB hb1 (v := .int .i64 0) (by simp [go_sem]) (by simp [go_sem])
  have fy4a : w1.frozen? ⟨w.heap.size + 1 + 1, 4, none⟩ = false := frozB hb1 (v := .int .i64 0) (by simp [go_sem]) (by simp [go_sem])
  have h01 : Onto w w1 := ((((Below.refl _ _).alloc (Nat.le_refl _) _).alloc (by simp) _).alloc (by simp; omega) _).trans (hb1.mono (by simp; omega))
  have hu1 := h.onto h01
  have hz1 : w.heap.size + 1 + 1 < w1.heap.size := World.block_lt_of_cell? _ _ y0a
  clear hb1 h
  by_cases h0 : q = 0
  · have hg := checkC_iff.1 (HQ.out.symm.trans h0)
    have hn : n = 3 := by rw [← hu1.len, ← List.length_map (f := UV.u)]; exact hg.len
    subst h0; subst hn
    have HG := Lib.hid hg
    have hr := HR0.out
    rw [if_neg (by simp)] at hr
    by_cases hbad : k < 0 ∨ 3 ≤ k ∨ a < 0 ∨ 60 ≤ a
    · rw [if_pos hbad] at hr
      have HR := Lib.hid hr
      clear hr HR0 hu1 hg
      have hd : (decide (k < 0) || decide (3 ≤ k) || decide (a < 0) || decide (60 ≤ a)) = true := by simp only [Bool.or_eq_true, decide_eq_true_eq]; omega
      by_cases hb1 : k < 0
      · clear hbad hd
        go_wp2_with fail
        rw [show (((((((((((((w1.setCell ⟨w.heap.size + 1, 0, none⟩ (.int .i64 0)).setCell ⟨w.heap.size + 1, 1, none⟩ (.int .i64 0)).setCell ⟨w.heap.size + 1, 2, none⟩ (.int .i64 0)).setCell ⟨w.heap.size + 1, 3, none⟩ (.int .i64 0)).setCell ⟨w.heap.size + 1, 4, none⟩ (.int .i64 0)).setCell ⟨w.heap.size + 1, 5, none⟩ (.int .i64 0)).setCell ⟨w.heap.size + 1, 6, none⟩ (.int .i64 0)).setCell ⟨w.heap.size + 1, 7, none⟩ (.int .i64 0)).setCell ⟨w.heap.size + 1 + 1, 0, none⟩ (.int .i64 0)).setCell ⟨w.heap.size + 1 + 1, 1, none⟩ (.int .i64 0)).setCell ⟨w.heap.size + 1 + 1, 2, none⟩ (.int .i64 0)).setCell ⟨w.heap.size + 1 + 1, 3, none⟩ (.int .i64 0)).setCell ⟨w.heap.size + 1 + 1, 4, none⟩ (.int .i64 0)) = (w1.setCells (w.heap.size + 1) 0 [.int .i64 0, .int .i64 0, .int .i64 0, .int .i64 0, .int .i64 0, .int .i64 0, .int .i64 0, .int .i64 0]).setCells (w.heap.size + 1 + 1) 0 [.int .i64 0, .int .i64 0, .int .i64 0, .int .i64 0, .int .i64 0] from rfl]
        have hE : Onto w ((w1.setCells (w.heap.size + 1) 0 [.int .i64 0, .int .i64 0, .int .i64 0, .int .i64 0, .int .i64 0, .int .i64 0, .int .i64 0, .int .i64 0]).setCells (w.heap.size + 1 + 1) 0 [.int .i64 0, .int .i64 0, .int .i64 0, .int .i64 0, .int .i64 0]) := put_onto (by omega) (put_onto (by omega) h01)
        obtain ⟨F1, F2⟩ := put2 (w := w1) (b := w.heap.size + 1) (b' := w.heap.size + 1 + 1) (vs := [.int .i64 0, .int .i64 0, .int .i64 0, .int .i64 0, .int .i64 0, .int .i64 0, .int .i64 0, .int .i64 0]) (us := [.int .i64 0, .int .i64 0, .int .i64 0, .int .i64 0, .int .i64 0]) (by omega) (there8 r0a r1a r2a r3a r4a r5a r6a r7a) (there5 y0a y1a y2a y3a y4a)
        generalize (w1.setCells (w.heap.size + 1) 0 [.int .i64 0, .int .i64 0, .int .i64 0, .int .i64 0, .int .i64 0, .int .i64 0, .int .i64 0, .int .i64 0]).setCells (w.heap.size + 1 + 1) 0 [.int .i64 0, .int .i64 0, .int .i64 0, .int .i64 0, .int .i64 0] = wf at F1 F2 hE ⊢
        have z0 := F1 0 _ rfl
        have z1 := F1 1 _ rfl
        have z2 := F1 2 _ rfl
        have z3 := F1 3 _ rfl
        have z4 := F1 4 _ rfl
        have z5 := F1 5 _ rfl
        have z6 := F1 6 _ rfl
        have z7 := F1 7 _ rfl
        have y0 := F2 0 _ rfl
        have y1 := F2 1 _ rfl
        have y2 := F2 2 _ rfl
        have y3 := F2 3 _ rfl
        have y4 := F2 4 _ rfl
        refine bodyPost_ret (v := .tuple #[.agg #[.int .i64 0, .int .i64 0, .int .i64 0, .int .i64 0, .int .i64 0, .int .i64 0, .int .i64 0, .int .i64 0], .agg #[.int .i64 0, .int .i64 0, .int .i64 0, .int .i64 0, .int .i64 0], .int .i64 5]) (by simp [results, Try.results12, go_sem, z0, z1, z2, z3, z4, z5, z6, z7, y0, y1, y2, y3, y4]) rfl ?_
        rw [HR.out]
        exact ⟨rfl, hE⟩
      · by_cases hb2 : 3 ≤ k
        · clear hbad hd
          go_wp2_with fail
          rw [show (((((((((((((w1.setCell ⟨w.heap.size + 1, 0, none⟩ (.int .i64 0)).setCell ⟨w.heap.size + 1, 1, none⟩ (.int .i64 0)).setCell ⟨w.heap.size + 1, 2, none⟩ (.int .i64 0)).setCell ⟨w.heap.size + 1, 3, none⟩ (.int .i64 0)).setCell ⟨w.heap.size + 1, 4, none⟩ (.int .i64 0)).setCell ⟨w.heap.size + 1, 5, none⟩ (.int .i64 0)).setCell ⟨w.heap.size + 1, 6, none⟩ (.int .i64 0)).setCell ⟨w.heap.size + 1, 7, none⟩ (.int .i64 0)).setCell ⟨w.heap.size + 1 + 1, 0, none⟩ (.int .i64 0)).setCell ⟨w.heap.size + 1 + 1, 1, none⟩ (.int .i64 0)).setCell ⟨w.heap.size + 1 + 1, 2, none⟩ (.int .i64 0)).setCell ⟨w.heap.size + 1 + 1, 3, none⟩ (.int .i64 0)).setCell ⟨w.heap.size + 1 + 1, 4, none⟩ (.int .i64 0)) = (w1.setCells (w.heap.size + 1) 0 [.int .i64 0, .int .i64 0, .int .i64 0, .int .i64 0, .int .i64 0, .int .i64 0, .int .i64 0, .int .i64 0]).setCells (w.heap.size + 1 + 1) 0 [.int .i64 0, .int .i64 0, .int .i64 0, .int .i64 0, .int .i64 0] from rfl]
          have hE : Onto w ((w1.setCells (w.heap.size + 1) 0 [.int .i64 0, .int .i64 0, .int .i64 0, .int .i64 0, .int .i64 0, .int .i64 0, .int .i64 0, .int .i64 0]).setCells (w.heap.size + 1 + 1) 0 [.int .i64 0, .int .i64 0, .int .i64 0, .int .i64 0, .int .i64 0]) := put_onto (by omega) (put_onto (by omega) h01)
          obtain ⟨F1, F2⟩ := put2 (w := w1) (b := w.heap.size + 1) (b' := w.heap.size + 1 + 1) (vs := [.int .i64 0, .int .i64 0, .int .i64 0, .int .i64 0, .int .i64 0, .int .i64 0, .int .i64 0, .int .i64 0]) (us := [.int .i64 0, .int .i64 0, .int .i64 0, .int .i64 0, .int .i64 0]) (by omega) (there8 r0a r1a r2a r3a r4a r5a r6a r7a) (there5 y0a y1a y2a y3a y4a)
          generalize (w1.setCells (w.heap.size + 1) 0 [.int .i64 0, .int .i64 0, .int .i64 0, .int .i64 0, .int .i64 0, .int .i64 0, .int .i64 0, .int .i64 0]).setCells (w.heap.size + 1 + 1) 0 [.int .i64 0, .int .i64 0, .int .i64 0, .int .i64 0, .int .i64 0] = wf at F1 F2 hE ⊢
          have z0 := F1 0 _ rfl
          have z1 := F1 1 _ rfl
          have z2 := F1 2 _ rfl
          have z3 := F1 3 _ rfl
          have z4 := F1 4 _ rfl
          have z5 := F1 5 _ rfl
          have z6 := F1 6 _ rfl
          have z7 := F1 7 _ rfl
          have y0 := F2 0 _ rfl
          have y1 := F2 1 _ rfl
          have y2 := F2 2 _ rfl
          have y3 := F2 3 _ rfl
          have y4 := F2 4 _ rfl
          refine bodyPost_ret (v := .tuple #[.agg #[.int .i64 0, .int .i64 0, .int .i64 0, .int .i64 0, .int .i64 0, .int .i64 0, .int .i64 0, .int .i64 0], .agg #[.int .i64 0, .int .i64 0, .int .i64 0, .int .i64 0, .int .i64 0], .int .i64 5]) (by simp [results, Try.results12, go_sem, z0, z1, z2, z3, z4, z5, z6, z7, y0, y1, y2, y3, y4]) rfl ?_
          rw [HR.out]
          exact ⟨rfl, hE⟩
        · by_cases hb3 : a < 0
          · clear hbad hd
            go_wp2_with fail
            rw [show (((((((((((((w1.setCell ⟨w.heap.size + 1, 0, none⟩ (.int .i64 0)).setCell ⟨w.heap.size + 1, 1, none⟩ (.int .i64 0)).setCell ⟨w.heap.size + 1, 2, none⟩ (.int .i64 0)).setCell ⟨w.heap.size + 1, 3, none⟩ (.int .i64 0)).setCell ⟨w.heap.size + 1, 4, none⟩ (.int .i64 0)).setCell ⟨w.heap.size + 1, 5, none⟩ (.int .i64 0)).setCell ⟨w.heap.size + 1, 6, none⟩ (.int .i64 0)).setCell ⟨w.heap.size + 1, 7, none⟩ (.int .i64 0)).setCell ⟨w.heap.size + 1 + 1, 0, none⟩ (.int .i64 0)).setCell ⟨w.heap.size + 1 + 1, 1, none⟩ (.int .i64 0)).setCell ⟨w.heap.size + 1 + 1, 2, none⟩ (.int .i64 0)).setCell ⟨w.heap.size + 1 + 1, 3, none⟩ (.int .i64 0)).setCell ⟨w.heap.size + 1 + 1, 4, none⟩ (.int .i64 0)) = (w1.setCells (w.heap.size + 1) 0 [.int .i64 0, .int .i64 0, .int .i64 0, .int .i64 0, .int .i64 0, .int .i64 0, .int .i64 0, .int .i64 0]).setCells (w.heap.size + 1 + 1) 0 [.int .i64 0, .int .i64 0, .int .i64 0, .int .i64 0, .int .i64 0] from rfl]
            have hE : Onto w ((w1.setCells (w.heap.size + 1) 0 [.int .i64 0, .int .i64 0, .int .i64 0, .int .i64 0, .int .i64 0, .int .i64 0, .int .i64 0, .int .i64 0]).setCells (w.heap.size + 1 + 1) 0 [.int .i64 0, .int .i64 0, .int .i64 0, .int .i64 0, .int .i64 0]) := put_onto (by omega) (put_onto (by omega) h01)
            obtain ⟨F1, F2⟩ := put2 (w := w1) (b := w.heap.size + 1) (b' := w.heap.size + 1 + 1) (vs := [.int .i64 0, .int .i64 0, .int .i64 0, .int .i64 0, .int .i64 0, .int .i64 0, .int .i64 0, .int .i64 0]) (us := [.int .i64 0, .int .i64 0, .int .i64 0, .int .i64 0, .int .i64 0]) (by omega) (there8 r0a r1a r2a r3a r4a r5a r6a r7a) (there5 y0a y1a y2a y3a y4a)
            generalize (w1.setCells (w.heap.size + 1) 0 [.int .i64 0, .int .i64 0, .int .i64 0, .int .i64 0, .int .i64 0, .int .i64 0, .int .i64 0, .int .i64 0]).setCells (w.heap.size + 1 + 1) 0 [.int .i64 0, .int .i64 0, .int .i64 0, .int .i64 0, .int .i64 0] = wf at F1 F2 hE ⊢
            have z0 := F1 0 _ rfl
            have z1 := F1 1 _ rfl
            have z2 := F1 2 _ rfl
            have z3 := F1 3 _ rfl
            have z4 := F1 4 _ rfl
            have z5 := F1 5 _ rfl
            have z6 := F1 6 _ rfl
            have z7 := F1 7 _ rfl
            have y0 := F2 0 _ rfl
            have y1 := F2 1 _ rfl
            have y2 := F2 2 _ rfl
            have y3 := F2 3 _ rfl
            have y4 := F2 4 _ rfl
            refine bodyPost_ret (v := .tuple #[.agg #[.int .i64 0, .int .i64 0, .int .i64 0, .int .i64 0, .int .i64 0, .int .i64 0, .int .i64 0, .int .i64 0], .agg #[.int .i64 0, .int .i64 0, .int .i64 0, .int .i64 0, .int .i64 0], .int .i64 5]) (by simp [results, Try.results12, go_sem, z0, z1, z2, z3, z4, z5, z6, z7, y0, y1, y2, y3, y4]) rfl ?_
            rw [HR.out]
            exact ⟨rfl, hE⟩
          · have hb4 : 60 ≤ a := by omega
            clear hbad hd
            go_wp2_with fail
            rw [show (((((((((((((w1.setCell ⟨w.heap.size + 1, 0, none⟩ (.int .i64 0)).setCell ⟨w.heap.size + 1, 1, none⟩ (.int .i64 0)).setCell ⟨w.heap.size + 1, 2, none⟩ (.int .i64 0)).setCell ⟨w.heap.size + 1, 3, none⟩ (.int .i64 0)).setCell ⟨w.heap.size + 1, 4, none⟩ (.int .i64 0)).setCell ⟨w.heap.size + 1, 5, none⟩ (.int .i64 0)).setCell ⟨w.heap.size + 1, 6, none⟩ (.int .i64 0)).setCell ⟨w.heap.size + 1, 7, none⟩ (.int .i64 0)).setCell ⟨w.heap.size + 1 + 1, 0, none⟩ (.int .i64 0)).setCell ⟨w.heap.size + 1 + 1, 1, none⟩ (.int .i64 0)).setCell ⟨w.heap.size + 1 + 1, 2, none⟩ (.int .i64 0)).setCell ⟨w.heap.size + 1 + 1, 3, none⟩ (.int .i64 0)).setCell ⟨w.heap.size + 1 + 1, 4, none⟩ (.int .i64 0)) = (w1.setCells (w.heap.size + 1) 0 [.int .i64 0, .int .i64 0, .int .i64 0, .int .i64 0, .int .i64 0, .int .i64 0, .int .i64 0, .int .i64 0]).setCells (w.heap.size + 1 + 1) 0 [.int .i64 0, .int .i64 0, .int .i64 0, .int .i64 0, .int .i64 0] from rfl]
            have hE : Onto w ((w1.setCells (w.heap.size + 1) 0 [.int .i64 0, .int .i64 0, .int .i64 0, .int .i64 0, .int .i64 0, .int .i64 0, .int .i64 0, .int .i64 0]).setCells (w.heap.size + 1 + 1) 0 [.int .i64 0, .int .i64 0, .int .i64 0, .int .i64 0, .int .i64 0]) := put_onto (by omega) (put_onto (by omega) h01)
            obtain ⟨F1, F2⟩ := put2 (w := w1) (b := w.heap.size + 1) (b' := w.heap.size + 1 + 1) (vs := [.int .i64 0, .int .i64 0, .int .i64 0, .int .i64 0, .int .i64 0, .int .i64 0, .int .i64 0, .int .i64 0]) (us := [.int .i64 0, .int .i64 0, .int .i64 0, .int .i64 0, .int .i64 0]) (by omega) (there8 r0a r1a r2a r3a r4a r5a r6a r7a) (there5 y0a y1a y2a y3a y4a)
            generalize (w1.setCells (w.heap.size + 1) 0 [.int .i64 0, .int .i64 0, .int .i64 0, .int .i64 0, .int .i64 0, .int .i64 0, .int .i64 0, .int .i64 0]).setCells (w.heap.size + 1 + 1) 0 [.int .i64 0, .int .i64 0, .int .i64 0, .int .i64 0, .int .i64 0] = wf at F1 F2 hE ⊢
            have z0 := F1 0 _ rfl
            have z1 := F1 1 _ rfl
            have z2 := F1 2 _ rfl
            have z3 := F1 3 _ rfl
            have z4 := F1 4 _ rfl
            have z5 := F1 5 _ rfl
            have z6 := F1 6 _ rfl
            have z7 := F1 7 _ rfl
            have y0 := F2 0 _ rfl
            have y1 := F2 1 _ rfl
            have y2 := F2 2 _ rfl
            have y3 := F2 3 _ rfl
            have y4 := F2 4 _ rfl
            refine bodyPost_ret (v := .tuple #[.agg #[.int .i64 0, .int .i64 0, .int .i64 0, .int .i64 0, .int .i64 0, .int .i64 0, .int .i64 0, .int .i64 0], .agg #[.int .i64 0, .int .i64 0, .int .i64 0, .int .i64 0, .int .i64 0], .int .i64 5]) (by simp [results, Try.results12, go_sem, z0, z1, z2, z3, z4, z5, z6, z7, y0, y1, y2, y3, y4]) rfl ?_
            rw [HR.out]
            exact ⟨rfl, hE⟩
    · rw [if_neg hbad] at hr
      obtain ⟨j, rfl⟩ : ∃ j : Nat, a = j := ⟨a.toNat, by omega⟩
      obtain ⟨i, rfl⟩ : ∃ i : Nat, k = i := ⟨k.toNat, by omega⟩
      have hi3 : i < 3 := by omega
      have hj60 : j < 60 := by omega
      have hn1 : ¬ (i : Int) < 0 := by omega
      have hn2 : ¬ (3 : Int) ≤ (i : Int) := by omega
      have hn3 : ¬ (j : Int) < 0 := by omega
      have hn4 : ¬ (60 : Int) ≤ (j : Int) := by omega
      have HR1 := Lib.hid hr
      clear hr hbad HR0 hg
      go_wp2_with fail
      refine Calls.mono (Check_calls x.kind x.job x.every x.time x.client _) ?_
      rw [show checkE ⟨x.kind, x.job, x.every, x.time, x.client⟩ = q2 from HQ2.out.symm]
      rintro e w2 ⟨rfl, hb2⟩
      have h02 := h01.to hb2; have hu2 := hu1.onto hb2
      have x0b := cellB hb2 x0a; have x1b := cellB hb2 x1a; have x2b := cellB hb2 x2a; have x3b := cellB hb2 x3a; have x4b := cellB hb2 x4a; have r0b := cellB hb2 r0a; have r1b := cellB hb2 r1a; have r2b := cellB hb2 r2a; have r3b := cellB hb2 r3a; have r4b := cellB hb2 r4a; have r5b := cellB hb2 r5a; have r6b := cellB hb2 r6a; have r7b := cellB hb2 r7a; have y0b := cellB hb2 y0a; have y1b := cellB hb2 y1a; have y2b := cellB hb2 y2a; have y3b := cellB hb2 y3a; have y4b := cellB hb2 y4a
      have fr0b := frozB hb2 r0a fr0a; have fr1b := frozB hb2 r1a fr1a; have fr2b := frozB hb2 r2a fr2a; have fr3b := frozB hb2 r3a fr3a; have fr4b := frozB hb2 r4a fr4a; have fr5b := frozB hb2 r5a fr5a; have fr6b := frozB hb2 r6a fr6a; have fr7b := frozB hb2 r7a fr7a; have fy0b := frozB hb2 y0a fy0a; have fy1b := frozB hb2 y1a fy1a; have fy2b := frozB hb2 y2a fy2a; have fy3b := frozB hb2 y3a fy3a; have fy4b := frozB hb2 y4a fy4a
      clear x0a x1a x2a x3a x4a r0a r1a r2a r3a r4a r5a r6a r7a y0a y1a y2a y3a y4a fr0a fr1a fr2a fr3a fr4a fr5a fr6a fr7a fy0a fy1a fy2a fy3a fy4a
      have hz2 : w.heap.size + 1 + 1 < w2.heap.size := World.block_lt_of_cell? _ _ y0b
      clear h01 hb2 hu1 hz1
      have hr := HR1.out
      by_cases h20 : q2 = 0
      · subst h20
        rw [if_neg (by simp)] at hr
        obtain ⟨b, off, u, rfl, hbz, hu, e0, e1, hs, hul⟩ := hu2.atU hi3
        have hgu := HG.out.ok u.u (List.mem_map.2 ⟨u, List.mem_of_getElem? hu, rfl⟩)
        have hun : u.n = 60 := by rw [← hul]; exact hgu.len
        rw [Int.toNat_natCast, Int.toNat_natCast, uniAt_eq (unis_at hu)] at hr
        simp only [show u.u.ep = u.ep from rfl, show u.u.cells = u.cells from rfl] at hr
        rw [hun] at hs e1
        by_cases hep : ep ≠ u.ep
        · rw [if_pos hep] at hr
          have HR := Lib.hid hr
          have hd : (ep != u.ep) = true := by simpa using hep
          clear hr HR1 hep hs hgu e1 hu2
          go_wp2_with fail
          rw [show (((((((((((((w2.setCell ⟨w.heap.size + 1, 0, none⟩ (.int .i64 0)).setCell ⟨w.heap.size + 1, 1, none⟩ (.int .i64 0)).setCell ⟨w.heap.size + 1, 2, none⟩ (.int .i64 0)).setCell ⟨w.heap.size + 1, 3, none⟩ (.int .i64 0)).setCell ⟨w.heap.size + 1, 4, none⟩ (.int .i64 0)).setCell ⟨w.heap.size + 1, 5, none⟩ (.int .i64 0)).setCell ⟨w.heap.size + 1, 6, none⟩ (.int .i64 0)).setCell ⟨w.heap.size + 1, 7, none⟩ (.int .i64 0)).setCell ⟨w.heap.size + 1 + 1, 0, none⟩ (.int .i64 0)).setCell ⟨w.heap.size + 1 + 1, 1, none⟩ (.int .i64 0)).setCell ⟨w.heap.size + 1 + 1, 2, none⟩ (.int .i64 0)).setCell ⟨w.heap.size + 1 + 1, 3, none⟩ (.int .i64 0)).setCell ⟨w.heap.size + 1 + 1, 4, none⟩ (.int .i64 0)) = (w2.setCells (w.heap.size + 1) 0 [.int .i64 0, .int .i64 0, .int .i64 0, .int .i64 0, .int .i64 0, .int .i64 0, .int .i64 0, .int .i64 0]).setCells (w.heap.size + 1 + 1) 0 [.int .i64 0, .int .i64 0, .int .i64 0, .int .i64 0, .int .i64 0] from rfl]
          have hE : Onto w ((w2.setCells (w.heap.size + 1) 0 [.int .i64 0, .int .i64 0, .int .i64 0, .int .i64 0, .int .i64 0, .int .i64 0, .int .i64 0, .int .i64 0]).setCells (w.heap.size + 1 + 1) 0 [.int .i64 0, .int .i64 0, .int .i64 0, .int .i64 0, .int .i64 0]) := put_onto (by omega) (put_onto (by omega) h02)
          obtain ⟨F1, F2⟩ := put2 (w := w2) (b := w.heap.size + 1) (b' := w.heap.size + 1 + 1) (vs := [.int .i64 0, .int .i64 0, .int .i64 0, .int .i64 0, .int .i64 0, .int .i64 0, .int .i64 0, .int .i64 0]) (us := [.int .i64 0, .int .i64 0, .int .i64 0, .int .i64 0, .int .i64 0]) (by omega) (there8 r0b r1b r2b r3b r4b r5b r6b r7b) (there5 y0b y1b y2b y3b y4b)
          generalize (w2.setCells (w.heap.size + 1) 0 [.int .i64 0, .int .i64 0, .int .i64 0, .int .i64 0, .int .i64 0, .int .i64 0, .int .i64 0, .int .i64 0]).setCells (w.heap.size + 1 + 1) 0 [.int .i64 0, .int .i64 0, .int .i64 0, .int .i64 0, .int .i64 0] = wf at F1 F2 hE ⊢
          have z0 := F1 0 _ rfl
          have z1 := F1 1 _ rfl
          have z2 := F1 2 _ rfl
          have z3 := F1 3 _ rfl
          have z4 := F1 4 _ rfl
          have z5 := F1 5 _ rfl
          have z6 := F1 6 _ rfl
          have z7 := F1 7 _ rfl
          have y0 := F2 0 _ rfl
          have y1 := F2 1 _ rfl
          have y2 := F2 2 _ rfl
          have y3 := F2 3 _ rfl
          have y4 := F2 4 _ rfl
          refine bodyPost_ret (v := .tuple #[.agg #[.int .i64 0, .int .i64 0, .int .i64 0, .int .i64 0, .int .i64 0, .int .i64 0, .int .i64 0, .int .i64 0], .agg #[.int .i64 0, .int .i64 0, .int .i64 0, .int .i64 0, .int .i64 0], .int .i64 8]) (by simp [results, Try.results12, go_sem, z0, z1, z2, z3, z4, z5, z6, z7, y0, y1, y2, y3, y4]) rfl ?_
          rw [HR.out]
          exact ⟨rfl, hE⟩
        · rw [if_neg hep] at hr
          have hep' : ep = u.ep := by omega
          subst hep'
          have HR1 := Lib.hid hr
          clear hr hep hgu
          obtain ⟨b1, off1, y, hA1, hyz, hy, d0, d1, d2, d3, d4⟩ := hs.atE hj60
          rw [hA1] at e1
          have hj60' : (j : Int) < 60 := by omega
          have hi3' : (i : Int) < 3 := by omega
          have hr := HR1.out
          rw [cellAt_eq hy] at hr
          have HY := Lib.hid hy
          clear hy HR1
          rcases Nat.eq_zero_or_pos i with rfl | hpos
          · rw [if_neg (by omega)] at hr
            have HR1 := Lib.hid hr
            clear hr
            simp only [Nat.zero_mul, Nat.add_zero] at e0 e1
            go_wp2_with fail
            go_quiet (fail)
            obtain ⟨w3, hw3⟩ : ∃ w3, w3 = w2.drewN nq := ⟨_, rfl⟩
            rw [← hw3]
            have hb3 : Onto w2 w3 := hw3 ▸ Onto.draws (Below.refl _ _) nq
            clear hw3
            have x0c := cellB hb3 x0b; have x1c := cellB hb3 x1b; have x2c := cellB hb3 x2b; have x3c := cellB hb3 x3b; have x4c := cellB hb3 x4b; have r0c := cellB hb3 r0b; have r1c := cellB hb3 r1b; have r2c := cellB hb3 r2b; have r3c := cellB hb3 r3b; have r4c := cellB hb3 r4b; have r5c := cellB hb3 r5b; have r6c := cellB hb3 r6b; have r7c := cellB hb3 r7b; have y0c := cellB hb3 y0b; have y1c := cellB hb3 y1b; have y2c := cellB hb3 y2b; have y3c := cellB hb3 y3b; have y4c := cellB hb3 y4b
            have fr0c := frozB hb3 r0b fr0b; have fr1c := frozB hb3 r1b fr1b; have fr2c := frozB hb3 r2b fr2b; have fr3c := frozB hb3 r3b fr3b; have fr4c := frozB hb3 r4b fr4b; have fr5c := frozB hb3 r5b fr5b; have fr6c := frozB hb3 r6b fr6b; have fr7c := frozB hb3 r7b fr7b; have fy0c := frozB hb3 y0b fy0b; have fy1c := frozB hb3 y1b fy1b; have fy2c := frozB hb3 y2b fy2b; have fy3c := frozB hb3 y3b fy3b; have fy4c := frozB hb3 y4b fy4b
            clear x0b x1b x2b x3b x4b r0b r1b r2b r3b r4b r5b r6b r7b y0b y1b y2b y3b y4b fr0b fr1b fr2b fr3b fr4b fr5b fr6b fr7b fy0b fy1b fy2b fy3b fy4b
            have h03 := h02.to hb3
            have hz3 : w.heap.size + 1 + 1 < w3.heap.size := World.block_lt_of_cell? _ _ y0c
            have e1' := cellB hb3 e1
            have d0' := cellB hb3 d0; have d1' := cellB hb3 d1; have d2' := cellB hb3 d2; have d3' := cellB hb3 d3; have d4' := cellB hb3 d4
            have HR2 := HR1.out
            clear HR1 e0 e1 d0 d1 d2 d3 d4 h02 hz2 hb3
            by_cases h4 : y.kind ≠ 4
            · rw [if_pos h4] at HR2
              have HR := Lib.hid HR2
              have hd : (y.kind != 4) = true := by simpa using h4
              clear HR2 h4
              go_wp2_with fail
              have hb4 : Onto w3 (w3.alloc (Obj.cells #[.int .i64 y.kind, .int .i64 y.job, .int .i64 y.every, .int .i64 y.time, .int .i64 y.client] 24)) := (Below.refl _ _).alloc (Nat.le_refl _) _
              have x0d := cellB hb4 x0c; have x1d := cellB hb4 x1c; have x2d := cellB hb4 x2c; have x3d := cellB hb4 x3c; have x4d := cellB hb4 x4c; have r0d := cellB hb4 r0c; have r1d := cellB hb4 r1c; have r2d := cellB hb4 r2c; have r3d := cellB hb4 r3c; have r4d := cellB hb4 r4c; have r5d := cellB hb4 r5c; have r6d := cellB hb4 r6c; have r7d := cellB hb4 r7c; have y0d := cellB hb4 y0c; have y1d := cellB hb4 y1c; have y2d := cellB hb4 y2c; have y3d := cellB hb4 y3c; have y4d := cellB hb4 y4c
              have fr0d := frozB hb4 r0c fr0c; have fr1d := frozB hb4 r1c fr1c; have fr2d := frozB hb4 r2c fr2c; have fr3d := frozB hb4 r3c fr3c; have fr4d := frozB hb4 r4c fr4c; have fr5d := frozB hb4 r5c fr5c; have fr6d := frozB hb4 r6c fr6c; have fr7d := frozB hb4 r7c fr7c; have fy0d := frozB hb4 y0c fy0c; have fy1d := frozB hb4 y1c fy1c; have fy2d := frozB hb4 y2c fy2c; have fy3d := frozB hb4 y3c fy3c; have fy4d := frozB hb4 y4c fy4c
              clear x0c x1c x2c x3c x4c r0c r1c r2c r3c r4c r5c r6c r7c y0c y1c y2c y3c y4c fr0c fr1c fr2c fr3c fr4c fr5c fr6c fr7c fy0c fy1c fy2c fy3c fy4c
              have k0 : (w3.alloc (Obj.cells #[.int .i64 y.kind, .int .i64 y.job, .int .i64 y.every, .int .i64 y.time, .int .i64 y.client] 24)).cell? ⟨w3.heap.size, 0, none⟩ = some (.int .i64 y.kind) := by simp [go_sem]
              have k1 : (w3.alloc (Obj.cells #[.int .i64 y.kind, .int .i64 y.job, .int .i64 y.every, .int .i64 y.time, .int .i64 y.client] 24)).cell? ⟨w3.heap.size, 1, none⟩ = some (.int .i64 y.job) := by simp [go_sem]
              have k2 : (w3.alloc (Obj.cells #[.int .i64 y.kind, .int .i64 y.job, .int .i64 y.every, .int .i64 y.time, .int .i64 y.client] 24)).cell? ⟨w3.heap.size, 2, none⟩ = some (.int .i64 y.every) := by simp [go_sem]
              have k3 : (w3.alloc (Obj.cells #[.int .i64 y.kind, .int .i64 y.job, .int .i64 y.every, .int .i64 y.time, .int .i64 y.client] 24)).cell? ⟨w3.heap.size, 3, none⟩ = some (.int .i64 y.time) := by simp [go_sem]
              have k4 : (w3.alloc (Obj.cells #[.int .i64 y.kind, .int .i64 y.job, .int .i64 y.every, .int .i64 y.time, .int .i64 y.client] 24)).cell? ⟨w3.heap.size, 4, none⟩ = some (.int .i64 y.client) := by simp [go_sem]
              have h04 := h03.to hb4
              have hz4 : w3.heap.size < (w3.alloc (Obj.cells #[.int .i64 y.kind, .int .i64 y.job, .int .i64 y.every, .int .i64 y.time, .int .i64 y.client] 24)).heap.size := by simp
              clear hb4 h03 e1' d0' d1' d2' d3' d4'
              generalize (w3.alloc (Obj.cells #[.int .i64 y.kind, .int .i64 y.job, .int .i64 y.every, .int .i64 y.time, .int .i64 y.client] 24)) = w4 at *
              go_region
              go_wp2_with fail
              rw [show (((((((((((((w4.setCell ⟨w.heap.size + 1, 0, none⟩ (.int .i64 0)).setCell ⟨w.heap.size + 1, 1, none⟩ (.int .i64 0)).setCell ⟨w.heap.size + 1, 2, none⟩ (.int .i64 0)).setCell ⟨w.heap.size + 1, 3, none⟩ (.int .i64 0)).setCell ⟨w.heap.size + 1, 4, none⟩ (.int .i64 0)).setCell ⟨w.heap.size + 1, 5, none⟩ (.int .i64 0)).setCell ⟨w.heap.size + 1, 6, none⟩ (.int .i64 0)).setCell ⟨w.heap.size + 1, 7, none⟩ (.int .i64 0)).setCell ⟨w.heap.size + 1 + 1, 0, none⟩ (.int .i64 y.kind)).setCell ⟨w.heap.size + 1 + 1, 1, none⟩ (.int .i64 y.job)).setCell ⟨w.heap.size + 1 + 1, 2, none⟩ (.int .i64 y.every)).setCell ⟨w.heap.size + 1 + 1, 3, none⟩ (.int .i64 y.time)).setCell ⟨w.heap.size + 1 + 1, 4, none⟩ (.int .i64 y.client)).drew = ((w4.setCells (w.heap.size + 1) 0 [.int .i64 0, .int .i64 0, .int .i64 0, .int .i64 0, .int .i64 0, .int .i64 0, .int .i64 0, .int .i64 0]).setCells (w.heap.size + 1 + 1) 0 [.int .i64 y.kind, .int .i64 y.job, .int .i64 y.every, .int .i64 y.time, .int .i64 y.client]).drew from rfl]
              have hE : Onto w ((w4.setCells (w.heap.size + 1) 0 [.int .i64 0, .int .i64 0, .int .i64 0, .int .i64 0, .int .i64 0, .int .i64 0, .int .i64 0, .int .i64 0]).setCells (w.heap.size + 1 + 1) 0 [.int .i64 y.kind, .int .i64 y.job, .int .i64 y.every, .int .i64 y.time, .int .i64 y.client]).drew := (put_onto (by omega) (put_onto (by omega) h04)).draw
              obtain ⟨F1, F2⟩ := put2d (w := w4) (b := w.heap.size + 1) (b' := w.heap.size + 1 + 1) (vs := [.int .i64 0, .int .i64 0, .int .i64 0, .int .i64 0, .int .i64 0, .int .i64 0, .int .i64 0, .int .i64 0]) (us := [.int .i64 y.kind, .int .i64 y.job, .int .i64 y.every, .int .i64 y.time, .int .i64 y.client]) (by omega) (there8 r0d r1d r2d r3d r4d r5d r6d r7d) (there5 y0d y1d y2d y3d y4d)
              generalize ((w4.setCells (w.heap.size + 1) 0 [.int .i64 0, .int .i64 0, .int .i64 0, .int .i64 0, .int .i64 0, .int .i64 0, .int .i64 0, .int .i64 0]).setCells (w.heap.size + 1 + 1) 0 [.int .i64 y.kind, .int .i64 y.job, .int .i64 y.every, .int .i64 y.time, .int .i64 y.client]).drew = wf at F1 F2 hE ⊢
              have z0 := F1 0 _ rfl
              have z1 := F1 1 _ rfl
              have z2 := F1 2 _ rfl
              have z3 := F1 3 _ rfl
              have z4 := F1 4 _ rfl
              have z5 := F1 5 _ rfl
              have z6 := F1 6 _ rfl
              have z7 := F1 7 _ rfl
              have y0 := F2 0 _ rfl
              have y1 := F2 1 _ rfl
              have y2 := F2 2 _ rfl
              have y3 := F2 3 _ rfl
              have y4 := F2 4 _ rfl
              refine bodyPost_ret (v := .tuple #[.agg #[.int .i64 0, .int .i64 0, .int .i64 0, .int .i64 0, .int .i64 0, .int .i64 0, .int .i64 0, .int .i64 0], .agg #[.int .i64 y.kind, .int .i64 y.job, .int .i64 y.every, .int .i64 y.time, .int .i64 y.client], .int .i64 0]) (by simp [results, Try.results12, go_sem, z0, z1, z2, z3, z4, z5, z6, z7, y0, y1, y2, y3, y4]) rfl ?_
              rw [HR.out]
              exact ⟨rfl, hE⟩
            · rw [if_neg h4] at HR2
              have HR := Lib.hid HR2
              have hd : (y.kind != 4) = false := by simpa using h4
              clear HR2 h4
              go_wp2_with fail
              have hb4 : Onto w3 (w3.alloc (Obj.cells #[.int .i64 y.kind, .int .i64 y.job, .int .i64 y.every, .int .i64 y.time, .int .i64 y.client] 24)) := (Below.refl _ _).alloc (Nat.le_refl _) _
              have x0d := cellB hb4 x0c; have x1d := cellB hb4 x1c; have x2d := cellB hb4 x2c; have x3d := cellB hb4 x3c; have x4d := cellB hb4 x4c; have r0d := cellB hb4 r0c; have r1d := cellB hb4 r1c; have r2d := cellB hb4 r2c; have r3d := cellB hb4 r3c; have r4d := cellB hb4 r4c; have r5d := cellB hb4 r5c; have r6d := cellB hb4 r6c; have r7d := cellB hb4 r7c; have y0d := cellB hb4 y0c; have y1d := cellB hb4 y1c; have y2d := cellB hb4 y2c; have y3d := cellB hb4 y3c; have y4d := cellB hb4 y4c
              have fr0d := frozB hb4 r0c fr0c; have fr1d := frozB hb4 r1c fr1c; have fr2d := frozB hb4 r2c fr2c; have fr3d := frozB hb4 r3c fr3c; have fr4d := frozB hb4 r4c fr4c; have fr5d := frozB hb4 r5c fr5c; have fr6d := frozB hb4 r6c fr6c; have fr7d := frozB hb4 r7c fr7c; have fy0d := frozB hb4 y0c fy0c; have fy1d := frozB hb4 y1c fy1c; have fy2d := frozB hb4 y2c fy2c; have fy3d := frozB hb4 y3c fy3c; have fy4d := frozB hb4 y4c fy4c
              clear x0c x1c x2c x3c x4c r0c r1c r2c r3c r4c r5c r6c r7c y0c y1c y2c y3c y4c fr0c fr1c fr2c fr3c fr4c fr5c fr6c fr7c fy0c fy1c fy2c fy3c fy4c
              have k0 : (w3.alloc (Obj.cells #[.int .i64 y.kind, .int .i64 y.job, .int .i64 y.every, .int .i64 y.time, .int .i64 y.client] 24)).cell? ⟨w3.heap.size, 0, none⟩ = some (.int .i64 y.kind) := by simp [go_sem]
              have k1 : (w3.alloc (Obj.cells #[.int .i64 y.kind, .int .i64 y.job, .int .i64 y.every, .int .i64 y.time, .int .i64 y.client] 24)).cell? ⟨w3.heap.size, 1, none⟩ = some (.int .i64 y.job) := by simp [go_sem]
              have k2 : (w3.alloc (Obj.cells #[.int .i64 y.kind, .int .i64 y.job, .int .i64 y.every, .int .i64 y.time, .int .i64 y.client] 24)).cell? ⟨w3.heap.size, 2, none⟩ = some (.int .i64 y.every) := by simp [go_sem]
              have k3 : (w3.alloc (Obj.cells #[.int .i64 y.kind, .int .i64 y.job, .int .i64 y.every, .int .i64 y.time, .int .i64 y.client] 24)).cell? ⟨w3.heap.size, 3, none⟩ = some (.int .i64 y.time) := by simp [go_sem]
              have k4 : (w3.alloc (Obj.cells #[.int .i64 y.kind, .int .i64 y.job, .int .i64 y.every, .int .i64 y.time, .int .i64 y.client] 24)).cell? ⟨w3.heap.size, 4, none⟩ = some (.int .i64 y.client) := by simp [go_sem]
              have h04 := h03.to hb4
              have hz4 : w3.heap.size < (w3.alloc (Obj.cells #[.int .i64 y.kind, .int .i64 y.job, .int .i64 y.every, .int .i64 y.time, .int .i64 y.client] 24)).heap.size := by simp
              clear hb4 h03 e1' d0' d1' d2' d3' d4'
              generalize (w3.alloc (Obj.cells #[.int .i64 y.kind, .int .i64 y.job, .int .i64 y.every, .int .i64 y.time, .int .i64 y.client] 24)) = w4 at *
              go_region
              go_wp2_with fail
              rw [show (((((((((((((w4.setCell ⟨w.heap.size + 1, 0, none⟩ (.int .i64 1)).setCell ⟨w.heap.size + 1, 1, none⟩ (.int .i64 (j : Int))).setCell ⟨w.heap.size + 1, 2, none⟩ (.int .i64 0)).setCell ⟨w.heap.size + 1, 3, none⟩ (.int .i64 x.kind)).setCell ⟨w.heap.size + 1, 4, none⟩ (.int .i64 x.job)).setCell ⟨w.heap.size + 1, 5, none⟩ (.int .i64 x.every)).setCell ⟨w.heap.size + 1, 6, none⟩ (.int .i64 x.time)).setCell ⟨w.heap.size + 1, 7, none⟩ (.int .i64 x.client)).setCell ⟨w.heap.size + 1 + 1, 0, none⟩ (.int .i64 x.kind)).setCell ⟨w.heap.size + 1 + 1, 1, none⟩ (.int .i64 x.job)).setCell ⟨w.heap.size + 1 + 1, 2, none⟩ (.int .i64 x.every)).setCell ⟨w.heap.size + 1 + 1, 3, none⟩ (.int .i64 x.time)).setCell ⟨w.heap.size + 1 + 1, 4, none⟩ (.int .i64 x.client)).drew = ((w4.setCells (w.heap.size + 1) 0 [.int .i64 1, .int .i64 (j : Int), .int .i64 0, .int .i64 x.kind, .int .i64 x.job, .int .i64 x.every, .int .i64 x.time, .int .i64 x.client]).setCells (w.heap.size + 1 + 1) 0 [.int .i64 x.kind, .int .i64 x.job, .int .i64 x.every, .int .i64 x.time, .int .i64 x.client]).drew from rfl]
              have hE : Onto w ((w4.setCells (w.heap.size + 1) 0 [.int .i64 1, .int .i64 (j : Int), .int .i64 0, .int .i64 x.kind, .int .i64 x.job, .int .i64 x.every, .int .i64 x.time, .int .i64 x.client]).setCells (w.heap.size + 1 + 1) 0 [.int .i64 x.kind, .int .i64 x.job, .int .i64 x.every, .int .i64 x.time, .int .i64 x.client]).drew := (put_onto (by omega) (put_onto (by omega) h04)).draw
              obtain ⟨F1, F2⟩ := put2d (w := w4) (b := w.heap.size + 1) (b' := w.heap.size + 1 + 1) (vs := [.int .i64 1, .int .i64 (j : Int), .int .i64 0, .int .i64 x.kind, .int .i64 x.job, .int .i64 x.every, .int .i64 x.time, .int .i64 x.client]) (us := [.int .i64 x.kind, .int .i64 x.job, .int .i64 x.every, .int .i64 x.time, .int .i64 x.client]) (by omega) (there8 r0d r1d r2d r3d r4d r5d r6d r7d) (there5 y0d y1d y2d y3d y4d)
              generalize ((w4.setCells (w.heap.size + 1) 0 [.int .i64 1, .int .i64 (j : Int), .int .i64 0, .int .i64 x.kind, .int .i64 x.job, .int .i64 x.every, .int .i64 x.time, .int .i64 x.client]).setCells (w.heap.size + 1 + 1) 0 [.int .i64 x.kind, .int .i64 x.job, .int .i64 x.every, .int .i64 x.time, .int .i64 x.client]).drew = wf at F1 F2 hE ⊢
              have z0 := F1 0 _ rfl
              have z1 := F1 1 _ rfl
              have z2 := F1 2 _ rfl
              have z3 := F1 3 _ rfl
              have z4 := F1 4 _ rfl
              have z5 := F1 5 _ rfl
              have z6 := F1 6 _ rfl
              have z7 := F1 7 _ rfl
              have y0 := F2 0 _ rfl
              have y1 := F2 1 _ rfl
              have y2 := F2 2 _ rfl
              have y3 := F2 3 _ rfl
              have y4 := F2 4 _ rfl
              refine bodyPost_ret (v := .tuple #[.agg #[.int .i64 1, .int .i64 (j : Int), .int .i64 0, .int .i64 x.kind, .int .i64 x.job, .int .i64 x.every, .int .i64 x.time, .int .i64 x.client], .agg #[.int .i64 x.kind, .int .i64 x.job, .int .i64 x.every, .int .i64 x.time, .int .i64 x.client], .int .i64 0]) (by simp [results, Try.results12, go_sem, z0, z1, z2, z3, z4, z5, z6, z7, y0, y1, y2, y3, y4]) rfl ?_
              rw [HR.out]
              exact ⟨rfl, hE⟩
          · obtain ⟨b', off', v, hA', _, hv, g0, g1, hsv, hvl⟩ := hu2.atU (i := i - 1) (by omega)
            injection hA' with hA'
            injection hA' with e1' e2' _
            subst e1'; subst e2'
            have hgv := HG.out.ok v.u (List.mem_map.2 ⟨v, List.mem_of_getElem? hv, rfl⟩)
            have hvn : v.n = 60 := by rw [← hvl]; exact hgv.len
            rw [hvn] at hsv g1
            obtain ⟨b2, off2, y', hA2, hyz', hy', f0, f1, f2, f3, f4⟩ := hsv.atE hj60
            rw [hA2] at g1
            rw [uniAt_eq (unis_at hv), show cellAt v.u.cells j = y' from cellAt_eq hy'] at hr
            have hpos' : (0 : Int) < (i : Int) := by omega
            clear hsv hs hv hy' hgv hA1 hA2
            by_cases hyx : y' = x
            · have hd2 : (!(y'.kind == x.kind && y'.job == x.job && y'.every == x.every && y'.time == x.time && y'.client == x.client)) = false := by simp [hyx]
              rw [if_neg (by simp [hyx])] at hr
              have HR1 := Lib.hid hr
              clear hr hyx
              go_wp2_with fail
              go_quiet (fail)
              clear f0 f1 f2 f3 f4 g0 g1
              obtain ⟨w3, hw3⟩ : ∃ w3, w3 = w2.drewN nq := ⟨_, rfl⟩
              rw [← hw3]
              have hb3 : Onto w2 w3 := hw3 ▸ Onto.draws (Below.refl _ _) nq
              clear hw3
              have x0c := cellB hb3 x0b; have x1c := cellB hb3 x1b; have x2c := cellB hb3 x2b; have x3c := cellB hb3 x3b; have x4c := cellB hb3 x4b; have r0c := cellB hb3 r0b; have r1c := cellB hb3 r1b; have r2c := cellB hb3 r2b; have r3c := cellB hb3 r3b; have r4c := cellB hb3 r4b; have r5c := cellB hb3 r5b; have r6c := cellB hb3 r6b; have r7c := cellB hb3 r7b; have y0c := cellB hb3 y0b; have y1c := cellB hb3 y1b; have y2c := cellB hb3 y2b; have y3c := cellB hb3 y3b; have y4c := cellB hb3 y4b
              have fr0c := frozB hb3 r0b fr0b; have fr1c := frozB hb3 r1b fr1b; have fr2c := frozB hb3 r2b fr2b; have fr3c := frozB hb3 r3b fr3b; have fr4c := frozB hb3 r4b fr4b; have fr5c := frozB hb3 r5b fr5b; have fr6c := frozB hb3 r6b fr6b; have fr7c := frozB hb3 r7b fr7b; have fy0c := frozB hb3 y0b fy0b; have fy1c := frozB hb3 y1b fy1b; have fy2c := frozB hb3 y2b fy2b; have fy3c := frozB hb3 y3b fy3b; have fy4c := frozB hb3 y4b fy4b
              clear x0b x1b x2b x3b x4b r0b r1b r2b r3b r4b r5b r6b r7b y0b y1b y2b y3b y4b fr0b fr1b fr2b fr3b fr4b fr5b fr6b fr7b fy0b fy1b fy2b fy3b fy4b
              have h03 := h02.to hb3
              have hz3 : w.heap.size + 1 + 1 < w3.heap.size := World.block_lt_of_cell? _ _ y0c
              have e1' := cellB hb3 e1
              have d0' := cellB hb3 d0; have d1' := cellB hb3 d1; have d2' := cellB hb3 d2; have d3' := cellB hb3 d3; have d4' := cellB hb3 d4
              have HR2 := HR1.out
              clear HR1 e0 e1 d0 d1 d2 d3 d4 h02 hz2 hb3
              by_cases h4 : y.kind ≠ 4
              · rw [if_pos h4] at HR2
                have HR := Lib.hid HR2
                have hd : (y.kind != 4) = true := by simpa using h4
                clear HR2 h4
                go_wp2_with fail
                have hb4 : Onto w3 (w3.alloc (Obj.cells #[.int .i64 y.kind, .int .i64 y.job, .int .i64 y.every, .int .i64 y.time, .int .i64 y.client] 24)) := (Below.refl _ _).alloc (Nat.le_refl _) _
                have x0d := cellB hb4 x0c; have x1d := cellB hb4 x1c; have x2d := cellB hb4 x2c; have x3d := cellB hb4 x3c; have x4d := cellB hb4 x4c; have r0d := cellB hb4 r0c; have r1d := cellB hb4 r1c; have r2d := cellB hb4 r2c; have r3d := cellB hb4 r3c; have r4d := cellB hb4 r4c; have r5d := cellB hb4 r5c; have r6d := cellB hb4 r6c; have r7d := cellB hb4 r7c; have y0d := cellB hb4 y0c; have y1d := cellB hb4 y1c; have y2d := cellB hb4 y2c; have y3d := cellB hb4 y3c; have y4d := cellB hb4 y4c
                have fr0d := frozB hb4 r0c fr0c; have fr1d := frozB hb4 r1c fr1c; have fr2d := frozB hb4 r2c fr2c; have fr3d := frozB hb4 r3c fr3c; have fr4d := frozB hb4 r4c fr4c; have fr5d := frozB hb4 r5c fr5c; have fr6d := frozB hb4 r6c fr6c; have fr7d := frozB hb4 r7c fr7c; have fy0d := frozB hb4 y0c fy0c; have fy1d := frozB hb4 y1c fy1c; have fy2d := frozB hb4 y2c fy2c; have fy3d := frozB hb4 y3c fy3c; have fy4d := frozB hb4 y4c fy4c
                clear x0c x1c x2c x3c x4c r0c r1c r2c r3c r4c r5c r6c r7c y0c y1c y2c y3c y4c fr0c fr1c fr2c fr3c fr4c fr5c fr6c fr7c fy0c fy1c fy2c fy3c fy4c
                have k0 : (w3.alloc (Obj.cells #[.int .i64 y.kind, .int .i64 y.job, .int .i64 y.every, .int .i64 y.time, .int .i64 y.client] 24)).cell? ⟨w3.heap.size, 0, none⟩ = some (.int .i64 y.kind) := by simp [go_sem]
                have k1 : (w3.alloc (Obj.cells #[.int .i64 y.kind, .int .i64 y.job, .int .i64 y.every, .int .i64 y.time, .int .i64 y.client] 24)).cell? ⟨w3.heap.size, 1, none⟩ = some (.int .i64 y.job) := by simp [go_sem]
                have k2 : (w3.alloc (Obj.cells #[.int .i64 y.kind, .int .i64 y.job, .int .i64 y.every, .int .i64 y.time, .int .i64 y.client] 24)).cell? ⟨w3.heap.size, 2, none⟩ = some (.int .i64 y.every) := by simp [go_sem]
                have k3 : (w3.alloc (Obj.cells #[.int .i64 y.kind, .int .i64 y.job, .int .i64 y.every, .int .i64 y.time, .int .i64 y.client] 24)).cell? ⟨w3.heap.size, 3, none⟩ = some (.int .i64 y.time) := by simp [go_sem]
                have k4 : (w3.alloc (Obj.cells #[.int .i64 y.kind, .int .i64 y.job, .int .i64 y.every, .int .i64 y.time, .int .i64 y.client] 24)).cell? ⟨w3.heap.size, 4, none⟩ = some (.int .i64 y.client) := by simp [go_sem]
                have h04 := h03.to hb4
                have hz4 : w3.heap.size < (w3.alloc (Obj.cells #[.int .i64 y.kind, .int .i64 y.job, .int .i64 y.every, .int .i64 y.time, .int .i64 y.client] 24)).heap.size := by simp
                clear hb4 h03 e1' d0' d1' d2' d3' d4'
                generalize (w3.alloc (Obj.cells #[.int .i64 y.kind, .int .i64 y.job, .int .i64 y.every, .int .i64 y.time, .int .i64 y.client] 24)) = w4 at *
                go_region
                go_wp2_with fail
                rw [show (((((((((((((w4.setCell ⟨w.heap.size + 1, 0, none⟩ (.int .i64 0)).setCell ⟨w.heap.size + 1, 1, none⟩ (.int .i64 0)).setCell ⟨w.heap.size + 1, 2, none⟩ (.int .i64 0)).setCell ⟨w.heap.size + 1, 3, none⟩ (.int .i64 0)).setCell ⟨w.heap.size + 1, 4, none⟩ (.int .i64 0)).setCell ⟨w.heap.size + 1, 5, none⟩ (.int .i64 0)).setCell ⟨w.heap.size + 1, 6, none⟩ (.int .i64 0)).setCell ⟨w.heap.size + 1, 7, none⟩ (.int .i64 0)).setCell ⟨w.heap.size + 1 + 1, 0, none⟩ (.int .i64 y.kind)).setCell ⟨w.heap.size + 1 + 1, 1, none⟩ (.int .i64 y.job)).setCell ⟨w.heap.size + 1 + 1, 2, none⟩ (.int .i64 y.every)).setCell ⟨w.heap.size + 1 + 1, 3, none⟩ (.int .i64 y.time)).setCell ⟨w.heap.size + 1 + 1, 4, none⟩ (.int .i64 y.client)).drew = ((w4.setCells (w.heap.size + 1) 0 [.int .i64 0, .int .i64 0, .int .i64 0, .int .i64 0, .int .i64 0, .int .i64 0, .int .i64 0, .int .i64 0]).setCells (w.heap.size + 1 + 1) 0 [.int .i64 y.kind, .int .i64 y.job, .int .i64 y.every, .int .i64 y.time, .int .i64 y.client]).drew from rfl]
                have hE : Onto w ((w4.setCells (w.heap.size + 1) 0 [.int .i64 0, .int .i64 0, .int .i64 0, .int .i64 0, .int .i64 0, .int .i64 0, .int .i64 0, .int .i64 0]).setCells (w.heap.size + 1 + 1) 0 [.int .i64 y.kind, .int .i64 y.job, .int .i64 y.every, .int .i64 y.time, .int .i64 y.client]).drew := (put_onto (by omega) (put_onto (by omega) h04)).draw
                obtain ⟨F1, F2⟩ := put2d (w := w4) (b := w.heap.size + 1) (b' := w.heap.size + 1 + 1) (vs := [.int .i64 0, .int .i64 0, .int .i64 0, .int .i64 0, .int .i64 0, .int .i64 0, .int .i64 0, .int .i64 0]) (us := [.int .i64 y.kind, .int .i64 y.job, .int .i64 y.every, .int .i64 y.time, .int .i64 y.client]) (by omega) (there8 r0d r1d r2d r3d r4d r5d r6d r7d) (there5 y0d y1d y2d y3d y4d)
                generalize ((w4.setCells (w.heap.size + 1) 0 [.int .i64 0, .int .i64 0, .int .i64 0, .int .i64 0, .int .i64 0, .int .i64 0, .int .i64 0, .int .i64 0]).setCells (w.heap.size + 1 + 1) 0 [.int .i64 y.kind, .int .i64 y.job, .int .i64 y.every, .int .i64 y.time, .int .i64 y.client]).drew = wf at F1 F2 hE ⊢
                have z0 := F1 0 _ rfl
                have z1 := F1 1 _ rfl
                have z2 := F1 2 _ rfl
                have z3 := F1 3 _ rfl
                have z4 := F1 4 _ rfl
                have z5 := F1 5 _ rfl
                have z6 := F1 6 _ rfl
                have z7 := F1 7 _ rfl
                have y0 := F2 0 _ rfl
                have y1 := F2 1 _ rfl
                have y2 := F2 2 _ rfl
                have y3 := F2 3 _ rfl
                have y4 := F2 4 _ rfl
                refine bodyPost_ret (v := .tuple #[.agg #[.int .i64 0, .int .i64 0, .int .i64 0, .int .i64 0, .int .i64 0, .int .i64 0, .int .i64 0, .int .i64 0], .agg #[.int .i64 y.kind, .int .i64 y.job, .int .i64 y.every, .int .i64 y.time, .int .i64 y.client], .int .i64 0]) (by simp [results, Try.results12, go_sem, z0, z1, z2, z3, z4, z5, z6, z7, y0, y1, y2, y3, y4]) rfl ?_
                rw [HR.out]
                exact ⟨rfl, hE⟩
              · rw [if_neg h4] at HR2
                have HR := Lib.hid HR2
                have hd : (y.kind != 4) = false := by simpa using h4
                clear HR2 h4
                go_wp2_with fail
                have hb4 : Onto w3 (w3.alloc (Obj.cells #[.int .i64 y.kind, .int .i64 y.job, .int .i64 y.every, .int .i64 y.time, .int .i64 y.client] 24)) := (Below.refl _ _).alloc (Nat.le_refl _) _
                have x0d := cellB hb4 x0c; have x1d := cellB hb4 x1c; have x2d := cellB hb4 x2c; have x3d := cellB hb4 x3c; have x4d := cellB hb4 x4c; have r0d := cellB hb4 r0c; have r1d := cellB hb4 r1c; have r2d := cellB hb4 r2c; have r3d := cellB hb4 r3c; have r4d := cellB hb4 r4c; have r5d := cellB hb4 r5c; have r6d := cellB hb4 r6c; have r7d := cellB hb4 r7c; have y0d := cellB hb4 y0c; have y1d := cellB hb4 y1c; have y2d := cellB hb4 y2c; have y3d := cellB hb4 y3c; have y4d := cellB hb4 y4c
                have fr0d := frozB hb4 r0c fr0c; have fr1d := frozB hb4 r1c fr1c; have fr2d := frozB hb4 r2c fr2c; have fr3d := frozB hb4 r3c fr3c; have fr4d := frozB hb4 r4c fr4c; have fr5d := frozB hb4 r5c fr5c; have fr6d := frozB hb4 r6c fr6c; have fr7d := frozB hb4 r7c fr7c; have fy0d := frozB hb4 y0c fy0c; have fy1d := frozB hb4 y1c fy1c; have fy2d := frozB hb4 y2c fy2c; have fy3d := frozB hb4 y3c fy3c; have fy4d := frozB hb4 y4c fy4c
                clear x0c x1c x2c x3c x4c r0c r1c r2c r3c r4c r5c r6c r7c y0c y1c y2c y3c y4c fr0c fr1c fr2c fr3c fr4c fr5c fr6c fr7c fy0c fy1c fy2c fy3c fy4c
                have k0 : (w3.alloc (Obj.cells #[.int .i64 y.kind, .int .i64 y.job, .int .i64 y.every, .int .i64 y.time, .int .i64 y.client] 24)).cell? ⟨w3.heap.size, 0, none⟩ = some (.int .i64 y.kind) := by simp [go_sem]
                have k1 : (w3.alloc (Obj.cells #[.int .i64 y.kind, .int .i64 y.job, .int .i64 y.every, .int .i64 y.time, .int .i64 y.client] 24)).cell? ⟨w3.heap.size, 1, none⟩ = some (.int .i64 y.job) := by simp [go_sem]
                have k2 : (w3.alloc (Obj.cells #[.int .i64 y.kind, .int .i64 y.job, .int .i64 y.every, .int .i64 y.time, .int .i64 y.client] 24)).cell? ⟨w3.heap.size, 2, none⟩ = some (.int .i64 y.every) := by simp [go_sem]
                have k3 : (w3.alloc (Obj.cells #[.int .i64 y.kind, .int .i64 y.job, .int .i64 y.every, .int .i64 y.time, .int .i64 y.client] 24)).cell? ⟨w3.heap.size, 3, none⟩ = some (.int .i64 y.time) := by simp [go_sem]
                have k4 : (w3.alloc (Obj.cells #[.int .i64 y.kind, .int .i64 y.job, .int .i64 y.every, .int .i64 y.time, .int .i64 y.client] 24)).cell? ⟨w3.heap.size, 4, none⟩ = some (.int .i64 y.client) := by simp [go_sem]
                have h04 := h03.to hb4
                have hz4 : w3.heap.size < (w3.alloc (Obj.cells #[.int .i64 y.kind, .int .i64 y.job, .int .i64 y.every, .int .i64 y.time, .int .i64 y.client] 24)).heap.size := by simp
                clear hb4 h03 e1' d0' d1' d2' d3' d4'
                generalize (w3.alloc (Obj.cells #[.int .i64 y.kind, .int .i64 y.job, .int .i64 y.every, .int .i64 y.time, .int .i64 y.client] 24)) = w4 at *
                go_region
                go_wp2_with fail
                rw [show (((((((((((((w4.setCell ⟨w.heap.size + 1, 0, none⟩ (.int .i64 1)).setCell ⟨w.heap.size + 1, 1, none⟩ (.int .i64 (j : Int))).setCell ⟨w.heap.size + 1, 2, none⟩ (.int .i64 0)).setCell ⟨w.heap.size + 1, 3, none⟩ (.int .i64 x.kind)).setCell ⟨w.heap.size + 1, 4, none⟩ (.int .i64 x.job)).setCell ⟨w.heap.size + 1, 5, none⟩ (.int .i64 x.every)).setCell ⟨w.heap.size + 1, 6, none⟩ (.int .i64 x.time)).setCell ⟨w.heap.size + 1, 7, none⟩ (.int .i64 x.client)).setCell ⟨w.heap.size + 1 + 1, 0, none⟩ (.int .i64 x.kind)).setCell ⟨w.heap.size + 1 + 1, 1, none⟩ (.int .i64 x.job)).setCell ⟨w.heap.size + 1 + 1, 2, none⟩ (.int .i64 x.every)).setCell ⟨w.heap.size + 1 + 1, 3, none⟩ (.int .i64 x.time)).setCell ⟨w.heap.size + 1 + 1, 4, none⟩ (.int .i64 x.client)).drew = ((w4.setCells (w.heap.size + 1) 0 [.int .i64 1, .int .i64 (j : Int), .int .i64 0, .int .i64 x.kind, .int .i64 x.job, .int .i64 x.every, .int .i64 x.time, .int .i64 x.client]).setCells (w.heap.size + 1 + 1) 0 [.int .i64 x.kind, .int .i64 x.job, .int .i64 x.every, .int .i64 x.time, .int .i64 x.client]).drew from rfl]
                have hE : Onto w ((w4.setCells (w.heap.size + 1) 0 [.int .i64 1, .int .i64 (j : Int), .int .i64 0, .int .i64 x.kind, .int .i64 x.job, .int .i64 x.every, .int .i64 x.time, .int .i64 x.client]).setCells (w.heap.size + 1 + 1) 0 [.int .i64 x.kind, .int .i64 x.job, .int .i64 x.every, .int .i64 x.time, .int .i64 x.client]).drew := (put_onto (by omega) (put_onto (by omega) h04)).draw
                obtain ⟨F1, F2⟩ := put2d (w := w4) (b := w.heap.size + 1) (b' := w.heap.size + 1 + 1) (vs := [.int .i64 1, .int .i64 (j : Int), .int .i64 0, .int .i64 x.kind, .int .i64 x.job, .int .i64 x.every, .int .i64 x.time, .int .i64 x.client]) (us := [.int .i64 x.kind, .int .i64 x.job, .int .i64 x.every, .int .i64 x.time, .int .i64 x.client]) (by omega) (there8 r0d r1d r2d r3d r4d r5d r6d r7d) (there5 y0d y1d y2d y3d y4d)
                generalize ((w4.setCells (w.heap.size + 1) 0 [.int .i64 1, .int .i64 (j : Int), .int .i64 0, .int .i64 x.kind, .int .i64 x.job, .int .i64 x.every, .int .i64 x.time, .int .i64 x.client]).setCells (w.heap.size + 1 + 1) 0 [.int .i64 x.kind, .int .i64 x.job, .int .i64 x.every, .int .i64 x.time, .int .i64 x.client]).drew = wf at F1 F2 hE ⊢
                have z0 := F1 0 _ rfl
                have z1 := F1 1 _ rfl
                have z2 := F1 2 _ rfl
                have z3 := F1 3 _ rfl
                have z4 := F1 4 _ rfl
                have z5 := F1 5 _ rfl
                have z6 := F1 6 _ rfl
                have z7 := F1 7 _ rfl
                have y0 := F2 0 _ rfl
                have y1 := F2 1 _ rfl
                have y2 := F2 2 _ rfl
                have y3 := F2 3 _ rfl
                have y4 := F2 4 _ rfl
                refine bodyPost_ret (v := .tuple #[.agg #[.int .i64 1, .int .i64 (j : Int), .int .i64 0, .int .i64 x.kind, .int .i64 x.job, .int .i64 x.every, .int .i64 x.time, .int .i64 x.client], .agg #[.int .i64 x.kind, .int .i64 x.job, .int .i64 x.every, .int .i64 x.time, .int .i64 x.client], .int .i64 0]) (by simp [results, Try.results12, go_sem, z0, z1, z2, z3, z4, z5, z6, z7, y0, y1, y2, y3, y4]) rfl ?_
                rw [HR.out]
                exact ⟨rfl, hE⟩
            · have hd2 : (!(y'.kind == x.kind && y'.job == x.job && y'.every == x.every && y'.time == x.time && y'.client == x.client)) = true := by
                rw [entry_eq_iff] at hyx
                simp only [Bool.not_eq_true', Bool.and_eq_false_iff, beq_eq_false_iff_ne]
                omega
              rw [if_pos ⟨by omega, hyx⟩] at hr
              have HR := Lib.hid hr
              clear hr hyx
              go_wp2_with fail
              go_quiet (fail)
              obtain ⟨w3, hw3⟩ : ∃ w3, w3 = w2.drewN nq := ⟨_, rfl⟩
              rw [← hw3]
              have hb3 : Onto w2 w3 := hw3 ▸ Onto.draws (Below.refl _ _) nq
              clear hw3 d0 d1 d2 d3 d4 f0 f1 f2 f3 f4 g0 g1 e0 e1
              have x0c := cellB hb3 x0b; have x1c := cellB hb3 x1b; have x2c := cellB hb3 x2b; have x3c := cellB hb3 x3b; have x4c := cellB hb3 x4b; have r0c := cellB hb3 r0b; have r1c := cellB hb3 r1b; have r2c := cellB hb3 r2b; have r3c := cellB hb3 r3b; have r4c := cellB hb3 r4b; have r5c := cellB hb3 r5b; have r6c := cellB hb3 r6b; have r7c := cellB hb3 r7b; have y0c := cellB hb3 y0b; have y1c := cellB hb3 y1b; have y2c := cellB hb3 y2b; have y3c := cellB hb3 y3b; have y4c := cellB hb3 y4b
              have fr0c := frozB hb3 r0b fr0b; have fr1c := frozB hb3 r1b fr1b; have fr2c := frozB hb3 r2b fr2b; have fr3c := frozB hb3 r3b fr3b; have fr4c := frozB hb3 r4b fr4b; have fr5c := frozB hb3 r5b fr5b; have fr6c := frozB hb3 r6b fr6b; have fr7c := frozB hb3 r7b fr7b; have fy0c := frozB hb3 y0b fy0b; have fy1c := frozB hb3 y1b fy1b; have fy2c := frozB hb3 y2b fy2b; have fy3c := frozB hb3 y3b fy3b; have fy4c := frozB hb3 y4b fy4b
              clear x0b x1b x2b x3b x4b r0b r1b r2b r3b r4b r5b r6b r7b y0b y1b y2b y3b y4b fr0b fr1b fr2b fr3b fr4b fr5b fr6b fr7b fy0b fy1b fy2b fy3b fy4b
              have h03 := h02.to hb3
              have hz3 : w.heap.size + 1 + 1 < w3.heap.size := World.block_lt_of_cell? _ _ y0c
              clear hb3 h02 hz2
              go_wp2_with fail
              rw [show (((((((((((((w3.setCell ⟨w.heap.size + 1, 0, none⟩ (.int .i64 0)).setCell ⟨w.heap.size + 1, 1, none⟩ (.int .i64 0)).setCell ⟨w.heap.size + 1, 2, none⟩ (.int .i64 0)).setCell ⟨w.heap.size + 1, 3, none⟩ (.int .i64 0)).setCell ⟨w.heap.size + 1, 4, none⟩ (.int .i64 0)).setCell ⟨w.heap.size + 1, 5, none⟩ (.int .i64 0)).setCell ⟨w.heap.size + 1, 6, none⟩ (.int .i64 0)).setCell ⟨w.heap.size + 1, 7, none⟩ (.int .i64 0)).setCell ⟨w.heap.size + 1 + 1, 0, none⟩ (.int .i64 0)).setCell ⟨w.heap.size + 1 + 1, 1, none⟩ (.int .i64 0)).setCell ⟨w.heap.size + 1 + 1, 2, none⟩ (.int .i64 0)).setCell ⟨w.heap.size + 1 + 1, 3, none⟩ (.int .i64 0)).setCell ⟨w.heap.size + 1 + 1, 4, none⟩ (.int .i64 0)) = (w3.setCells (w.heap.size + 1) 0 [.int .i64 0, .int .i64 0, .int .i64 0, .int .i64 0, .int .i64 0, .int .i64 0, .int .i64 0, .int .i64 0]).setCells (w.heap.size + 1 + 1) 0 [.int .i64 0, .int .i64 0, .int .i64 0, .int .i64 0, .int .i64 0] from rfl]
              have hE : Onto w ((w3.setCells (w.heap.size + 1) 0 [.int .i64 0, .int .i64 0, .int .i64 0, .int .i64 0, .int .i64 0, .int .i64 0, .int .i64 0, .int .i64 0]).setCells (w.heap.size + 1 + 1) 0 [.int .i64 0, .int .i64 0, .int .i64 0, .int .i64 0, .int .i64 0]) := put_onto (by omega) (put_onto (by omega) h03)
              obtain ⟨F1, F2⟩ := put2 (w := w3) (b := w.heap.size + 1) (b' := w.heap.size + 1 + 1) (vs := [.int .i64 0, .int .i64 0, .int .i64 0, .int .i64 0, .int .i64 0, .int .i64 0, .int .i64 0, .int .i64 0]) (us := [.int .i64 0, .int .i64 0, .int .i64 0, .int .i64 0, .int .i64 0]) (by omega) (there8 r0c r1c r2c r3c r4c r5c r6c r7c) (there5 y0c y1c y2c y3c y4c)
              generalize (w3.setCells (w.heap.size + 1) 0 [.int .i64 0, .int .i64 0, .int .i64 0, .int .i64 0, .int .i64 0, .int .i64 0, .int .i64 0, .int .i64 0]).setCells (w.heap.size + 1 + 1) 0 [.int .i64 0, .int .i64 0, .int .i64 0, .int .i64 0, .int .i64 0] = wf at F1 F2 hE ⊢
              have z0 := F1 0 _ rfl
              have z1 := F1 1 _ rfl
              have z2 := F1 2 _ rfl
              have z3 := F1 3 _ rfl
              have z4 := F1 4 _ rfl
              have z5 := F1 5 _ rfl
              have z6 := F1 6 _ rfl
              have z7 := F1 7 _ rfl
              have y0 := F2 0 _ rfl
              have y1 := F2 1 _ rfl
              have y2 := F2 2 _ rfl
              have y3 := F2 3 _ rfl
              have y4 := F2 4 _ rfl
              refine bodyPost_ret (v := .tuple #[.agg #[.int .i64 0, .int .i64 0, .int .i64 0, .int .i64 0, .int .i64 0, .int .i64 0, .int .i64 0, .int .i64 0], .agg #[.int .i64 0, .int .i64 0, .int .i64 0, .int .i64 0, .int .i64 0], .int .i64 7]) (by simp [results, Try.results12, go_sem, z0, z1, z2, z3, z4, z5, z6, z7, y0, y1, y2, y3, y4]) rfl ?_
              rw [HR.out]
              exact ⟨rfl, hE⟩
      · rw [if_pos h20] at hr
        have HR := Lib.hid hr
        have hd : (q2 != 0) = true := by simpa using h20
        clear hr HR1 h20 hu2
        go_wp2_with fail
        rw [show (((((((((((((w2.setCell ⟨w.heap.size + 1, 0, none⟩ (.int .i64 0)).setCell ⟨w.heap.size + 1, 1, none⟩ (.int .i64 0)).setCell ⟨w.heap.size + 1, 2, none⟩ (.int .i64 0)).setCell ⟨w.heap.size + 1, 3, none⟩ (.int .i64 0)).setCell ⟨w.heap.size + 1, 4, none⟩ (.int .i64 0)).setCell ⟨w.heap.size + 1, 5, none⟩ (.int .i64 0)).setCell ⟨w.heap.size + 1, 6, none⟩ (.int .i64 0)).setCell ⟨w.heap.size + 1, 7, none⟩ (.int .i64 0)).setCell ⟨w.heap.size + 1 + 1, 0, none⟩ (.int .i64 0)).setCell ⟨w.heap.size + 1 + 1, 1, none⟩ (.int .i64 0)).setCell ⟨w.heap.size + 1 + 1, 2, none⟩ (.int .i64 0)).setCell ⟨w.heap.size + 1 + 1, 3, none⟩ (.int .i64 0)).setCell ⟨w.heap.size + 1 + 1, 4, none⟩ (.int .i64 0)) = (w2.setCells (w.heap.size + 1) 0 [.int .i64 0, .int .i64 0, .int .i64 0, .int .i64 0, .int .i64 0, .int .i64 0, .int .i64 0, .int .i64 0]).setCells (w.heap.size + 1 + 1) 0 [.int .i64 0, .int .i64 0, .int .i64 0, .int .i64 0, .int .i64 0] from rfl]
        have hE : Onto w ((w2.setCells (w.heap.size + 1) 0 [.int .i64 0, .int .i64 0, .int .i64 0, .int .i64 0, .int .i64 0, .int .i64 0, .int .i64 0, .int .i64 0]).setCells (w.heap.size + 1 + 1) 0 [.int .i64 0, .int .i64 0, .int .i64 0, .int .i64 0, .int .i64 0]) := put_onto (by omega) (put_onto (by omega) h02)
        obtain ⟨F1, F2⟩ := put2 (w := w2) (b := w.heap.size + 1) (b' := w.heap.size + 1 + 1) (vs := [.int .i64 0, .int .i64 0, .int .i64 0, .int .i64 0, .int .i64 0, .int .i64 0, .int .i64 0, .int .i64 0]) (us := [.int .i64 0, .int .i64 0, .int .i64 0, .int .i64 0, .int .i64 0]) (by omega) (there8 r0b r1b r2b r3b r4b r5b r6b r7b) (there5 y0b y1b y2b y3b y4b)
        generalize (w2.setCells (w.heap.size + 1) 0 [.int .i64 0, .int .i64 0, .int .i64 0, .int .i64 0, .int .i64 0, .int .i64 0, .int .i64 0, .int .i64 0]).setCells (w.heap.size + 1 + 1) 0 [.int .i64 0, .int .i64 0, .int .i64 0, .int .i64 0, .int .i64 0] = wf at F1 F2 hE ⊢
        have z0 := F1 0 _ rfl
        have z1 := F1 1 _ rfl
        have z2 := F1 2 _ rfl
        have z3 := F1 3 _ rfl
        have z4 := F1 4 _ rfl
        have z5 := F1 5 _ rfl
        have z6 := F1 6 _ rfl
        have z7 := F1 7 _ rfl
        have y0 := F2 0 _ rfl
        have y1 := F2 1 _ rfl
        have y2 := F2 2 _ rfl
        have y3 := F2 3 _ rfl
        have y4 := F2 4 _ rfl
        refine bodyPost_ret (v := .tuple #[.agg #[.int .i64 0, .int .i64 0, .int .i64 0, .int .i64 0, .int .i64 0, .int .i64 0, .int .i64 0, .int .i64 0], .agg #[.int .i64 0, .int .i64 0, .int .i64 0, .int .i64 0, .int .i64 0], .int .i64 q2]) (by simp [results, Try.results12, go_sem, z0, z1, z2, z3, z4, z5, z6, z7, y0, y1, y2, y3, y4]) rfl ?_
        rw [HR.out]
        exact ⟨rfl, hE⟩
  · have hr := HR0.out
    rw [if_pos h0] at hr
    have HR := Lib.hid hr
    have hd : (q != 0) = true := by simpa using h0
    clear hr HR0 h0 hu1
    go_wp2_with fail
    rw [show (((((((((((((w1.setCell ⟨w.heap.size + 1, 0, none⟩ (.int .i64 0)).setCell ⟨w.heap.size + 1, 1, none⟩ (.int .i64 0)).setCell ⟨w.heap.size + 1, 2, none⟩ (.int .i64 0)).setCell ⟨w.heap.size + 1, 3, none⟩ (.int .i64 0)).setCell ⟨w.heap.size + 1, 4, none⟩ (.int .i64 0)).setCell ⟨w.heap.size + 1, 5, none⟩ (.int .i64 0)).setCell ⟨w.heap.size + 1, 6, none⟩ (.int .i64 0)).setCell ⟨w.heap.size + 1, 7, none⟩ (.int .i64 0)).setCell ⟨w.heap.size + 1 + 1, 0, none⟩ (.int .i64 0)).setCell ⟨w.heap.size + 1 + 1, 1, none⟩ (.int .i64 0)).setCell ⟨w.heap.size + 1 + 1, 2, none⟩ (.int .i64 0)).setCell ⟨w.heap.size + 1 + 1, 3, none⟩ (.int .i64 0)).setCell ⟨w.heap.size + 1 + 1, 4, none⟩ (.int .i64 0)) = (w1.setCells (w.heap.size + 1) 0 [.int .i64 0, .int .i64 0, .int .i64 0, .int .i64 0, .int .i64 0, .int .i64 0, .int .i64 0, .int .i64 0]).setCells (w.heap.size + 1 + 1) 0 [.int .i64 0, .int .i64 0, .int .i64 0, .int .i64 0, .int .i64 0] from rfl]
    have hE : Onto w ((w1.setCells (w.heap.size + 1) 0 [.int .i64 0, .int .i64 0, .int .i64 0, .int .i64 0, .int .i64 0, .int .i64 0, .int .i64 0, .int .i64 0]).setCells (w.heap.size + 1 + 1) 0 [.int .i64 0, .int .i64 0, .int .i64 0, .int .i64 0, .int .i64 0]) := put_onto (by omega) (put_onto (by omega) h01)
    obtain ⟨F1, F2⟩ := put2 (w := w1) (b := w.heap.size + 1) (b' := w.heap.size + 1 + 1) (vs := [.int .i64 0, .int .i64 0, .int .i64 0, .int .i64 0, .int .i64 0, .int .i64 0, .int .i64 0, .int .i64 0]) (us := [.int .i64 0, .int .i64 0, .int .i64 0, .int .i64 0, .int .i64 0]) (by omega) (there8 r0a r1a r2a r3a r4a r5a r6a r7a) (there5 y0a y1a y2a y3a y4a)
    generalize (w1.setCells (w.heap.size + 1) 0 [.int .i64 0, .int .i64 0, .int .i64 0, .int .i64 0, .int .i64 0, .int .i64 0, .int .i64 0, .int .i64 0]).setCells (w.heap.size + 1 + 1) 0 [.int .i64 0, .int .i64 0, .int .i64 0, .int .i64 0, .int .i64 0] = wf at F1 F2 hE ⊢
    have z0 := F1 0 _ rfl
    have z1 := F1 1 _ rfl
    have z2 := F1 2 _ rfl
    have z3 := F1 3 _ rfl
    have z4 := F1 4 _ rfl
    have z5 := F1 5 _ rfl
    have z6 := F1 6 _ rfl
    have z7 := F1 7 _ rfl
    have y0 := F2 0 _ rfl
    have y1 := F2 1 _ rfl
    have y2 := F2 2 _ rfl
    have y3 := F2 3 _ rfl
    have y4 := F2 4 _ rfl
    refine bodyPost_ret (v := .tuple #[.agg #[.int .i64 0, .int .i64 0, .int .i64 0, .int .i64 0, .int .i64 0, .int .i64 0, .int .i64 0, .int .i64 0], .agg #[.int .i64 0, .int .i64 0, .int .i64 0, .int .i64 0, .int .i64 0], .int .i64 q]) (by simp [results, Try.results12, go_sem, z0, z1, z2, z3, z4, z5, z6, z7, y0, y1, y2, y3, y4]) rfl ?_
    rw [HR.out]
    exact ⟨rfl, hE⟩
end Go.Proofs.Ytbipmoehcmighaa
