/- The document's Linked. -/
import Derived.Test.YtbipmoehcmighaaRRead
import Derived.Test.YtbipmoehcmighaaLink
namespace Go.Proofs.Ytbipmoehcmighaa
set_option linter.unusedSimpArgs false
set_option linter.unusedVariables false
open Go.RowKit

theorem bad_calls (er : Int) (w : World) : Calls Try.prog 63 #[.int .i64 er] w fun e w' => e = .returned (.tuple #[.agg #[.int .i64 0, .int .i64 0, .int .i64 0, .int .i64 0, .int .i64 0, .int .i64 0, .int .i64 0, .int .i64 0], .agg #[.int .i64 0, .int .i64 0, .int .i64 0, .int .i64 0, .int .i64 0], .int .i64 er]) ∧ Onto w w' := by
  go_enter Try.func63, Try.ntmps63
  go_wp2
  refine bodyPost_ret (v := .tuple #[.agg #[.int .i64 0, .int .i64 0, .int .i64 0, .int .i64 0, .int .i64 0, .int .i64 0, .int .i64 0, .int .i64 0], .agg #[.int .i64 0, .int .i64 0, .int .i64 0, .int .i64 0, .int .i64 0], .int .i64 er]) (by simp [results, Try.results63, go_sem]) rfl ⟨rfl, ?_⟩
  repeat (first | exact Below.refl _ _ | refine Below.alloc ?_ (by simp <;> omega) _ | refine Below.setCell ?_ (by simp) _)

set_option maxHeartbeats 8000000 in
set_option maxRecDepth 100000 in
theorem RLinked_calls (A : Option Addr) (n c : Nat) (l : List UV) (k a : Int) (x : Entry) (ep : Int) (w : World) (h : Us w A n l) :
    Calls Try.prog 19 #[.slice A n c, .int .i64 k, .int .i64 a, .agg #[.int .i64 x.kind, .int .i64 x.job, .int .i64 x.every, .int .i64 x.time, .int .i64 x.client], .int .i64 ep] w (LPost w (linkC (unis l) k a x ep)) := by
  obtain ⟨q, hq⟩ : ∃ q, q = checkC (unis l) := ⟨_, rfl⟩
  obtain ⟨q2, hq2⟩ : ∃ q2, q2 = checkE x := ⟨_, rfl⟩
  obtain ⟨r, hr⟩ : ∃ r, r = linkC (unis l) k a x ep := ⟨_, rfl⟩
  rw [← hr]
  unfold linkC at hr
  rw [← hq, ← hq2] at hr
  have HQ := Lib.hid hq; have HQ2 := Lib.hid hq2; have HR0 := Lib.hid hr
  clear hq hq2 hr
  go_enter Try.func19, Try.ntmps19
  have hne := neqE
  go_wp2_with fail
  refine Calls.mono (RCC_calls A n c l _ (((h.new _).new _).new _)) ?_
  rw [← HQ.out]
  rintro e w1 ⟨rfl, hb1⟩
  have x0a : w1.cell? ⟨w.heap.size, 0, none⟩ = some (.int .i64 x.kind) := cellB hb1 (by simp [go_sem])
  have x1a : w1.cell? ⟨w.heap.size, 1, none⟩ = some (.int .i64 x.job) := cellB hb1 (by simp [go_sem])
  have x2a : w1.cell? ⟨w.heap.size, 2, none⟩ = some (.int .i64 x.every) := cellB hb1 (by simp [go_sem])
  have x3a : w1.cell? ⟨w.heap.size, 3, none⟩ = some (.int .i64 x.time) := cellB hb1 (by simp [go_sem])
  have x4a : w1.cell? ⟨w.heap.size, 4, none⟩ = some (.int .i64 x.client) := cellB hb1 (by simp [go_sem])
  have r0a : w1.cell? ⟨w.heap.size + 1, 0, none⟩ = some (.int .i64 0) := cellB hb1 (by simp [go_sem])
  have r1a : w1.cell? ⟨w.heap.size + 1, 1, none⟩ = some (.int .i64 0) := cellB hb1 (by simp [go_sem])
  have r2a : w1.cell? ⟨w.heap.size + 1, 2, none⟩ = some (.int .i64 0) := cellB hb1 (by simp [go_sem])
  have r3a : w1.cell? ⟨w.heap.size + 1, 3, none⟩ = some (.int .i64 0) := cellB hb1 (by simp [go_sem])
  have r4a : w1.cell? ⟨w.heap.size + 1, 4, none⟩ = some (.int .i64 0) := cellB hb1 (by simp [go_sem])
  have r5a : w1.cell? ⟨w.heap.size + 1, 5, none⟩ = some (.int .i64 0) := cellB hb1 (by simp [go_sem])
  have r6a : w1.cell? ⟨w.heap.size + 1, 6, none⟩ = some (.int .i64 0) := cellB hb1 (by simp [go_sem])
  have r7a : w1.cell? ⟨w.heap.size + 1, 7, none⟩ = some (.int .i64 0) := cellB hb1 (by simp [go_sem])
  have y0a : w1.cell? ⟨w.heap.size + 1 + 1, 0, none⟩ = some (.int .i64 0) := cellB hb1 (by simp [go_sem])
  have y1a : w1.cell? ⟨w.heap.size + 1 + 1, 1, none⟩ = some (.int .i64 0) := cellB hb1 (by simp [go_sem])
  have y2a : w1.cell? ⟨w.heap.size + 1 + 1, 2, none⟩ = some (.int .i64 0) := cellB hb1 (by simp [go_sem])
  have y3a : w1.cell? ⟨w.heap.size + 1 + 1, 3, none⟩ = some (.int .i64 0) := cellB hb1 (by simp [go_sem])
  have y4a : w1.cell? ⟨w.heap.size + 1 + 1, 4, none⟩ = some (.int .i64 0) := cellB hb1 (by simp [go_sem])
  have fr0a : w1.frozen? ⟨w.heap.size + 1, 0, none⟩ = false := frozB hb1 (v := .int .i64 0) (by simp [go_sem]) (by simp [go_sem])
  have fr1a : w1.frozen? ⟨w.heap.size + 1, 1, none⟩ = false := frozB hb1 (v := .int .i64 0) (by simp [go_sem]) (by simp [go_sem])
  have fr2a : w1.frozen? ⟨w.heap.size + 1, 2, none⟩ = false := frozB hb1 (v := .int .i64 0) (by simp [go_sem]) (by simp [go_sem])
  have fr3a : w1.frozen? ⟨w.heap.size + 1, 3, none⟩ = false := frozB hb1 (v := .int .i64 0) (by simp [go_sem]) (by simp [go_sem])
  have fr4a : w1.frozen? ⟨w.heap.size + 1, 4, none⟩ = false := frozB hb1 (v := .int .i64 0) (by simp [go_sem]) (by simp [go_sem])
  have fr5a : w1.frozen? ⟨w.heap.size + 1, 5, none⟩ = false := frozB hb1 (v := .int .i64 0) (by simp [go_sem]) (by simp [go_sem])
  have fr6a : w1.frozen? ⟨w.heap.size + 1, 6, none⟩ = false := frozB hb1 (v := .int .i64 0) (by simp [go_sem]) (by simp [go_sem])
  have fr7a : w1.frozen? ⟨w.heap.size + 1, 7, none⟩ = false := frozB hb1 (v := .int .i64 0) (by simp [go_sem]) (by simp [go_sem])
  have fy0a : w1.frozen? ⟨w.heap.size + 1 + 1, 0, none⟩ = false := frozB hb1 (v := .int .i64 0) (by simp [go_sem]) (by simp [go_sem])
  have fy1a : w1.frozen? ⟨w.heap.size + 1 + 1, 1, none⟩ = false := frozB hb1 (v := .int .i64 0) (by simp [go_sem]) (by simp [go_sem])
  have fy2a : w1.frozen? ⟨w.heap.size + 1 + 1, 2, none⟩ = false := frozB hb1 (v := .int .i64 0) (by simp [go_sem]) (by simp [go_sem])
  have fy3a : w1.frozen? ⟨w.heap.size + 1 + 1, 3, none⟩ = false := frozB hb1 (v := .int .i64 0) (by simp [go_sem]) (by simp [go_sem])
  have fy4a : w1.frozen? ⟨w.heap.size + 1 + 1, 4, none⟩ = false := frozB hb1 (v := .int .i64 0) (by simp [go_sem]) (by simp [go_sem])
  have h01 : Onto w w1 := ((((Below.refl _ _).alloc (Nat.le_refl _) _).alloc (by simp) _).alloc (by simp; omega) _).trans (hb1.mono (by simp; omega))
  have hu1 := h.onto h01
  have hz1 : w.heap.size + 1 + 1 < w1.heap.size := World.block_lt_of_cell? _ _ y0a
  clear hb1 h
  by_cases h0 : q = 0
  · have hg := checkC_iff.1 (HQ.out.symm.trans h0)
    have hn : n = 3 := by rw [← hu1.len, ← List.length_map (f := UV.u)]; exact hg.len
    subst h0; subst hn
    have HG := Lib.hid hg
    have hr := HR0.out
    rw [if_neg (by simp)] at hr
    by_cases hbad : k < 0 ∨ 3 ≤ k ∨ a < 0 ∨ 60 ≤ a
    · rw [if_pos hbad] at hr
      have HR := Lib.hid hr
      clear hr HR0 hu1 hg
      by_cases hkk : k < 0 ∨ 3 ≤ k
      · have hik : (decide (0 ≤ k) && decide (k ≤ 2)) = false := by simp; omega
        have hia : (0 : Int) = 0 := rfl
        clear hbad hkk
        go_wp2_with (go_at_call 64; refine Calls.mono (in_calls _ _ _ _) ?_; rintro e w' ⟨rfl, rfl⟩; first | rw [hik] | rw [hia])
        refine Calls.mono (bad_calls 5 _) ?_
        rintro e wB ⟨rfl, hbB⟩
        have x0z := cellB hbB x0a; have x1z := cellB hbB x1a; have x2z := cellB hbB x2a; have x3z := cellB hbB x3a; have x4z := cellB hbB x4a; have r0z := cellB hbB r0a; have r1z := cellB hbB r1a; have r2z := cellB hbB r2a; have r3z := cellB hbB r3a; have r4z := cellB hbB r4a; have r5z := cellB hbB r5a; have r6z := cellB hbB r6a; have r7z := cellB hbB r7a; have y0z := cellB hbB y0a; have y1z := cellB hbB y1a; have y2z := cellB hbB y2a; have y3z := cellB hbB y3a; have y4z := cellB hbB y4a
        have fr0z := frozB hbB r0a fr0a; have fr1z := frozB hbB r1a fr1a; have fr2z := frozB hbB r2a fr2a; have fr3z := frozB hbB r3a fr3a; have fr4z := frozB hbB r4a fr4a; have fr5z := frozB hbB r5a fr5a; have fr6z := frozB hbB r6a fr6a; have fr7z := frozB hbB r7a fr7a; have fy0z := frozB hbB y0a fy0a; have fy1z := frozB hbB y1a fy1a; have fy2z := frozB hbB y2a fy2a; have fy3z := frozB hbB y3a fy3a; have fy4z := frozB hbB y4a fy4a
        clear x0a x1a x2a x3a x4a r0a r1a r2a r3a r4a r5a r6a r7a y0a y1a y2a y3a y4a fr0a fr1a fr2a fr3a fr4a fr5a fr6a fr7a fy0a fy1a fy2a fy3a fy4a
        have honB := Onto.to h01 hbB
        have hzB : w.heap.size + 1 + 1 < wB.heap.size := World.block_lt_of_cell? _ _ y0z
        clear hbB
        go_wp2_with fail
        rw [show (((((((((((((wB.setCell ⟨w.heap.size + 1, 0, none⟩ (.int .i64 0)).setCell ⟨w.heap.size + 1, 1, none⟩ (.int .i64 0)).setCell ⟨w.heap.size + 1, 2, none⟩ (.int .i64 0)).setCell ⟨w.heap.size + 1, 3, none⟩ (.int .i64 0)).setCell ⟨w.heap.size + 1, 4, none⟩ (.int .i64 0)).setCell ⟨w.heap.size + 1, 5, none⟩ (.int .i64 0)).setCell ⟨w.heap.size + 1, 6, none⟩ (.int .i64 0)).setCell ⟨w.heap.size + 1, 7, none⟩ (.int .i64 0)).setCell ⟨w.heap.size + 1 + 1, 0, none⟩ (.int .i64 0)).setCell ⟨w.heap.size + 1 + 1, 1, none⟩ (.int .i64 0)).setCell ⟨w.heap.size + 1 + 1, 2, none⟩ (.int .i64 0)).setCell ⟨w.heap.size + 1 + 1, 3, none⟩ (.int .i64 0)).setCell ⟨w.heap.size + 1 + 1, 4, none⟩ (.int .i64 0)) = (wB.setCells (w.heap.size + 1) 0 [.int .i64 0, .int .i64 0, .int .i64 0, .int .i64 0, .int .i64 0, .int .i64 0, .int .i64 0, .int .i64 0]).setCells (w.heap.size + 1 + 1) 0 [.int .i64 0, .int .i64 0, .int .i64 0, .int .i64 0, .int .i64 0] from rfl]
        have hE : Onto w ((wB.setCells (w.heap.size + 1) 0 [.int .i64 0, .int .i64 0, .int .i64 0, .int .i64 0, .int .i64 0, .int .i64 0, .int .i64 0, .int .i64 0]).setCells (w.heap.size + 1 + 1) 0 [.int .i64 0, .int .i64 0, .int .i64 0, .int .i64 0, .int .i64 0]) := put_onto (by omega) (put_onto (by omega) honB)
        obtain ⟨F1, F2⟩ := put2 (w := wB) (b := w.heap.size + 1) (b' := w.heap.size + 1 + 1) (vs := [.int .i64 0, .int .i64 0, .int .i64 0, .int .i64 0, .int .i64 0, .int .i64 0, .int .i64 0, .int .i64 0]) (us := [.int .i64 0, .int .i64 0, .int .i64 0, .int .i64 0, .int .i64 0]) (by omega) (there8 r0z r1z r2z r3z r4z r5z r6z r7z) (there5 y0z y1z y2z y3z y4z)
        generalize (wB.setCells (w.heap.size + 1) 0 [.int .i64 0, .int .i64 0, .int .i64 0, .int .i64 0, .int .i64 0, .int .i64 0, .int .i64 0, .int .i64 0]).setCells (w.heap.size + 1 + 1) 0 [.int .i64 0, .int .i64 0, .int .i64 0, .int .i64 0, .int .i64 0] = wf at F1 F2 hE ⊢
        have z0 := F1 0 _ rfl
        have z1 := F1 1 _ rfl
        have z2 := F1 2 _ rfl
        have z3 := F1 3 _ rfl
        have z4 := F1 4 _ rfl
        have z5 := F1 5 _ rfl
        have z6 := F1 6 _ rfl
        have z7 := F1 7 _ rfl
        have y0 := F2 0 _ rfl
        have y1 := F2 1 _ rfl
        have y2 := F2 2 _ rfl
        have y3 := F2 3 _ rfl
        have y4 := F2 4 _ rfl
        refine bodyPost_ret (v := .tuple #[.agg #[.int .i64 0, .int .i64 0, .int .i64 0, .int .i64 0, .int .i64 0, .int .i64 0, .int .i64 0, .int .i64 0], .agg #[.int .i64 0, .int .i64 0, .int .i64 0, .int .i64 0, .int .i64 0], .int .i64 5]) (by simp [results, Try.results19, go_sem, z0, z1, z2, z3, z4, z5, z6, z7, y0, y1, y2, y3, y4]) rfl ?_
        rw [HR.out]
        exact ⟨rfl, hE⟩
      · have hik : (decide (0 ≤ k) && decide (k ≤ 2)) = true := by simp; omega
        have hia : (decide (0 ≤ a) && decide (a ≤ 59)) = false := by simp; omega
        clear hbad hkk
        go_wp2_with (go_at_call 64; refine Calls.mono (in_calls _ _ _ _) ?_; rintro e w' ⟨rfl, rfl⟩; first | rw [hik] | rw [hia])
        refine Calls.mono (bad_calls 5 _) ?_
        rintro e wB ⟨rfl, hbB⟩
        have x0z := cellB hbB x0a; have x1z := cellB hbB x1a; have x2z := cellB hbB x2a; have x3z := cellB hbB x3a; have x4z := cellB hbB x4a; have r0z := cellB hbB r0a; have r1z := cellB hbB r1a; have r2z := cellB hbB r2a; have r3z := cellB hbB r3a; have r4z := cellB hbB r4a; have r5z := cellB hbB r5a; have r6z := cellB hbB r6a; have r7z := cellB hbB r7a; have y0z := cellB hbB y0a; have y1z := cellB hbB y1a; have y2z := cellB hbB y2a; have y3z := cellB hbB y3a; have y4z := cellB hbB y4a
        have fr0z := frozB hbB r0a fr0a; have fr1z := frozB hbB r1a fr1a; have fr2z := frozB hbB r2a fr2a; have fr3z := frozB hbB r3a fr3a; have fr4z := frozB hbB r4a fr4a; have fr5z := frozB hbB r5a fr5a; have fr6z := frozB hbB r6a fr6a; have fr7z := frozB hbB r7a fr7a; have fy0z := frozB hbB y0a fy0a; have fy1z := frozB hbB y1a fy1a; have fy2z := frozB hbB y2a fy2a; have fy3z := frozB hbB y3a fy3a; have fy4z := frozB hbB y4a fy4a
        clear x0a x1a x2a x3a x4a r0a r1a r2a r3a r4a r5a r6a r7a y0a y1a y2a y3a y4a fr0a fr1a fr2a fr3a fr4a fr5a fr6a fr7a fy0a fy1a fy2a fy3a fy4a
        have honB := Onto.to h01 hbB
        have hzB : w.heap.size + 1 + 1 < wB.heap.size := World.block_lt_of_cell? _ _ y0z
        clear hbB
        go_wp2_with fail
        rw [show (((((((((((((wB.setCell ⟨w.heap.size + 1, 0, none⟩ (.int .i64 0)).setCell ⟨w.heap.size + 1, 1, none⟩ (.int .i64 0)).setCell ⟨w.heap.size + 1, 2, none⟩ (.int .i64 0)).setCell ⟨w.heap.size + 1, 3, none⟩ (.int .i64 0)).setCell ⟨w.heap.size + 1, 4, none⟩ (.int .i64 0)).setCell ⟨w.heap.size + 1, 5, none⟩ (.int .i64 0)).setCell ⟨w.heap.size + 1, 6, none⟩ (.int .i64 0)).setCell ⟨w.heap.size + 1, 7, none⟩ (.int .i64 0)).setCell ⟨w.heap.size + 1 + 1, 0, none⟩ (.int .i64 0)).setCell ⟨w.heap.size + 1 + 1, 1, none⟩ (.int .i64 0)).setCell ⟨w.heap.size + 1 + 1, 2, none⟩ (.int .i64 0)).setCell ⟨w.heap.size + 1 + 1, 3, none⟩ (.int .i64 0)).setCell ⟨w.heap.size + 1 + 1, 4, none⟩ (.int .i64 0)) = (wB.setCells (w.heap.size + 1) 0 [.int .i64 0, .int .i64 0, .int .i64 0, .int .i64 0, .int .i64 0, .int .i64 0, .int .i64 0, .int .i64 0]).setCells (w.heap.size + 1 + 1) 0 [.int .i64 0, .int .i64 0, .int .i64 0, .int .i64 0, .int .i64 0] from rfl]
        have hE : Onto w ((wB.setCells (w.heap.size + 1) 0 [.int .i64 0, .int .i64 0, .int .i64 0, .int .i64 0, .int .i64 0, .int .i64 0, .int .i64 0, .int .i64 0]).setCells (w.heap.size + 1 + 1) 0 [.int .i64 0, .int .i64 0, .int .i64 0, .int .i64 0, .int .i64 0]) := put_onto (by omega) (put_onto (by omega) honB)
        obtain ⟨F1, F2⟩ := put2 (w := wB) (b := w.heap.size + 1) (b' := w.heap.size + 1 + 1) (vs := [.int .i64 0, .int .i64 0, .int .i64 0, .int .i64 0, .int .i64 0, .int .i64 0, .int .i64 0, .int .i64 0]) (us := [.int .i64 0, .int .i64 0, .int .i64 0, .int .i64 0, .int .i64 0]) (by omega) (there8 r0z r1z r2z r3z r4z r5z r6z r7z) (there5 y0z y1z y2z y3z y4z)
        generalize (wB.setCells (w.heap.size + 1) 0 [.int .i64 0, .int .i64 0, .int .i64 0, .int .i64 0, .int .i64 0, .int .i64 0, .int .i64 0, .int .i64 0]).setCells (w.heap.size + 1 + 1) 0 [.int .i64 0, .int .i64 0, .int .i64 0, .int .i64 0, .int .i64 0] = wf at F1 F2 hE ⊢
        have z0 := F1 0 _ rfl
        have z1 := F1 1 _ rfl
        have z2 := F1 2 _ rfl
        have z3 := F1 3 _ rfl
        have z4 := F1 4 _ rfl
        have z5 := F1 5 _ rfl
        have z6 := F1 6 _ rfl
        have z7 := F1 7 _ rfl
        have y0 := F2 0 _ rfl
        have y1 := F2 1 _ rfl
        have y2 := F2 2 _ rfl
        have y3 := F2 3 _ rfl
        have y4 := F2 4 _ rfl
        refine bodyPost_ret (v := .tuple #[.agg #[.int .i64 0, .int .i64 0, .int .i64 0, .int .i64 0, .int .i64 0, .int .i64 0, .int .i64 0, .int .i64 0], .agg #[.int .i64 0, .int .i64 0, .int .i64 0, .int .i64 0, .int .i64 0], .int .i64 5]) (by simp [results, Try.results19, go_sem, z0, z1, z2, z3, z4, z5, z6, z7, y0, y1, y2, y3, y4]) rfl ?_
        rw [HR.out]
        exact ⟨rfl, hE⟩
    · rw [if_neg hbad] at hr
      have hik : (decide (0 ≤ k) && decide (k ≤ 2)) = true := by simp; omega
      have hia : (decide (0 ≤ a) && decide (a ≤ 59)) = true := by simp; omega
      obtain ⟨j, rfl⟩ : ∃ j : Nat, a = j := ⟨a.toNat, by omega⟩
      obtain ⟨i, rfl⟩ : ∃ i : Nat, k = i := ⟨k.toNat, by omega⟩
      have hi3 : i < 3 := by omega
      have hj60 : j < 60 := by omega
      have HR1 := Lib.hid hr
      clear hr hbad HR0 hg
      go_wp2_with (go_at_call 64; refine Calls.mono (in_calls _ _ _ _) ?_; rintro e w' ⟨rfl, rfl⟩; first | rw [hik] | rw [hia])
      refine Calls.mono (RCE_calls x.kind x.job x.every x.time x.client _) ?_
      rw [show checkE ⟨x.kind, x.job, x.every, x.time, x.client⟩ = q2 from HQ2.out.symm]
      rintro e w2 ⟨rfl, hb2⟩
      have h02 := h01.to hb2; have hu2 := hu1.onto hb2
      have x0b := cellB hb2 x0a; have x1b := cellB hb2 x1a; have x2b := cellB hb2 x2a; have x3b := cellB hb2 x3a; have x4b := cellB hb2 x4a; have r0b := cellB hb2 r0a; have r1b := cellB hb2 r1a; have r2b := cellB hb2 r2a; have r3b := cellB hb2 r3a; have r4b := cellB hb2 r4a; have r5b := cellB hb2 r5a; have r6b := cellB hb2 r6a; have r7b := cellB hb2 r7a; have y0b := cellB hb2 y0a; have y1b := cellB hb2 y1a; have y2b := cellB hb2 y2a; have y3b := cellB hb2 y3a; have y4b := cellB hb2 y4a
      have fr0b := frozB hb2 r0a fr0a; have fr1b := frozB hb2 r1a fr1a; have fr2b := frozB hb2 r2a fr2a; have fr3b := frozB hb2 r3a fr3a; have fr4b := frozB hb2 r4a fr4a; have fr5b := frozB hb2 r5a fr5a; have fr6b := frozB hb2 r6a fr6a; have fr7b := frozB hb2 r7a fr7a; have fy0b := frozB hb2 y0a fy0a; have fy1b := frozB hb2 y1a fy1a; have fy2b := frozB hb2 y2a fy2a; have fy3b := frozB hb2 y3a fy3a; have fy4b := frozB hb2 y4a fy4a
      clear x0a x1a x2a x3a x4a r0a r1a r2a r3a r4a r5a r6a r7a y0a y1a y2a y3a y4a fr0a fr1a fr2a fr3a fr4a fr5a fr6a fr7a fy0a fy1a fy2a fy3a fy4a
      have hz2 : w.heap.size + 1 + 1 < w2.heap.size := World.block_lt_of_cell? _ _ y0b
      clear h01 hb2 hu1 hz1
      have hr := HR1.out
      by_cases h20 : q2 = 0
      · subst h20
        rw [if_neg (by simp)] at hr
        obtain ⟨b, off, u, rfl, hbz, hu, e0, e1, hs, hul⟩ := hu2.atU hi3
        have hgu := HG.out.ok u.u (List.mem_map.2 ⟨u, List.mem_of_getElem? hu, rfl⟩)
        have hun : u.n = 60 := by rw [← hul]; exact hgu.len
        rw [Int.toNat_natCast, Int.toNat_natCast, uniAt_eq (unis_at hu)] at hr
        simp only [show u.u.ep = u.ep from rfl, show u.u.cells = u.cells from rfl] at hr
        rw [hun] at hs e1
        obtain ⟨b1, off1, y, hA1, hyz, hy, d0, d1, d2, d3, d4⟩ := hs.atE hj60
        have hoy := okC_kind (hgu.ok y (List.mem_of_getElem? hy))
        rw [hA1] at e1
        have hj60' : (j : Int) < 60 := by omega
        have hi3' : (i : Int) < 3 := by omega
        rw [cellAt_eq hy] at hr
        have HY := Lib.hid hy; have HU := Lib.hid hu
        clear hy hgu hs hu
        have hzz : i = 0 ∨ 0 < i := Nat.eq_zero_or_pos i
        go_upto_region 11 with fail
        have hb3 : Onto w2 (w2.alloc (Obj.cells #[.int .i64 y.kind, .int .i64 y.job, .int .i64 y.every, .int .i64 y.time, .int .i64 y.client] 24)) := (Below.refl _ _).alloc (Nat.le_refl _) _
        have x0c := cellB hb3 x0b; have x1c := cellB hb3 x1b; have x2c := cellB hb3 x2b; have x3c := cellB hb3 x3b; have x4c := cellB hb3 x4b; have r0c := cellB hb3 r0b; have r1c := cellB hb3 r1b; have r2c := cellB hb3 r2b; have r3c := cellB hb3 r3b; have r4c := cellB hb3 r4b; have r5c := cellB hb3 r5b; have r6c := cellB hb3 r6b; have r7c := cellB hb3 r7b; have y0c := cellB hb3 y0b; have y1c := cellB hb3 y1b; have y2c := cellB hb3 y2b; have y3c := cellB hb3 y3b; have y4c := cellB hb3 y4b
        have fr0c := frozB hb3 r0b fr0b; have fr1c := frozB hb3 r1b fr1b; have fr2c := frozB hb3 r2b fr2b; have fr3c := frozB hb3 r3b fr3b; have fr4c := frozB hb3 r4b fr4b; have fr5c := frozB hb3 r5b fr5b; have fr6c := frozB hb3 r6b fr6b; have fr7c := frozB hb3 r7b fr7b; have fy0c := frozB hb3 y0b fy0b; have fy1c := frozB hb3 y1b fy1b; have fy2c := frozB hb3 y2b fy2b; have fy3c := frozB hb3 y3b fy3b; have fy4c := frozB hb3 y4b fy4b
        clear x0b x1b x2b x3b x4b r0b r1b r2b r3b r4b r5b r6b r7b y0b y1b y2b y3b y4b fr0b fr1b fr2b fr3b fr4b fr5b fr6b fr7b fy0b fy1b fy2b fy3b fy4b
        have k0 : (w2.alloc (Obj.cells #[.int .i64 y.kind, .int .i64 y.job, .int .i64 y.every, .int .i64 y.time, .int .i64 y.client] 24)).cell? ⟨w2.heap.size, 0, none⟩ = some (.int .i64 y.kind) := by simp [go_sem]
        have k1 : (w2.alloc (Obj.cells #[.int .i64 y.kind, .int .i64 y.job, .int .i64 y.every, .int .i64 y.time, .int .i64 y.client] 24)).cell? ⟨w2.heap.size, 1, none⟩ = some (.int .i64 y.job) := by simp [go_sem]
        have k2 : (w2.alloc (Obj.cells #[.int .i64 y.kind, .int .i64 y.job, .int .i64 y.every, .int .i64 y.time, .int .i64 y.client] 24)).cell? ⟨w2.heap.size, 2, none⟩ = some (.int .i64 y.every) := by simp [go_sem]
        have k3 : (w2.alloc (Obj.cells #[.int .i64 y.kind, .int .i64 y.job, .int .i64 y.every, .int .i64 y.time, .int .i64 y.client] 24)).cell? ⟨w2.heap.size, 3, none⟩ = some (.int .i64 y.time) := by simp [go_sem]
        have k4 : (w2.alloc (Obj.cells #[.int .i64 y.kind, .int .i64 y.job, .int .i64 y.every, .int .i64 y.time, .int .i64 y.client] 24)).cell? ⟨w2.heap.size, 4, none⟩ = some (.int .i64 y.client) := by simp [go_sem]
        have h03 := h02.to hb3
        have hz3 : w2.heap.size < (w2.alloc (Obj.cells #[.int .i64 y.kind, .int .i64 y.job, .int .i64 y.every, .int .i64 y.time, .int .i64 y.client] 24)).heap.size := by simp
        have e0' := cellB hb3 e0
        have hu3 := hu2.onto hb3
        clear hb3 h02 e0 e1 d0 d1 d2 d3 d4 hu2
        generalize (w2.alloc (Obj.cells #[.int .i64 y.kind, .int .i64 y.job, .int .i64 y.every, .int .i64 y.time, .int .i64 y.client] 24)) = w3 at *
        have hbz3 := World.block_lt_of_cell? _ _ e0'
        simp only at hbz3
        by_cases hep : ep ≠ u.ep
        · rw [if_pos hep] at hr
          have HR := Lib.hid hr
          have hd : (u.ep != ep) = true := by simp; omega
          clear hr HR1 hep hu3
          go_wp2_with fail
          refine Calls.mono (bad_calls 8 _) ?_
          rintro e wB ⟨rfl, hbB⟩
          have x0z := cellB hbB x0c; have x1z := cellB hbB x1c; have x2z := cellB hbB x2c; have x3z := cellB hbB x3c; have x4z := cellB hbB x4c; have r0z := cellB hbB r0c; have r1z := cellB hbB r1c; have r2z := cellB hbB r2c; have r3z := cellB hbB r3c; have r4z := cellB hbB r4c; have r5z := cellB hbB r5c; have r6z := cellB hbB r6c; have r7z := cellB hbB r7c; have y0z := cellB hbB y0c; have y1z := cellB hbB y1c; have y2z := cellB hbB y2c; have y3z := cellB hbB y3c; have y4z := cellB hbB y4c
          have fr0z := frozB hbB r0c fr0c; have fr1z := frozB hbB r1c fr1c; have fr2z := frozB hbB r2c fr2c; have fr3z := frozB hbB r3c fr3c; have fr4z := frozB hbB r4c fr4c; have fr5z := frozB hbB r5c fr5c; have fr6z := frozB hbB r6c fr6c; have fr7z := frozB hbB r7c fr7c; have fy0z := frozB hbB y0c fy0c; have fy1z := frozB hbB y1c fy1c; have fy2z := frozB hbB y2c fy2c; have fy3z := frozB hbB y3c fy3c; have fy4z := frozB hbB y4c fy4c
          clear x0c x1c x2c x3c x4c r0c r1c r2c r3c r4c r5c r6c r7c y0c y1c y2c y3c y4c fr0c fr1c fr2c fr3c fr4c fr5c fr6c fr7c fy0c fy1c fy2c fy3c fy4c
          have honB := Onto.to h03 hbB
          have hzB : w.heap.size + 1 + 1 < wB.heap.size := World.block_lt_of_cell? _ _ y0z
          clear hbB
          go_wp2_with fail
          rw [show (((((((((((((wB.setCell ⟨w.heap.size + 1, 0, none⟩ (.int .i64 0)).setCell ⟨w.heap.size + 1, 1, none⟩ (.int .i64 0)).setCell ⟨w.heap.size + 1, 2, none⟩ (.int .i64 0)).setCell ⟨w.heap.size + 1, 3, none⟩ (.int .i64 0)).setCell ⟨w.heap.size + 1, 4, none⟩ (.int .i64 0)).setCell ⟨w.heap.size + 1, 5, none⟩ (.int .i64 0)).setCell ⟨w.heap.size + 1, 6, none⟩ (.int .i64 0)).setCell ⟨w.heap.size + 1, 7, none⟩ (.int .i64 0)).setCell ⟨w.heap.size + 1 + 1, 0, none⟩ (.int .i64 0)).setCell ⟨w.heap.size + 1 + 1, 1, none⟩ (.int .i64 0)).setCell ⟨w.heap.size + 1 + 1, 2, none⟩ (.int .i64 0)).setCell ⟨w.heap.size + 1 + 1, 3, none⟩ (.int .i64 0)).setCell ⟨w.heap.size + 1 + 1, 4, none⟩ (.int .i64 0)) = (wB.setCells (w.heap.size + 1) 0 [.int .i64 0, .int .i64 0, .int .i64 0, .int .i64 0, .int .i64 0, .int .i64 0, .int .i64 0, .int .i64 0]).setCells (w.heap.size + 1 + 1) 0 [.int .i64 0, .int .i64 0, .int .i64 0, .int .i64 0, .int .i64 0] from rfl]
          have hE : Onto w ((wB.setCells (w.heap.size + 1) 0 [.int .i64 0, .int .i64 0, .int .i64 0, .int .i64 0, .int .i64 0, .int .i64 0, .int .i64 0, .int .i64 0]).setCells (w.heap.size + 1 + 1) 0 [.int .i64 0, .int .i64 0, .int .i64 0, .int .i64 0, .int .i64 0]) := put_onto (by omega) (put_onto (by omega) honB)
          obtain ⟨F1, F2⟩ := put2 (w := wB) (b := w.heap.size + 1) (b' := w.heap.size + 1 + 1) (vs := [.int .i64 0, .int .i64 0, .int .i64 0, .int .i64 0, .int .i64 0, .int .i64 0, .int .i64 0, .int .i64 0]) (us := [.int .i64 0, .int .i64 0, .int .i64 0, .int .i64 0, .int .i64 0]) (by omega) (there8 r0z r1z r2z r3z r4z r5z r6z r7z) (there5 y0z y1z y2z y3z y4z)
          generalize (wB.setCells (w.heap.size + 1) 0 [.int .i64 0, .int .i64 0, .int .i64 0, .int .i64 0, .int .i64 0, .int .i64 0, .int .i64 0, .int .i64 0]).setCells (w.heap.size + 1 + 1) 0 [.int .i64 0, .int .i64 0, .int .i64 0, .int .i64 0, .int .i64 0] = wf at F1 F2 hE ⊢
          have z0 := F1 0 _ rfl
          have z1 := F1 1 _ rfl
          have z2 := F1 2 _ rfl
          have z3 := F1 3 _ rfl
          have z4 := F1 4 _ rfl
          have z5 := F1 5 _ rfl
          have z6 := F1 6 _ rfl
          have z7 := F1 7 _ rfl
          have y0 := F2 0 _ rfl
          have y1 := F2 1 _ rfl
          have y2 := F2 2 _ rfl
          have y3 := F2 3 _ rfl
          have y4 := F2 4 _ rfl
          refine bodyPost_ret (v := .tuple #[.agg #[.int .i64 0, .int .i64 0, .int .i64 0, .int .i64 0, .int .i64 0, .int .i64 0, .int .i64 0, .int .i64 0], .agg #[.int .i64 0, .int .i64 0, .int .i64 0, .int .i64 0, .int .i64 0], .int .i64 8]) (by simp [results, Try.results19, go_sem, z0, z1, z2, z3, z4, z5, z6, z7, y0, y1, y2, y3, y4]) rfl ?_
          rw [HR.out]
          exact ⟨rfl, hE⟩
        · rw [if_neg hep] at hr
          have hd : (u.ep != ep) = false := by simp; omega
          have HRX := Lib.hid hr
          clear hr hep
          rcases hzz with rfl | hpos
          · have hr := HRX.out
            rw [if_neg (by omega)] at hr
            have HR1 := Lib.hid hr
            clear hr HRX hu3
            simp only [Nat.zero_mul, Nat.add_zero] at e0'
            go_wp2_with fail
            go_quiet (fail)
            obtain ⟨w4, hw4⟩ : ∃ w4, w4 = w3.drewN nq := ⟨_, rfl⟩
            rw [← hw4]
            have hb4 : Onto w3 w4 := hw4 ▸ Onto.draws (Below.refl _ _) nq
            clear hw4
            have x0d := cellB hb4 x0c; have x1d := cellB hb4 x1c; have x2d := cellB hb4 x2c; have x3d := cellB hb4 x3c; have x4d := cellB hb4 x4c; have r0d := cellB hb4 r0c; have r1d := cellB hb4 r1c; have r2d := cellB hb4 r2c; have r3d := cellB hb4 r3c; have r4d := cellB hb4 r4c; have r5d := cellB hb4 r5c; have r6d := cellB hb4 r6c; have r7d := cellB hb4 r7c; have y0d := cellB hb4 y0c; have y1d := cellB hb4 y1c; have y2d := cellB hb4 y2c; have y3d := cellB hb4 y3c; have y4d := cellB hb4 y4c
            have fr0d := frozB hb4 r0c fr0c; have fr1d := frozB hb4 r1c fr1c; have fr2d := frozB hb4 r2c fr2c; have fr3d := frozB hb4 r3c fr3c; have fr4d := frozB hb4 r4c fr4c; have fr5d := frozB hb4 r5c fr5c; have fr6d := frozB hb4 r6c fr6c; have fr7d := frozB hb4 r7c fr7c; have fy0d := frozB hb4 y0c fy0c; have fy1d := frozB hb4 y1c fy1c; have fy2d := frozB hb4 y2c fy2c; have fy3d := frozB hb4 y3c fy3c; have fy4d := frozB hb4 y4c fy4c
            clear x0c x1c x2c x3c x4c r0c r1c r2c r3c r4c r5c r6c r7c y0c y1c y2c y3c y4c fr0c fr1c fr2c fr3c fr4c fr5c fr6c fr7c fy0c fy1c fy2c fy3c fy4c
            have k0b := cellB hb4 k0; have k1b := cellB hb4 k1; have k2b := cellB hb4 k2; have k3b := cellB hb4 k3; have k4b := cellB hb4 k4
            have h04 := Onto.to h03 hb4
            clear hb4 h03 k0 k1 k2 k3 k4 hbz3 e0' hz3
            have k0 := k0b; have k1 := k1b; have k2 := k2b; have k3 := k3b; have k4 := k4b
            clear k0b k1b k2b k3b k4b
            go_wp2_with fail
            have m0 := onto_cell k0; have m1 := onto_cell k1; have m2 := onto_cell k2; have m3 := onto_cell k3; have m4 := onto_cell k4
            by_cases hyb : y = blank
            · have HR2 := HR1.out
              rw [if_neg (by simp [hoy.2.2.2 hyb])] at HR2
              have hd2 : (!(y.kind == 4 && y.job == 0 && y.every == 0 && y.time == 0 && y.client == 0)) = false := ne_false hyb
              have HR := Lib.hid HR2
              clear HR2 HR1 hyb hoy
              refine wp_region_onto (by kernel_rfl) (by kernel_rfl) ?_
              repeat (go_big_quiet_step ((first | (go_at_call 66; exact calls_onto (blank_calls _)))))
              refine wpQuiet_nil ?_
              intro w5 hb5
              have x0e := cellB hb5 x0d; have x1e := cellB hb5 x1d; have x2e := cellB hb5 x2d; have x3e := cellB hb5 x3d; have x4e := cellB hb5 x4d; have r0e := cellB hb5 r0d; have r1e := cellB hb5 r1d; have r2e := cellB hb5 r2d; have r3e := cellB hb5 r3d; have r4e := cellB hb5 r4d; have r5e := cellB hb5 r5d; have r6e := cellB hb5 r6d; have r7e := cellB hb5 r7d; have y0e := cellB hb5 y0d; have y1e := cellB hb5 y1d; have y2e := cellB hb5 y2d; have y3e := cellB hb5 y3d; have y4e := cellB hb5 y4d
              have fr0e := frozB hb5 r0d fr0d; have fr1e := frozB hb5 r1d fr1d; have fr2e := frozB hb5 r2d fr2d; have fr3e := frozB hb5 r3d fr3d; have fr4e := frozB hb5 r4d fr4d; have fr5e := frozB hb5 r5d fr5d; have fr6e := frozB hb5 r6d fr6d; have fr7e := frozB hb5 r7d fr7d; have fy0e := frozB hb5 y0d fy0d; have fy1e := frozB hb5 y1d fy1d; have fy2e := frozB hb5 y2d fy2d; have fy3e := frozB hb5 y3d fy3d; have fy4e := frozB hb5 y4d fy4d
              clear x0d x1d x2d x3d x4d r0d r1d r2d r3d r4d r5d r6d r7d y0d y1d y2d y3d y4d fr0d fr1d fr2d fr3d fr4d fr5d fr6d fr7d fy0d fy1d fy2d fy3d fy4d
              have k0e := cellB hb5 k0; have k1e := cellB hb5 k1; have k2e := cellB hb5 k2; have k3e := cellB hb5 k3; have k4e := cellB hb5 k4
              have h05 := Onto.to h04 hb5
              have hz5 : w.heap.size + 1 + 1 < w5.heap.size := World.block_lt_of_cell? _ _ y0e
              have hz6 := World.block_lt_of_cell? _ _ k0e
              simp only at hz6
              clear hb5 h04 m0 m1 m2 m3 m4 k0 k1 k2 k3 k4
              go_wp2_with fail
              go_region
              go_wp2_with fail
              rw [show (((((((((((((w5.setCell ⟨w.heap.size + 1, 0, none⟩ (.int .i64 1)).setCell ⟨w.heap.size + 1, 1, none⟩ (.int .i64 (j : Int))).setCell ⟨w.heap.size + 1, 2, none⟩ (.int .i64 0)).setCell ⟨w.heap.size + 1, 3, none⟩ (.int .i64 x.kind)).setCell ⟨w.heap.size + 1, 4, none⟩ (.int .i64 x.job)).setCell ⟨w.heap.size + 1, 5, none⟩ (.int .i64 x.every)).setCell ⟨w.heap.size + 1, 6, none⟩ (.int .i64 x.time)).setCell ⟨w.heap.size + 1, 7, none⟩ (.int .i64 x.client)).setCell ⟨w.heap.size + 1 + 1, 0, none⟩ (.int .i64 x.kind)).setCell ⟨w.heap.size + 1 + 1, 1, none⟩ (.int .i64 x.job)).setCell ⟨w.heap.size + 1 + 1, 2, none⟩ (.int .i64 x.every)).setCell ⟨w.heap.size + 1 + 1, 3, none⟩ (.int .i64 x.time)).setCell ⟨w.heap.size + 1 + 1, 4, none⟩ (.int .i64 x.client)).drew = ((w5.setCells (w.heap.size + 1) 0 [.int .i64 1, .int .i64 (j : Int), .int .i64 0, .int .i64 x.kind, .int .i64 x.job, .int .i64 x.every, .int .i64 x.time, .int .i64 x.client]).setCells (w.heap.size + 1 + 1) 0 [.int .i64 x.kind, .int .i64 x.job, .int .i64 x.every, .int .i64 x.time, .int .i64 x.client]).drew from rfl]
              have hE : Onto w ((w5.setCells (w.heap.size + 1) 0 [.int .i64 1, .int .i64 (j : Int), .int .i64 0, .int .i64 x.kind, .int .i64 x.job, .int .i64 x.every, .int .i64 x.time, .int .i64 x.client]).setCells (w.heap.size + 1 + 1) 0 [.int .i64 x.kind, .int .i64 x.job, .int .i64 x.every, .int .i64 x.time, .int .i64 x.client]).drew := (put_onto (by omega) (put_onto (by omega) h05)).draw
              obtain ⟨F1, F2⟩ := put2d (w := w5) (b := w.heap.size + 1) (b' := w.heap.size + 1 + 1) (vs := [.int .i64 1, .int .i64 (j : Int), .int .i64 0, .int .i64 x.kind, .int .i64 x.job, .int .i64 x.every, .int .i64 x.time, .int .i64 x.client]) (us := [.int .i64 x.kind, .int .i64 x.job, .int .i64 x.every, .int .i64 x.time, .int .i64 x.client]) (by omega) (there8 r0e r1e r2e r3e r4e r5e r6e r7e) (there5 y0e y1e y2e y3e y4e)
              generalize ((w5.setCells (w.heap.size + 1) 0 [.int .i64 1, .int .i64 (j : Int), .int .i64 0, .int .i64 x.kind, .int .i64 x.job, .int .i64 x.every, .int .i64 x.time, .int .i64 x.client]).setCells (w.heap.size + 1 + 1) 0 [.int .i64 x.kind, .int .i64 x.job, .int .i64 x.every, .int .i64 x.time, .int .i64 x.client]).drew = wf at F1 F2 hE ⊢
              have z0 := F1 0 _ rfl
              have z1 := F1 1 _ rfl
              have z2 := F1 2 _ rfl
              have z3 := F1 3 _ rfl
              have z4 := F1 4 _ rfl
              have z5 := F1 5 _ rfl
              have z6 := F1 6 _ rfl
              have z7 := F1 7 _ rfl
              have y0 := F2 0 _ rfl
              have y1 := F2 1 _ rfl
              have y2 := F2 2 _ rfl
              have y3 := F2 3 _ rfl
              have y4 := F2 4 _ rfl
              refine bodyPost_ret (v := .tuple #[.agg #[.int .i64 1, .int .i64 (j : Int), .int .i64 0, .int .i64 x.kind, .int .i64 x.job, .int .i64 x.every, .int .i64 x.time, .int .i64 x.client], .agg #[.int .i64 x.kind, .int .i64 x.job, .int .i64 x.every, .int .i64 x.time, .int .i64 x.client], .int .i64 0]) (by simp [results, Try.results19, go_sem, z0, z1, z2, z3, z4, z5, z6, z7, y0, y1, y2, y3, y4]) rfl ?_
              rw [HR.out]
              exact ⟨rfl, hE⟩
            · have HR2 := HR1.out
              rw [if_pos (fun h => hyb (hoy.2.2.1 h))] at HR2
              have hd2 : (!(y.kind == 4 && y.job == 0 && y.every == 0 && y.time == 0 && y.client == 0)) = true := ne_true hyb
              have HR := Lib.hid HR2
              clear HR2 HR1 hyb hoy
              refine wp_region_onto (by kernel_rfl) (by kernel_rfl) ?_
              repeat (go_big_quiet_step ((first | (go_at_call 66; exact calls_onto (blank_calls _)))))
              refine wpQuiet_nil ?_
              intro w5 hb5
              have x0e := cellB hb5 x0d; have x1e := cellB hb5 x1d; have x2e := cellB hb5 x2d; have x3e := cellB hb5 x3d; have x4e := cellB hb5 x4d; have r0e := cellB hb5 r0d; have r1e := cellB hb5 r1d; have r2e := cellB hb5 r2d; have r3e := cellB hb5 r3d; have r4e := cellB hb5 r4d; have r5e := cellB hb5 r5d; have r6e := cellB hb5 r6d; have r7e := cellB hb5 r7d; have y0e := cellB hb5 y0d; have y1e := cellB hb5 y1d; have y2e := cellB hb5 y2d; have y3e := cellB hb5 y3d; have y4e := cellB hb5 y4d
              have fr0e := frozB hb5 r0d fr0d; have fr1e := frozB hb5 r1d fr1d; have fr2e := frozB hb5 r2d fr2d; have fr3e := frozB hb5 r3d fr3d; have fr4e := frozB hb5 r4d fr4d; have fr5e := frozB hb5 r5d fr5d; have fr6e := frozB hb5 r6d fr6d; have fr7e := frozB hb5 r7d fr7d; have fy0e := frozB hb5 y0d fy0d; have fy1e := frozB hb5 y1d fy1d; have fy2e := frozB hb5 y2d fy2d; have fy3e := frozB hb5 y3d fy3d; have fy4e := frozB hb5 y4d fy4d
              clear x0d x1d x2d x3d x4d r0d r1d r2d r3d r4d r5d r6d r7d y0d y1d y2d y3d y4d fr0d fr1d fr2d fr3d fr4d fr5d fr6d fr7d fy0d fy1d fy2d fy3d fy4d
              have k0e := cellB hb5 k0; have k1e := cellB hb5 k1; have k2e := cellB hb5 k2; have k3e := cellB hb5 k3; have k4e := cellB hb5 k4
              have h05 := Onto.to h04 hb5
              have hz5 : w.heap.size + 1 + 1 < w5.heap.size := World.block_lt_of_cell? _ _ y0e
              have hz6 := World.block_lt_of_cell? _ _ k0e
              simp only at hz6
              clear hb5 h04 m0 m1 m2 m3 m4 k0 k1 k2 k3 k4
              go_wp2_with fail
              go_region
              go_wp2_with fail
              rw [show (((((((((((((w5.setCell ⟨w.heap.size + 1, 0, none⟩ (.int .i64 0)).setCell ⟨w.heap.size + 1, 1, none⟩ (.int .i64 0)).setCell ⟨w.heap.size + 1, 2, none⟩ (.int .i64 0)).setCell ⟨w.heap.size + 1, 3, none⟩ (.int .i64 0)).setCell ⟨w.heap.size + 1, 4, none⟩ (.int .i64 0)).setCell ⟨w.heap.size + 1, 5, none⟩ (.int .i64 0)).setCell ⟨w.heap.size + 1, 6, none⟩ (.int .i64 0)).setCell ⟨w.heap.size + 1, 7, none⟩ (.int .i64 0)).setCell ⟨w.heap.size + 1 + 1, 0, none⟩ (.int .i64 y.kind)).setCell ⟨w.heap.size + 1 + 1, 1, none⟩ (.int .i64 y.job)).setCell ⟨w.heap.size + 1 + 1, 2, none⟩ (.int .i64 y.every)).setCell ⟨w.heap.size + 1 + 1, 3, none⟩ (.int .i64 y.time)).setCell ⟨w.heap.size + 1 + 1, 4, none⟩ (.int .i64 y.client)).drew = ((w5.setCells (w.heap.size + 1) 0 [.int .i64 0, .int .i64 0, .int .i64 0, .int .i64 0, .int .i64 0, .int .i64 0, .int .i64 0, .int .i64 0]).setCells (w.heap.size + 1 + 1) 0 [.int .i64 y.kind, .int .i64 y.job, .int .i64 y.every, .int .i64 y.time, .int .i64 y.client]).drew from rfl]
              have hE : Onto w ((w5.setCells (w.heap.size + 1) 0 [.int .i64 0, .int .i64 0, .int .i64 0, .int .i64 0, .int .i64 0, .int .i64 0, .int .i64 0, .int .i64 0]).setCells (w.heap.size + 1 + 1) 0 [.int .i64 y.kind, .int .i64 y.job, .int .i64 y.every, .int .i64 y.time, .int .i64 y.client]).drew := (put_onto (by omega) (put_onto (by omega) h05)).draw
              obtain ⟨F1, F2⟩ := put2d (w := w5) (b := w.heap.size + 1) (b' := w.heap.size + 1 + 1) (vs := [.int .i64 0, .int .i64 0, .int .i64 0, .int .i64 0, .int .i64 0, .int .i64 0, .int .i64 0, .int .i64 0]) (us := [.int .i64 y.kind, .int .i64 y.job, .int .i64 y.every, .int .i64 y.time, .int .i64 y.client]) (by omega) (there8 r0e r1e r2e r3e r4e r5e r6e r7e) (there5 y0e y1e y2e y3e y4e)
              generalize ((w5.setCells (w.heap.size + 1) 0 [.int .i64 0, .int .i64 0, .int .i64 0, .int .i64 0, .int .i64 0, .int .i64 0, .int .i64 0, .int .i64 0]).setCells (w.heap.size + 1 + 1) 0 [.int .i64 y.kind, .int .i64 y.job, .int .i64 y.every, .int .i64 y.time, .int .i64 y.client]).drew = wf at F1 F2 hE ⊢
              have z0 := F1 0 _ rfl
              have z1 := F1 1 _ rfl
              have z2 := F1 2 _ rfl
              have z3 := F1 3 _ rfl
              have z4 := F1 4 _ rfl
              have z5 := F1 5 _ rfl
              have z6 := F1 6 _ rfl
              have z7 := F1 7 _ rfl
              have y0 := F2 0 _ rfl
              have y1 := F2 1 _ rfl
              have y2 := F2 2 _ rfl
              have y3 := F2 3 _ rfl
              have y4 := F2 4 _ rfl
              refine bodyPost_ret (v := .tuple #[.agg #[.int .i64 0, .int .i64 0, .int .i64 0, .int .i64 0, .int .i64 0, .int .i64 0, .int .i64 0, .int .i64 0], .agg #[.int .i64 y.kind, .int .i64 y.job, .int .i64 y.every, .int .i64 y.time, .int .i64 y.client], .int .i64 0]) (by simp [results, Try.results19, go_sem, z0, z1, z2, z3, z4, z5, z6, z7, y0, y1, y2, y3, y4]) rfl ?_
              rw [HR.out]
              exact ⟨rfl, hE⟩
          · obtain ⟨b', off', v, hA', hzv, hv, g0, g1, hsv, hvl⟩ := hu3.atU (i := i - 1) (by omega)
            injection hA' with hA'
            injection hA' with e1' e2' _
            subst e1'; subst e2'
            have hgv := HG.out.ok v.u (List.mem_map.2 ⟨v, List.mem_of_getElem? hv, rfl⟩)
            have hvn : v.n = 60 := by rw [← hvl]; exact hgv.len
            rw [hvn] at hsv g1
            obtain ⟨b2, off2, y', hA2, hyz', hy', f0, f1, f2, f3, f4⟩ := hsv.atE hj60
            rw [hA2] at g1
            have hr := HRX.out
            rw [uniAt_eq (unis_at hv), show cellAt v.u.cells j = y' from cellAt_eq hy'] at hr
            have hpos' : (0 : Int) < (i : Int) := by omega
            have hpd : decide ((1 : Int) ≤ (i : Int)) = true := by simp; omega
            have hpd' : (1 : Int) ≤ (i : Int) := by omega
            clear hsv hv hy' hgv hA2 hu3
            by_cases hyx : x = y'
            · have hd2 : (!(x.kind == y'.kind && x.job == y'.job && x.every == y'.every && x.time == y'.time && x.client == y'.client)) = false := ne_false hyx
              rw [if_neg (by simp [hyx])] at hr
              have HR1 := Lib.hid hr
              clear hr hyx HRX
              go_wp2_with fail
              go_quiet (fail)
              clear f0 f1 f2 f3 f4 g0 g1 hd2
              obtain ⟨w4, hw4⟩ : ∃ w4, w4 = w3.drewN nq := ⟨_, rfl⟩
              rw [← hw4]
              have hb4 : Onto w3 w4 := hw4 ▸ Onto.draws (Below.refl _ _) nq
              clear hw4
              have x0d := cellB hb4 x0c; have x1d := cellB hb4 x1c; have x2d := cellB hb4 x2c; have x3d := cellB hb4 x3c; have x4d := cellB hb4 x4c; have r0d := cellB hb4 r0c; have r1d := cellB hb4 r1c; have r2d := cellB hb4 r2c; have r3d := cellB hb4 r3c; have r4d := cellB hb4 r4c; have r5d := cellB hb4 r5c; have r6d := cellB hb4 r6c; have r7d := cellB hb4 r7c; have y0d := cellB hb4 y0c; have y1d := cellB hb4 y1c; have y2d := cellB hb4 y2c; have y3d := cellB hb4 y3c; have y4d := cellB hb4 y4c
              have fr0d := frozB hb4 r0c fr0c; have fr1d := frozB hb4 r1c fr1c; have fr2d := frozB hb4 r2c fr2c; have fr3d := frozB hb4 r3c fr3c; have fr4d := frozB hb4 r4c fr4c; have fr5d := frozB hb4 r5c fr5c; have fr6d := frozB hb4 r6c fr6c; have fr7d := frozB hb4 r7c fr7c; have fy0d := frozB hb4 y0c fy0c; have fy1d := frozB hb4 y1c fy1c; have fy2d := frozB hb4 y2c fy2c; have fy3d := frozB hb4 y3c fy3c; have fy4d := frozB hb4 y4c fy4c
              clear x0c x1c x2c x3c x4c r0c r1c r2c r3c r4c r5c r6c r7c y0c y1c y2c y3c y4c fr0c fr1c fr2c fr3c fr4c fr5c fr6c fr7c fy0c fy1c fy2c fy3c fy4c
              have k0b := cellB hb4 k0; have k1b := cellB hb4 k1; have k2b := cellB hb4 k2; have k3b := cellB hb4 k3; have k4b := cellB hb4 k4
              have h04 := Onto.to h03 hb4
              clear hb4 h03 k0 k1 k2 k3 k4 hbz3 e0' hz3
              have k0 := k0b; have k1 := k1b; have k2 := k2b; have k3 := k3b; have k4 := k4b
              clear k0b k1b k2b k3b k4b
              go_wp2_with fail
              have m0 := onto_cell k0; have m1 := onto_cell k1; have m2 := onto_cell k2; have m3 := onto_cell k3; have m4 := onto_cell k4
              by_cases hyb : y = blank
              · have HR2 := HR1.out
                rw [if_neg (by simp [hoy.2.2.2 hyb])] at HR2
                have hd2 : (!(y.kind == 4 && y.job == 0 && y.every == 0 && y.time == 0 && y.client == 0)) = false := ne_false hyb
                have HR := Lib.hid HR2
                clear HR2 HR1 hyb hoy
                refine wp_region_onto (by kernel_rfl) (by kernel_rfl) ?_
                repeat (go_big_quiet_step ((first | (go_at_call 66; exact calls_onto (blank_calls _)))))
                refine wpQuiet_nil ?_
                intro w5 hb5
                have x0e := cellB hb5 x0d; have x1e := cellB hb5 x1d; have x2e := cellB hb5 x2d; have x3e := cellB hb5 x3d; have x4e := cellB hb5 x4d; have r0e := cellB hb5 r0d; have r1e := cellB hb5 r1d; have r2e := cellB hb5 r2d; have r3e := cellB hb5 r3d; have r4e := cellB hb5 r4d; have r5e := cellB hb5 r5d; have r6e := cellB hb5 r6d; have r7e := cellB hb5 r7d; have y0e := cellB hb5 y0d; have y1e := cellB hb5 y1d; have y2e := cellB hb5 y2d; have y3e := cellB hb5 y3d; have y4e := cellB hb5 y4d
                have fr0e := frozB hb5 r0d fr0d; have fr1e := frozB hb5 r1d fr1d; have fr2e := frozB hb5 r2d fr2d; have fr3e := frozB hb5 r3d fr3d; have fr4e := frozB hb5 r4d fr4d; have fr5e := frozB hb5 r5d fr5d; have fr6e := frozB hb5 r6d fr6d; have fr7e := frozB hb5 r7d fr7d; have fy0e := frozB hb5 y0d fy0d; have fy1e := frozB hb5 y1d fy1d; have fy2e := frozB hb5 y2d fy2d; have fy3e := frozB hb5 y3d fy3d; have fy4e := frozB hb5 y4d fy4d
                clear x0d x1d x2d x3d x4d r0d r1d r2d r3d r4d r5d r6d r7d y0d y1d y2d y3d y4d fr0d fr1d fr2d fr3d fr4d fr5d fr6d fr7d fy0d fy1d fy2d fy3d fy4d
                have k0e := cellB hb5 k0; have k1e := cellB hb5 k1; have k2e := cellB hb5 k2; have k3e := cellB hb5 k3; have k4e := cellB hb5 k4
                have h05 := Onto.to h04 hb5
                have hz5 : w.heap.size + 1 + 1 < w5.heap.size := World.block_lt_of_cell? _ _ y0e
                have hz6 := World.block_lt_of_cell? _ _ k0e
                simp only at hz6
                clear hb5 h04 m0 m1 m2 m3 m4 k0 k1 k2 k3 k4
                go_wp2_with fail
                go_region
                go_wp2_with fail
                rw [show (((((((((((((w5.setCell ⟨w.heap.size + 1, 0, none⟩ (.int .i64 1)).setCell ⟨w.heap.size + 1, 1, none⟩ (.int .i64 (j : Int))).setCell ⟨w.heap.size + 1, 2, none⟩ (.int .i64 0)).setCell ⟨w.heap.size + 1, 3, none⟩ (.int .i64 x.kind)).setCell ⟨w.heap.size + 1, 4, none⟩ (.int .i64 x.job)).setCell ⟨w.heap.size + 1, 5, none⟩ (.int .i64 x.every)).setCell ⟨w.heap.size + 1, 6, none⟩ (.int .i64 x.time)).setCell ⟨w.heap.size + 1, 7, none⟩ (.int .i64 x.client)).setCell ⟨w.heap.size + 1 + 1, 0, none⟩ (.int .i64 x.kind)).setCell ⟨w.heap.size + 1 + 1, 1, none⟩ (.int .i64 x.job)).setCell ⟨w.heap.size + 1 + 1, 2, none⟩ (.int .i64 x.every)).setCell ⟨w.heap.size + 1 + 1, 3, none⟩ (.int .i64 x.time)).setCell ⟨w.heap.size + 1 + 1, 4, none⟩ (.int .i64 x.client)).drew = ((w5.setCells (w.heap.size + 1) 0 [.int .i64 1, .int .i64 (j : Int), .int .i64 0, .int .i64 x.kind, .int .i64 x.job, .int .i64 x.every, .int .i64 x.time, .int .i64 x.client]).setCells (w.heap.size + 1 + 1) 0 [.int .i64 x.kind, .int .i64 x.job, .int .i64 x.every, .int .i64 x.time, .int .i64 x.client]).drew from rfl]
                have hE : Onto w ((w5.setCells (w.heap.size + 1) 0 [.int .i64 1, .int .i64 (j : Int), .int .i64 0, .int .i64 x.kind, .int .i64 x.job, .int .i64 x.every, .int .i64 x.time, .int .i64 x.client]).setCells (w.heap.size + 1 + 1) 0 [.int .i64 x.kind, .int .i64 x.job, .int .i64 x.every, .int .i64 x.time, .int .i64 x.client]).drew := (put_onto (by omega) (put_onto (by omega) h05)).draw
                obtain ⟨F1, F2⟩ := put2d (w := w5) (b := w.heap.size + 1) (b' := w.heap.size + 1 + 1) (vs := [.int .i64 1, .int .i64 (j : Int), .int .i64 0, .int .i64 x.kind, .int .i64 x.job, .int .i64 x.every, .int .i64 x.time, .int .i64 x.client]) (us := [.int .i64 x.kind, .int .i64 x.job, .int .i64 x.every, .int .i64 x.time, .int .i64 x.client]) (by omega) (there8 r0e r1e r2e r3e r4e r5e r6e r7e) (there5 y0e y1e y2e y3e y4e)
                generalize ((w5.setCells (w.heap.size + 1) 0 [.int .i64 1, .int .i64 (j : Int), .int .i64 0, .int .i64 x.kind, .int .i64 x.job, .int .i64 x.every, .int .i64 x.time, .int .i64 x.client]).setCells (w.heap.size + 1 + 1) 0 [.int .i64 x.kind, .int .i64 x.job, .int .i64 x.every, .int .i64 x.time, .int .i64 x.client]).drew = wf at F1 F2 hE ⊢
                have z0 := F1 0 _ rfl
                have z1 := F1 1 _ rfl
                have z2 := F1 2 _ rfl
                have z3 := F1 3 _ rfl
                have z4 := F1 4 _ rfl
                have z5 := F1 5 _ rfl
                have z6 := F1 6 _ rfl
                have z7 := F1 7 _ rfl
                have y0 := F2 0 _ rfl
                have y1 := F2 1 _ rfl
                have y2 := F2 2 _ rfl
                have y3 := F2 3 _ rfl
                have y4 := F2 4 _ rfl
                refine bodyPost_ret (v := .tuple #[.agg #[.int .i64 1, .int .i64 (j : Int), .int .i64 0, .int .i64 x.kind, .int .i64 x.job, .int .i64 x.every, .int .i64 x.time, .int .i64 x.client], .agg #[.int .i64 x.kind, .int .i64 x.job, .int .i64 x.every, .int .i64 x.time, .int .i64 x.client], .int .i64 0]) (by simp [results, Try.results19, go_sem, z0, z1, z2, z3, z4, z5, z6, z7, y0, y1, y2, y3, y4]) rfl ?_
                rw [HR.out]
                exact ⟨rfl, hE⟩
              · have HR2 := HR1.out
                rw [if_pos (fun h => hyb (hoy.2.2.1 h))] at HR2
                have hd2 : (!(y.kind == 4 && y.job == 0 && y.every == 0 && y.time == 0 && y.client == 0)) = true := ne_true hyb
                have HR := Lib.hid HR2
                clear HR2 HR1 hyb hoy
                refine wp_region_onto (by kernel_rfl) (by kernel_rfl) ?_
                repeat (go_big_quiet_step ((first | (go_at_call 66; exact calls_onto (blank_calls _)))))
                refine wpQuiet_nil ?_
                intro w5 hb5
                have x0e := cellB hb5 x0d; have x1e := cellB hb5 x1d; have x2e := cellB hb5 x2d; have x3e := cellB hb5 x3d; have x4e := cellB hb5 x4d; have r0e := cellB hb5 r0d; have r1e := cellB hb5 r1d; have r2e := cellB hb5 r2d; have r3e := cellB hb5 r3d; have r4e := cellB hb5 r4d; have r5e := cellB hb5 r5d; have r6e := cellB hb5 r6d; have r7e := cellB hb5 r7d; have y0e := cellB hb5 y0d; have y1e := cellB hb5 y1d; have y2e := cellB hb5 y2d; have y3e := cellB hb5 y3d; have y4e := cellB hb5 y4d
                have fr0e := frozB hb5 r0d fr0d; have fr1e := frozB hb5 r1d fr1d; have fr2e := frozB hb5 r2d fr2d; have fr3e := frozB hb5 r3d fr3d; have fr4e := frozB hb5 r4d fr4d; have fr5e := frozB hb5 r5d fr5d; have fr6e := frozB hb5 r6d fr6d; have fr7e := frozB hb5 r7d fr7d; have fy0e := frozB hb5 y0d fy0d; have fy1e := frozB hb5 y1d fy1d; have fy2e := frozB hb5 y2d fy2d; have fy3e := frozB hb5 y3d fy3d; have fy4e := frozB hb5 y4d fy4d
                clear x0d x1d x2d x3d x4d r0d r1d r2d r3d r4d r5d r6d r7d y0d y1d y2d y3d y4d fr0d fr1d fr2d fr3d fr4d fr5d fr6d fr7d fy0d fy1d fy2d fy3d fy4d
                have k0e := cellB hb5 k0; have k1e := cellB hb5 k1; have k2e := cellB hb5 k2; have k3e := cellB hb5 k3; have k4e := cellB hb5 k4
                have h05 := Onto.to h04 hb5
                have hz5 : w.heap.size + 1 + 1 < w5.heap.size := World.block_lt_of_cell? _ _ y0e
                have hz6 := World.block_lt_of_cell? _ _ k0e
                simp only at hz6
                clear hb5 h04 m0 m1 m2 m3 m4 k0 k1 k2 k3 k4
                go_wp2_with fail
                go_region
                go_wp2_with fail
                rw [show (((((((((((((w5.setCell ⟨w.heap.size + 1, 0, none⟩ (.int .i64 0)).setCell ⟨w.heap.size + 1, 1, none⟩ (.int .i64 0)).setCell ⟨w.heap.size + 1, 2, none⟩ (.int .i64 0)).setCell ⟨w.heap.size + 1, 3, none⟩ (.int .i64 0)).setCell ⟨w.heap.size + 1, 4, none⟩ (.int .i64 0)).setCell ⟨w.heap.size + 1, 5, none⟩ (.int .i64 0)).setCell ⟨w.heap.size + 1, 6, none⟩ (.int .i64 0)).setCell ⟨w.heap.size + 1, 7, none⟩ (.int .i64 0)).setCell ⟨w.heap.size + 1 + 1, 0, none⟩ (.int .i64 y.kind)).setCell ⟨w.heap.size + 1 + 1, 1, none⟩ (.int .i64 y.job)).setCell ⟨w.heap.size + 1 + 1, 2, none⟩ (.int .i64 y.every)).setCell ⟨w.heap.size + 1 + 1, 3, none⟩ (.int .i64 y.time)).setCell ⟨w.heap.size + 1 + 1, 4, none⟩ (.int .i64 y.client)).drew = ((w5.setCells (w.heap.size + 1) 0 [.int .i64 0, .int .i64 0, .int .i64 0, .int .i64 0, .int .i64 0, .int .i64 0, .int .i64 0, .int .i64 0]).setCells (w.heap.size + 1 + 1) 0 [.int .i64 y.kind, .int .i64 y.job, .int .i64 y.every, .int .i64 y.time, .int .i64 y.client]).drew from rfl]
                have hE : Onto w ((w5.setCells (w.heap.size + 1) 0 [.int .i64 0, .int .i64 0, .int .i64 0, .int .i64 0, .int .i64 0, .int .i64 0, .int .i64 0, .int .i64 0]).setCells (w.heap.size + 1 + 1) 0 [.int .i64 y.kind, .int .i64 y.job, .int .i64 y.every, .int .i64 y.time, .int .i64 y.client]).drew := (put_onto (by omega) (put_onto (by omega) h05)).draw
                obtain ⟨F1, F2⟩ := put2d (w := w5) (b := w.heap.size + 1) (b' := w.heap.size + 1 + 1) (vs := [.int .i64 0, .int .i64 0, .int .i64 0, .int .i64 0, .int .i64 0, .int .i64 0, .int .i64 0, .int .i64 0]) (us := [.int .i64 y.kind, .int .i64 y.job, .int .i64 y.every, .int .i64 y.time, .int .i64 y.client]) (by omega) (there8 r0e r1e r2e r3e r4e r5e r6e r7e) (there5 y0e y1e y2e y3e y4e)
                generalize ((w5.setCells (w.heap.size + 1) 0 [.int .i64 0, .int .i64 0, .int .i64 0, .int .i64 0, .int .i64 0, .int .i64 0, .int .i64 0, .int .i64 0]).setCells (w.heap.size + 1 + 1) 0 [.int .i64 y.kind, .int .i64 y.job, .int .i64 y.every, .int .i64 y.time, .int .i64 y.client]).drew = wf at F1 F2 hE ⊢
                have z0 := F1 0 _ rfl
                have z1 := F1 1 _ rfl
                have z2 := F1 2 _ rfl
                have z3 := F1 3 _ rfl
                have z4 := F1 4 _ rfl
                have z5 := F1 5 _ rfl
                have z6 := F1 6 _ rfl
                have z7 := F1 7 _ rfl
                have y0 := F2 0 _ rfl
                have y1 := F2 1 _ rfl
                have y2 := F2 2 _ rfl
                have y3 := F2 3 _ rfl
                have y4 := F2 4 _ rfl
                refine bodyPost_ret (v := .tuple #[.agg #[.int .i64 0, .int .i64 0, .int .i64 0, .int .i64 0, .int .i64 0, .int .i64 0, .int .i64 0, .int .i64 0], .agg #[.int .i64 y.kind, .int .i64 y.job, .int .i64 y.every, .int .i64 y.time, .int .i64 y.client], .int .i64 0]) (by simp [results, Try.results19, go_sem, z0, z1, z2, z3, z4, z5, z6, z7, y0, y1, y2, y3, y4]) rfl ?_
                rw [HR.out]
                exact ⟨rfl, hE⟩
            · have hd2 : (!(x.kind == y'.kind && x.job == y'.job && x.every == y'.every && x.time == y'.time && x.client == y'.client)) = true := ne_true hyx
              rw [if_pos ⟨by omega, fun h => hyx h.symm⟩] at hr
              have HR := Lib.hid hr
              clear hr hyx HRX
              go_wp2_with fail
              go_quiet (fail)
              clear f0 f1 f2 f3 f4 g0 g1
              obtain ⟨w4, hw4⟩ : ∃ w4, w4 = w3.drewN nq := ⟨_, rfl⟩
              rw [← hw4]
              have hb4 : Onto w3 w4 := hw4 ▸ Onto.draws (Below.refl _ _) nq
              clear hw4
              have x0d := cellB hb4 x0c; have x1d := cellB hb4 x1c; have x2d := cellB hb4 x2c; have x3d := cellB hb4 x3c; have x4d := cellB hb4 x4c; have r0d := cellB hb4 r0c; have r1d := cellB hb4 r1c; have r2d := cellB hb4 r2c; have r3d := cellB hb4 r3c; have r4d := cellB hb4 r4c; have r5d := cellB hb4 r5c; have r6d := cellB hb4 r6c; have r7d := cellB hb4 r7c; have y0d := cellB hb4 y0c; have y1d := cellB hb4 y1c; have y2d := cellB hb4 y2c; have y3d := cellB hb4 y3c; have y4d := cellB hb4 y4c
              have fr0d := frozB hb4 r0c fr0c; have fr1d := frozB hb4 r1c fr1c; have fr2d := frozB hb4 r2c fr2c; have fr3d := frozB hb4 r3c fr3c; have fr4d := frozB hb4 r4c fr4c; have fr5d := frozB hb4 r5c fr5c; have fr6d := frozB hb4 r6c fr6c; have fr7d := frozB hb4 r7c fr7c; have fy0d := frozB hb4 y0c fy0c; have fy1d := frozB hb4 y1c fy1c; have fy2d := frozB hb4 y2c fy2c; have fy3d := frozB hb4 y3c fy3c; have fy4d := frozB hb4 y4c fy4c
              clear x0c x1c x2c x3c x4c r0c r1c r2c r3c r4c r5c r6c r7c y0c y1c y2c y3c y4c fr0c fr1c fr2c fr3c fr4c fr5c fr6c fr7c fy0c fy1c fy2c fy3c fy4c
              have k0b := cellB hb4 k0; have k1b := cellB hb4 k1; have k2b := cellB hb4 k2; have k3b := cellB hb4 k3; have k4b := cellB hb4 k4
              have h04 := Onto.to h03 hb4
              clear hb4 h03 k0 k1 k2 k3 k4 hbz3 e0' hz3
              have k0 := k0b; have k1 := k1b; have k2 := k2b; have k3 := k3b; have k4 := k4b
              clear k0b k1b k2b k3b k4b
              go_wp2_with fail
              refine Calls.mono (bad_calls 7 _) ?_
              rintro e wB ⟨rfl, hbB⟩
              have x0z := cellB hbB x0d; have x1z := cellB hbB x1d; have x2z := cellB hbB x2d; have x3z := cellB hbB x3d; have x4z := cellB hbB x4d; have r0z := cellB hbB r0d; have r1z := cellB hbB r1d; have r2z := cellB hbB r2d; have r3z := cellB hbB r3d; have r4z := cellB hbB r4d; have r5z := cellB hbB r5d; have r6z := cellB hbB r6d; have r7z := cellB hbB r7d; have y0z := cellB hbB y0d; have y1z := cellB hbB y1d; have y2z := cellB hbB y2d; have y3z := cellB hbB y3d; have y4z := cellB hbB y4d
              have fr0z := frozB hbB r0d fr0d; have fr1z := frozB hbB r1d fr1d; have fr2z := frozB hbB r2d fr2d; have fr3z := frozB hbB r3d fr3d; have fr4z := frozB hbB r4d fr4d; have fr5z := frozB hbB r5d fr5d; have fr6z := frozB hbB r6d fr6d; have fr7z := frozB hbB r7d fr7d; have fy0z := frozB hbB y0d fy0d; have fy1z := frozB hbB y1d fy1d; have fy2z := frozB hbB y2d fy2d; have fy3z := frozB hbB y3d fy3d; have fy4z := frozB hbB y4d fy4d
              clear x0d x1d x2d x3d x4d r0d r1d r2d r3d r4d r5d r6d r7d y0d y1d y2d y3d y4d fr0d fr1d fr2d fr3d fr4d fr5d fr6d fr7d fy0d fy1d fy2d fy3d fy4d
              have honB := Onto.to h04 hbB
              have hzB : w.heap.size + 1 + 1 < wB.heap.size := World.block_lt_of_cell? _ _ y0z
              clear hbB
              go_wp2_with fail
              rw [show (((((((((((((wB.setCell ⟨w.heap.size + 1, 0, none⟩ (.int .i64 0)).setCell ⟨w.heap.size + 1, 1, none⟩ (.int .i64 0)).setCell ⟨w.heap.size + 1, 2, none⟩ (.int .i64 0)).setCell ⟨w.heap.size + 1, 3, none⟩ (.int .i64 0)).setCell ⟨w.heap.size + 1, 4, none⟩ (.int .i64 0)).setCell ⟨w.heap.size + 1, 5, none⟩ (.int .i64 0)).setCell ⟨w.heap.size + 1, 6, none⟩ (.int .i64 0)).setCell ⟨w.heap.size + 1, 7, none⟩ (.int .i64 0)).setCell ⟨w.heap.size + 1 + 1, 0, none⟩ (.int .i64 0)).setCell ⟨w.heap.size + 1 + 1, 1, none⟩ (.int .i64 0)).setCell ⟨w.heap.size + 1 + 1, 2, none⟩ (.int .i64 0)).setCell ⟨w.heap.size + 1 + 1, 3, none⟩ (.int .i64 0)).setCell ⟨w.heap.size + 1 + 1, 4, none⟩ (.int .i64 0)) = (wB.setCells (w.heap.size + 1) 0 [.int .i64 0, .int .i64 0, .int .i64 0, .int .i64 0, .int .i64 0, .int .i64 0, .int .i64 0, .int .i64 0]).setCells (w.heap.size + 1 + 1) 0 [.int .i64 0, .int .i64 0, .int .i64 0, .int .i64 0, .int .i64 0] from rfl]
              have hE : Onto w ((wB.setCells (w.heap.size + 1) 0 [.int .i64 0, .int .i64 0, .int .i64 0, .int .i64 0, .int .i64 0, .int .i64 0, .int .i64 0, .int .i64 0]).setCells (w.heap.size + 1 + 1) 0 [.int .i64 0, .int .i64 0, .int .i64 0, .int .i64 0, .int .i64 0]) := put_onto (by omega) (put_onto (by omega) honB)
              obtain ⟨F1, F2⟩ := put2 (w := wB) (b := w.heap.size + 1) (b' := w.heap.size + 1 + 1) (vs := [.int .i64 0, .int .i64 0, .int .i64 0, .int .i64 0, .int .i64 0, .int .i64 0, .int .i64 0, .int .i64 0]) (us := [.int .i64 0, .int .i64 0, .int .i64 0, .int .i64 0, .int .i64 0]) (by omega) (there8 r0z r1z r2z r3z r4z r5z r6z r7z) (there5 y0z y1z y2z y3z y4z)
              generalize (wB.setCells (w.heap.size + 1) 0 [.int .i64 0, .int .i64 0, .int .i64 0, .int .i64 0, .int .i64 0, .int .i64 0, .int .i64 0, .int .i64 0]).setCells (w.heap.size + 1 + 1) 0 [.int .i64 0, .int .i64 0, .int .i64 0, .int .i64 0, .int .i64 0] = wf at F1 F2 hE ⊢
              have z0 := F1 0 _ rfl
              have z1 := F1 1 _ rfl
              have z2 := F1 2 _ rfl
              have z3 := F1 3 _ rfl
              have z4 := F1 4 _ rfl
              have z5 := F1 5 _ rfl
              have z6 := F1 6 _ rfl
              have z7 := F1 7 _ rfl
              have y0 := F2 0 _ rfl
              have y1 := F2 1 _ rfl
              have y2 := F2 2 _ rfl
              have y3 := F2 3 _ rfl
              have y4 := F2 4 _ rfl
              refine bodyPost_ret (v := .tuple #[.agg #[.int .i64 0, .int .i64 0, .int .i64 0, .int .i64 0, .int .i64 0, .int .i64 0, .int .i64 0, .int .i64 0], .agg #[.int .i64 0, .int .i64 0, .int .i64 0, .int .i64 0, .int .i64 0], .int .i64 7]) (by simp [results, Try.results19, go_sem, z0, z1, z2, z3, z4, z5, z6, z7, y0, y1, y2, y3, y4]) rfl ?_
              rw [HR.out]
              exact ⟨rfl, hE⟩
      · rw [if_pos h20] at hr
        have HR := Lib.hid hr
        have hd : (q2 != 0) = true := by simpa using h20
        clear hr HR1 h20 hu2
        go_wp2_with fail
        refine Calls.mono (bad_calls q2 _) ?_
        rintro e wB ⟨rfl, hbB⟩
        have x0z := cellB hbB x0b; have x1z := cellB hbB x1b; have x2z := cellB hbB x2b; have x3z := cellB hbB x3b; have x4z := cellB hbB x4b; have r0z := cellB hbB r0b; have r1z := cellB hbB r1b; have r2z := cellB hbB r2b; have r3z := cellB hbB r3b; have r4z := cellB hbB r4b; have r5z := cellB hbB r5b; have r6z := cellB hbB r6b; have r7z := cellB hbB r7b; have y0z := cellB hbB y0b; have y1z := cellB hbB y1b; have y2z := cellB hbB y2b; have y3z := cellB hbB y3b; have y4z := cellB hbB y4b
        have fr0z := frozB hbB r0b fr0b; have fr1z := frozB hbB r1b fr1b; have fr2z := frozB hbB r2b fr2b; have fr3z := frozB hbB r3b fr3b; have fr4z := frozB hbB r4b fr4b; have fr5z := frozB hbB r5b fr5b; have fr6z := frozB hbB r6b fr6b; have fr7z := frozB hbB r7b fr7b; have fy0z := frozB hbB y0b fy0b; have fy1z := frozB hbB y1b fy1b; have fy2z := frozB hbB y2b fy2b; have fy3z := frozB hbB y3b fy3b; have fy4z := frozB hbB y4b fy4b
        clear x0b x1b x2b x3b x4b r0b r1b r2b r3b r4b r5b r6b r7b y0b y1b y2b y3b y4b fr0b fr1b fr2b fr3b fr4b fr5b fr6b fr7b fy0b fy1b fy2b fy3b fy4b
        have honB := Onto.to h02 hbB
        have hzB : w.heap.size + 1 + 1 < wB.heap.size := World.block_lt_of_cell? _ _ y0z
        clear hbB
        go_wp2_with fail
        rw [show (((((((((((((wB.setCell ⟨w.heap.size + 1, 0, none⟩ (.int .i64 0)).setCell ⟨w.heap.size + 1, 1, none⟩ (.int .i64 0)).setCell ⟨w.heap.size + 1, 2, none⟩ (.int .i64 0)).setCell ⟨w.heap.size + 1, 3, none⟩ (.int .i64 0)).setCell ⟨w.heap.size + 1, 4, none⟩ (.int .i64 0)).setCell ⟨w.heap.size + 1, 5, none⟩ (.int .i64 0)).setCell ⟨w.heap.size + 1, 6, none⟩ (.int .i64 0)).setCell ⟨w.heap.size + 1, 7, none⟩ (.int .i64 0)).setCell ⟨w.heap.size + 1 + 1, 0, none⟩ (.int .i64 0)).setCell ⟨w.heap.size + 1 + 1, 1, none⟩ (.int .i64 0)).setCell ⟨w.heap.size + 1 + 1, 2, none⟩ (.int .i64 0)).setCell ⟨w.heap.size + 1 + 1, 3, none⟩ (.int .i64 0)).setCell ⟨w.heap.size + 1 + 1, 4, none⟩ (.int .i64 0)) = (wB.setCells (w.heap.size + 1) 0 [.int .i64 0, .int .i64 0, .int .i64 0, .int .i64 0, .int .i64 0, .int .i64 0, .int .i64 0, .int .i64 0]).setCells (w.heap.size + 1 + 1) 0 [.int .i64 0, .int .i64 0, .int .i64 0, .int .i64 0, .int .i64 0] from rfl]
        have hE : Onto w ((wB.setCells (w.heap.size + 1) 0 [.int .i64 0, .int .i64 0, .int .i64 0, .int .i64 0, .int .i64 0, .int .i64 0, .int .i64 0, .int .i64 0]).setCells (w.heap.size + 1 + 1) 0 [.int .i64 0, .int .i64 0, .int .i64 0, .int .i64 0, .int .i64 0]) := put_onto (by omega) (put_onto (by omega) honB)
        obtain ⟨F1, F2⟩ := put2 (w := wB) (b := w.heap.size + 1) (b' := w.heap.size + 1 + 1) (vs := [.int .i64 0, .int .i64 0, .int .i64 0, .int .i64 0, .int .i64 0, .int .i64 0, .int .i64 0, .int .i64 0]) (us := [.int .i64 0, .int .i64 0, .int .i64 0, .int .i64 0, .int .i64 0]) (by omega) (there8 r0z r1z r2z r3z r4z r5z r6z r7z) (there5 y0z y1z y2z y3z y4z)
        generalize (wB.setCells (w.heap.size + 1) 0 [.int .i64 0, .int .i64 0, .int .i64 0, .int .i64 0, .int .i64 0, .int .i64 0, .int .i64 0, .int .i64 0]).setCells (w.heap.size + 1 + 1) 0 [.int .i64 0, .int .i64 0, .int .i64 0, .int .i64 0, .int .i64 0] = wf at F1 F2 hE ⊢
        have z0 := F1 0 _ rfl
        have z1 := F1 1 _ rfl
        have z2 := F1 2 _ rfl
        have z3 := F1 3 _ rfl
        have z4 := F1 4 _ rfl
        have z5 := F1 5 _ rfl
        have z6 := F1 6 _ rfl
        have z7 := F1 7 _ rfl
        have y0 := F2 0 _ rfl
        have y1 := F2 1 _ rfl
        have y2 := F2 2 _ rfl
        have y3 := F2 3 _ rfl
        have y4 := F2 4 _ rfl
        refine bodyPost_ret (v := .tuple #[.agg #[.int .i64 0, .int .i64 0, .int .i64 0, .int .i64 0, .int .i64 0, .int .i64 0, .int .i64 0, .int .i64 0], .agg #[.int .i64 0, .int .i64 0, .int .i64 0, .int .i64 0, .int .i64 0], .int .i64 q2]) (by simp [results, Try.results19, go_sem, z0, z1, z2, z3, z4, z5, z6, z7, y0, y1, y2, y3, y4]) rfl ?_
        rw [HR.out]
        exact ⟨rfl, hE⟩
  · have hr := HR0.out
    rw [if_pos h0] at hr
    have HR := Lib.hid hr
    have hd : (q != 0) = true := by simpa using h0
    clear hr HR0 h0 hu1
    go_wp2_with fail
    refine Calls.mono (bad_calls q _) ?_
    rintro e wB ⟨rfl, hbB⟩
    have x0z := cellB hbB x0a; have x1z := cellB hbB x1a; have x2z := cellB hbB x2a; have x3z := cellB hbB x3a; have x4z := cellB hbB x4a; have r0z := cellB hbB r0a; have r1z := cellB hbB r1a; have r2z := cellB hbB r2a; have r3z := cellB hbB r3a; have r4z := cellB hbB r4a; have r5z := cellB hbB r5a; have r6z := cellB hbB r6a; have r7z := cellB hbB r7a; have y0z := cellB hbB y0a; have y1z := cellB hbB y1a; have y2z := cellB hbB y2a; have y3z := cellB hbB y3a; have y4z := cellB hbB y4a
    have fr0z := frozB hbB r0a fr0a; have fr1z := frozB hbB r1a fr1a; have fr2z := frozB hbB r2a fr2a; have fr3z := frozB hbB r3a fr3a; have fr4z := frozB hbB r4a fr4a; have fr5z := frozB hbB r5a fr5a; have fr6z := frozB hbB r6a fr6a; have fr7z := frozB hbB r7a fr7a; have fy0z := frozB hbB y0a fy0a; have fy1z := frozB hbB y1a fy1a; have fy2z := frozB hbB y2a fy2a; have fy3z := frozB hbB y3a fy3a; have fy4z := frozB hbB y4a fy4a
    clear x0a x1a x2a x3a x4a r0a r1a r2a r3a r4a r5a r6a r7a y0a y1a y2a y3a y4a fr0a fr1a fr2a fr3a fr4a fr5a fr6a fr7a fy0a fy1a fy2a fy3a fy4a
    have honB := Onto.to h01 hbB
    have hzB : w.heap.size + 1 + 1 < wB.heap.size := World.block_lt_of_cell? _ _ y0z
    clear hbB
    go_wp2_with fail
    rw [show (((((((((((((wB.setCell ⟨w.heap.size + 1, 0, none⟩ (.int .i64 0)).setCell ⟨w.heap.size + 1, 1, none⟩ (.int .i64 0)).setCell ⟨w.heap.size + 1, 2, none⟩ (.int .i64 0)).setCell ⟨w.heap.size + 1, 3, none⟩ (.int .i64 0)).setCell ⟨w.heap.size + 1, 4, none⟩ (.int .i64 0)).setCell ⟨w.heap.size + 1, 5, none⟩ (.int .i64 0)).setCell ⟨w.heap.size + 1, 6, none⟩ (.int .i64 0)).setCell ⟨w.heap.size + 1, 7, none⟩ (.int .i64 0)).setCell ⟨w.heap.size + 1 + 1, 0, none⟩ (.int .i64 0)).setCell ⟨w.heap.size + 1 + 1, 1, none⟩ (.int .i64 0)).setCell ⟨w.heap.size + 1 + 1, 2, none⟩ (.int .i64 0)).setCell ⟨w.heap.size + 1 + 1, 3, none⟩ (.int .i64 0)).setCell ⟨w.heap.size + 1 + 1, 4, none⟩ (.int .i64 0)) = (wB.setCells (w.heap.size + 1) 0 [.int .i64 0, .int .i64 0, .int .i64 0, .int .i64 0, .int .i64 0, .int .i64 0, .int .i64 0, .int .i64 0]).setCells (w.heap.size + 1 + 1) 0 [.int .i64 0, .int .i64 0, .int .i64 0, .int .i64 0, .int .i64 0] from rfl]
    have hE : Onto w ((wB.setCells (w.heap.size + 1) 0 [.int .i64 0, .int .i64 0, .int .i64 0, .int .i64 0, .int .i64 0, .int .i64 0, .int .i64 0, .int .i64 0]).setCells (w.heap.size + 1 + 1) 0 [.int .i64 0, .int .i64 0, .int .i64 0, .int .i64 0, .int .i64 0]) := put_onto (by omega) (put_onto (by omega) honB)
    obtain ⟨F1, F2⟩ := put2 (w := wB) (b := w.heap.size + 1) (b' := w.heap.size + 1 + 1) (vs := [.int .i64 0, .int .i64 0, .int .i64 0, .int .i64 0, .int .i64 0, .int .i64 0, .int .i64 0, .int .i64 0]) (us := [.int .i64 0, .int .i64 0, .int .i64 0, .int .i64 0, .int .i64 0]) (by omega) (there8 r0z r1z r2z r3z r4z r5z r6z r7z) (there5 y0z y1z y2z y3z y4z)
    generalize (wB.setCells (w.heap.size + 1) 0 [.int .i64 0, .int .i64 0, .int .i64 0, .int .i64 0, .int .i64 0, .int .i64 0, .int .i64 0, .int .i64 0]).setCells (w.heap.size + 1 + 1) 0 [.int .i64 0, .int .i64 0, .int .i64 0, .int .i64 0, .int .i64 0] = wf at F1 F2 hE ⊢
    have z0 := F1 0 _ rfl
    have z1 := F1 1 _ rfl
    have z2 := F1 2 _ rfl
    have z3 := F1 3 _ rfl
    have z4 := F1 4 _ rfl
    have z5 := F1 5 _ rfl
    have z6 := F1 6 _ rfl
    have z7 := F1 7 _ rfl
    have y0 := F2 0 _ rfl
    have y1 := F2 1 _ rfl
    have y2 := F2 2 _ rfl
    have y3 := F2 3 _ rfl
    have y4 := F2 4 _ rfl
    refine bodyPost_ret (v := .tuple #[.agg #[.int .i64 0, .int .i64 0, .int .i64 0, .int .i64 0, .int .i64 0, .int .i64 0, .int .i64 0, .int .i64 0], .agg #[.int .i64 0, .int .i64 0, .int .i64 0, .int .i64 0, .int .i64 0], .int .i64 q]) (by simp [results, Try.results19, go_sem, z0, z1, z2, z3, z4, z5, z6, z7, y0, y1, y2, y3, y4]) rfl ?_
    rw [HR.out]
    exact ⟨rfl, hE⟩
end Go.Proofs.Ytbipmoehcmighaa
