/- chain.Read. -/
import Derived.Test.YtbipmoehcmighaaChain
import Derived.Test.YtbipmoehcmighaaPut
namespace Go.Proofs.Ytbipmoehcmighaa
set_option linter.unusedSimpArgs false
set_option linter.unusedVariables false
open Go.RowKit

/-- What a call leaves that answers (Entry, Errno). -/
def EPost (w : World) (r : Entry × Int) (e : Ending) (w' : World) : Prop := e = .returned (.tuple #[.agg #[.int .i64 r.1.kind, .int .i64 r.1.job, .int .i64 r.1.every, .int .i64 r.1.time, .int .i64 r.1.client], .int .i64 r.2]) ∧ Onto w w'

set_option maxHeartbeats 8000000 in
set_option maxRecDepth 100000 in
theorem Read_calls (A : Option Addr) (n c : Nat) (l : List UV) (a : Int) (w : World) (h : Us w A n l) :
    Calls Try.prog 17 #[.slice A n c, .int .i64 a] w (EPost w (readC (unis l) a)) := by
  obtain ⟨q, hq⟩ : ∃ q, q = checkC (unis l) := ⟨_, rfl⟩
  obtain ⟨r, hr⟩ : ∃ r, r = readC (unis l) a := ⟨_, rfl⟩
  rw [← hr]
  unfold readC at hr
  rw [← hq] at hr
  have HQ := Lib.hid hq; have HR0 := Lib.hid hr
  clear hq hr
  go_enter Try.func17, Try.ntmps17
  go_wp2_with fail
  refine Calls.mono (CCheck_calls A n c l _ (h.new _)) ?_
  rw [← HQ.out]
  rintro e w1 ⟨rfl, hb1⟩
  have y0a : w1.cell? ⟨w.heap.size, 0, none⟩ = some (.int .i64 0) := cellB hb1 (by simp [go_sem])
  have fy0a : w1.frozen? ⟨w.heap.size, 0, none⟩ = false := frozB hb1 (v := .int .i64 0) (by simp [go_sem]) (by simp [go_sem])
  have y1a : w1.cell? ⟨w.heap.size, 1, none⟩ = some (.int .i64 0) := cellB hb1 (by simp [go_sem])
  have fy1a : w1.frozen? ⟨w.heap.size, 1, none⟩ = false := frozB hb1 (v := .int .i64 0) (by simp [go_sem]) (by simp [go_sem])
  have y2a : w1.cell? ⟨w.heap.size, 2, none⟩ = some (.int .i64 0) := cellB hb1 (by simp [go_sem])
  have fy2a : w1.frozen? ⟨w.heap.size, 2, none⟩ = false := frozB hb1 (v := .int .i64 0) (by simp [go_sem]) (by simp [go_sem])
  have y3a : w1.cell? ⟨w.heap.size, 3, none⟩ = some (.int .i64 0) := cellB hb1 (by simp [go_sem])
  have fy3a : w1.frozen? ⟨w.heap.size, 3, none⟩ = false := frozB hb1 (v := .int .i64 0) (by simp [go_sem]) (by simp [go_sem])
  have y4a : w1.cell? ⟨w.heap.size, 4, none⟩ = some (.int .i64 0) := cellB hb1 (by simp [go_sem])
  have fy4a : w1.frozen? ⟨w.heap.size, 4, none⟩ = false := frozB hb1 (v := .int .i64 0) (by simp [go_sem]) (by simp [go_sem])
  have h01 : Onto w w1 := ((Below.refl _ _).alloc (Nat.le_refl _) _).trans (hb1.mono (by simp))
  have hu1 := h.onto h01
  have hz1 : w.heap.size < w1.heap.size := World.block_lt_of_cell? _ _ y0a
  clear hb1 h
  by_cases h0 : q = 0
  · have hg := checkC_iff.1 (HQ.out.symm.trans h0)
    have hn : n = 3 := by rw [← hu1.len, ← List.length_map (f := UV.u)]; exact hg.len
    subst h0; subst hn
    have HG := Lib.hid hg
    have hr := HR0.out
    rw [if_neg (by simp)] at hr
    by_cases hbad : a < 0 ∨ 60 ≤ a
    · rw [if_pos hbad] at hr
      have HR := Lib.hid hr
      clear hr HR0 hu1 hg
      by_cases hb1 : a < 0
      · clear hbad
        go_wp2_with fail
        rw [show (((((w1.setCell ⟨w.heap.size, 0, none⟩ (.int .i64 0)).setCell ⟨w.heap.size, 1, none⟩ (.int .i64 0)).setCell ⟨w.heap.size, 2, none⟩ (.int .i64 0)).setCell ⟨w.heap.size, 3, none⟩ (.int .i64 0)).setCell ⟨w.heap.size, 4, none⟩ (.int .i64 0)) = (w1.setCells w.heap.size 0 [.int .i64 0, .int .i64 0, .int .i64 0, .int .i64 0, .int .i64 0]) from rfl]
        have hE : Onto w (w1.setCells w.heap.size 0 [.int .i64 0, .int .i64 0, .int .i64 0, .int .i64 0, .int .i64 0]) := put_onto (by omega) h01
        have F : ∀ (j : Nat) v, [.int .i64 0, .int .i64 0, .int .i64 0, .int .i64 0, .int .i64 0][j]? = some v → (w1.setCells w.heap.size 0 [.int .i64 0, .int .i64 0, .int .i64 0, .int .i64 0, .int .i64 0]).cell? ⟨w.heap.size, j, none⟩ = some v := fun j v hv => put_in (w := w1) (b := w.heap.size) (vs := [.int .i64 0, .int .i64 0, .int .i64 0, .int .i64 0, .int .i64 0]) (there5 y0a y1a y2a y3a y4a) hv
        generalize (w1.setCells w.heap.size 0 [.int .i64 0, .int .i64 0, .int .i64 0, .int .i64 0, .int .i64 0]) = wf at F hE ⊢
        have z0 := F 0 _ rfl
        have z1 := F 1 _ rfl
        have z2 := F 2 _ rfl
        have z3 := F 3 _ rfl
        have z4 := F 4 _ rfl
        refine bodyPost_ret (v := .tuple #[.agg #[.int .i64 0, .int .i64 0, .int .i64 0, .int .i64 0, .int .i64 0], .int .i64 5]) (by simp [results, Try.results17, go_sem, z0, z1, z2, z3, z4]) rfl ?_
        rw [HR.out]
        exact ⟨rfl, hE⟩
      · have hb2 : 60 ≤ a := by omega
        clear hbad
        go_wp2_with fail
        rw [show (((((w1.setCell ⟨w.heap.size, 0, none⟩ (.int .i64 0)).setCell ⟨w.heap.size, 1, none⟩ (.int .i64 0)).setCell ⟨w.heap.size, 2, none⟩ (.int .i64 0)).setCell ⟨w.heap.size, 3, none⟩ (.int .i64 0)).setCell ⟨w.heap.size, 4, none⟩ (.int .i64 0)) = (w1.setCells w.heap.size 0 [.int .i64 0, .int .i64 0, .int .i64 0, .int .i64 0, .int .i64 0]) from rfl]
        have hE : Onto w (w1.setCells w.heap.size 0 [.int .i64 0, .int .i64 0, .int .i64 0, .int .i64 0, .int .i64 0]) := put_onto (by omega) h01
        have F : ∀ (j : Nat) v, [.int .i64 0, .int .i64 0, .int .i64 0, .int .i64 0, .int .i64 0][j]? = some v → (w1.setCells w.heap.size 0 [.int .i64 0, .int .i64 0, .int .i64 0, .int .i64 0, .int .i64 0]).cell? ⟨w.heap.size, j, none⟩ = some v := fun j v hv => put_in (w := w1) (b := w.heap.size) (vs := [.int .i64 0, .int .i64 0, .int .i64 0, .int .i64 0, .int .i64 0]) (there5 y0a y1a y2a y3a y4a) hv
        generalize (w1.setCells w.heap.size 0 [.int .i64 0, .int .i64 0, .int .i64 0, .int .i64 0, .int .i64 0]) = wf at F hE ⊢
        have z0 := F 0 _ rfl
        have z1 := F 1 _ rfl
        have z2 := F 2 _ rfl
        have z3 := F 3 _ rfl
        have z4 := F 4 _ rfl
        refine bodyPost_ret (v := .tuple #[.agg #[.int .i64 0, .int .i64 0, .int .i64 0, .int .i64 0, .int .i64 0], .int .i64 5]) (by simp [results, Try.results17, go_sem, z0, z1, z2, z3, z4]) rfl ?_
        rw [HR.out]
        exact ⟨rfl, hE⟩
    · rw [if_neg hbad] at hr
      obtain ⟨j, rfl⟩ : ∃ j : Nat, a = j := ⟨a.toNat, by omega⟩
      have hj60 : j < 60 := by omega
      have hn3 : ¬ (j : Int) < 0 := by omega
      have hn4 : ¬ (60 : Int) ≤ (j : Int) := by omega
      have hj60' : (j : Int) < 60 := by omega
      obtain ⟨b, off, u, rfl, hbz, hu, e0, e1, hs, hul⟩ := hu1.atU (i := 2) (by omega)
      have hgu := HG.out.ok u.u (List.mem_map.2 ⟨u, List.mem_of_getElem? hu, rfl⟩)
      have hun : u.n = 60 := by rw [← hul]; exact hgu.len
      rw [hun] at hs e1
      obtain ⟨b1, off1, y, hA1, hyz, hy, d0, d1, d2, d3, d4⟩ := hs.atE hj60
      rw [hA1] at e1
      rw [Int.toNat_natCast, uniAt_eq (unis_at hu), show cellAt u.u.cells j = y from cellAt_eq hy] at hr
      simp only [Nat.reduceMul] at e1
      have HR1 := Lib.hid hr
      clear hr hbad HR0 hg hs hgu hu hy e0 hu1
      by_cases h4 : y.kind = 4
      all_goals
        have hr := HR1.out
        first | rw [if_pos h4] at hr | rw [if_neg h4] at hr
        have HR := Lib.hid hr
        first | (have hd : (y.kind == 4) = true := by simpa using h4) | (have hd : (y.kind == 4) = false := by simpa using h4)
        clear hr HR1 h4
        go_upto_region 7 with fail
        have hb2 : Onto w1 (w1.alloc (Obj.cells #[.int .i64 y.kind, .int .i64 y.job, .int .i64 y.every, .int .i64 y.time, .int .i64 y.client] 24)) := (Below.refl _ _).alloc (Nat.le_refl _) _
        have y0b := cellB hb2 y0a; have fy0b := frozB hb2 y0a fy0a; have y1b := cellB hb2 y1a; have fy1b := frozB hb2 y1a fy1a; have y2b := cellB hb2 y2a; have fy2b := frozB hb2 y2a fy2a; have y3b := cellB hb2 y3a; have fy3b := frozB hb2 y3a fy3a; have y4b := cellB hb2 y4a; have fy4b := frozB hb2 y4a fy4a
        clear y0a fy0a y1a fy1a y2a fy2a y3a fy3a y4a fy4a
        have k0 : (w1.alloc (Obj.cells #[.int .i64 y.kind, .int .i64 y.job, .int .i64 y.every, .int .i64 y.time, .int .i64 y.client] 24)).cell? ⟨w1.heap.size, 0, none⟩ = some (.int .i64 y.kind) := by simp [go_sem]
        have k1 : (w1.alloc (Obj.cells #[.int .i64 y.kind, .int .i64 y.job, .int .i64 y.every, .int .i64 y.time, .int .i64 y.client] 24)).cell? ⟨w1.heap.size, 1, none⟩ = some (.int .i64 y.job) := by simp [go_sem]
        have k2 : (w1.alloc (Obj.cells #[.int .i64 y.kind, .int .i64 y.job, .int .i64 y.every, .int .i64 y.time, .int .i64 y.client] 24)).cell? ⟨w1.heap.size, 2, none⟩ = some (.int .i64 y.every) := by simp [go_sem]
        have k3 : (w1.alloc (Obj.cells #[.int .i64 y.kind, .int .i64 y.job, .int .i64 y.every, .int .i64 y.time, .int .i64 y.client] 24)).cell? ⟨w1.heap.size, 3, none⟩ = some (.int .i64 y.time) := by simp [go_sem]
        have k4 : (w1.alloc (Obj.cells #[.int .i64 y.kind, .int .i64 y.job, .int .i64 y.every, .int .i64 y.time, .int .i64 y.client] 24)).cell? ⟨w1.heap.size, 4, none⟩ = some (.int .i64 y.client) := by simp [go_sem]
        have h02 := h01.to hb2
        have hz2 : w1.heap.size < (w1.alloc (Obj.cells #[.int .i64 y.kind, .int .i64 y.job, .int .i64 y.every, .int .i64 y.time, .int .i64 y.client] 24)).heap.size := by simp
        clear hb2 h01 e1 d0 d1 d2 d3 d4
        generalize (w1.alloc (Obj.cells #[.int .i64 y.kind, .int .i64 y.job, .int .i64 y.every, .int .i64 y.time, .int .i64 y.client] 24)) = w2 at *
      · go_wp2_with fail
        rw [show (((((w2.setCell ⟨w.heap.size, 0, none⟩ (.int .i64 0)).setCell ⟨w.heap.size, 1, none⟩ (.int .i64 0)).setCell ⟨w.heap.size, 2, none⟩ (.int .i64 0)).setCell ⟨w.heap.size, 3, none⟩ (.int .i64 0)).setCell ⟨w.heap.size, 4, none⟩ (.int .i64 0)) = (w2.setCells w.heap.size 0 [.int .i64 0, .int .i64 0, .int .i64 0, .int .i64 0, .int .i64 0]) from rfl]
        have hE : Onto w (w2.setCells w.heap.size 0 [.int .i64 0, .int .i64 0, .int .i64 0, .int .i64 0, .int .i64 0]) := put_onto (by omega) h02
        have F : ∀ (j : Nat) v, [.int .i64 0, .int .i64 0, .int .i64 0, .int .i64 0, .int .i64 0][j]? = some v → (w2.setCells w.heap.size 0 [.int .i64 0, .int .i64 0, .int .i64 0, .int .i64 0, .int .i64 0]).cell? ⟨w.heap.size, j, none⟩ = some v := fun j v hv => put_in (w := w2) (b := w.heap.size) (vs := [.int .i64 0, .int .i64 0, .int .i64 0, .int .i64 0, .int .i64 0]) (there5 y0b y1b y2b y3b y4b) hv
        generalize (w2.setCells w.heap.size 0 [.int .i64 0, .int .i64 0, .int .i64 0, .int .i64 0, .int .i64 0]) = wf at F hE ⊢
        have z0 := F 0 _ rfl
        have z1 := F 1 _ rfl
        have z2 := F 2 _ rfl
        have z3 := F 3 _ rfl
        have z4 := F 4 _ rfl
        refine bodyPost_ret (v := .tuple #[.agg #[.int .i64 0, .int .i64 0, .int .i64 0, .int .i64 0, .int .i64 0], .int .i64 7]) (by simp [results, Try.results17, go_sem, z0, z1, z2, z3, z4]) rfl ?_
        rw [HR.out]
        exact ⟨rfl, hE⟩
      · go_wp2_with fail
        rw [show (((((w2.setCell ⟨w.heap.size, 0, none⟩ (.int .i64 y.kind)).setCell ⟨w.heap.size, 1, none⟩ (.int .i64 y.job)).setCell ⟨w.heap.size, 2, none⟩ (.int .i64 y.every)).setCell ⟨w.heap.size, 3, none⟩ (.int .i64 y.time)).setCell ⟨w.heap.size, 4, none⟩ (.int .i64 y.client)) = (w2.setCells w.heap.size 0 [.int .i64 y.kind, .int .i64 y.job, .int .i64 y.every, .int .i64 y.time, .int .i64 y.client]) from rfl]
        have hE : Onto w (w2.setCells w.heap.size 0 [.int .i64 y.kind, .int .i64 y.job, .int .i64 y.every, .int .i64 y.time, .int .i64 y.client]) := put_onto (by omega) h02
        have F : ∀ (j : Nat) v, [.int .i64 y.kind, .int .i64 y.job, .int .i64 y.every, .int .i64 y.time, .int .i64 y.client][j]? = some v → (w2.setCells w.heap.size 0 [.int .i64 y.kind, .int .i64 y.job, .int .i64 y.every, .int .i64 y.time, .int .i64 y.client]).cell? ⟨w.heap.size, j, none⟩ = some v := fun j v hv => put_in (w := w2) (b := w.heap.size) (vs := [.int .i64 y.kind, .int .i64 y.job, .int .i64 y.every, .int .i64 y.time, .int .i64 y.client]) (there5 y0b y1b y2b y3b y4b) hv
        generalize (w2.setCells w.heap.size 0 [.int .i64 y.kind, .int .i64 y.job, .int .i64 y.every, .int .i64 y.time, .int .i64 y.client]) = wf at F hE ⊢
        have z0 := F 0 _ rfl
        have z1 := F 1 _ rfl
        have z2 := F 2 _ rfl
        have z3 := F 3 _ rfl
        have z4 := F 4 _ rfl
        refine bodyPost_ret (v := .tuple #[.agg #[.int .i64 y.kind, .int .i64 y.job, .int .i64 y.every, .int .i64 y.time, .int .i64 y.client], .int .i64 0]) (by simp [results, Try.results17, go_sem, z0, z1, z2, z3, z4]) rfl ?_
        rw [HR.out]
        exact ⟨rfl, hE⟩
  · have hr := HR0.out
    rw [if_pos h0] at hr
    have HR := Lib.hid hr
    have hd : (q != 0) = true := by simpa using h0
    clear hr HR0 h0 hu1
    go_wp2_with fail
    rw [show (((((w1.setCell ⟨w.heap.size, 0, none⟩ (.int .i64 0)).setCell ⟨w.heap.size, 1, none⟩ (.int .i64 0)).setCell ⟨w.heap.size, 2, none⟩ (.int .i64 0)).setCell ⟨w.heap.size, 3, none⟩ (.int .i64 0)).setCell ⟨w.heap.size, 4, none⟩ (.int .i64 0)) = (w1.setCells w.heap.size 0 [.int .i64 0, .int .i64 0, .int .i64 0, .int .i64 0, .int .i64 0]) from rfl]
    have hE : Onto w (w1.setCells w.heap.size 0 [.int .i64 0, .int .i64 0, .int .i64 0, .int .i64 0, .int .i64 0]) := put_onto (by omega) h01
    have F : ∀ (j : Nat) v, [.int .i64 0, .int .i64 0, .int .i64 0, .int .i64 0, .int .i64 0][j]? = some v → (w1.setCells w.heap.size 0 [.int .i64 0, .int .i64 0, .int .i64 0, .int .i64 0, .int .i64 0]).cell? ⟨w.heap.size, j, none⟩ = some v := fun j v hv => put_in (w := w1) (b := w.heap.size) (vs := [.int .i64 0, .int .i64 0, .int .i64 0, .int .i64 0, .int .i64 0]) (there5 y0a y1a y2a y3a y4a) hv
    generalize (w1.setCells w.heap.size 0 [.int .i64 0, .int .i64 0, .int .i64 0, .int .i64 0, .int .i64 0]) = wf at F hE ⊢
    have z0 := F 0 _ rfl
    have z1 := F 1 _ rfl
    have z2 := F 2 _ rfl
    have z3 := F 3 _ rfl
    have z4 := F 4 _ rfl
    refine bodyPost_ret (v := .tuple #[.agg #[.int .i64 0, .int .i64 0, .int .i64 0, .int .i64 0, .int .i64 0], .int .i64 q]) (by simp [results, Try.results17, go_sem, z0, z1, z2, z3, z4]) rfl ?_
    rw [HR.out]
    exact ⟨rfl, hE⟩
end Go.Proofs.Ytbipmoehcmighaa
