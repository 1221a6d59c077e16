/- The walk of the law ChainAlong. -/
import Derived.Test.YtbipmoehcmighaaStands
import Derived.Test.YtbipmoehcmighaaLawC2
import Derived.Deep.DeepCutAuto
namespace Go.Proofs.Ytbipmoehcmighaa
set_option linter.unusedSimpArgs false
set_option linter.unusedVariables false
open Go.RowKit Go.ChangeShapes Go.WideShapes Go.ChangeAt

/-- The boxes of what Link answers: a record at p, an entry at q. -/
structure RX (r : Rec × Entry × Int) (w : World) (p q : Nat) : Prop where
  p0 : w.cell? ⟨p, 0, none⟩ = some (.int .i64 r.1.kind)
  p1 : w.cell? ⟨p, 1, none⟩ = some (.int .i64 r.1.at_)
  p2 : w.cell? ⟨p, 2, none⟩ = some (.int .i64 r.1.epoch)
  p3 : w.cell? ⟨p, 3, none⟩ = some (.int .i64 r.1.e.kind)
  p4 : w.cell? ⟨p, 4, none⟩ = some (.int .i64 r.1.e.job)
  p5 : w.cell? ⟨p, 5, none⟩ = some (.int .i64 r.1.e.every)
  p6 : w.cell? ⟨p, 6, none⟩ = some (.int .i64 r.1.e.time)
  p7 : w.cell? ⟨p, 7, none⟩ = some (.int .i64 r.1.e.client)
  q0 : w.cell? ⟨q, 0, none⟩ = some (.int .i64 r.2.1.kind)
  q1 : w.cell? ⟨q, 1, none⟩ = some (.int .i64 r.2.1.job)
  q2 : w.cell? ⟨q, 2, none⟩ = some (.int .i64 r.2.1.every)
  q3 : w.cell? ⟨q, 3, none⟩ = some (.int .i64 r.2.1.time)
  q4 : w.cell? ⟨q, 4, none⟩ = some (.int .i64 r.2.1.client)

set_option maxHeartbeats 8000000 in
set_option maxRecDepth 100000 in
theorem Along_good (A : Option Addr) (n c : Nat) (l : List UV) (a : Int) (x : Entry) (w : World) (h : Us w A n l) (hg : GoodC (unis l)) :
    Calls Try.prog 4 #[.slice A n c, .int .i64 a, .agg #[.int .i64 x.kind, .int .i64 x.job, .int .i64 x.every, .int .i64 x.time, .int .i64 x.client]] w fun e w' => e = .returned (.bool true) ∧ Below w.heap.size w w' := by
  have hn : n = 3 := by rw [← h.len, ← List.length_map (f := UV.u)]; exact hg.len
  subst hn
  have HG := Lib.hid hg
  clear hg
  go_enter Try.func4, Try.ntmps4
  go_wp2_with fail
  refine Calls.mono (at_calls _ _ _ (by omega) (by omega)) ?_
  rintro e w0 ⟨rfl, rfl⟩
  have hj0 : 0 ≤ a % 60 := Int.emod_nonneg _ (by omega)
  have hj1 : a % 60 < 60 := Int.emod_lt_of_pos _ (by omega)
  obtain ⟨j, hj⟩ : ∃ j : Nat, a % 60 = j := ⟨(a % 60).toNat, by omega⟩
  rw [hj]
  have hj60 : j < 60 := by omega
  have hj60' : (j : Int) < 60 := by omega
  clear hj hj0 hj1
  have h01 : Onto w (w.alloc (Obj.cells #[.int .i64 x.kind, .int .i64 x.job, .int .i64 x.every, .int .i64 x.time, .int .i64 x.client] 24)) := (Below.refl _ _).alloc (Nat.le_refl _) _
  go_wp2_with fail
  refine Calls.mono (linked_calls _) ?_
  rintro e w1 ⟨rfl, hb1⟩
  have x0 : w1.cell? ⟨w.heap.size, 0, none⟩ = some (.int .i64 x.kind) := cellB hb1 (by simp [go_sem])
  have x1 : w1.cell? ⟨w.heap.size, 1, none⟩ = some (.int .i64 x.job) := cellB hb1 (by simp [go_sem])
  have x2 : w1.cell? ⟨w.heap.size, 2, none⟩ = some (.int .i64 x.every) := cellB hb1 (by simp [go_sem])
  have x3 : w1.cell? ⟨w.heap.size, 3, none⟩ = some (.int .i64 x.time) := cellB hb1 (by simp [go_sem])
  have x4 : w1.cell? ⟨w.heap.size, 4, none⟩ = some (.int .i64 x.client) := cellB hb1 (by simp [go_sem])
  have fx0 : w1.frozen? ⟨w.heap.size, 0, none⟩ = false := frozB hb1 (v := .int .i64 x.kind) (by simp [go_sem]) (by simp [go_sem])
  have fx1 : w1.frozen? ⟨w.heap.size, 1, none⟩ = false := frozB hb1 (v := .int .i64 x.job) (by simp [go_sem]) (by simp [go_sem])
  have fx2 : w1.frozen? ⟨w.heap.size, 2, none⟩ = false := frozB hb1 (v := .int .i64 x.every) (by simp [go_sem]) (by simp [go_sem])
  have fx3 : w1.frozen? ⟨w.heap.size, 3, none⟩ = false := frozB hb1 (v := .int .i64 x.time) (by simp [go_sem]) (by simp [go_sem])
  have fx4 : w1.frozen? ⟨w.heap.size, 4, none⟩ = false := frozB hb1 (v := .int .i64 x.client) (by simp [go_sem]) (by simp [go_sem])
  have h1 := Onto.to h01 hb1
  clear hb1 h01
  go_wp2_with fail
  refine Calls.mono (CCheck_calls A 3 c l _ (Us.onto h h1)) ?_
  rw [checkC_iff.2 HG.out]
  rintro e w2 ⟨rfl, hb2⟩
  have x0b := cellB hb2 x0; have fx0b := frozB hb2 x0 fx0; have x1b := cellB hb2 x1; have fx1b := frozB hb2 x1 fx1; have x2b := cellB hb2 x2; have fx2b := frozB hb2 x2 fx2; have x3b := cellB hb2 x3; have fx3b := frozB hb2 x3 fx3; have x4b := cellB hb2 x4; have fx4b := frozB hb2 x4 fx4
  have h2 := Onto.to h1 hb2
  have hl2 := Us.onto h h2
  have hz2 : w.heap.size < w2.heap.size := World.block_lt_of_cell? _ _ x0b
  clear hb2 h1 x0 fx0 x1 fx1 x2 fx2 x3 fx3 x4 fx4
  obtain ⟨b, off, u, hA, hzu, hu, e0, e1, hsu, hul⟩ := hl2.atU (i := 0) (by omega)
  subst hA
  have hgu := HG.out.ok u.u (List.mem_map.2 ⟨u, List.mem_of_getElem? hu, rfl⟩)
  have hun : u.n = 60 := by rw [← hul]; exact hgu.len
  rw [hun] at hsu e1
  obtain ⟨b1, off1, y, hA1, hyz, hy, d0, d1, d2, d3, d4⟩ := hsu.atE hj60
  rw [hA1] at e1
  simp only [Nat.zero_mul, Nat.add_zero] at e0 e1
  have hfst : cellAt (uniAt (unis l) 0).cells j = y := by rw [uniAt_unis hu]; exact cellAt_eq hy
  have HFST := Lib.hid hfst
  clear hfst hy hgu hu
  go_upto_region 5 with fail
  have hb3 : Onto w2 (w2.alloc (Obj.cells #[.int .i64 y.kind, .int .i64 y.job, .int .i64 y.every, .int .i64 y.time, .int .i64 y.client] 24)) := (Below.refl _ _).alloc (Nat.le_refl _) _
  have y0 : (w2.alloc (Obj.cells #[.int .i64 y.kind, .int .i64 y.job, .int .i64 y.every, .int .i64 y.time, .int .i64 y.client] 24)).cell? ⟨w2.heap.size, 0, none⟩ = some (.int .i64 y.kind) := by simp [go_sem]
  have y1 : (w2.alloc (Obj.cells #[.int .i64 y.kind, .int .i64 y.job, .int .i64 y.every, .int .i64 y.time, .int .i64 y.client] 24)).cell? ⟨w2.heap.size, 1, none⟩ = some (.int .i64 y.job) := by simp [go_sem]
  have y2 : (w2.alloc (Obj.cells #[.int .i64 y.kind, .int .i64 y.job, .int .i64 y.every, .int .i64 y.time, .int .i64 y.client] 24)).cell? ⟨w2.heap.size, 2, none⟩ = some (.int .i64 y.every) := by simp [go_sem]
  have y3 : (w2.alloc (Obj.cells #[.int .i64 y.kind, .int .i64 y.job, .int .i64 y.every, .int .i64 y.time, .int .i64 y.client] 24)).cell? ⟨w2.heap.size, 3, none⟩ = some (.int .i64 y.time) := by simp [go_sem]
  have y4 : (w2.alloc (Obj.cells #[.int .i64 y.kind, .int .i64 y.job, .int .i64 y.every, .int .i64 y.time, .int .i64 y.client] 24)).cell? ⟨w2.heap.size, 4, none⟩ = some (.int .i64 y.client) := by simp [go_sem]
  have x0 := cellB hb3 x0b; have fx0 := frozB hb3 x0b fx0b; have x1 := cellB hb3 x1b; have fx1 := frozB hb3 x1b fx1b; have x2 := cellB hb3 x2b; have fx2 := frozB hb3 x2b fx2b; have x3 := cellB hb3 x3b; have fx3 := frozB hb3 x3b fx3b; have x4 := cellB hb3 x4b; have fx4 := frozB hb3 x4b fx4b
  have h3 := Onto.to h2 hb3
  have hz3 : w2.heap.size < (w2.alloc (Obj.cells #[.int .i64 y.kind, .int .i64 y.job, .int .i64 y.every, .int .i64 y.time, .int .i64 y.client] 24)).heap.size := by simp
  clear hb3 h2 hl2 hsu e0 e1 d0 d1 d2 d3 d4 x0b fx0b x1b fx1b x2b fx2b x3b fx3b x4b fx4b
  change Code.wp _ _ _ _ (w2.alloc (Obj.cells #[.int .i64 y.kind, .int .i64 y.job, .int .i64 y.every, .int .i64 y.time, .int .i64 y.client] 24))
  generalize (w2.alloc (Obj.cells #[.int .i64 y.kind, .int .i64 y.job, .int .i64 y.every, .int .i64 y.time, .int .i64 y.client] 24)) = w3 at *
  have hl3 := Us.onto h h3
  go_wp2_with fail
  refine Calls.mono (CloneU_calls _ _ 3 c _ (Nat.le_refl _) (l.map encU) hl3.rows (encU_one l) (by omega)) ?_
  rintro e w4 ⟨Am, cm, rfl, hown, hb4⟩
  have hmm := hown.m
  have x0b := cellB hb4 x0; have fx0b := frozB hb4 x0 fx0; have y0b := cellB hb4 y0; have x1b := cellB hb4 x1; have fx1b := frozB hb4 x1 fx1; have y1b := cellB hb4 y1; have x2b := cellB hb4 x2; have fx2b := frozB hb4 x2 fx2; have y2b := cellB hb4 y2; have x3b := cellB hb4 x3; have fx3b := frozB hb4 x3 fx3; have y3b := cellB hb4 y3; have x4b := cellB hb4 x4; have fx4b := frozB hb4 x4 fx4; have y4b := cellB hb4 y4
  have h4 := Onto.to h3 hb4
  have hl4 := Us.onto hl3 hb4
  obtain ⟨bm, offm, hAm, hbm, hunf⟩ := hmm.2 (by omega)
  subst hAm
  have hww3 : w.heap.size < w3.heap.size := by omega
  have hoff : ∀ v ∈ l, OffN v.n bm v.A ∧ OffN v.n w.heap.size v.A := fun v hv => ⟨(h.cells v hv).offN (by omega), (h.cells v hv).offN (Nat.le_refl _)⟩
  have HOFF := Lib.hid hoff
  have HM0 := Lib.hid hmm
  have HL4 := Lib.hid hl4
  clear hb4 h3 hl3 hown hmm hl4 hunf hoff x0 fx0 y0 x1 fx1 y1 x2 fx2 y2 x3 fx3 y3 x4 fx4 y4
  go_wp2_with fail
  go_loopw [36] (fun s wr => ∃ (i : Nat) (lm : List UV) (x : Entry), i ≤ 3 ∧ s = .int .i64 i ∧ wr.cell? ⟨w.heap.size, 0, none⟩ = some (.int .i64 x.kind) ∧ wr.frozen? ⟨w.heap.size, 0, none⟩ = false ∧ wr.cell? ⟨w.heap.size, 1, none⟩ = some (.int .i64 x.job) ∧ wr.frozen? ⟨w.heap.size, 1, none⟩ = false ∧ wr.cell? ⟨w.heap.size, 2, none⟩ = some (.int .i64 x.every) ∧ wr.frozen? ⟨w.heap.size, 2, none⟩ = false ∧ wr.cell? ⟨w.heap.size, 3, none⟩ = some (.int .i64 x.time) ∧ wr.frozen? ⟨w.heap.size, 3, none⟩ = false ∧ wr.cell? ⟨w.heap.size, 4, none⟩ = some (.int .i64 x.client) ∧ wr.frozen? ⟨w.heap.size, 4, none⟩ = false ∧ wr.cell? ⟨w2.heap.size, 0, none⟩ = some (.int .i64 y.kind) ∧ wr.cell? ⟨w2.heap.size, 1, none⟩ = some (.int .i64 y.job) ∧ wr.cell? ⟨w2.heap.size, 2, none⟩ = some (.int .i64 y.every) ∧ wr.cell? ⟨w2.heap.size, 3, none⟩ = some (.int .i64 y.time) ∧ wr.cell? ⟨w2.heap.size, 4, none⟩ = some (.int .i64 y.client) ∧
    Hid (M wr w3.heap.size 2 (some ⟨bm, offm, none⟩) 3 (lm.map encU)) ∧ Hid (Us wr (some ⟨bm, offm, none⟩) 3 lm) ∧ Hid (∀ v ∈ lm, OffN v.n bm v.A ∧ OffN v.n w.heap.size v.A) ∧ Onto w wr ∧ Hid (AS (unis lm) i j x y)) (fun s _ => 3 - (intOf s).toNat)
  case atStart =>
    exact ⟨0, l, x, by omega, rfl, x0b, fx0b, x1b, fx1b, x2b, fx2b, x3b, fx3b, x4b, fx4b, y0b, y1b, y2b, y3b, y4b, HM0.out, ⟨HM0.out.sl, HL4.out.cells, HL4.out.caps⟩, HOFF.out, h4, HG.out, fun _ => HFST.out, fun h => absurd h (by omega), fun h => absurd h (by omega), fun h => absurd h (by omega)⟩
  case round =>
    obtain ⟨i, lm, x, hi, rfl, x0, fx0, x1, fx1, x2, fx2, x3, fx3, x4, fx4, y0, y1, y2, y3, y4, HM, HU, HOF, hbr, HAS⟩ := hrel
    clear x0b fx0b y0b x1b fx1b y1b x2b fx2b y2b x3b fx3b y3b x4b fx4b y4b
    by_cases hlt : i < 3
    · obtain ⟨b', off', u', hA', hzu', hu', e0, e1, hsu', hul'⟩ := HU.out.atU hlt
      injection hA' with hA'
      injection hA' with e2 e3 _
      subst e2; subst e3
      have hgu := HAS.out.good.ok u'.u (List.mem_map.2 ⟨u', List.mem_of_getElem? hu', rfl⟩)
      have hun' : u'.n = 60 := by rw [← hul']; exact hgu.len
      have huu := uniAt_unis hu'
      have hlaw := link_along HAS.out hlt hj60
      obtain ⟨r, hr⟩ : ∃ r, r = linkC (unis lm) i j x (uniAt (unis lm) i).ep := ⟨_, rfl⟩
      rw [← hr] at hlaw
      rw [huu] at hr
      have HR := Lib.hid hr; have HLAW := Lib.hid hlaw; have HUU := Lib.hid huu; have HU0 := Lib.hid hu'
      have hi3' : (i : Int) < 3 := by omega
      clear hr hlaw huu hgu hu' hsu'
      have hUr := HU.out
      go_upto_region 9 with fail
      go_cut [10, 11, 12] (fun s10 s11 s12 wx => ∃ (p q : Nat), s10 = .pointer (some ⟨p, 0, none⟩) ∧ s11 = .pointer (some ⟨q, 0, none⟩) ∧ s12 = .int .i64 r.2.2 ∧ Hid (RX r wx p q) ∧ Onto wr wx ∧ wr.heap.size ≤ p ∧ wr.heap.size ≤ q)
      case first =>
        go_region_held3 (fun w' => w'.cell? ⟨w.heap.size, 0, none⟩ = some (.int .i64 x.kind) ∧ w'.cell? ⟨w.heap.size, 1, none⟩ = some (.int .i64 x.job) ∧ w'.cell? ⟨w.heap.size, 2, none⟩ = some (.int .i64 x.every) ∧ w'.cell? ⟨w.heap.size, 3, none⟩ = some (.int .i64 x.time) ∧ w'.cell? ⟨w.heap.size, 4, none⟩ = some (.int .i64 x.client) ∧ w'.cell? ⟨bm, offm + i * 2, none⟩ = some (.int .i64 u'.ep))
          (first | with_reducible exact ⟨x0, x1, x2, x3, x4, e0⟩ | with_reducible exact ⟨cellB (by with_reducible (repeat (first | exact Onto.rfl' _ | exact hbW | refine Onto.draw ?_ | refine Onto.new ?_ _ | refine Onto.put ?_ (by simp <;> omega) _))) x0, cellB (by with_reducible (repeat (first | exact Onto.rfl' _ | exact hbW | refine Onto.draw ?_ | refine Onto.new ?_ _ | refine Onto.put ?_ (by simp <;> omega) _))) x1, cellB (by with_reducible (repeat (first | exact Onto.rfl' _ | exact hbW | refine Onto.draw ?_ | refine Onto.new ?_ _ | refine Onto.put ?_ (by simp <;> omega) _))) x2, cellB (by with_reducible (repeat (first | exact Onto.rfl' _ | exact hbW | refine Onto.draw ?_ | refine Onto.new ?_ _ | refine Onto.put ?_ (by simp <;> omega) _))) x3, cellB (by with_reducible (repeat (first | exact Onto.rfl' _ | exact hbW | refine Onto.draw ?_ | refine Onto.new ?_ _ | refine Onto.put ?_ (by simp <;> omega) _))) x4, cellB (by with_reducible (repeat (first | exact Onto.rfl' _ | exact hbW | refine Onto.draw ?_ | refine Onto.new ?_ _ | refine Onto.put ?_ (by simp <;> omega) _))) e0⟩ )
          (first
            | (go_at_call 12; refine Calls.mono (Link_calls _ 3 cm lm i j x u'.ep _ (by repeat (first | exact hUr | refine Us.onto hUr (by with_reducible (repeat (first | exact Onto.rfl' _ | exact hbW | refine Onto.draw ?_ | refine Onto.new ?_ _ | refine Onto.put ?_ (by simp <;> omega) _)))))) ?_; rw [show linkC (unis lm) i j x u'.ep = r from HR.out.symm]; rintro e wN ⟨rfl, hbN⟩; have hbW : Onto wr wN := Onto.to (by with_reducible (repeat (first | exact Onto.rfl' _ | exact hbW | refine Onto.draw ?_ | refine Onto.new ?_ _ | refine Onto.put ?_ (by simp <;> omega) _))) hbN; have hsW := hbW.size; (first | (have za7 : wN.cell? ⟨wr.heap.size, 7, none⟩ = some (.int .i64 0) := ?_; rotate_left 1; (focus (refine cellB hbN ?_; simp [go_sem]; done)); have za0 : wN.cell? ⟨wr.heap.size, 0, none⟩ = some (.int .i64 0) := cellB hbN (by simp [go_sem]); have za1 : wN.cell? ⟨wr.heap.size, 1, none⟩ = some (.int .i64 0) := cellB hbN (by simp [go_sem]); have za2 : wN.cell? ⟨wr.heap.size, 2, none⟩ = some (.int .i64 0) := cellB hbN (by simp [go_sem]); have za3 : wN.cell? ⟨wr.heap.size, 3, none⟩ = some (.int .i64 0) := cellB hbN (by simp [go_sem]); have za4 : wN.cell? ⟨wr.heap.size, 4, none⟩ = some (.int .i64 0) := cellB hbN (by simp [go_sem]); have za5 : wN.cell? ⟨wr.heap.size, 5, none⟩ = some (.int .i64 0) := cellB hbN (by simp [go_sem]); have za6 : wN.cell? ⟨wr.heap.size, 6, none⟩ = some (.int .i64 0) := cellB hbN (by simp [go_sem]); have fza0 : wN.frozen? ⟨wr.heap.size, 0, none⟩ = false := frozB hbN (v := .int .i64 0) (by simp [go_sem]) (by simp [go_sem]); have fza1 : wN.frozen? ⟨wr.heap.size, 1, none⟩ = false := frozB hbN (v := .int .i64 0) (by simp [go_sem]) (by simp [go_sem]); have fza2 : wN.frozen? ⟨wr.heap.size, 2, none⟩ = false := frozB hbN (v := .int .i64 0) (by simp [go_sem]) (by simp [go_sem]); have fza3 : wN.frozen? ⟨wr.heap.size, 3, none⟩ = false := frozB hbN (v := .int .i64 0) (by simp [go_sem]) (by simp [go_sem]); have fza4 : wN.frozen? ⟨wr.heap.size, 4, none⟩ = false := frozB hbN (v := .int .i64 0) (by simp [go_sem]) (by simp [go_sem]); have fza5 : wN.frozen? ⟨wr.heap.size, 5, none⟩ = false := frozB hbN (v := .int .i64 0) (by simp [go_sem]) (by simp [go_sem]); have fza6 : wN.frozen? ⟨wr.heap.size, 6, none⟩ = false := frozB hbN (v := .int .i64 0) (by simp [go_sem]) (by simp [go_sem]); have fza7 : wN.frozen? ⟨wr.heap.size, 7, none⟩ = false := frozB hbN (v := .int .i64 0) (by simp [go_sem]) (by simp [go_sem]); have zza0 : ∀ o, (wN.alloc o).cell? ⟨wr.heap.size, 0, none⟩ = some (.int .i64 0) := fun o => cellA za0 o; have fzza0 : ∀ o, (wN.alloc o).frozen? ⟨wr.heap.size, 0, none⟩ = false := fun o => frozA za0 fza0 o; have zza1 : ∀ o, (wN.alloc o).cell? ⟨wr.heap.size, 1, none⟩ = some (.int .i64 0) := fun o => cellA za1 o; have fzza1 : ∀ o, (wN.alloc o).frozen? ⟨wr.heap.size, 1, none⟩ = false := fun o => frozA za1 fza1 o; have zza2 : ∀ o, (wN.alloc o).cell? ⟨wr.heap.size, 2, none⟩ = some (.int .i64 0) := fun o => cellA za2 o; have fzza2 : ∀ o, (wN.alloc o).frozen? ⟨wr.heap.size, 2, none⟩ = false := fun o => frozA za2 fza2 o; have zza3 : ∀ o, (wN.alloc o).cell? ⟨wr.heap.size, 3, none⟩ = some (.int .i64 0) := fun o => cellA za3 o; have fzza3 : ∀ o, (wN.alloc o).frozen? ⟨wr.heap.size, 3, none⟩ = false := fun o => frozA za3 fza3 o; have zza4 : ∀ o, (wN.alloc o).cell? ⟨wr.heap.size, 4, none⟩ = some (.int .i64 0) := fun o => cellA za4 o; have fzza4 : ∀ o, (wN.alloc o).frozen? ⟨wr.heap.size, 4, none⟩ = false := fun o => frozA za4 fza4 o; have zza5 : ∀ o, (wN.alloc o).cell? ⟨wr.heap.size, 5, none⟩ = some (.int .i64 0) := fun o => cellA za5 o; have fzza5 : ∀ o, (wN.alloc o).frozen? ⟨wr.heap.size, 5, none⟩ = false := fun o => frozA za5 fza5 o; have zza6 : ∀ o, (wN.alloc o).cell? ⟨wr.heap.size, 6, none⟩ = some (.int .i64 0) := fun o => cellA za6 o; have fzza6 : ∀ o, (wN.alloc o).frozen? ⟨wr.heap.size, 6, none⟩ = false := fun o => frozA za6 fza6 o; have zza7 : ∀ o, (wN.alloc o).cell? ⟨wr.heap.size, 7, none⟩ = some (.int .i64 0) := fun o => cellA za7 o; have fzza7 : ∀ o, (wN.alloc o).frozen? ⟨wr.heap.size, 7, none⟩ = false := fun o => frozA za7 fza7 o; have hla : wr.heap.size < wN.heap.size := World.block_lt_of_cell? _ _ za0; have hna := Nat.ne_of_lt hla) | (have za4 : wN.cell? ⟨wr.heap.size, 4, none⟩ = some (.int .i64 0) := ?_; rotate_left 1; (focus (refine cellB hbN ?_; simp [go_sem]; done)); have za0 : wN.cell? ⟨wr.heap.size, 0, none⟩ = some (.int .i64 0) := cellB hbN (by simp [go_sem]); have za1 : wN.cell? ⟨wr.heap.size, 1, none⟩ = some (.int .i64 0) := cellB hbN (by simp [go_sem]); have za2 : wN.cell? ⟨wr.heap.size, 2, none⟩ = some (.int .i64 0) := cellB hbN (by simp [go_sem]); have za3 : wN.cell? ⟨wr.heap.size, 3, none⟩ = some (.int .i64 0) := cellB hbN (by simp [go_sem]); have fza0 : wN.frozen? ⟨wr.heap.size, 0, none⟩ = false := frozB hbN (v := .int .i64 0) (by simp [go_sem]) (by simp [go_sem]); have fza1 : wN.frozen? ⟨wr.heap.size, 1, none⟩ = false := frozB hbN (v := .int .i64 0) (by simp [go_sem]) (by simp [go_sem]); have fza2 : wN.frozen? ⟨wr.heap.size, 2, none⟩ = false := frozB hbN (v := .int .i64 0) (by simp [go_sem]) (by simp [go_sem]); have fza3 : wN.frozen? ⟨wr.heap.size, 3, none⟩ = false := frozB hbN (v := .int .i64 0) (by simp [go_sem]) (by simp [go_sem]); have fza4 : wN.frozen? ⟨wr.heap.size, 4, none⟩ = false := frozB hbN (v := .int .i64 0) (by simp [go_sem]) (by simp [go_sem]); have zza0 : ∀ o, (wN.alloc o).cell? ⟨wr.heap.size, 0, none⟩ = some (.int .i64 0) := fun o => cellA za0 o; have fzza0 : ∀ o, (wN.alloc o).frozen? ⟨wr.heap.size, 0, none⟩ = false := fun o => frozA za0 fza0 o; have zza1 : ∀ o, (wN.alloc o).cell? ⟨wr.heap.size, 1, none⟩ = some (.int .i64 0) := fun o => cellA za1 o; have fzza1 : ∀ o, (wN.alloc o).frozen? ⟨wr.heap.size, 1, none⟩ = false := fun o => frozA za1 fza1 o; have zza2 : ∀ o, (wN.alloc o).cell? ⟨wr.heap.size, 2, none⟩ = some (.int .i64 0) := fun o => cellA za2 o; have fzza2 : ∀ o, (wN.alloc o).frozen? ⟨wr.heap.size, 2, none⟩ = false := fun o => frozA za2 fza2 o; have zza3 : ∀ o, (wN.alloc o).cell? ⟨wr.heap.size, 3, none⟩ = some (.int .i64 0) := fun o => cellA za3 o; have fzza3 : ∀ o, (wN.alloc o).frozen? ⟨wr.heap.size, 3, none⟩ = false := fun o => frozA za3 fza3 o; have zza4 : ∀ o, (wN.alloc o).cell? ⟨wr.heap.size, 4, none⟩ = some (.int .i64 0) := fun o => cellA za4 o; have fzza4 : ∀ o, (wN.alloc o).frozen? ⟨wr.heap.size, 4, none⟩ = false := fun o => frozA za4 fza4 o; have hla : wr.heap.size < wN.heap.size := World.block_lt_of_cell? _ _ za0; have hna := Nat.ne_of_lt hla) | skip); (first | (have zb7 : wN.cell? ⟨wr.heap.size + 1, 7, none⟩ = some (.int .i64 0) := ?_; rotate_left 1; (focus (refine cellB hbN ?_; simp [go_sem]; done)); have zb0 : wN.cell? ⟨wr.heap.size + 1, 0, none⟩ = some (.int .i64 0) := cellB hbN (by simp [go_sem]); have zb1 : wN.cell? ⟨wr.heap.size + 1, 1, none⟩ = some (.int .i64 0) := cellB hbN (by simp [go_sem]); have zb2 : wN.cell? ⟨wr.heap.size + 1, 2, none⟩ = some (.int .i64 0) := cellB hbN (by simp [go_sem]); have zb3 : wN.cell? ⟨wr.heap.size + 1, 3, none⟩ = some (.int .i64 0) := cellB hbN (by simp [go_sem]); have zb4 : wN.cell? ⟨wr.heap.size + 1, 4, none⟩ = some (.int .i64 0) := cellB hbN (by simp [go_sem]); have zb5 : wN.cell? ⟨wr.heap.size + 1, 5, none⟩ = some (.int .i64 0) := cellB hbN (by simp [go_sem]); have zb6 : wN.cell? ⟨wr.heap.size + 1, 6, none⟩ = some (.int .i64 0) := cellB hbN (by simp [go_sem]); have fzb0 : wN.frozen? ⟨wr.heap.size + 1, 0, none⟩ = false := frozB hbN (v := .int .i64 0) (by simp [go_sem]) (by simp [go_sem]); have fzb1 : wN.frozen? ⟨wr.heap.size + 1, 1, none⟩ = false := frozB hbN (v := .int .i64 0) (by simp [go_sem]) (by simp [go_sem]); have fzb2 : wN.frozen? ⟨wr.heap.size + 1, 2, none⟩ = false := frozB hbN (v := .int .i64 0) (by simp [go_sem]) (by simp [go_sem]); have fzb3 : wN.frozen? ⟨wr.heap.size + 1, 3, none⟩ = false := frozB hbN (v := .int .i64 0) (by simp [go_sem]) (by simp [go_sem]); have fzb4 : wN.frozen? ⟨wr.heap.size + 1, 4, none⟩ = false := frozB hbN (v := .int .i64 0) (by simp [go_sem]) (by simp [go_sem]); have fzb5 : wN.frozen? ⟨wr.heap.size + 1, 5, none⟩ = false := frozB hbN (v := .int .i64 0) (by simp [go_sem]) (by simp [go_sem]); have fzb6 : wN.frozen? ⟨wr.heap.size + 1, 6, none⟩ = false := frozB hbN (v := .int .i64 0) (by simp [go_sem]) (by simp [go_sem]); have fzb7 : wN.frozen? ⟨wr.heap.size + 1, 7, none⟩ = false := frozB hbN (v := .int .i64 0) (by simp [go_sem]) (by simp [go_sem]); have zzb0 : ∀ o, (wN.alloc o).cell? ⟨wr.heap.size + 1, 0, none⟩ = some (.int .i64 0) := fun o => cellA zb0 o; have fzzb0 : ∀ o, (wN.alloc o).frozen? ⟨wr.heap.size + 1, 0, none⟩ = false := fun o => frozA zb0 fzb0 o; have zzb1 : ∀ o, (wN.alloc o).cell? ⟨wr.heap.size + 1, 1, none⟩ = some (.int .i64 0) := fun o => cellA zb1 o; have fzzb1 : ∀ o, (wN.alloc o).frozen? ⟨wr.heap.size + 1, 1, none⟩ = false := fun o => frozA zb1 fzb1 o; have zzb2 : ∀ o, (wN.alloc o).cell? ⟨wr.heap.size + 1, 2, none⟩ = some (.int .i64 0) := fun o => cellA zb2 o; have fzzb2 : ∀ o, (wN.alloc o).frozen? ⟨wr.heap.size + 1, 2, none⟩ = false := fun o => frozA zb2 fzb2 o; have zzb3 : ∀ o, (wN.alloc o).cell? ⟨wr.heap.size + 1, 3, none⟩ = some (.int .i64 0) := fun o => cellA zb3 o; have fzzb3 : ∀ o, (wN.alloc o).frozen? ⟨wr.heap.size + 1, 3, none⟩ = false := fun o => frozA zb3 fzb3 o; have zzb4 : ∀ o, (wN.alloc o).cell? ⟨wr.heap.size + 1, 4, none⟩ = some (.int .i64 0) := fun o => cellA zb4 o; have fzzb4 : ∀ o, (wN.alloc o).frozen? ⟨wr.heap.size + 1, 4, none⟩ = false := fun o => frozA zb4 fzb4 o; have zzb5 : ∀ o, (wN.alloc o).cell? ⟨wr.heap.size + 1, 5, none⟩ = some (.int .i64 0) := fun o => cellA zb5 o; have fzzb5 : ∀ o, (wN.alloc o).frozen? ⟨wr.heap.size + 1, 5, none⟩ = false := fun o => frozA zb5 fzb5 o; have zzb6 : ∀ o, (wN.alloc o).cell? ⟨wr.heap.size + 1, 6, none⟩ = some (.int .i64 0) := fun o => cellA zb6 o; have fzzb6 : ∀ o, (wN.alloc o).frozen? ⟨wr.heap.size + 1, 6, none⟩ = false := fun o => frozA zb6 fzb6 o; have zzb7 : ∀ o, (wN.alloc o).cell? ⟨wr.heap.size + 1, 7, none⟩ = some (.int .i64 0) := fun o => cellA zb7 o; have fzzb7 : ∀ o, (wN.alloc o).frozen? ⟨wr.heap.size + 1, 7, none⟩ = false := fun o => frozA zb7 fzb7 o; have hlb : wr.heap.size + 1 < wN.heap.size := World.block_lt_of_cell? _ _ zb0; have hnb := Nat.ne_of_lt hlb) | (have zb4 : wN.cell? ⟨wr.heap.size + 1, 4, none⟩ = some (.int .i64 0) := ?_; rotate_left 1; (focus (refine cellB hbN ?_; simp [go_sem]; done)); have zb0 : wN.cell? ⟨wr.heap.size + 1, 0, none⟩ = some (.int .i64 0) := cellB hbN (by simp [go_sem]); have zb1 : wN.cell? ⟨wr.heap.size + 1, 1, none⟩ = some (.int .i64 0) := cellB hbN (by simp [go_sem]); have zb2 : wN.cell? ⟨wr.heap.size + 1, 2, none⟩ = some (.int .i64 0) := cellB hbN (by simp [go_sem]); have zb3 : wN.cell? ⟨wr.heap.size + 1, 3, none⟩ = some (.int .i64 0) := cellB hbN (by simp [go_sem]); have fzb0 : wN.frozen? ⟨wr.heap.size + 1, 0, none⟩ = false := frozB hbN (v := .int .i64 0) (by simp [go_sem]) (by simp [go_sem]); have fzb1 : wN.frozen? ⟨wr.heap.size + 1, 1, none⟩ = false := frozB hbN (v := .int .i64 0) (by simp [go_sem]) (by simp [go_sem]); have fzb2 : wN.frozen? ⟨wr.heap.size + 1, 2, none⟩ = false := frozB hbN (v := .int .i64 0) (by simp [go_sem]) (by simp [go_sem]); have fzb3 : wN.frozen? ⟨wr.heap.size + 1, 3, none⟩ = false := frozB hbN (v := .int .i64 0) (by simp [go_sem]) (by simp [go_sem]); have fzb4 : wN.frozen? ⟨wr.heap.size + 1, 4, none⟩ = false := frozB hbN (v := .int .i64 0) (by simp [go_sem]) (by simp [go_sem]); have zzb0 : ∀ o, (wN.alloc o).cell? ⟨wr.heap.size + 1, 0, none⟩ = some (.int .i64 0) := fun o => cellA zb0 o; have fzzb0 : ∀ o, (wN.alloc o).frozen? ⟨wr.heap.size + 1, 0, none⟩ = false := fun o => frozA zb0 fzb0 o; have zzb1 : ∀ o, (wN.alloc o).cell? ⟨wr.heap.size + 1, 1, none⟩ = some (.int .i64 0) := fun o => cellA zb1 o; have fzzb1 : ∀ o, (wN.alloc o).frozen? ⟨wr.heap.size + 1, 1, none⟩ = false := fun o => frozA zb1 fzb1 o; have zzb2 : ∀ o, (wN.alloc o).cell? ⟨wr.heap.size + 1, 2, none⟩ = some (.int .i64 0) := fun o => cellA zb2 o; have fzzb2 : ∀ o, (wN.alloc o).frozen? ⟨wr.heap.size + 1, 2, none⟩ = false := fun o => frozA zb2 fzb2 o; have zzb3 : ∀ o, (wN.alloc o).cell? ⟨wr.heap.size + 1, 3, none⟩ = some (.int .i64 0) := fun o => cellA zb3 o; have fzzb3 : ∀ o, (wN.alloc o).frozen? ⟨wr.heap.size + 1, 3, none⟩ = false := fun o => frozA zb3 fzb3 o; have zzb4 : ∀ o, (wN.alloc o).cell? ⟨wr.heap.size + 1, 4, none⟩ = some (.int .i64 0) := fun o => cellA zb4 o; have fzzb4 : ∀ o, (wN.alloc o).frozen? ⟨wr.heap.size + 1, 4, none⟩ = false := fun o => frozA zb4 fzb4 o; have hlb : wr.heap.size + 1 < wN.heap.size := World.block_lt_of_cell? _ _ zb0; have hnb := Nat.ne_of_lt hlb) | skip)))
        all_goals
          go_wp2_with fail
          go_meet
          refine ⟨_, _, rfl, rfl, rfl, Lib.hid ?_, (by with_reducible (repeat (first | exact Onto.rfl' _ | exact hbW | refine Onto.draw ?_ | refine Onto.new ?_ _ | refine Onto.put ?_ (by simp <;> omega) _))), (by first | exact Nat.le_refl _ | (simp; omega) | omega), (by first | exact Nat.le_refl _ | (simp; omega) | omega)⟩
          clear x0 x1 x2 x3 x4 e0 hUr
          constructor <;> simp [go_sem, *]
      case rest =>
        obtain ⟨p, q, rfl, rfl, rfl, HRX, hbx, hp, hq⟩ := hcut
        have hbz : bm < wr.heap.size := by have := World.block_lt_of_cell? _ _ e0; simpa using this
        replace fx0 := frozB hbx x0 fx0; replace x0 := cellB hbx x0; replace y0 := cellB hbx y0
        replace fx1 := frozB hbx x1 fx1; replace x1 := cellB hbx x1; replace y1 := cellB hbx y1
        replace fx2 := frozB hbx x2 fx2; replace x2 := cellB hbx x2; replace y2 := cellB hbx y2
        replace fx3 := frozB hbx x3 fx3; replace x3 := cellB hbx x3; replace y3 := cellB hbx y3
        replace fx4 := frozB hbx x4 fx4; replace x4 := cellB hbx x4; replace y4 := cellB hbx y4
        have HM2 := Lib.hid (HM.out.onto hbx); have HU2 := Lib.hid (HU.out.onto hbx)
        replace hbr := Onto.to hbr hbx
        have hsz := hbx.size
        have p0 := HRX.out.p0
        have p1 := HRX.out.p1
        have p2 := HRX.out.p2
        have p3 := HRX.out.p3
        have p4 := HRX.out.p4
        have p5 := HRX.out.p5
        have p6 := HRX.out.p6
        have p7 := HRX.out.p7
        have q0 := HRX.out.q0
        have q1 := HRX.out.q1
        have q2 := HRX.out.q2
        have q3 := HRX.out.q3
        have q4 := HRX.out.q4
        clear e0 hUr HRX hbx HM HU
        rcases HLAW.out with ⟨hi0, hre⟩ | ⟨hcx, hr0, ⟨hrr, HA2⟩ | ⟨hrr, hnx, HA2⟩⟩
        · subst hi0
          have hd : (r.2.2 != 0) = true := by simpa using hre
          clear hre HLAW HR
          go_wp2_with fail
          go_ret
          exact ⟨rfl, hbr⟩
        · obtain ⟨s, hs⟩ : ∃ s, s = cellAt (uniAt (unis lm) i).cells j := ⟨_, rfl⟩
          rw [← hs] at hrr HA2
          have HS := Lib.hid hs; have HA3 := Lib.hid HA2
          have hd : (r.2.2 != 0) = false := by simpa using hr0
          replace p0 : wc.cell? ⟨p, 0, none⟩ = some (.int .i64 0) := by rw [p0, hrr]; rfl
          replace q0 : wc.cell? ⟨q, 0, none⟩ = some (.int .i64 s.kind) := by rw [q0, hrr]
          replace q1 : wc.cell? ⟨q, 1, none⟩ = some (.int .i64 s.job) := by rw [q1, hrr]
          replace q2 : wc.cell? ⟨q, 2, none⟩ = some (.int .i64 s.every) := by rw [q2, hrr]
          replace q3 : wc.cell? ⟨q, 3, none⟩ = some (.int .i64 s.time) := by rw [q3, hrr]
          replace q4 : wc.cell? ⟨q, 4, none⟩ = some (.int .i64 s.client) := by rw [q4, hrr]
          clear hs hr0 hrr HA2 HLAW HR p1 p2 p3 p4 p5 p6 p7
          go_upto_region 17 with fail
          have x0n : (((((wc.setCell ⟨w.heap.size, 0, none⟩ (.int .i64 s.kind)).setCell ⟨w.heap.size, 1, none⟩ (.int .i64 s.job)).setCell ⟨w.heap.size, 2, none⟩ (.int .i64 s.every)).setCell ⟨w.heap.size, 3, none⟩ (.int .i64 s.time)).setCell ⟨w.heap.size, 4, none⟩ (.int .i64 s.client)).cell? ⟨w.heap.size, 0, none⟩ = some (.int .i64 s.kind) := by simp [go_sem, x0, x1, x2, x3, x4]
          have fx0n : (((((wc.setCell ⟨w.heap.size, 0, none⟩ (.int .i64 s.kind)).setCell ⟨w.heap.size, 1, none⟩ (.int .i64 s.job)).setCell ⟨w.heap.size, 2, none⟩ (.int .i64 s.every)).setCell ⟨w.heap.size, 3, none⟩ (.int .i64 s.time)).setCell ⟨w.heap.size, 4, none⟩ (.int .i64 s.client)).frozen? ⟨w.heap.size, 0, none⟩ = false := by simpa using fx0
          have y0n : (((((wc.setCell ⟨w.heap.size, 0, none⟩ (.int .i64 s.kind)).setCell ⟨w.heap.size, 1, none⟩ (.int .i64 s.job)).setCell ⟨w.heap.size, 2, none⟩ (.int .i64 s.every)).setCell ⟨w.heap.size, 3, none⟩ (.int .i64 s.time)).setCell ⟨w.heap.size, 4, none⟩ (.int .i64 s.client)).cell? ⟨w2.heap.size, 0, none⟩ = some (.int .i64 y.kind) := (cellS (cellS (cellS (cellS (cellS y0 (by simp only; omega)) (by simp only; omega)) (by simp only; omega)) (by simp only; omega)) (by simp only; omega))
          have x1n : (((((wc.setCell ⟨w.heap.size, 0, none⟩ (.int .i64 s.kind)).setCell ⟨w.heap.size, 1, none⟩ (.int .i64 s.job)).setCell ⟨w.heap.size, 2, none⟩ (.int .i64 s.every)).setCell ⟨w.heap.size, 3, none⟩ (.int .i64 s.time)).setCell ⟨w.heap.size, 4, none⟩ (.int .i64 s.client)).cell? ⟨w.heap.size, 1, none⟩ = some (.int .i64 s.job) := by simp [go_sem, x0, x1, x2, x3, x4]
          have fx1n : (((((wc.setCell ⟨w.heap.size, 0, none⟩ (.int .i64 s.kind)).setCell ⟨w.heap.size, 1, none⟩ (.int .i64 s.job)).setCell ⟨w.heap.size, 2, none⟩ (.int .i64 s.every)).setCell ⟨w.heap.size, 3, none⟩ (.int .i64 s.time)).setCell ⟨w.heap.size, 4, none⟩ (.int .i64 s.client)).frozen? ⟨w.heap.size, 1, none⟩ = false := by simpa using fx1
          have y1n : (((((wc.setCell ⟨w.heap.size, 0, none⟩ (.int .i64 s.kind)).setCell ⟨w.heap.size, 1, none⟩ (.int .i64 s.job)).setCell ⟨w.heap.size, 2, none⟩ (.int .i64 s.every)).setCell ⟨w.heap.size, 3, none⟩ (.int .i64 s.time)).setCell ⟨w.heap.size, 4, none⟩ (.int .i64 s.client)).cell? ⟨w2.heap.size, 1, none⟩ = some (.int .i64 y.job) := (cellS (cellS (cellS (cellS (cellS y1 (by simp only; omega)) (by simp only; omega)) (by simp only; omega)) (by simp only; omega)) (by simp only; omega))
          have x2n : (((((wc.setCell ⟨w.heap.size, 0, none⟩ (.int .i64 s.kind)).setCell ⟨w.heap.size, 1, none⟩ (.int .i64 s.job)).setCell ⟨w.heap.size, 2, none⟩ (.int .i64 s.every)).setCell ⟨w.heap.size, 3, none⟩ (.int .i64 s.time)).setCell ⟨w.heap.size, 4, none⟩ (.int .i64 s.client)).cell? ⟨w.heap.size, 2, none⟩ = some (.int .i64 s.every) := by simp [go_sem, x0, x1, x2, x3, x4]
          have fx2n : (((((wc.setCell ⟨w.heap.size, 0, none⟩ (.int .i64 s.kind)).setCell ⟨w.heap.size, 1, none⟩ (.int .i64 s.job)).setCell ⟨w.heap.size, 2, none⟩ (.int .i64 s.every)).setCell ⟨w.heap.size, 3, none⟩ (.int .i64 s.time)).setCell ⟨w.heap.size, 4, none⟩ (.int .i64 s.client)).frozen? ⟨w.heap.size, 2, none⟩ = false := by simpa using fx2
          have y2n : (((((wc.setCell ⟨w.heap.size, 0, none⟩ (.int .i64 s.kind)).setCell ⟨w.heap.size, 1, none⟩ (.int .i64 s.job)).setCell ⟨w.heap.size, 2, none⟩ (.int .i64 s.every)).setCell ⟨w.heap.size, 3, none⟩ (.int .i64 s.time)).setCell ⟨w.heap.size, 4, none⟩ (.int .i64 s.client)).cell? ⟨w2.heap.size, 2, none⟩ = some (.int .i64 y.every) := (cellS (cellS (cellS (cellS (cellS y2 (by simp only; omega)) (by simp only; omega)) (by simp only; omega)) (by simp only; omega)) (by simp only; omega))
          have x3n : (((((wc.setCell ⟨w.heap.size, 0, none⟩ (.int .i64 s.kind)).setCell ⟨w.heap.size, 1, none⟩ (.int .i64 s.job)).setCell ⟨w.heap.size, 2, none⟩ (.int .i64 s.every)).setCell ⟨w.heap.size, 3, none⟩ (.int .i64 s.time)).setCell ⟨w.heap.size, 4, none⟩ (.int .i64 s.client)).cell? ⟨w.heap.size, 3, none⟩ = some (.int .i64 s.time) := by simp [go_sem, x0, x1, x2, x3, x4]
          have fx3n : (((((wc.setCell ⟨w.heap.size, 0, none⟩ (.int .i64 s.kind)).setCell ⟨w.heap.size, 1, none⟩ (.int .i64 s.job)).setCell ⟨w.heap.size, 2, none⟩ (.int .i64 s.every)).setCell ⟨w.heap.size, 3, none⟩ (.int .i64 s.time)).setCell ⟨w.heap.size, 4, none⟩ (.int .i64 s.client)).frozen? ⟨w.heap.size, 3, none⟩ = false := by simpa using fx3
          have y3n : (((((wc.setCell ⟨w.heap.size, 0, none⟩ (.int .i64 s.kind)).setCell ⟨w.heap.size, 1, none⟩ (.int .i64 s.job)).setCell ⟨w.heap.size, 2, none⟩ (.int .i64 s.every)).setCell ⟨w.heap.size, 3, none⟩ (.int .i64 s.time)).setCell ⟨w.heap.size, 4, none⟩ (.int .i64 s.client)).cell? ⟨w2.heap.size, 3, none⟩ = some (.int .i64 y.time) := (cellS (cellS (cellS (cellS (cellS y3 (by simp only; omega)) (by simp only; omega)) (by simp only; omega)) (by simp only; omega)) (by simp only; omega))
          have x4n : (((((wc.setCell ⟨w.heap.size, 0, none⟩ (.int .i64 s.kind)).setCell ⟨w.heap.size, 1, none⟩ (.int .i64 s.job)).setCell ⟨w.heap.size, 2, none⟩ (.int .i64 s.every)).setCell ⟨w.heap.size, 3, none⟩ (.int .i64 s.time)).setCell ⟨w.heap.size, 4, none⟩ (.int .i64 s.client)).cell? ⟨w.heap.size, 4, none⟩ = some (.int .i64 s.client) := by simp [go_sem, x0, x1, x2, x3, x4]
          have fx4n : (((((wc.setCell ⟨w.heap.size, 0, none⟩ (.int .i64 s.kind)).setCell ⟨w.heap.size, 1, none⟩ (.int .i64 s.job)).setCell ⟨w.heap.size, 2, none⟩ (.int .i64 s.every)).setCell ⟨w.heap.size, 3, none⟩ (.int .i64 s.time)).setCell ⟨w.heap.size, 4, none⟩ (.int .i64 s.client)).frozen? ⟨w.heap.size, 4, none⟩ = false := by simpa using fx4
          have y4n : (((((wc.setCell ⟨w.heap.size, 0, none⟩ (.int .i64 s.kind)).setCell ⟨w.heap.size, 1, none⟩ (.int .i64 s.job)).setCell ⟨w.heap.size, 2, none⟩ (.int .i64 s.every)).setCell ⟨w.heap.size, 3, none⟩ (.int .i64 s.time)).setCell ⟨w.heap.size, 4, none⟩ (.int .i64 s.client)).cell? ⟨w2.heap.size, 4, none⟩ = some (.int .i64 y.client) := (cellS (cellS (cellS (cellS (cellS y4 (by simp only; omega)) (by simp only; omega)) (by simp only; omega)) (by simp only; omega)) (by simp only; omega))
          have HM3 := Lib.hid (M.off (M.off (M.off (M.off (M.off HM2.out (p := ⟨w.heap.size, 0, none⟩) (by simp only; omega) (.int .i64 s.kind)) (p := ⟨w.heap.size, 1, none⟩) (by simp only; omega) (.int .i64 s.job)) (p := ⟨w.heap.size, 2, none⟩) (by simp only; omega) (.int .i64 s.every)) (p := ⟨w.heap.size, 3, none⟩) (by simp only; omega) (.int .i64 s.time)) (p := ⟨w.heap.size, 4, none⟩) (by simp only; omega) (.int .i64 s.client))
          have HU3 := Lib.hid (Us.off (Us.off (Us.off (Us.off (Us.off HU2.out (b := w.heap.size) (fun _ a e => by injection e with e; subst e; simp only; omega) (fun v hv => (HOF.out v hv).2) 0 (.int .i64 s.kind)) (b := w.heap.size) (fun _ a e => by injection e with e; subst e; simp only; omega) (fun v hv => (HOF.out v hv).2) 1 (.int .i64 s.job)) (b := w.heap.size) (fun _ a e => by injection e with e; subst e; simp only; omega) (fun v hv => (HOF.out v hv).2) 2 (.int .i64 s.every)) (b := w.heap.size) (fun _ a e => by injection e with e; subst e; simp only; omega) (fun v hv => (HOF.out v hv).2) 3 (.int .i64 s.time)) (b := w.heap.size) (fun _ a e => by injection e with e; subst e; simp only; omega) (fun v hv => (HOF.out v hv).2) 4 (.int .i64 s.client))
          have hb3 : Onto w (((((wc.setCell ⟨w.heap.size, 0, none⟩ (.int .i64 s.kind)).setCell ⟨w.heap.size, 1, none⟩ (.int .i64 s.job)).setCell ⟨w.heap.size, 2, none⟩ (.int .i64 s.every)).setCell ⟨w.heap.size, 3, none⟩ (.int .i64 s.time)).setCell ⟨w.heap.size, 4, none⟩ (.int .i64 s.client)) := (Onto.put (Onto.put (Onto.put (Onto.put (Onto.put hbr (p := ⟨w.heap.size, 0, none⟩) (Nat.le_refl _) (.int .i64 s.kind)) (p := ⟨w.heap.size, 1, none⟩) (Nat.le_refl _) (.int .i64 s.job)) (p := ⟨w.heap.size, 2, none⟩) (Nat.le_refl _) (.int .i64 s.every)) (p := ⟨w.heap.size, 3, none⟩) (Nat.le_refl _) (.int .i64 s.time)) (p := ⟨w.heap.size, 4, none⟩) (Nat.le_refl _) (.int .i64 s.client))
          clear x0 fx0 y0 q0 x1 fx1 y1 q1 x2 fx2 y2 q2 x3 fx3 y3 q3 x4 fx4 y4 q4 p0 HM2 HU2 hbr
          change Code.wp _ _ _ _ (((((wc.setCell ⟨w.heap.size, 0, none⟩ (.int .i64 s.kind)).setCell ⟨w.heap.size, 1, none⟩ (.int .i64 s.job)).setCell ⟨w.heap.size, 2, none⟩ (.int .i64 s.every)).setCell ⟨w.heap.size, 3, none⟩ (.int .i64 s.time)).setCell ⟨w.heap.size, 4, none⟩ (.int .i64 s.client))
          generalize (((((wc.setCell ⟨w.heap.size, 0, none⟩ (.int .i64 s.kind)).setCell ⟨w.heap.size, 1, none⟩ (.int .i64 s.job)).setCell ⟨w.heap.size, 2, none⟩ (.int .i64 s.every)).setCell ⟨w.heap.size, 3, none⟩ (.int .i64 s.time)).setCell ⟨w.heap.size, 4, none⟩ (.int .i64 s.client)) = w9 at *
          go_wp2_with fail
          go_roundw
          case measure => simp [intOf] <;> omega
          case rel =>
            exact ⟨i + 1, lm, s, by omega, by go_num, x0n, fx0n, x1n, fx1n, x2n, fx2n, x3n, fx3n, x4n, fx4n, y0n, y1n, y2n, y3n, y4n, HM3, HU3, HOF, hb3, HA3⟩
        · have hd : (r.2.2 != 0) = false := by simpa using hr0
          replace p0 : wc.cell? ⟨p, 0, none⟩ = some (.int .i64 1) := by rw [p0, hrr]
          replace p1 : wc.cell? ⟨p, 1, none⟩ = some (.int .i64 (j : Int)) := by rw [p1, hrr]
          replace p2 : wc.cell? ⟨p, 2, none⟩ = some (.int .i64 0) := by rw [p2, hrr]
          replace p3 : wc.cell? ⟨p, 3, none⟩ = some (.int .i64 x.kind) := by rw [p3, hrr]
          replace p4 : wc.cell? ⟨p, 4, none⟩ = some (.int .i64 x.job) := by rw [p4, hrr]
          replace p5 : wc.cell? ⟨p, 5, none⟩ = some (.int .i64 x.every) := by rw [p5, hrr]
          replace p6 : wc.cell? ⟨p, 6, none⟩ = some (.int .i64 x.time) := by rw [p6, hrr]
          replace p7 : wc.cell? ⟨p, 7, none⟩ = some (.int .i64 x.client) := by rw [p7, hrr]
          replace q0 : wc.cell? ⟨q, 0, none⟩ = some (.int .i64 x.kind) := by rw [q0, hrr]
          replace q1 : wc.cell? ⟨q, 1, none⟩ = some (.int .i64 x.job) := by rw [q1, hrr]
          replace q2 : wc.cell? ⟨q, 2, none⟩ = some (.int .i64 x.every) := by rw [q2, hrr]
          replace q3 : wc.cell? ⟨q, 3, none⟩ = some (.int .i64 x.time) := by rw [q3, hrr]
          replace q4 : wc.cell? ⟨q, 4, none⟩ = some (.int .i64 x.client) := by rw [q4, hrr]
          have HA3 := Lib.hid HA2; have HCX := Lib.hid hcx
          rw [HUU.out] at hnx
          have HNX := Lib.hid hnx
          have hmem := List.mem_of_getElem? HU0.out
          have hsu := HU2.out.cells u' hmem
          rw [hun'] at hsu
          have hgu2 := HAS.out.good.ok u'.u (List.mem_map.2 ⟨u', hmem, rfl⟩)
          have HPL := Lib.hid (putU_good (j := j) hgu2 hcx).len
          obtain ⟨bm2, offm2, um, hAm', hzm, hum, m0, m1⟩ := HM2.out.1.at2 hlt
          injection hAm' with hAm'
          injection hAm' with e2 e3 _
          subst e2; subst e3
          obtain rfl : um = u' := by have h9 := HU0.out; rw [hum] at h9; exact Option.some.inj h9
          rw [hun'] at m1
          obtain ⟨_, _, e9, _, hunf⟩ := HM2.out.2 (by omega)
          injection e9 with e9
          injection e9 with e2 e3 _
          subst e2; subst e3
          have HUN := Lib.hid hunf
          clear hr0 hrr HA2 hnx HLAW HR hgu2 hum hunf hcx hmem hzm
          go_upto_region 13 with fail
          go_region_law (first
            | (go_simp; go_at_call 15; refine Calls.mono (UNext_calls um.ep um.A 60 um.c um.cells 1 j 0 x _ hsu.draw) ?_; rw [show nextU ⟨um.ep, um.cells⟩ ⟨1, j, 0, x⟩ = (putU um.u j x, 0) from HNX.out]; rintro e w4 ⟨A', n', c', rfl, hsN, hbN, hnc', hcm', hfr⟩; have hb4 : Onto wc w4 := Onto.to (Onto.draw (Onto.rfl' wc)) hbN; have m0q := cellB hb4 m0; have m1q := cellB hb4 m1; have hun4 := HUN.out.onto hb4; have u0 := hun4.frozen (offm + i * 2); have u1 := hun4.frozen (offm + i * 2 + 1)))
          all_goals
            have hn60 : 60 = n' := by have h1 := hsN.len; have h2 := HPL.out; simp only [List.length_map] at h1; omega
            subst hn60
            obtain ⟨v', hv'⟩ : ∃ v', v' = (⟨(putU um.u j x).ep, A', 60, c', (putU um.u j x).cells⟩ : UV) := ⟨_, rfl⟩
            obtain ⟨lm2, hlm⟩ : ∃ lm2, lm2 = lm.set i v' := ⟨_, rfl⟩
            have hfrA : Fresh wc.heap.size A' := hfr
            have hf1 : bm < wc.heap.size := by omega
            have hf2 : w.heap.size < wc.heap.size := by omega
            have hset : unis lm2 = (unis lm).set i (putU (uniAt (unis lm) i) j x) := by rw [hlm, HUU.out, hv']; simp [unis, List.map_set]; rfl
            have HA4 : Hid (AS (unis lm2) (i + 1) j x y) := by show AS _ _ _ _ _; rw [hset]; exact HA3.out
            have hU4 := HU2.out.onto hb4
            have hM5 := (HM2.out.onto hb4).putU hlt v'
            rw [← hlm] at hM5
            have HM5 : Hid (M ((w4.setCell ⟨bm, offm + i * 2, none⟩ (.int .i64 (putU um.u j x).ep)).setCell ⟨bm, offm + i * 2 + 1, none⟩ (.slice A' 60 c')) w3.heap.size 2 (some ⟨bm, offm, none⟩) 3 (lm2.map encU)) := by rw [hv'] at hM5; exact hM5
            have HU5 : Hid (Us ((w4.setCell ⟨bm, offm + i * 2, none⟩ (.int .i64 (putU um.u j x).ep)).setCell ⟨bm, offm + i * 2 + 1, none⟩ (.slice A' 60 c')) (some ⟨bm, offm, none⟩) 3 lm2) := by
              refine ⟨HM5.out.sl, fun v hv => ?_, fun v hv => ?_⟩
              · rw [hlm] at hv
                rcases List.mem_or_eq_of_mem_set hv with h1 | h1
                · exact ((hU4.cells v h1).off (HOF.out v h1).1 _).off (HOF.out v h1).1 _
                · rw [h1, hv']
                  exact (S.off hsN (p := ⟨bm, offm + i * 2, none⟩) (Fresh.offB hfrA (by omega)) _).off (Fresh.offB hfrA (by omega)) _
              · rw [hlm] at hv
                rcases List.mem_or_eq_of_mem_set hv with h1 | h1
                · exact hU4.caps v h1
                · rw [h1, hv']; exact ⟨hnc', hcm'⟩
            have HOF5 : Hid (∀ v ∈ lm2, OffN v.n bm v.A ∧ OffN v.n w.heap.size v.A) := by
              show ∀ v ∈ lm2, _
              intro v hv
              rw [hlm] at hv
              rcases List.mem_or_eq_of_mem_set hv with h1 | h1
              · exact HOF.out v h1
              · rw [h1, hv']; exact ⟨Fresh.offB hfrA hf1, Fresh.offB hfrA hf2⟩
            have hb5 : Onto w ((w4.setCell ⟨bm, offm + i * 2, none⟩ (.int .i64 (putU um.u j x).ep)).setCell ⟨bm, offm + i * 2 + 1, none⟩ (.slice A' 60 c')) := ((Onto.to hbr hb4).put (by simp only; omega) _).put (by simp only; omega) _
            have x0q : ((w4.setCell ⟨bm, offm + i * 2, none⟩ (.int .i64 (putU um.u j x).ep)).setCell ⟨bm, offm + i * 2 + 1, none⟩ (.slice A' 60 c')).cell? ⟨w.heap.size, 0, none⟩ = some (.int .i64 x.kind) := cellS (cellS (cellB hb4 x0) (by simp only; omega)) (by simp only; omega)
            have fx0q : ((w4.setCell ⟨bm, offm + i * 2, none⟩ (.int .i64 (putU um.u j x).ep)).setCell ⟨bm, offm + i * 2 + 1, none⟩ (.slice A' 60 c')).frozen? ⟨w.heap.size, 0, none⟩ = false := by simpa using frozB hb4 x0 fx0
            have y0q : ((w4.setCell ⟨bm, offm + i * 2, none⟩ (.int .i64 (putU um.u j x).ep)).setCell ⟨bm, offm + i * 2 + 1, none⟩ (.slice A' 60 c')).cell? ⟨w2.heap.size, 0, none⟩ = some (.int .i64 y.kind) := cellS (cellS (cellB hb4 y0) (by simp only; omega)) (by simp only; omega)
            have q0q : ((w4.setCell ⟨bm, offm + i * 2, none⟩ (.int .i64 (putU um.u j x).ep)).setCell ⟨bm, offm + i * 2 + 1, none⟩ (.slice A' 60 c')).cell? ⟨q, 0, none⟩ = some (.int .i64 x.kind) := cellS (cellS (cellB hb4 q0) (by simp only; omega)) (by simp only; omega)
            have x1q : ((w4.setCell ⟨bm, offm + i * 2, none⟩ (.int .i64 (putU um.u j x).ep)).setCell ⟨bm, offm + i * 2 + 1, none⟩ (.slice A' 60 c')).cell? ⟨w.heap.size, 1, none⟩ = some (.int .i64 x.job) := cellS (cellS (cellB hb4 x1) (by simp only; omega)) (by simp only; omega)
            have fx1q : ((w4.setCell ⟨bm, offm + i * 2, none⟩ (.int .i64 (putU um.u j x).ep)).setCell ⟨bm, offm + i * 2 + 1, none⟩ (.slice A' 60 c')).frozen? ⟨w.heap.size, 1, none⟩ = false := by simpa using frozB hb4 x1 fx1
            have y1q : ((w4.setCell ⟨bm, offm + i * 2, none⟩ (.int .i64 (putU um.u j x).ep)).setCell ⟨bm, offm + i * 2 + 1, none⟩ (.slice A' 60 c')).cell? ⟨w2.heap.size, 1, none⟩ = some (.int .i64 y.job) := cellS (cellS (cellB hb4 y1) (by simp only; omega)) (by simp only; omega)
            have q1q : ((w4.setCell ⟨bm, offm + i * 2, none⟩ (.int .i64 (putU um.u j x).ep)).setCell ⟨bm, offm + i * 2 + 1, none⟩ (.slice A' 60 c')).cell? ⟨q, 1, none⟩ = some (.int .i64 x.job) := cellS (cellS (cellB hb4 q1) (by simp only; omega)) (by simp only; omega)
            have x2q : ((w4.setCell ⟨bm, offm + i * 2, none⟩ (.int .i64 (putU um.u j x).ep)).setCell ⟨bm, offm + i * 2 + 1, none⟩ (.slice A' 60 c')).cell? ⟨w.heap.size, 2, none⟩ = some (.int .i64 x.every) := cellS (cellS (cellB hb4 x2) (by simp only; omega)) (by simp only; omega)
            have fx2q : ((w4.setCell ⟨bm, offm + i * 2, none⟩ (.int .i64 (putU um.u j x).ep)).setCell ⟨bm, offm + i * 2 + 1, none⟩ (.slice A' 60 c')).frozen? ⟨w.heap.size, 2, none⟩ = false := by simpa using frozB hb4 x2 fx2
            have y2q : ((w4.setCell ⟨bm, offm + i * 2, none⟩ (.int .i64 (putU um.u j x).ep)).setCell ⟨bm, offm + i * 2 + 1, none⟩ (.slice A' 60 c')).cell? ⟨w2.heap.size, 2, none⟩ = some (.int .i64 y.every) := cellS (cellS (cellB hb4 y2) (by simp only; omega)) (by simp only; omega)
            have q2q : ((w4.setCell ⟨bm, offm + i * 2, none⟩ (.int .i64 (putU um.u j x).ep)).setCell ⟨bm, offm + i * 2 + 1, none⟩ (.slice A' 60 c')).cell? ⟨q, 2, none⟩ = some (.int .i64 x.every) := cellS (cellS (cellB hb4 q2) (by simp only; omega)) (by simp only; omega)
            have x3q : ((w4.setCell ⟨bm, offm + i * 2, none⟩ (.int .i64 (putU um.u j x).ep)).setCell ⟨bm, offm + i * 2 + 1, none⟩ (.slice A' 60 c')).cell? ⟨w.heap.size, 3, none⟩ = some (.int .i64 x.time) := cellS (cellS (cellB hb4 x3) (by simp only; omega)) (by simp only; omega)
            have fx3q : ((w4.setCell ⟨bm, offm + i * 2, none⟩ (.int .i64 (putU um.u j x).ep)).setCell ⟨bm, offm + i * 2 + 1, none⟩ (.slice A' 60 c')).frozen? ⟨w.heap.size, 3, none⟩ = false := by simpa using frozB hb4 x3 fx3
            have y3q : ((w4.setCell ⟨bm, offm + i * 2, none⟩ (.int .i64 (putU um.u j x).ep)).setCell ⟨bm, offm + i * 2 + 1, none⟩ (.slice A' 60 c')).cell? ⟨w2.heap.size, 3, none⟩ = some (.int .i64 y.time) := cellS (cellS (cellB hb4 y3) (by simp only; omega)) (by simp only; omega)
            have q3q : ((w4.setCell ⟨bm, offm + i * 2, none⟩ (.int .i64 (putU um.u j x).ep)).setCell ⟨bm, offm + i * 2 + 1, none⟩ (.slice A' 60 c')).cell? ⟨q, 3, none⟩ = some (.int .i64 x.time) := cellS (cellS (cellB hb4 q3) (by simp only; omega)) (by simp only; omega)
            have x4q : ((w4.setCell ⟨bm, offm + i * 2, none⟩ (.int .i64 (putU um.u j x).ep)).setCell ⟨bm, offm + i * 2 + 1, none⟩ (.slice A' 60 c')).cell? ⟨w.heap.size, 4, none⟩ = some (.int .i64 x.client) := cellS (cellS (cellB hb4 x4) (by simp only; omega)) (by simp only; omega)
            have fx4q : ((w4.setCell ⟨bm, offm + i * 2, none⟩ (.int .i64 (putU um.u j x).ep)).setCell ⟨bm, offm + i * 2 + 1, none⟩ (.slice A' 60 c')).frozen? ⟨w.heap.size, 4, none⟩ = false := by simpa using frozB hb4 x4 fx4
            have y4q : ((w4.setCell ⟨bm, offm + i * 2, none⟩ (.int .i64 (putU um.u j x).ep)).setCell ⟨bm, offm + i * 2 + 1, none⟩ (.slice A' 60 c')).cell? ⟨w2.heap.size, 4, none⟩ = some (.int .i64 y.client) := cellS (cellS (cellB hb4 y4) (by simp only; omega)) (by simp only; omega)
            have q4q : ((w4.setCell ⟨bm, offm + i * 2, none⟩ (.int .i64 (putU um.u j x).ep)).setCell ⟨bm, offm + i * 2 + 1, none⟩ (.slice A' 60 c')).cell? ⟨q, 4, none⟩ = some (.int .i64 x.client) := cellS (cellS (cellB hb4 q4) (by simp only; omega)) (by simp only; omega)
            clear x0 fx0 y0 q0 x1 fx1 y1 q1 x2 fx2 y2 q2 x3 fx3 y3 q3 x4 fx4 y4 q4 p0 p1 p2 p3 p4 p5 p6 p7 hM5 hU4 hlm hv' hset hsN hbN hb4 m0 m1 m0q m1q hun4 u0 u1 hsu hbr
            have x0 := x0q; have fx0 := fx0q; have y0 := y0q; have q0 := q0q; clear x0q fx0q y0q q0q
            have x1 := x1q; have fx1 := fx1q; have y1 := y1q; have q1 := q1q; clear x1q fx1q y1q q1q
            have x2 := x2q; have fx2 := fx2q; have y2 := y2q; have q2 := q2q; clear x2q fx2q y2q q2q
            have x3 := x3q; have fx3 := fx3q; have y3 := y3q; have q3 := q3q; clear x3q fx3q y3q q3q
            have x4 := x4q; have fx4 := fx4q; have y4 := y4q; have q4 := q4q; clear x4q fx4q y4q q4q
            generalize ((w4.setCell ⟨bm, offm + i * 2, none⟩ (.int .i64 (putU um.u j x).ep)).setCell ⟨bm, offm + i * 2 + 1, none⟩ (.slice A' 60 c')) = w5 at *
            go_upto_region 17 with fail
            have x0n : (((((w5.setCell ⟨w.heap.size, 0, none⟩ (.int .i64 x.kind)).setCell ⟨w.heap.size, 1, none⟩ (.int .i64 x.job)).setCell ⟨w.heap.size, 2, none⟩ (.int .i64 x.every)).setCell ⟨w.heap.size, 3, none⟩ (.int .i64 x.time)).setCell ⟨w.heap.size, 4, none⟩ (.int .i64 x.client)).cell? ⟨w.heap.size, 0, none⟩ = some (.int .i64 x.kind) := by simp [go_sem, x0, x1, x2, x3, x4]
            have fx0n : (((((w5.setCell ⟨w.heap.size, 0, none⟩ (.int .i64 x.kind)).setCell ⟨w.heap.size, 1, none⟩ (.int .i64 x.job)).setCell ⟨w.heap.size, 2, none⟩ (.int .i64 x.every)).setCell ⟨w.heap.size, 3, none⟩ (.int .i64 x.time)).setCell ⟨w.heap.size, 4, none⟩ (.int .i64 x.client)).frozen? ⟨w.heap.size, 0, none⟩ = false := by simpa using fx0
            have y0n : (((((w5.setCell ⟨w.heap.size, 0, none⟩ (.int .i64 x.kind)).setCell ⟨w.heap.size, 1, none⟩ (.int .i64 x.job)).setCell ⟨w.heap.size, 2, none⟩ (.int .i64 x.every)).setCell ⟨w.heap.size, 3, none⟩ (.int .i64 x.time)).setCell ⟨w.heap.size, 4, none⟩ (.int .i64 x.client)).cell? ⟨w2.heap.size, 0, none⟩ = some (.int .i64 y.kind) := (cellS (cellS (cellS (cellS (cellS y0 (by simp only; omega)) (by simp only; omega)) (by simp only; omega)) (by simp only; omega)) (by simp only; omega))
            have x1n : (((((w5.setCell ⟨w.heap.size, 0, none⟩ (.int .i64 x.kind)).setCell ⟨w.heap.size, 1, none⟩ (.int .i64 x.job)).setCell ⟨w.heap.size, 2, none⟩ (.int .i64 x.every)).setCell ⟨w.heap.size, 3, none⟩ (.int .i64 x.time)).setCell ⟨w.heap.size, 4, none⟩ (.int .i64 x.client)).cell? ⟨w.heap.size, 1, none⟩ = some (.int .i64 x.job) := by simp [go_sem, x0, x1, x2, x3, x4]
            have fx1n : (((((w5.setCell ⟨w.heap.size, 0, none⟩ (.int .i64 x.kind)).setCell ⟨w.heap.size, 1, none⟩ (.int .i64 x.job)).setCell ⟨w.heap.size, 2, none⟩ (.int .i64 x.every)).setCell ⟨w.heap.size, 3, none⟩ (.int .i64 x.time)).setCell ⟨w.heap.size, 4, none⟩ (.int .i64 x.client)).frozen? ⟨w.heap.size, 1, none⟩ = false := by simpa using fx1
            have y1n : (((((w5.setCell ⟨w.heap.size, 0, none⟩ (.int .i64 x.kind)).setCell ⟨w.heap.size, 1, none⟩ (.int .i64 x.job)).setCell ⟨w.heap.size, 2, none⟩ (.int .i64 x.every)).setCell ⟨w.heap.size, 3, none⟩ (.int .i64 x.time)).setCell ⟨w.heap.size, 4, none⟩ (.int .i64 x.client)).cell? ⟨w2.heap.size, 1, none⟩ = some (.int .i64 y.job) := (cellS (cellS (cellS (cellS (cellS y1 (by simp only; omega)) (by simp only; omega)) (by simp only; omega)) (by simp only; omega)) (by simp only; omega))
            have x2n : (((((w5.setCell ⟨w.heap.size, 0, none⟩ (.int .i64 x.kind)).setCell ⟨w.heap.size, 1, none⟩ (.int .i64 x.job)).setCell ⟨w.heap.size, 2, none⟩ (.int .i64 x.every)).setCell ⟨w.heap.size, 3, none⟩ (.int .i64 x.time)).setCell ⟨w.heap.size, 4, none⟩ (.int .i64 x.client)).cell? ⟨w.heap.size, 2, none⟩ = some (.int .i64 x.every) := by simp [go_sem, x0, x1, x2, x3, x4]
            have fx2n : (((((w5.setCell ⟨w.heap.size, 0, none⟩ (.int .i64 x.kind)).setCell ⟨w.heap.size, 1, none⟩ (.int .i64 x.job)).setCell ⟨w.heap.size, 2, none⟩ (.int .i64 x.every)).setCell ⟨w.heap.size, 3, none⟩ (.int .i64 x.time)).setCell ⟨w.heap.size, 4, none⟩ (.int .i64 x.client)).frozen? ⟨w.heap.size, 2, none⟩ = false := by simpa using fx2
            have y2n : (((((w5.setCell ⟨w.heap.size, 0, none⟩ (.int .i64 x.kind)).setCell ⟨w.heap.size, 1, none⟩ (.int .i64 x.job)).setCell ⟨w.heap.size, 2, none⟩ (.int .i64 x.every)).setCell ⟨w.heap.size, 3, none⟩ (.int .i64 x.time)).setCell ⟨w.heap.size, 4, none⟩ (.int .i64 x.client)).cell? ⟨w2.heap.size, 2, none⟩ = some (.int .i64 y.every) := (cellS (cellS (cellS (cellS (cellS y2 (by simp only; omega)) (by simp only; omega)) (by simp only; omega)) (by simp only; omega)) (by simp only; omega))
            have x3n : (((((w5.setCell ⟨w.heap.size, 0, none⟩ (.int .i64 x.kind)).setCell ⟨w.heap.size, 1, none⟩ (.int .i64 x.job)).setCell ⟨w.heap.size, 2, none⟩ (.int .i64 x.every)).setCell ⟨w.heap.size, 3, none⟩ (.int .i64 x.time)).setCell ⟨w.heap.size, 4, none⟩ (.int .i64 x.client)).cell? ⟨w.heap.size, 3, none⟩ = some (.int .i64 x.time) := by simp [go_sem, x0, x1, x2, x3, x4]
            have fx3n : (((((w5.setCell ⟨w.heap.size, 0, none⟩ (.int .i64 x.kind)).setCell ⟨w.heap.size, 1, none⟩ (.int .i64 x.job)).setCell ⟨w.heap.size, 2, none⟩ (.int .i64 x.every)).setCell ⟨w.heap.size, 3, none⟩ (.int .i64 x.time)).setCell ⟨w.heap.size, 4, none⟩ (.int .i64 x.client)).frozen? ⟨w.heap.size, 3, none⟩ = false := by simpa using fx3
            have y3n : (((((w5.setCell ⟨w.heap.size, 0, none⟩ (.int .i64 x.kind)).setCell ⟨w.heap.size, 1, none⟩ (.int .i64 x.job)).setCell ⟨w.heap.size, 2, none⟩ (.int .i64 x.every)).setCell ⟨w.heap.size, 3, none⟩ (.int .i64 x.time)).setCell ⟨w.heap.size, 4, none⟩ (.int .i64 x.client)).cell? ⟨w2.heap.size, 3, none⟩ = some (.int .i64 y.time) := (cellS (cellS (cellS (cellS (cellS y3 (by simp only; omega)) (by simp only; omega)) (by simp only; omega)) (by simp only; omega)) (by simp only; omega))
            have x4n : (((((w5.setCell ⟨w.heap.size, 0, none⟩ (.int .i64 x.kind)).setCell ⟨w.heap.size, 1, none⟩ (.int .i64 x.job)).setCell ⟨w.heap.size, 2, none⟩ (.int .i64 x.every)).setCell ⟨w.heap.size, 3, none⟩ (.int .i64 x.time)).setCell ⟨w.heap.size, 4, none⟩ (.int .i64 x.client)).cell? ⟨w.heap.size, 4, none⟩ = some (.int .i64 x.client) := by simp [go_sem, x0, x1, x2, x3, x4]
            have fx4n : (((((w5.setCell ⟨w.heap.size, 0, none⟩ (.int .i64 x.kind)).setCell ⟨w.heap.size, 1, none⟩ (.int .i64 x.job)).setCell ⟨w.heap.size, 2, none⟩ (.int .i64 x.every)).setCell ⟨w.heap.size, 3, none⟩ (.int .i64 x.time)).setCell ⟨w.heap.size, 4, none⟩ (.int .i64 x.client)).frozen? ⟨w.heap.size, 4, none⟩ = false := by simpa using fx4
            have y4n : (((((w5.setCell ⟨w.heap.size, 0, none⟩ (.int .i64 x.kind)).setCell ⟨w.heap.size, 1, none⟩ (.int .i64 x.job)).setCell ⟨w.heap.size, 2, none⟩ (.int .i64 x.every)).setCell ⟨w.heap.size, 3, none⟩ (.int .i64 x.time)).setCell ⟨w.heap.size, 4, none⟩ (.int .i64 x.client)).cell? ⟨w2.heap.size, 4, none⟩ = some (.int .i64 y.client) := (cellS (cellS (cellS (cellS (cellS y4 (by simp only; omega)) (by simp only; omega)) (by simp only; omega)) (by simp only; omega)) (by simp only; omega))
            have HM3 := Lib.hid (M.off (M.off (M.off (M.off (M.off HM5.out (p := ⟨w.heap.size, 0, none⟩) (by simp only; omega) (.int .i64 x.kind)) (p := ⟨w.heap.size, 1, none⟩) (by simp only; omega) (.int .i64 x.job)) (p := ⟨w.heap.size, 2, none⟩) (by simp only; omega) (.int .i64 x.every)) (p := ⟨w.heap.size, 3, none⟩) (by simp only; omega) (.int .i64 x.time)) (p := ⟨w.heap.size, 4, none⟩) (by simp only; omega) (.int .i64 x.client))
            have HU3 := Lib.hid (Us.off (Us.off (Us.off (Us.off (Us.off HU5.out (b := w.heap.size) (fun _ a e => by injection e with e; subst e; simp only; omega) (fun v hv => (HOF5.out v hv).2) 0 (.int .i64 x.kind)) (b := w.heap.size) (fun _ a e => by injection e with e; subst e; simp only; omega) (fun v hv => (HOF5.out v hv).2) 1 (.int .i64 x.job)) (b := w.heap.size) (fun _ a e => by injection e with e; subst e; simp only; omega) (fun v hv => (HOF5.out v hv).2) 2 (.int .i64 x.every)) (b := w.heap.size) (fun _ a e => by injection e with e; subst e; simp only; omega) (fun v hv => (HOF5.out v hv).2) 3 (.int .i64 x.time)) (b := w.heap.size) (fun _ a e => by injection e with e; subst e; simp only; omega) (fun v hv => (HOF5.out v hv).2) 4 (.int .i64 x.client))
            have hb3 : Onto w (((((w5.setCell ⟨w.heap.size, 0, none⟩ (.int .i64 x.kind)).setCell ⟨w.heap.size, 1, none⟩ (.int .i64 x.job)).setCell ⟨w.heap.size, 2, none⟩ (.int .i64 x.every)).setCell ⟨w.heap.size, 3, none⟩ (.int .i64 x.time)).setCell ⟨w.heap.size, 4, none⟩ (.int .i64 x.client)) := (Onto.put (Onto.put (Onto.put (Onto.put (Onto.put hb5 (p := ⟨w.heap.size, 0, none⟩) (Nat.le_refl _) (.int .i64 x.kind)) (p := ⟨w.heap.size, 1, none⟩) (Nat.le_refl _) (.int .i64 x.job)) (p := ⟨w.heap.size, 2, none⟩) (Nat.le_refl _) (.int .i64 x.every)) (p := ⟨w.heap.size, 3, none⟩) (Nat.le_refl _) (.int .i64 x.time)) (p := ⟨w.heap.size, 4, none⟩) (Nat.le_refl _) (.int .i64 x.client))
            clear x0 fx0 y0 q0 x1 fx1 y1 q1 x2 fx2 y2 q2 x3 fx3 y3 q3 x4 fx4 y4 q4 HM5 HU5 hb5
            change Code.wp _ _ _ _ (((((w5.setCell ⟨w.heap.size, 0, none⟩ (.int .i64 x.kind)).setCell ⟨w.heap.size, 1, none⟩ (.int .i64 x.job)).setCell ⟨w.heap.size, 2, none⟩ (.int .i64 x.every)).setCell ⟨w.heap.size, 3, none⟩ (.int .i64 x.time)).setCell ⟨w.heap.size, 4, none⟩ (.int .i64 x.client))
            generalize (((((w5.setCell ⟨w.heap.size, 0, none⟩ (.int .i64 x.kind)).setCell ⟨w.heap.size, 1, none⟩ (.int .i64 x.job)).setCell ⟨w.heap.size, 2, none⟩ (.int .i64 x.every)).setCell ⟨w.heap.size, 3, none⟩ (.int .i64 x.time)).setCell ⟨w.heap.size, 4, none⟩ (.int .i64 x.client)) = w9 at *
            go_wp2_with fail
            go_roundw
            case measure => simp [intOf] <;> omega
            case rel =>
              exact ⟨i + 1, lm2, x, by omega, by go_num, x0n, fx0n, x1n, fx1n, x2n, fx2n, x3n, fx3n, x4n, fx4n, y0n, y1n, y2n, y3n, y4n, HM3, HU3, HOF5, hb3, HA4⟩
    · have hi3 : i = 3 := by omega
      subst hi3
      have hE := along_end HAS.out hj60
      have HE := Lib.hid hE.1; have HF := Lib.hid hE.2
      have HGf := Lib.hid HAS.out.good
      have heq := eqlE
      clear hE hlt hi HAS HM HOF fx0 fx1 fx2 fx3 fx4
      go_wp2_with fail
      refine Calls.mono (Read_calls _ 3 cm lm j _ HU.out) ?_
      rw [HE.out]
      rintro e w5 ⟨rfl, hb⟩
      replace x0 := cellB hb x0; replace y0 := cellB hb y0
      replace x1 := cellB hb x1; replace y1 := cellB hb y1
      replace x2 := cellB hb x2; replace y2 := cellB hb y2
      replace x3 := cellB hb x3; replace y3 := cellB hb y3
      replace x4 := cellB hb x4; replace y4 := cellB hb y4
      replace hbr := Onto.to hbr hb
      have HU5 := Lib.hid (HU.out.onto hb)
      clear hb HU
      go_upto_region 19 with fail
      have hb : Onto w5 (w5.alloc (Obj.cells #[.int .i64 x.kind, .int .i64 x.job, .int .i64 x.every, .int .i64 x.time, .int .i64 x.client] 24)) := (Below.refl _ _).alloc (Nat.le_refl _) _
      have z0 : (w5.alloc (Obj.cells #[.int .i64 x.kind, .int .i64 x.job, .int .i64 x.every, .int .i64 x.time, .int .i64 x.client] 24)).cell? ⟨w5.heap.size, 0, none⟩ = some (.int .i64 x.kind) := by simp [go_sem]
      have z1 : (w5.alloc (Obj.cells #[.int .i64 x.kind, .int .i64 x.job, .int .i64 x.every, .int .i64 x.time, .int .i64 x.client] 24)).cell? ⟨w5.heap.size, 1, none⟩ = some (.int .i64 x.job) := by simp [go_sem]
      have z2 : (w5.alloc (Obj.cells #[.int .i64 x.kind, .int .i64 x.job, .int .i64 x.every, .int .i64 x.time, .int .i64 x.client] 24)).cell? ⟨w5.heap.size, 2, none⟩ = some (.int .i64 x.every) := by simp [go_sem]
      have z3 : (w5.alloc (Obj.cells #[.int .i64 x.kind, .int .i64 x.job, .int .i64 x.every, .int .i64 x.time, .int .i64 x.client] 24)).cell? ⟨w5.heap.size, 3, none⟩ = some (.int .i64 x.time) := by simp [go_sem]
      have z4 : (w5.alloc (Obj.cells #[.int .i64 x.kind, .int .i64 x.job, .int .i64 x.every, .int .i64 x.time, .int .i64 x.client] 24)).cell? ⟨w5.heap.size, 4, none⟩ = some (.int .i64 x.client) := by simp [go_sem]
      replace x0 := cellB hb x0; replace y0 := cellB hb y0
      replace x1 := cellB hb x1; replace y1 := cellB hb y1
      replace x2 := cellB hb x2; replace y2 := cellB hb y2
      replace x3 := cellB hb x3; replace y3 := cellB hb y3
      replace x4 := cellB hb x4; replace y4 := cellB hb y4
      replace hbr := Onto.to hbr hb
      have HU6 := Lib.hid (HU5.out.onto hb)
      clear hb HU5
      change Code.wp _ _ _ _ (w5.alloc (Obj.cells #[.int .i64 x.kind, .int .i64 x.job, .int .i64 x.every, .int .i64 x.time, .int .i64 x.client] 24))
      generalize (w5.alloc (Obj.cells #[.int .i64 x.kind, .int .i64 x.job, .int .i64 x.every, .int .i64 x.time, .int .i64 x.client] 24)) = w6 at *
      generalize w5.heap.size = bz at *
      go_wp2_with fail
      refine Calls.mono (CCheck_calls _ 3 cm lm _ HU6.out) ?_
      rw [checkC_iff.2 HGf.out]
      rintro e w7 ⟨rfl, hb⟩
      replace x0 := cellB hb x0; replace y0 := cellB hb y0; replace z0 := cellB hb z0
      replace x1 := cellB hb x1; replace y1 := cellB hb y1; replace z1 := cellB hb z1
      replace x2 := cellB hb x2; replace y2 := cellB hb y2; replace z2 := cellB hb z2
      replace x3 := cellB hb x3; replace y3 := cellB hb y3; replace z3 := cellB hb z3
      replace x4 := cellB hb x4; replace y4 := cellB hb y4; replace z4 := cellB hb z4
      replace hbr := Onto.to hbr hb
      clear hb HU6
      by_cases h4 : y.kind = 4
      · have hd : (y.kind == 4) = true := by simpa using h4
        clear h4
        go_wp2_with fail
        go_ret
        exact ⟨ret_bool (by simp), hbr⟩
      · have hd : (y.kind == 4) = false := by simpa using h4
        have hxy : x = y := by rcases HF.out with h9 | h9
                               · exact absurd h9 h4
                               · exact h9
        clear HF h4
        subst hxy
        go_wp2_with fail
        go_ret
        exact ⟨ret_bool (by simp), hbr⟩

set_option maxHeartbeats 8000000 in
set_option maxRecDepth 100000 in
theorem Along_bad (A : Option Addr) (n c : Nat) (l : List UV) (a : Int) (x : Entry) (w : World) (h : Us w A n l) (hbad : checkC (unis l) ≠ 0) :
    Calls Try.prog 4 #[.slice A n c, .int .i64 a, .agg #[.int .i64 x.kind, .int .i64 x.job, .int .i64 x.every, .int .i64 x.time, .int .i64 x.client]] w fun e w' => e = .returned (.bool true) ∧ Below w.heap.size w w' := by
  obtain ⟨q, hq⟩ : ∃ q, q = checkC (unis l) := ⟨_, rfl⟩
  rw [← hq] at hbad
  have hd : (q != 0) = true := by simpa using hbad
  have HQ := Lib.hid hq
  clear hq hbad
  go_enter Try.func4, Try.ntmps4
  go_wp2_with fail
  refine Calls.mono (at_calls _ _ _ (by omega) (by omega)) ?_
  rintro e w0 ⟨rfl, rfl⟩
  have h01 : Onto w (w.alloc (Obj.cells #[.int .i64 x.kind, .int .i64 x.job, .int .i64 x.every, .int .i64 x.time, .int .i64 x.client] 24)) := (Below.refl _ _).alloc (Nat.le_refl _) _
  go_wp2_with fail
  refine Calls.mono (linked_calls _) ?_
  rintro e w1 ⟨rfl, hb1⟩
  have h1 := Onto.to h01 hb1
  clear hb1 h01
  go_wp2_with fail
  refine Calls.mono (CCheck_calls A n c l _ (Us.onto h h1)) ?_
  rw [← HQ.out]
  rintro e w2 ⟨rfl, hb2⟩
  have h2 := Onto.to h1 hb2
  clear hb2 h1
  go_wp2_with fail
  refine Calls.mono (linked_calls _) ?_
  rintro e w3 ⟨rfl, hb3⟩
  have h3 := Onto.to h2 hb3
  clear hb3 h2
  go_wp2_with fail
  go_ret
  exact ⟨rfl, h3⟩
theorem ChainAlong_walk (A : Option Addr) (n c : Nat) (l : List UV) (a : Int) (x : Entry) (w : World) (h : Us w A n l) (_ : n ≤ c) (_ : c ≤ maxLen) :
    Calls Try.prog 4 #[.slice A n c, .int .i64 a, .agg #[.int .i64 x.kind, .int .i64 x.job, .int .i64 x.every, .int .i64 x.time, .int .i64 x.client]] w fun e w' => e = .returned (.bool true) ∧ Below w.heap.size w w' := by
  by_cases hb : checkC (unis l) = 0
  · exact Along_good A n c l a x w h (checkC_iff.1 hb)
  · exact Along_bad A n c l a x w h hb
end Go.Proofs.Ytbipmoehcmighaa
