/- Part 6 of the proof: Apply, LawB, BoxA, ClB, Link, ReadC, USame. -/
import Derived.Test.YtmppkaoonncddaaGreatDoorBa05
import Derived.Test.YtmppkaoonncddaaGreatDoorBa02
import Derived.StillTailTactics
import Derived.BigRegion
import Derived.Test.YtmppkaoonncddaaGreatDoorBa03
import Derived.Test.YtmppkaoonncddaaGreatDoorBa04
namespace Go.Proofs.YtmppkaoonncddaaGreatDoor
section
set_option linter.unusedSimpArgs false
set_option linter.unusedVariables false
open Go.RowKit
def BookPost (w : World) (b : Book) (err : Int) (e : Ending) (w' : World) : Prop :=
 ∃ A n c A' m d, e = .returned (.tuple #[.agg #[.slice A n c, .slice A' m d], .int .i64 err]) ∧ Sl w' w'.heap.size 3 A n (b.jobs.map encJ) ∧ Sl w' w'.heap.size 3 A' m (b.rung.map encR) ∧ Below w.heap.size w w' ∧ Fresh w.heap.size A ∧ Fresh w.heap.size A' ∧ n ≤ c ∧ m ≤ d
theorem Sl.setNext {w : World} {B n b off i : Nat} {l : List Job} {x : Job} (h : Sl w B 3 (some ⟨b, off, none⟩) n (l.map encJ)) (hi : i < n) (hx : l[i]? = some x) (z : Int) :
    Sl (w.setCell ⟨b, off + i * 3 + 2, none⟩ (.int .i64 z)) B 3 (some ⟨b, off, none⟩) n ((l.set i ⟨x.id, x.every, z⟩).map encJ) := by
 have hl : l.length = n := by have := h.1; simpa using this
 refine ⟨by simpa using hl, by
  intro r hr
  obtain ⟨y, _, rfl⟩ := List.mem_map.1 hr
  rfl, fun hn => ?_⟩
 obtain ⟨b', off', e, hb, hc⟩ := h.2.2 hn
 injection e with e; injection e with e1 e2 _
 subst e1; subst e2
 refine ⟨b, off, rfl, hb, fun i0 j r u hr hu => ?_⟩
 rw [List.getElem?_map, List.getElem?_set] at hr
 by_cases e : i = i0
 · subst e
   have hil : i < l.length := by omega
   simp only [hil, if_true, Option.map_some, Option.some.injEq] at hr
   subst hr
   have hold := hc i j (encJ x)
   match j, hu with
   | 0, hu =>
     simp [encJ] at hu
     rw [World.cell?_setCell_other w _ _ _ (by simp)]
     subst hu
     exact hold _ (by simp [hx]) rfl
   | 1, hu =>
     simp [encJ] at hu
     rw [World.cell?_setCell_other w _ _ _ (by simp)]
     subst hu
     exact hold _ (by simp [hx]) rfl
   | 2, hu =>
     simp [encJ] at hu
     subst hu
     exact World.cell?_setCell_same w _ _ (hold _ (by simp [hx]) rfl)
 · rw [if_neg e] at hr
   have hj : j < 3 := by
    cases hy : l[i0]? with
    | none => rw [hy] at hr; simp at hr
    | some y =>
      rw [hy] at hr
      simp at hr
      subst hr
      have := (List.getElem?_eq_some_iff.1 hu).1
      simpa [encJ] using this
   rw [World.cell?_setCell_other w _ _ _ (by intro h; injection h with _ h _; omega)]
   exact hc i0 j r u (by rw [List.getElem?_map]; exact hr) hu
set_option maxHeartbeats 4000000 in
set_option maxRecDepth 100000 in
theorem Apply_badB (A A' : Option Addr) (n c m d B : Nat) (jobs : List Job) (rung : List Rung) (k j v t cl : Int) (w : World) (h : Sl w B 3 A n (jobs.map encJ)) (h' : Sl w B 3 A' m (rung.map encR)) (hB : B ≤ w.heap.size) (hbad : checkB ⟨jobs, rung⟩ ≠ 0) :
    Calls Tryz.prog 31 #[.agg #[.slice A n c, .slice A' m d], .agg #[.int .i64 k, .int .i64 j, .int .i64 v, .int .i64 t, .int .i64 cl]] w (BookPost w Book.none (checkB ⟨jobs, rung⟩)) := by
 obtain ⟨r, hr⟩ : ∃ r, r = checkB ⟨jobs, rung⟩ := ⟨_, rfl⟩
 rw [← hr] at hbad ⊢
 have hr0 : (r != 0) = true := by simpa using hbad
 have HR := Lib.hid hr
 clear hbad hr
 go_enter Tryz.func31, Tryz.ntmps31
 go_wp2_with fail
 refine Calls.mono (BCheck_calls A A' n c m d B jobs rung _ (((h.alloc hB _).alloc (by simp; omega) _).alloc (by simp; omega) _) (((h'.alloc hB _).alloc (by simp; omega) _).alloc (by simp; omega) _) (by simp; omega)) ?_
 rintro e w1 ⟨rfl, hb1⟩
 rw [← HR.out]
 obtain ⟨hc, hf⟩ := bcell hb1
 have hz : w.heap.size + 2 < w1.heap.size := by have := hb1.size; simp at this; omega
 have hza : w.heap.size + 1 < w1.heap.size := by omega
 have hzb : w.heap.size < w1.heap.size := by omega
 clear h h'
 go_wp2
 have hb0 : Below w.heap.size w w1 := ((((Below.refl _ _).alloc (Nat.le_refl _) _).alloc (by simp) _).alloc (by simp; omega) _).trans (hb1.mono (by simp; omega))
 refine bodyPost_ret (v := .tuple #[.agg #[.slice none 0 0, .slice none 0 0], .int .i64 r]) (by simp [results, Tryz.results31, go_sem, hc]) rfl ⟨none, 0, 0, none, 0, 0, rfl, Sl.nil, Sl.nil, ?_, Fresh.none_ _, Fresh.none_ _, Nat.le_refl _, Nat.le_refl _⟩
 repeat (first | exact hb0 | refine Below.setCell ?_ (by simp <;> omega) _)
set_option maxHeartbeats 4000000 in
set_option maxRecDepth 100000 in
theorem Apply_badE (A A' : Option Addr) (n c m d B : Nat) (jobs : List Job) (rung : List Rung) (k j v t cl : Int) (w : World) (h : Sl w B 3 A n (jobs.map encJ)) (h' : Sl w B 3 A' m (rung.map encR)) (hB : B ≤ w.heap.size) (hgood : checkB ⟨jobs, rung⟩ = 0) (hbad : checkE ⟨k, j, v, t, cl⟩ ≠ 0) :
    Calls Tryz.prog 31 #[.agg #[.slice A n c, .slice A' m d], .agg #[.int .i64 k, .int .i64 j, .int .i64 v, .int .i64 t, .int .i64 cl]] w (BookPost w Book.none (checkE ⟨k, j, v, t, cl⟩)) := by
 have HG := Lib.hid hgood
 clear hgood
 obtain ⟨r, hr⟩ : ∃ r, r = checkE ⟨k, j, v, t, cl⟩ := ⟨_, rfl⟩
 rw [← hr] at hbad ⊢
 have hr0 : (r != 0) = true := by simpa using hbad
 have HR := Lib.hid hr
 clear hbad hr
 go_enter Tryz.func31, Tryz.ntmps31
 go_wp2_with fail
 refine Calls.mono (BCheck_calls A A' n c m d B jobs rung _ (((h.alloc hB _).alloc (by simp; omega) _).alloc (by simp; omega) _) (((h'.alloc hB _).alloc (by simp; omega) _).alloc (by simp; omega) _) (by simp; omega)) ?_
 rintro e w1 ⟨rfl, hb1⟩
 rw [HG.out]
 obtain ⟨hc, hf⟩ := bcell hb1
 have hz : w.heap.size + 2 < w1.heap.size := by have := hb1.size; simp at this; omega
 have hza : w.heap.size + 1 < w1.heap.size := by omega
 have hzb : w.heap.size < w1.heap.size := by omega
 have hb0 : Below w.heap.size w w1 := ((((Below.refl _ _).alloc (Nat.le_refl _) _).alloc (by simp) _).alloc (by simp; omega) _).trans (hb1.mono (by simp; omega))
 clear h h'
 go_wp2_with fail
 refine Calls.mono (Check_calls _ _ _ _ _ _) ?_
 rintro e w2 ⟨rfl, hb2⟩
 rw [← HR.out]
 obtain ⟨hc2, hf2⟩ := bcell hb2
 have hz2 : w.heap.size + 2 < w2.heap.size := by have := hb2.size; omega
 have hz2a : w.heap.size + 1 < w2.heap.size := by omega
 have hz2b : w.heap.size < w2.heap.size := by omega
 go_wp2
 refine bodyPost_ret (v := .tuple #[.agg #[.slice none 0 0, .slice none 0 0], .int .i64 r]) (by simp [results, Tryz.results31, go_sem, hc, hc2, hz]) rfl ⟨none, 0, 0, none, 0, 0, rfl, Sl.nil, Sl.nil, ?_, Fresh.none_ _, Fresh.none_ _, Nat.le_refl _, Nat.le_refl _⟩
 repeat (first | exact hb0.trans (hb2.mono (by omega)) | refine Below.setCell ?_ (by simp <;> omega) _)
set_option maxHeartbeats 4000000 in
set_option maxRecDepth 100000 in
theorem Apply_good (A A' : Option Addr) (n c m d B : Nat) (jobs : List Job) (rung : List Rung) (k j v t cl : Int) (w : World) (h : Sl w B 3 A n (jobs.map encJ)) (h' : Sl w B 3 A' m (rung.map encR)) (hB : B ≤ w.heap.size) (hgood : checkB ⟨jobs, rung⟩ = 0) (hgoodE : checkE ⟨k, j, v, t, cl⟩ = 0) :
    Calls Tryz.prog 31 #[.agg #[.slice A n c, .slice A' m d], .agg #[.int .i64 k, .int .i64 j, .int .i64 v, .int .i64 t, .int .i64 cl]] w (BookPost w (stepB ⟨jobs, rung⟩ ⟨k, j, v, t, cl⟩) 0) := by
 have HG := Lib.hid hgood
 have HE := Lib.hid hgoodE
 have hn : jobs.length = n := by have := h.len; simpa using this
 have hm : rung.length = m := by have := h'.len; simpa using this
 have hn6 : n ≤ 6 := by unfold checkB at hgood; simp only at hgood; (split at hgood <;> omega)
 have hm6 : m ≤ 60 := by unfold checkB at hgood; simp only at hgood; (split at hgood <;> omega)
 have HN := Lib.hid hn; have HM := Lib.hid hm
 clear hgood hgoodE hn hm
 go_enter Tryz.func31, Tryz.ntmps31
 go_wp2_with fail
 refine Calls.mono (BCheck_calls A A' n c m d B jobs rung _ (((h.alloc hB _).alloc (by simp; omega) _).alloc (by simp; omega) _) (((h'.alloc hB _).alloc (by simp; omega) _).alloc (by simp; omega) _) (by simp; omega)) ?_
 rintro e w1 ⟨rfl, hb1⟩
 rw [HG.out]
 obtain ⟨hc, hf⟩ := bcell hb1
 have hz : w.heap.size + 2 < w1.heap.size := by have := hb1.size; simp at this; omega
 have hza : w.heap.size + 1 < w1.heap.size := by omega
 have hzb : w.heap.size < w1.heap.size := by omega
 have hb0 : Below w.heap.size w w1 := ((((Below.refl _ _).alloc (Nat.le_refl _) _).alloc (by simp) _).alloc (by simp; omega) _).trans (hb1.mono (by simp; omega))
 go_wp2_with fail
 refine Calls.mono (Check_calls _ _ _ _ _ _) ?_
 rintro e w2 ⟨rfl, hb2⟩
 rw [HE.out]
 obtain ⟨hc2, hf2⟩ := bcell hb2
 have hz2 : w.heap.size + 2 < w2.heap.size := by have := hb2.size; omega
 have hz2a : w.heap.size + 1 < w2.heap.size := by omega
 have hz2b : w.heap.size < w2.heap.size := by omega
 have hb02 : Below w.heap.size w w2 := hb0.trans (hb2.mono (by omega))
 go_wp2_with fail
 refine Calls.mono (BCopy_calls A A' n c m d B jobs rung _ (h.under hB hb02) (h'.under hB hb02) (by omega) (by omega) (by omega)) ?_
 rintro e w3 ⟨A1, c1, A2, c2, rfl, hown1, hown2, hb3⟩
 have hz23 : w2.heap.size ≤ w3.heap.size := hb3.size
 have hz3 : w.heap.size + 2 < w3.heap.size := by omega
 have hz3a : w.heap.size + 1 < w3.heap.size := by omega
 have hz3b : w.heap.size < w3.heap.size := by omega
 have hb03 : Below w.heap.size w w3 := hb02.trans (hb3.mono (by omega))
 obtain ⟨hc3, hf3⟩ := bcell hb3
 have cc : ∀ b o, b < w.heap.size + 3 → w3.cell? ⟨b, o, none⟩ = (((w.alloc (Obj.cells #[.slice A n c, .slice A' m d] 39)).alloc (Obj.cells #[.int .i64 k, .int .i64 j, .int .i64 v, .int .i64 t, .int .i64 cl] 27)).alloc (Obj.cells #[.slice none 0 0, .slice none 0 0] 39)).cell? ⟨b, o, none⟩ := fun b o h => by rw [hc3 b o (by omega), hc2 b o (by omega), hc b o (by simp; omega)]
 have ff : ∀ b o, b < w.heap.size + 3 → w3.frozen? ⟨b, o, none⟩ = (((w.alloc (Obj.cells #[.slice A n c, .slice A' m d] 39)).alloc (Obj.cells #[.int .i64 k, .int .i64 j, .int .i64 v, .int .i64 t, .int .i64 cl] 27)).alloc (Obj.cells #[.slice none 0 0, .slice none 0 0] 39)).frozen? ⟨b, o, none⟩ := fun b o h => by rw [hf3 b o (by omega), hf2 b o (by omega), hf b o (by simp; omega)]
 have q0 : w3.cell? ⟨w.heap.size, 0, none⟩ = some (.slice A n c) := by rw [cc _ _ (by omega)]; simp [go_sem]
 have q1 : w3.cell? ⟨w.heap.size, 1, none⟩ = some (.slice A' m d) := by rw [cc _ _ (by omega)]; simp [go_sem]
 have e0 : w3.cell? ⟨w.heap.size + 1, 0, none⟩ = some (.int .i64 k) := by rw [cc _ _ (by omega)]; simp [go_sem]
 have e1 : w3.cell? ⟨w.heap.size + 1, 1, none⟩ = some (.int .i64 j) := by rw [cc _ _ (by omega)]; simp [go_sem]
 have e2 : w3.cell? ⟨w.heap.size + 1, 2, none⟩ = some (.int .i64 v) := by rw [cc _ _ (by omega)]; simp [go_sem]
 have e3 : w3.cell? ⟨w.heap.size + 1, 3, none⟩ = some (.int .i64 t) := by rw [cc _ _ (by omega)]; simp [go_sem]
 have e4 : w3.cell? ⟨w.heap.size + 1, 4, none⟩ = some (.int .i64 cl) := by rw [cc _ _ (by omega)]; simp [go_sem]
 have r0 : w3.cell? ⟨w.heap.size + 1 + 1, 0, none⟩ = some (.slice none 0 0) := by rw [cc _ _ (by omega)]; simp [go_sem]
 have r1 : w3.cell? ⟨w.heap.size + 1 + 1, 1, none⟩ = some (.slice none 0 0) := by rw [cc _ _ (by omega)]; simp [go_sem]
 have f0 : w3.frozen? ⟨w.heap.size, 0, none⟩ = false := by rw [ff _ _ (by omega)]; simp [go_sem]
 have f1 : w3.frozen? ⟨w.heap.size, 1, none⟩ = false := by rw [ff _ _ (by omega)]; simp [go_sem]
 have g0 : w3.frozen? ⟨w.heap.size + 1 + 1, 0, none⟩ = false := by rw [ff _ _ (by omega)]; simp [go_sem]
 have g1 : w3.frozen? ⟨w.heap.size + 1 + 1, 1, none⟩ = false := by rw [ff _ _ (by omega)]; simp [go_sem]
 clear hc hf hc2 hf2 hc3 hf3 cc ff h h' hz2a hz2b hz hza hzb hb0 hb02 hb1 hb2
 go_wp2_with fail
 have hB4 : Below w.heap.size w ((w3.setCell ⟨w.heap.size, 0, none⟩ (.slice A1 n c1)).setCell ⟨w.heap.size, 1, none⟩ (.slice A2 m c2)) := (hb03.setCell (by simp) _).setCell (by simp) _
 have o1 := (hown1.setCell (p := ⟨w.heap.size, 0, none⟩) (by simp only; omega) (.slice A1 n c1)).setCell (p := ⟨w.heap.size, 1, none⟩) (by simp only; omega) (.slice A2 m c2)
 have o2 := (hown2.setCell (p := ⟨w.heap.size, 0, none⟩) (by simp only; omega) (.slice A1 n c1)).setCell (p := ⟨w.heap.size, 1, none⟩) (by simp only; omega) (.slice A2 m c2)
 generalize hw4 : (w3.setCell ⟨w.heap.size, 0, none⟩ (.slice A1 n c1)).setCell ⟨w.heap.size, 1, none⟩ (.slice A2 m c2) = w4 at hB4 o1 o2 ⊢
 have q0' : w4.cell? ⟨w.heap.size, 0, none⟩ = some (.slice A1 n c1) := by rw [← hw4]; simp [go_sem, q0, q1, f0, f1]
 have q1' : w4.cell? ⟨w.heap.size, 1, none⟩ = some (.slice A2 m c2) := by rw [← hw4]; simp [go_sem, q0, q1, f0, f1]
 have e0' : w4.cell? ⟨w.heap.size + 1, 0, none⟩ = some (.int .i64 k) := by rw [← hw4]; simp [go_sem, e0]
 have e1' : w4.cell? ⟨w.heap.size + 1, 1, none⟩ = some (.int .i64 j) := by rw [← hw4]; simp [go_sem, e1]
 have e2' : w4.cell? ⟨w.heap.size + 1, 2, none⟩ = some (.int .i64 v) := by rw [← hw4]; simp [go_sem, e2]
 have e3' : w4.cell? ⟨w.heap.size + 1, 3, none⟩ = some (.int .i64 t) := by rw [← hw4]; simp [go_sem, e3]
 have e4' : w4.cell? ⟨w.heap.size + 1, 4, none⟩ = some (.int .i64 cl) := by rw [← hw4]; simp [go_sem, e4]
 have r0' : w4.cell? ⟨w.heap.size + 1 + 1, 0, none⟩ = some (.slice none 0 0) := by rw [← hw4]; simp [go_sem, r0]
 have r1' : w4.cell? ⟨w.heap.size + 1 + 1, 1, none⟩ = some (.slice none 0 0) := by rw [← hw4]; simp [go_sem, r1]
 have f0' : w4.frozen? ⟨w.heap.size, 0, none⟩ = false := by rw [← hw4]; simp [go_sem, f0]
 have f1' : w4.frozen? ⟨w.heap.size, 1, none⟩ = false := by rw [← hw4]; simp [go_sem, f1]
 have g0' : w4.frozen? ⟨w.heap.size + 1 + 1, 0, none⟩ = false := by rw [← hw4]; simp [go_sem, g0]
 have g1' : w4.frozen? ⟨w.heap.size + 1 + 1, 1, none⟩ = false := by rw [← hw4]; simp [go_sem, g1]
 have hz4 : w4.heap.size = w3.heap.size := by rw [← hw4]; simp
 clear q0 q1 e0 e1 e2 e3 e4 r0 r1 f0 f1 g0 g1 hw4 hb03 hb3 hown1 hown2
 refine Calls.mono (Find_calls A1 A2 n c1 m c2 _ _ jobs rung _ o1.sl (Nat.le_refl _) (by omega)) ?_
 rintro e w5 ⟨rfl, hb5⟩
 have hz25 : w2.heap.size ≤ w5.heap.size := by have := hb5.size; omega
 have hz5 : w.heap.size + 1 + 1 < w5.heap.size := by omega
 have hz5a : w.heap.size + 1 < w5.heap.size := by omega
 have hz5b : w.heap.size < w5.heap.size := by omega
 have hB5 : Below w.heap.size w w5 := hB4.trans (hb5.mono (by omega))
 have p1 := o1.below hb5
 have p2 := o2.below hb5
 have q0 := cellB hb5 q0'; have q1 := cellB hb5 q1'; have e0 := cellB hb5 e0'; have e1 := cellB hb5 e1'; have e2 := cellB hb5 e2'; have e3 := cellB hb5 e3'; have e4 := cellB hb5 e4'
 have r0 := cellB hb5 r0'; have r1 := cellB hb5 r1'
 have f0 := frozB hb5 q0' f0'; have f1 := frozB hb5 q1' f1'; have g0 := frozB hb5 r0' g0'; have g1 := frozB hb5 r1' g1'
 clear q0' q1' e0' e1' e2' e3' e4' r0' r1' f0' f1' g0' g1' o1 o2 hb5 hB4 hz4 hz3 hz3a hz3b
 have hk : k = 0 ∨ k = 1 ∨ k = 2 ∨ k = 3 := by have := HE.out; unfold checkE at this; simp only at this; (repeat' split at this) <;> omega
 obtain ⟨i, hi⟩ : ∃ i, i = findB ⟨jobs, rung⟩ j := ⟨_, rfl⟩
 rw [← hi]
 have HI := Lib.hid hi
 clear hi
 rcases hk with rfl | rfl | rfl | rfl
 · have hs : stepB ⟨jobs, rung⟩ ⟨0, j, v, t, cl⟩ = ⟨jobs, rung⟩ := by simp [stepB]
   have HS := Lib.hid hs
   clear hs
   go_wp2_with fail
   refine bodyPost_ret (v := .tuple #[.agg #[.slice A1 n c1, .slice A2 m c2], .int .i64 0]) (by simp [results, Tryz.results31, go_sem, r0, r1, g0, g1]) rfl ?_
   rw [HS.out]
   exact ⟨A1, n, c1, A2, m, c2, rfl, by simpa using ((p1.setCell (by simp only; omega) _).setCell (by simp only; omega) _).sl, by simpa using ((p2.setCell (by simp only; omega) _).setCell (by simp only; omega) _).sl, (hB5.setCell (by simp only; omega) _).setCell (by simp only; omega) _, p1.fresh (by omega), p2.fresh (by omega), p1.le_cap, p2.le_cap⟩
 · by_cases h0 : 0 ≤ i
   · have hs : stepB ⟨jobs, rung⟩ ⟨1, j, v, t, cl⟩ = ⟨jobs, rung⟩ := by simp [stepB, ← HI.out, h0]
     have HS := Lib.hid hs
     clear hs
     go_wp2_with fail
     refine bodyPost_ret (v := .tuple #[.agg #[.slice A1 n c1, .slice A2 m c2], .int .i64 0]) (by simp [results, Tryz.results31, go_sem, r0, r1, g0, g1]) rfl ?_
     rw [HS.out]
     exact ⟨A1, n, c1, A2, m, c2, rfl, by simpa using ((p1.setCell (by simp only; omega) _).setCell (by simp only; omega) _).sl, by simpa using ((p2.setCell (by simp only; omega) _).setCell (by simp only; omega) _).sl, (hB5.setCell (by simp only; omega) _).setCell (by simp only; omega) _, p1.fresh (by omega), p2.fresh (by omega), p1.le_cap, p2.le_cap⟩
   · have hs : stepB ⟨jobs, rung⟩ ⟨1, j, v, t, cl⟩ = ⟨jobs.take (posJ jobs j) ++ [⟨j, v, t⟩] ++ jobs.drop (posJ jobs j), rung⟩ := by simp [stepB, ← HI.out, h0]
     have HS := Lib.hid hs
     clear hs
     have h0' : i < 0 := by omega
     go_wp2_with fail
     go_loopw [9] (fun s wr => ∃ a q : Nat, a ≤ n ∧ s = .int .i64 a ∧ wr = w5.drewN q ∧ Hid (∀ b y, b < a → jobs[b]? = some y → y.id < j)) (fun s _ => n - (intOf s).toNat)
     case atStart => exact ⟨0, 0, Nat.zero_le _, rfl, rfl, fun b y hb => absurd hb (Nat.not_lt_zero _)⟩
     case round =>
      obtain ⟨a, q, ha, rfl, rfl, HJ⟩ := hrel
      have hex : (a < n ∧ ∃ x, jobs[a]? = some x ∧ x.id < j) ∨ (a < n ∧ ∃ x, jobs[a]? = some x ∧ ¬ x.id < j) ∨ a = n := by
       rcases Nat.lt_or_ge a n with h1 | h1
       · have hal : a < jobs.length := by have := HN.out; omega
         by_cases h2 : jobs[a].id < j
         · exact .inl ⟨h1, _, List.getElem?_eq_getElem hal, h2⟩
         · exact .inr (.inl ⟨h1, _, List.getElem?_eq_getElem hal, h2⟩)
       · exact .inr (.inr (by omega))
      have hend : (∀ x, jobs[a]? = some x → ¬ x.id < j) → posJ jobs j = a := fun hx => posJ_at HJ.out hx (by have := HN.out; omega)
      have HEnd := Lib.hid hend
      clear hend
      rcases hex with ⟨h1, x, hx, h2⟩ | ⟨h1, x, hx, h2⟩ | han
      · obtain ⟨b, off, x', rfl, hb, hx', c0, _, _⟩ := p1.sl.atJ h1
        obtain rfl : x = x' := by rw [hx] at hx'; injection hx'
        have HX := Lib.hid hx
        have h1' : (a : Int) < (n : Int) := by omega
        clear hx hx'
        go_wp2_with fail
        go_quiet (fail)
        go_wp2
        go_roundw
        case measure => simp [intOf]; omega
        case rel =>
         refine ⟨a + 1, q + nq, by omega, by go_num, by simp, fun b y hb hy => ?_⟩
         by_cases e : b = a
         · subst e
           have := HX.out.symm.trans hy
           injection this with this
           subst this
           exact h2
         · exact HJ.out b y (by omega) hy
      · have hp : posJ jobs j = a := HEnd.out (fun y hy => by rw [hx] at hy; injection hy with hy; subst hy; exact h2)
        have HP := Lib.hid hp
        obtain ⟨b, off, x', hA, hb, hx', c0, _, _⟩ := p1.sl.atJ h1
        obtain rfl : x = x' := by rw [hx] at hx'; injection hx'
        subst hA
        have h1' : (a : Int) < (n : Int) := by omega
        clear hx hx' hp
        go_wp2_with fail
        go_quiet (fail)
        go_wp2_with fail
        obtain ⟨AA, hAA⟩ : ∃ AA : Option Addr, AA = some ⟨b, off, none⟩ := ⟨_, rfl⟩
        rw [← hAA] at p1 q0 ⊢
        have hn1 : Value.ownBlock (.slice AA n c1) ≠ some w5.heap.size := by
         intro e
         have := (p1.1.lt _ e).2
         omega
        refine Calls.mono (Insert_calls w2.heap.size AA n c1 a w5.heap.size (jobs.map encJ) (.int .i64 j) (.int .i64 v) (.int .i64 t) _ ((p1.drewN _).alloc _) (encJ_one jobs) (by simp [Value.oneCell']) ha (by omega) (by simp; omega) (by exact hNew (by simp)) hn1) ?_
        rintro e w6 ⟨A6, c6, rfl, own6, grow6⟩
        have nb0 : some w.heap.size ≠ Value.ownBlock (.slice AA n c1) := p1.notBelow (by omega)
        have nb1 : some (w.heap.size + 1) ≠ Value.ownBlock (.slice AA n c1) := p1.notBelow (by omega)
        have nb2 : some (w.heap.size + 1 + 1) ≠ Value.ownBlock (.slice AA n c1) := p1.notBelow (by omega)
        have hbW : Below w5.heap.size w5 ((w5.drewN (q + nq)).alloc (Obj.cells #[.int .i64 j, .int .i64 v, .int .i64 t] 88)) := (below_drewN (Below.refl _ _) _).alloc (Nat.le_refl _) _
        have q0' := grow_cell grow6 (cellB hbW q0) nb0
        have q1' := grow_cell grow6 (cellB hbW q1) nb0
        have f0' := grow_froz grow6 (cellB hbW q0) (frozB hbW q0 f0) nb0
        have r0' := grow_cell grow6 (cellB hbW r0) nb2
        have r1' := grow_cell grow6 (cellB hbW r1) nb2
        have g0' := grow_froz grow6 (cellB hbW r0) (frozB hbW r0 g0) nb2
        have g1' := grow_froz grow6 (cellB hbW r1) (frozB hbW r1 g1) nb2
        have own2 := ((p2.drewN (q + nq)).alloc (.cells #[.int .i64 j, .int .i64 v, .int .i64 t] 88)).kept grow6 (p1.apart p2 (by decide))
        have hB6 : Below w.heap.size w w6 := below_grown ((below_drewN hB5 _).alloc (by simp; omega) _) (by simp; omega) (by exact grow6) (fun g hg => by have := (p1.1.lt g hg).1; omega)
        have hz6 : w.heap.size + 1 + 1 < w6.heap.size := by have := grow6.size; simp at this; omega
        have hz6a : w.heap.size + 1 < w6.heap.size := by omega
        have hz6b : w.heap.size < w6.heap.size := by omega
        clear q0 q1 f0 f1 r0 r1 g0 g1 e0 e1 e2 e3 e4 nb0 nb1 nb2 grow6 p1 p2
        go_wp2_with fail
        refine bodyPost_ret (v := .tuple #[.agg #[.slice A6 (n + 1) c6, .slice A2 m c2], .int .i64 0]) (by simp [results, Tryz.results31, go_sem, r0', r1', g0', g1']) rfl ?_
        rw [HS.out]
        refine ⟨A6, n + 1, c6, A2, m, c2, rfl, ?_, ?_, ?_, own6.fresh (by omega), own2.fresh (by omega), own6.le_cap, own2.le_cap⟩
        · have := (((own6.setCell (p := ⟨w.heap.size, 0, none⟩) (by simp only; omega) (.slice A6 (n + 1) c6)).setCell (p := ⟨w.heap.size + 1 + 1, 0, none⟩) (by simp only; omega) (.slice A6 (n + 1) c6)).setCell (p := ⟨w.heap.size + 1 + 1, 1, none⟩) (by simp only; omega) (.slice A2 m c2)).sl
          simpa [HP.out, encJ, List.map_take, List.map_drop] using this
        · have := (((own2.setCell (p := ⟨w.heap.size, 0, none⟩) (by simp only; omega) (.slice A6 (n + 1) c6)).setCell (p := ⟨w.heap.size + 1 + 1, 0, none⟩) (by simp only; omega) (.slice A6 (n + 1) c6)).setCell (p := ⟨w.heap.size + 1 + 1, 1, none⟩) (by simp only; omega) (.slice A2 m c2)).sl
          simpa using this
        · exact ((hB6.setCell (by simp) _).setCell (by simp only; omega) _).setCell (by simp only; omega) _
      · have hp : posJ jobs j = a := HEnd.out (fun y hy => by rw [List.getElem?_eq_none (by have := HN.out; omega)] at hy; cases hy)
        have HP := Lib.hid hp
        have hd : decide (a < n) = false := by simp; omega
        clear hp han
        go_wp2_with fail
        go_quiet (fail)
        go_wp2_with fail
        have hn1 : Value.ownBlock (.slice A1 n c1) ≠ some w5.heap.size := by
         intro e
         have := (p1.1.lt _ e).2
         omega
        refine Calls.mono (Insert_calls w2.heap.size A1 n c1 a w5.heap.size (jobs.map encJ) (.int .i64 j) (.int .i64 v) (.int .i64 t) _ ((p1.drewN _).alloc _) (encJ_one jobs) (by simp [Value.oneCell']) ha (by omega) (by simp; omega) (by exact hNew (by simp)) hn1) ?_
        rintro e w6 ⟨A6, c6, rfl, own6, grow6⟩
        have nb0 : some w.heap.size ≠ Value.ownBlock (.slice A1 n c1) := p1.notBelow (by omega)
        have nb1 : some (w.heap.size + 1) ≠ Value.ownBlock (.slice A1 n c1) := p1.notBelow (by omega)
        have nb2 : some (w.heap.size + 1 + 1) ≠ Value.ownBlock (.slice A1 n c1) := p1.notBelow (by omega)
        have hbW : Below w5.heap.size w5 ((w5.drewN (q + nq)).alloc (Obj.cells #[.int .i64 j, .int .i64 v, .int .i64 t] 88)) := (below_drewN (Below.refl _ _) _).alloc (Nat.le_refl _) _
        have q0' := grow_cell grow6 (cellB hbW q0) nb0
        have q1' := grow_cell grow6 (cellB hbW q1) nb0
        have f0' := grow_froz grow6 (cellB hbW q0) (frozB hbW q0 f0) nb0
        have r0' := grow_cell grow6 (cellB hbW r0) nb2
        have r1' := grow_cell grow6 (cellB hbW r1) nb2
        have g0' := grow_froz grow6 (cellB hbW r0) (frozB hbW r0 g0) nb2
        have g1' := grow_froz grow6 (cellB hbW r1) (frozB hbW r1 g1) nb2
        have own2 := ((p2.drewN (q + nq)).alloc (.cells #[.int .i64 j, .int .i64 v, .int .i64 t] 88)).kept grow6 (p1.apart p2 (by decide))
        have hB6 : Below w.heap.size w w6 := below_grown ((below_drewN hB5 _).alloc (by simp; omega) _) (by simp; omega) (by exact grow6) (fun g hg => by have := (p1.1.lt g hg).1; omega)
        have hz6 : w.heap.size + 1 + 1 < w6.heap.size := by have := grow6.size; simp at this; omega
        have hz6a : w.heap.size + 1 < w6.heap.size := by omega
        have hz6b : w.heap.size < w6.heap.size := by omega
        clear q0 q1 f0 f1 r0 r1 g0 g1 e0 e1 e2 e3 e4 nb0 nb1 nb2 grow6 p1 p2
        go_wp2_with fail
        refine bodyPost_ret (v := .tuple #[.agg #[.slice A6 (n + 1) c6, .slice A2 m c2], .int .i64 0]) (by simp [results, Tryz.results31, go_sem, r0', r1', g0', g1']) rfl ?_
        rw [HS.out]
        refine ⟨A6, n + 1, c6, A2, m, c2, rfl, ?_, ?_, ?_, own6.fresh (by omega), own2.fresh (by omega), own6.le_cap, own2.le_cap⟩
        · have := (((own6.setCell (p := ⟨w.heap.size, 0, none⟩) (by simp only; omega) (.slice A6 (n + 1) c6)).setCell (p := ⟨w.heap.size + 1 + 1, 0, none⟩) (by simp only; omega) (.slice A6 (n + 1) c6)).setCell (p := ⟨w.heap.size + 1 + 1, 1, none⟩) (by simp only; omega) (.slice A2 m c2)).sl
          simpa [HP.out, encJ, List.map_take, List.map_drop] using this
        · have := (((own2.setCell (p := ⟨w.heap.size, 0, none⟩) (by simp only; omega) (.slice A6 (n + 1) c6)).setCell (p := ⟨w.heap.size + 1 + 1, 0, none⟩) (by simp only; omega) (.slice A6 (n + 1) c6)).setCell (p := ⟨w.heap.size + 1 + 1, 1, none⟩) (by simp only; omega) (.slice A2 m c2)).sl
          simpa using this
        · exact ((hB6.setCell (by simp) _).setCell (by simp only; omega) _).setCell (by simp only; omega) _
 · by_cases h0 : 0 ≤ i
   · obtain ⟨i', x, hii, hx, hpx⟩ := idxI_found (by rw [← findB_def, ← HI.out]; exact h0)
     have hi' : i = (i' : Int) := HI.out.trans hii
     subst hi'
     have hin : i' < n := by have h1 : i' < jobs.length := (List.getElem?_eq_some_iff.1 hx).1; have := HN.out; omega
     have hs : stepB ⟨jobs, rung⟩ ⟨2, j, v, t, cl⟩ = ⟨jobs.take i' ++ jobs.drop (i' + 1), rung⟩ := by simp [stepB, ← HI.out]
     have HS := Lib.hid hs
     clear hs hii hx hpx
     go_wp2_with fail
     refine Calls.mono (Delete_calls w2.heap.size A1 n c1 i' (jobs.map encJ) _ p1 (encJ_one jobs) hin (by omega)) ?_
     rintro e w6 ⟨rfl, own6, grow6⟩
     have nb0 : some w.heap.size ≠ Value.ownBlock (.slice A1 n c1) := p1.notBelow (by omega)
     have nb2 : some (w.heap.size + 1 + 1) ≠ Value.ownBlock (.slice A1 n c1) := p1.notBelow (by omega)
     have q0' := grow_cell grow6 q0 nb0
     have q1' := grow_cell grow6 q1 nb0
     have f0' := grow_froz grow6 q0 f0 nb0
     have r0' := grow_cell grow6 r0 nb2
     have r1' := grow_cell grow6 r1 nb2
     have g0' := grow_froz grow6 r0 g0 nb2
     have g1' := grow_froz grow6 r1 g1 nb2
     have own2 := p2.kept grow6 (p1.apart p2 (by decide))
     have hB6 : Below w.heap.size w w6 := below_grown hB5 (by omega) grow6 (fun g hg => by have := (p1.1.lt g hg).1; omega)
     have hz6 : w.heap.size + 1 + 1 < w6.heap.size := by have := grow6.size; omega
     have hz6a : w.heap.size + 1 < w6.heap.size := by omega
     have hz6b : w.heap.size < w6.heap.size := by omega
     clear q0 q1 f0 f1 r0 r1 g0 g1 e0 e1 e2 e3 e4 nb0 nb2 grow6 p1 p2
     go_wp2_with fail
     refine bodyPost_ret (v := .tuple #[.agg #[.slice A1 (n - 1) c1, .slice A2 m c2], .int .i64 0]) (by simp [results, Tryz.results31, go_sem, r0', r1', g0', g1']) rfl ?_
     rw [HS.out]
     refine ⟨A1, n - 1, c1, A2, m, c2, rfl, ?_, ?_, ?_, own6.fresh (by omega), own2.fresh (by omega), own6.le_cap, own2.le_cap⟩
     · have := (((own6.setCell (p := ⟨w.heap.size, 0, none⟩) (by simp only; omega) (.slice A1 (n - 1) c1)).setCell (p := ⟨w.heap.size + 1 + 1, 0, none⟩) (by simp only; omega) (.slice A1 (n - 1) c1)).setCell (p := ⟨w.heap.size + 1 + 1, 1, none⟩) (by simp only; omega) (.slice A2 m c2)).sl
       simpa [List.map_take, List.map_drop] using this
     · have := (((own2.setCell (p := ⟨w.heap.size, 0, none⟩) (by simp only; omega) (.slice A1 (n - 1) c1)).setCell (p := ⟨w.heap.size + 1 + 1, 0, none⟩) (by simp only; omega) (.slice A1 (n - 1) c1)).setCell (p := ⟨w.heap.size + 1 + 1, 1, none⟩) (by simp only; omega) (.slice A2 m c2)).sl
       simpa using this
     · exact ((hB6.setCell (by simp) _).setCell (by simp only; omega) _).setCell (by simp only; omega) _
   · have hs : stepB ⟨jobs, rung⟩ ⟨2, j, v, t, cl⟩ = ⟨jobs, rung⟩ := by simp [stepB, ← HI.out, h0]
     have HS := Lib.hid hs
     clear hs
     have h0' : i < 0 := by omega
     go_wp2_with fail
     refine bodyPost_ret (v := .tuple #[.agg #[.slice A1 n c1, .slice A2 m c2], .int .i64 0]) (by simp [results, Tryz.results31, go_sem, r0, r1, g0, g1]) rfl ?_
     rw [HS.out]
     exact ⟨A1, n, c1, A2, m, c2, rfl, by simpa using ((p1.setCell (by simp only; omega) _).setCell (by simp only; omega) _).sl, by simpa using ((p2.setCell (by simp only; omega) _).setCell (by simp only; omega) _).sl, (hB5.setCell (by simp only; omega) _).setCell (by simp only; omega) _, p1.fresh (by omega), p2.fresh (by omega), p1.le_cap, p2.le_cap⟩
 · by_cases h0 : 0 ≤ i
   · obtain ⟨i', x, hii, hx, hpx⟩ := idxI_found (by rw [← findB_def, ← HI.out]; exact h0)
     have hi' : i = (i' : Int) := HI.out.trans hii
     subst hi'
     have hin : i' < n := by have h1 : i' < jobs.length := (List.getElem?_eq_some_iff.1 hx).1; have := HN.out; omega
     obtain ⟨b, off, x', hA, hb, hx', c0, cc1, cc2⟩ := p1.sl.atJ hin
     obtain rfl : x = x' := by rw [hx] at hx'; injection hx'
     subst hA
     have hin' : (i' : Int) < (n : Int) := by omega
     have HX := Lib.hid hx
     clear hx hx' hii hpx
     have hlr : rung.length = m := HM.out
     have hfi : findB ⟨jobs, rung⟩ j = (i' : Int) := HI.out.symm
     by_cases hfit : x.next = t ∧ m < 60
     · obtain ⟨hnt, hm60⟩ := hfit
       subst hnt
       have hs : stepB ⟨jobs, rung⟩ ⟨3, j, v, x.next, cl⟩ = ⟨jobs.set i' ⟨x.id, x.every, x.next + x.every⟩, rung ++ [⟨j, x.next, cl⟩]⟩ := by
        unfold stepB
        rw [if_neg (by simp), if_neg (by simp), if_pos rfl]
        simp only [hfi, Int.toNat_natCast, HX.out]
        rw [if_pos ⟨by omega, by simp, by omega⟩]
       have HS := Lib.hid hs
       have HFi := Lib.hid hfi
       have HL := Lib.hid hlr
       clear hs hfi hlr
       have hm60' : (m : Int) < 60 := by omega
       have fz : w5.frozen? ⟨b, off + i' * 3 + 2, none⟩ = false := by
        obtain ⟨g, cur, e, _, _, hh, _⟩ := p1.open_ (by omega)
        injection e with e; injection e with e1 e2 _
        subst e1
        simp [World.frozen?, hh]
       have hbd : ¬ badJ x := checkJs_mem (checkB_parts HG.out).2.2.1 (List.mem_of_getElem? HX.out)
       unfold badJ at hbd
       have hx0 : 0 ≤ x.next := by omega
       have hx1 : x.next ≤ 100100 := by omega
       have hx2 : 1 ≤ x.every := by omega
       have hx3 : x.every ≤ 100 := by omega
       clear hbd
       go_wp2_with fail
       go_quiet (fail)
       go_wp2_with fail
       have hw1 : IntKind.i64.wrap (x.next + x.every) = x.next + x.every := by rw [IntKind.wrap_i64]; omega
       have q0' : (w5.drewN nq).cell? ⟨w.heap.size, 0, none⟩ = some (.slice (some ⟨b, off, none⟩) n c1) := q0
       have cc1' : (w5.drewN nq).cell? ⟨b, off + i' * 3 + 1, none⟩ = some (.int .i64 x.every) := cc1
       have cc2' : (w5.drewN nq).cell? ⟨b, off + i' * 3 + 2, none⟩ = some (.int .i64 x.next) := cc2
       have fz' : (w5.drewN nq).frozen? ⟨b, off + i' * 3 + 2, none⟩ = false := fz
       generalize hW : w5.drewN nq = W at q0' cc1' cc2' fz' ⊢
       go_region
       have hc1 := p1.le_cap
       have hbig : w2.heap.size ≤ b := by
        obtain ⟨g, cur, e, hg, _⟩ := p1.open_ (by omega)
        injection e with e; injection e with e1 _ _
        omega
       have hgr : w5.grownBy (W.setCell ⟨b, off + i' * 3 + 2, none⟩ (.int .i64 (x.next + x.every))).drew (some b) := by
        rw [← hW]
        exact ⟨rfl, rfl, rfl, by simp, fun k _ hk => Below.heap_setCell (w5.drewN nq) _ _ k (fun e => hk (by rw [e]))⟩
       have slj : Sl (W.setCell ⟨b, off + i' * 3 + 2, none⟩ (.int .i64 (x.next + x.every))).drew w5.heap.size 3 (some ⟨b, off, none⟩) n ((jobs.set i' ⟨x.id, x.every, x.next + x.every⟩).map encJ) := by
        rw [← hW]
        exact (((p1.sl.drewN nq).setNext hin HX.out _).drew)
       have own2 := p2.kept hgr (p1.apart p2 (by decide))
       have nb : ∀ z, z < w.heap.size + 3 → some z ≠ some b := fun z hz e => by injection e with e; omega
       have hB7 : Below w.heap.size w (W.setCell ⟨b, off + i' * 3 + 2, none⟩ (.int .i64 (x.next + x.every))).drew := below_grown hB5 (by omega) hgr (fun g hg => by injection hg with hg; omega)
       have Q0 := grow_cell hgr q0 (nb _ (by simp only; omega)); have Q1 := grow_cell hgr q1 (nb _ (by simp only; omega))
       have E1 := grow_cell hgr e1 (nb _ (by simp only; omega)); have E3 := grow_cell hgr e3 (nb _ (by simp only; omega)); have E4 := grow_cell hgr e4 (nb _ (by simp only; omega))
       have R0 := grow_cell hgr r0 (nb _ (by simp only; omega)); have R1 := grow_cell hgr r1 (nb _ (by simp only; omega))
       have F1 := grow_froz hgr q1 f1 (nb _ (by simp only; omega))
       have G0 := grow_froz hgr r0 g0 (nb _ (by simp only; omega)); have G1 := grow_froz hgr r1 g1 (nb _ (by simp only; omega))
       have hz7 : w.heap.size + 1 + 1 < (W.setCell ⟨b, off + i' * 3 + 2, none⟩ (.int .i64 (x.next + x.every))).drew.heap.size := by have := hgr.size; omega
       have hbz : b < (W.setCell ⟨b, off + i' * 3 + 2, none⟩ (.int .i64 (x.next + x.every))).drew.heap.size := by have := hgr.size; omega
       have hA2b : Value.ownBlock (.slice A2 m c2) ≠ some b := by
        rcases p1.apart p2 (by decide) with h | h
        · rw [h]; simp
        · exact h
       generalize (W.setCell ⟨b, off + i' * 3 + 2, none⟩ (.int .i64 (x.next + x.every))).drew = w7 at hgr slj own2 hB7 Q0 Q1 E1 E3 E4 R0 R1 F1 G0 G1 hz7 hbz ⊢
       have hz7a : w.heap.size + 1 < w7.heap.size := by omega
       have hz7b : w.heap.size < w7.heap.size := by omega
       have hz27 : w2.heap.size ≤ w7.heap.size := by have := hgr.size; omega
       have h57 : w5.heap.size ≤ w7.heap.size := hgr.size
       obtain ⟨i0, hi0, hzz0, hzz1, hzz2⟩ := info_parts infoR
       have HI0 := Lib.hid hi0; have HZ0 := Lib.hid hzz0; have HZ1 := Lib.hid hzz1; have HZ2 := Lib.hid hzz2
       clear hi0 hzz0 hzz1 hzz2 hw1 q0' cc1' cc2' fz' hW q0 q1 e0 e1 e2 e3 e4 r0 r1 f0 f1 g0 g1 c0 cc1 cc2 fz p1 p2 nb hgr hB5
       have hnew : Sl (w7.alloc (Obj.cells #[.int .i64 j, .int .i64 x.next, .int .i64 cl] 74)) (w7.heap.size + 1) 3 (some ⟨w7.heap.size, 0, none⟩) 1 [encR ⟨j, x.next, cl⟩] := by
        refine ⟨rfl, by simp [encR], fun _ => ⟨w7.heap.size, 0, rfl, by omega, fun i j' r u hr hu => ?_⟩⟩
        match i, hr with
        | 0, hr =>
          simp at hr
          subst hr
          rw [cell_of_row _ w7.heap.size _ _ _ _ (hNew rfl)]
          simpa [encR] using hu
       go_wp2_with (at_builtin; refine wpList_append_sl _ rfl (.tmp 113) (.tmp 121) 37 rfl w2.heap.size 74 i0 _ 3 24 Tryz.underlying37 HI0.out HZ0.out HZ1.out HZ2.out rfl (by decide) (.slice A2 m c2) m (rung.map encR) rfl (own2.alloc _) (w7.heap.size + 1) (some ⟨w7.heap.size, 0, none⟩) 1 1 [encR ⟨j, x.next, cl⟩] rfl hnew (by simp [encR, Value.oneCell']) (by unfold maxLen; omega) (by omega) (by simp; omega) ?_)
       intro v8 w8 own8 grow8 hv8
       obtain ⟨A8, c8, rfl, _, _⟩ := own8.slice
       have nr : ∀ z, z < w2.heap.size → some z ≠ Value.ownBlock (.slice A2 m c2) := fun z hz => own2.notBelow hz
       have hbA : Below w7.heap.size w7 (w7.alloc (Obj.cells #[.int .i64 j, .int .i64 x.next, .int .i64 cl] 74)) := (Below.refl _ _).alloc (Nat.le_refl _) _
       have q0 := grow_cell grow8 (cellB hbA Q0) (nr _ (by simp only; omega)); have q1 := grow_cell grow8 (cellB hbA Q1) (nr _ (by simp only; omega))
       have r0 := grow_cell grow8 (cellB hbA R0) (nr _ (by simp only; omega)); have r1 := grow_cell grow8 (cellB hbA R1) (nr _ (by simp only; omega))
       have f1 := grow_froz grow8 (cellB hbA Q1) (frozB hbA Q1 F1) (nr _ (by simp only; omega))
       have g0 := grow_froz grow8 (cellB hbA R0) (frozB hbA R0 G0) (nr _ (by simp only; omega)); have g1 := grow_froz grow8 (cellB hbA R1) (frozB hbA R1 G1) (nr _ (by simp only; omega))
       have slj8 : Sl w8 w5.heap.size 3 (some ⟨b, off, none⟩) n ((jobs.set i' ⟨x.id, x.every, x.next + x.every⟩).map encJ) := (slj.alloc h57 _).grow grow8 (Ne.symm hA2b) (by simp; omega)
       have hB8 : Below w.heap.size w w8 := below_grown (hB7.alloc (by omega) _) (by simp; omega) grow8 (fun g hg => by have := (own2.1.lt g hg).1; omega)
       have hz8 : w.heap.size + 1 + 1 < w8.heap.size := by have := grow8.size; simp at this; omega
       have hz8a : w.heap.size + 1 < w8.heap.size := by omega
       have hz8b : w.heap.size < w8.heap.size := by omega
       have h58 : w5.heap.size ≤ w8.heap.size := by have := grow8.size; simp at this; omega
       clear Q0 Q1 E1 E3 E4 R0 R1 F1 G0 G1 slj own2 grow8 hbA nr hnew hv8 hA2b hB7
       go_wp2_with fail
       refine bodyPost_ret (v := .tuple #[.agg #[.slice (some ⟨b, off, none⟩) n c1, .slice A8 (m + 1) c8], .int .i64 0]) (by simp [results, Tryz.results31, go_sem, r0, r1, g0, g1]) rfl ?_
       rw [HS.out]
       refine ⟨_, n, c1, A8, m + 1, c8, rfl, ?_, ?_, ?_, fun a e => by injection e with e; subst e; simp only; omega, own8.fresh (by omega), hc1, own8.le_cap⟩
       · exact ((((slj8.more h58).setOff (by simp only; omega) _).setOff (by simp only; omega) _).setOff (by simp only; omega) _).more (by simp)
       · have := (((own8.setCell (p := ⟨w.heap.size, 1, none⟩) (by simp only; omega) (.slice A8 (m + 1) c8)).setCell (p := ⟨w.heap.size + 1 + 1, 0, none⟩) (by simp only; omega) (.slice (some ⟨b, off, none⟩) n c1)).setCell (p := ⟨w.heap.size + 1 + 1, 1, none⟩) (by simp only; omega) (.slice A8 (m + 1) c8)).sl
         simpa using this
       · exact ((hB8.setCell (by simp) _).setCell (by simp only; omega) _).setCell (by simp only; omega) _
     · have hs : stepB ⟨jobs, rung⟩ ⟨3, j, v, t, cl⟩ = ⟨jobs, rung⟩ := by
        unfold stepB
        rw [if_neg (by simp), if_neg (by simp), if_pos rfl]
        simp only [hfi, Int.toNat_natCast, HX.out]
        rw [if_neg (fun h => hfit ⟨h.2.1, by rw [← hlr]; exact h.2.2⟩)]
       have HS := Lib.hid hs
       have HF := Lib.hid hfit
       have HFi := Lib.hid hfi
       clear hs hfit hfi hlr
       by_cases hnt : x.next = t
       · have hm60 : ¬ m < 60 := fun h => HF.out ⟨hnt, h⟩
         have hm60' : decide ((m : Int) < 60) = false := by simp; omega
         subst hnt
         go_wp2_with fail
         go_quiet (fail)
         go_wp2_with fail
         refine bodyPost_ret (v := .tuple #[.agg #[.slice (some ⟨b, off, none⟩) n c1, .slice A2 m c2], .int .i64 0]) (by simp [results, Tryz.results31, go_sem, r0, r1, g0, g1]) rfl ?_
         rw [HS.out]
         exact ⟨_, n, c1, A2, m, c2, rfl, by simpa using (((p1.drewN _).setCell (by simp only; omega) _).setCell (by simp only; omega) _).sl, by simpa using (((p2.drewN _).setCell (by simp only; omega) _).setCell (by simp only; omega) _).sl, ((below_drewN hB5 _).setCell (by simp only; omega) _).setCell (by simp only; omega) _, p1.fresh (by omega), p2.fresh (by omega), p1.le_cap, p2.le_cap⟩
       · have hnt' : (x.next == t) = false := by simpa using hnt
         clear hnt
         go_wp2_with fail
         go_quiet (fail)
         go_wp2_with fail
         refine bodyPost_ret (v := .tuple #[.agg #[.slice (some ⟨b, off, none⟩) n c1, .slice A2 m c2], .int .i64 0]) (by simp [results, Tryz.results31, go_sem, r0, r1, g0, g1]) rfl ?_
         rw [HS.out]
         exact ⟨_, n, c1, A2, m, c2, rfl, by simpa using (((p1.drewN _).setCell (by simp only; omega) _).setCell (by simp only; omega) _).sl, by simpa using (((p2.drewN _).setCell (by simp only; omega) _).setCell (by simp only; omega) _).sl, ((below_drewN hB5 _).setCell (by simp only; omega) _).setCell (by simp only; omega) _, p1.fresh (by omega), p2.fresh (by omega), p1.le_cap, p2.le_cap⟩
   · have hs : stepB ⟨jobs, rung⟩ ⟨3, j, v, t, cl⟩ = ⟨jobs, rung⟩ := by
      have h0' : ¬ 0 ≤ findB ⟨jobs, rung⟩ j := by rw [← HI.out]; exact h0
      unfold stepB
      rw [if_neg (by simp), if_neg (by simp), if_pos rfl]
      split
      · rw [if_neg (fun h => h0' h.1)]
      · rfl
     have HS := Lib.hid hs
     clear hs
     have h0' : i < 0 := by omega
     have hd : decide (0 ≤ i) = false := by simp; omega
     go_wp2_with fail
     go_quiet (fail)
     go_wp2_with fail
     refine bodyPost_ret (v := .tuple #[.agg #[.slice A1 n c1, .slice A2 m c2], .int .i64 0]) (by simp [results, Tryz.results31, go_sem, r0, r1, g0, g1]) rfl ?_
     rw [HS.out]
     exact ⟨A1, n, c1, A2, m, c2, rfl, by simpa using (((p1.drewN _).setCell (by simp only; omega) _).setCell (by simp only; omega) _).sl, by simpa using (((p2.drewN _).setCell (by simp only; omega) _).setCell (by simp only; omega) _).sl, ((below_drewN hB5 _).setCell (by simp only; omega) _).setCell (by simp only; omega) _, p1.fresh (by omega), p2.fresh (by omega), p1.le_cap, p2.le_cap⟩
theorem Apply_calls (A A' : Option Addr) (n c m d B : Nat) (b : Book) (k j v t cl : Int) (w : World) (h : Sl w B 3 A n (b.jobs.map encJ)) (h' : Sl w B 3 A' m (b.rung.map encR)) (hB : B ≤ w.heap.size) :
    Calls Tryz.prog 31 #[.agg #[.slice A n c, .slice A' m d], .agg #[.int .i64 k, .int .i64 j, .int .i64 v, .int .i64 t, .int .i64 cl]] w (BookPost w (applyB b ⟨k, j, v, t, cl⟩).1 (applyB b ⟨k, j, v, t, cl⟩).2) := by
 obtain ⟨jobs, rung⟩ := b
 unfold applyB
 by_cases h1 : checkB ⟨jobs, rung⟩ = 0
 · by_cases h2 : checkE ⟨k, j, v, t, cl⟩ = 0
   · rw [if_neg (by simp [h1]), if_neg (by simp [h2])]
     exact Apply_good A A' n c m d B jobs rung k j v t cl w h h' hB h1 h2
   · rw [if_neg (by simp [h1]), if_pos h2]
     exact Apply_badE A A' n c m d B jobs rung k j v t cl w h h' hB h1 h2
 · rw [if_pos h1]
   exact Apply_badB A A' n c m d B jobs rung k j v t cl w h h' hB h1
end
section
set_option linter.unusedSimpArgs false
set_option linter.unusedVariables false
open Go.RowKit
theorem bx1 (w : World) (x : Obj) (cs : Array Value) (t : TypeId) : Bx ((w.alloc x).alloc (.cells cs t)) (w.heap.size + 1) cs.toList := by
 have := Bx.made (w.alloc x) cs t
 simpa using this
section
variable {P : Program} {c : Code} {Q : Exit → Act → World → Prop} {a : Act} {w : World} {k1 k2 k3 : Array Value} {T1 T2 T3 : TypeId} {v1 v2 v3 : List Value}
theorem wp_box1 (e1 : k1.toList = v1) (h : ∀ w1, Onto w w1 → Bx w1 w.heap.size v1 → c.wp P Q a w1) : c.wp P Q a (w.alloc (.cells k1 T1)) := by
 subst e1
 exact h _ ((Onto.rfl' w).new _) (Bx.made _ _ _)
theorem wp_box2 (e1 : k1.toList = v1) (e2 : k2.toList = v2) (h : ∀ w1, Onto w w1 → Bx w1 w.heap.size v1 → Bx w1 (w.heap.size + 1) v2 → c.wp P Q a w1) : c.wp P Q a ((w.alloc (.cells k1 T1)).alloc (.cells k2 T2)) := by
 subst e1 e2
 exact h _ (((Onto.rfl' w).new _).new _) ((Bx.made _ _ _).new _) (bx1 _ _ _ _)
theorem wp_box3 (e1 : k1.toList = v1) (e2 : k2.toList = v2) (e3 : k3.toList = v3) (h : ∀ w1, Onto w w1 → Bx w1 w.heap.size v1 → Bx w1 (w.heap.size + 1) v2 → Bx w1 (w.heap.size + 1 + 1) v3 → c.wp P Q a w1) : c.wp P Q a (((w.alloc (.cells k1 T1)).alloc (.cells k2 T2)).alloc (.cells k3 T3)) := by
 subst e1 e2 e3
 refine h _ ((((Onto.rfl' w).new _).new _).new _) (((Bx.made _ _ _).new _).new _) ((bx1 _ _ _ _).new _) ?_
 have := bx1 (w.alloc (.cells k1 T1)) (.cells k2 T2) k3 T3
 simpa using this
end
end
section
set_option linter.unusedSimpArgs false
set_option linter.unusedVariables false
open Go.RowKit
theorem sizeC12 : (Tryz.prog.info? 41).map (·.size) = some 12 := by kernel_rfl
abbrev cL (ep dg k j v t c at_ ln pl : Int) (A : Option Addr) (n y : Nat) (A' : Option Addr) (m d : Nat) : List Value := [.int .i64 ep, .int .i64 dg, .int .i64 k, .int .i64 j, .int .i64 v, .int .i64 t, .int .i64 c, .int .i64 at_, .int .i64 ln, .int .i64 pl, .slice A n y, .slice A' m d]
abbrev zC : List Value := cL 0 0 0 0 0 0 0 0 0 0 none 0 0 none 0 0
theorem res_cl {fn : Func} {ts : Array Value} {w : World} {z i j : Nat} {v : Value} {ep dg k jj vv t c at_ ln pl : Int} {A : Option Addr} {n y : Nat} {A' : Option Addr} {m d : Nat} (hr : fn.results = #[.cell i 41, .tmp j])
    (h1 : ts[i]? = some (.pointer (some ⟨z, 0, none⟩))) (h2 : ts[j]? = some v) (B : Bx w z (cL ep dg k jj vv t c at_ ln pl A n y A' m d)) : (results fn ts).run Tryz.prog w = .ok (.tuple #[.agg (cL ep dg k jj vv t c at_ ln pl A n y A' m d).toArray, v]) w := by
 have z0 := B.at_ 0 rfl; have z1 := B.at_ 1 rfl; have z2 := B.at_ 2 rfl; have z3 := B.at_ 3 rfl; have z4 := B.at_ 4 rfl; have z5 := B.at_ 5 rfl; have z6 := B.at_ 6 rfl; have z7 := B.at_ 7 rfl; have z8 := B.at_ 8 rfl; have z9 := B.at_ 9 rfl; have z10 := B.at_ 10 rfl; have z11 := B.at_ 11 rfl
 simp [results, hr, h1, h2, go_sem, z0, z1, z2, z3, z4, z5, z6, z7, z8, z9, z10, z11]
def ClPost (w : World) (c : Cli) (err : Int) (e : Ending) (w' : World) : Prop :=
 ∃ A n k A' m d, e = .returned (.tuple #[.agg #[.int .i64 c.epoch, .int .i64 c.doing, .int .i64 c.e.kind, .int .i64 c.e.job, .int .i64 c.e.every, .int .i64 c.e.time, .int .i64 c.e.client, .int .i64 c.at_, .int .i64 c.link, .int .i64 c.played, .slice A n k, .slice A' m d], .int .i64 err]) ∧
  S w' 3 A n (c.b.jobs.map encJ) ∧ S w' 3 A' m (c.b.rung.map encR) ∧ Onto w w' ∧ n ≤ k ∧ m ≤ d ∧ Fresh w.heap.size A ∧ Fresh w.heap.size A'
theorem ClPost.bad {w w' : World} {r : Cli × Int} {err : Int} (hr : r = (zeroCl, err)) (on : Onto w w') : ClPost w r.1 r.2 (.returned (.tuple #[.agg zC.toArray, .int .i64 err])) w' := by
 subst hr
 exact ⟨none, 0, 0, none, 0, 0, rfl, Sl.nil, Sl.nil, on, Nat.le_refl _, Nat.le_refl _, Fresh.none_ _, Fresh.none_ _⟩
end
section
set_option linter.unusedSimpArgs false
set_option linter.unusedVariables false
open Go.RowKit
def LPost (w : World) (r : Rec × Entry × Int) (e : Ending) (w' : World) : Prop := e = .returned (.tuple #[.agg #[.int .i64 r.1.kind, .int .i64 r.1.at_, .int .i64 r.1.epoch, .int .i64 r.1.e.kind, .int .i64 r.1.e.job, .int .i64 r.1.e.every, .int .i64 r.1.e.time, .int .i64 r.1.e.client], .agg #[.int .i64 r.2.1.kind, .int .i64 r.2.1.job, .int .i64 r.2.1.every, .int .i64 r.2.1.time, .int .i64 r.2.1.client], .int .i64 r.2.2]) ∧ Onto w w'
theorem sizeR8 : (Tryz.prog.info? 160).map (·.size) = some 8 := by kernel_rfl
theorem sizeE5 : (Tryz.prog.info? 27).map (·.size) = some 5 := by kernel_rfl
abbrev cR (k a e kd j v t c : Int) : List Value := [.int .i64 k, .int .i64 a, .int .i64 e, .int .i64 kd, .int .i64 j, .int .i64 v, .int .i64 t, .int .i64 c]
abbrev cE (kd j v t c : Int) : List Value := [.int .i64 kd, .int .i64 j, .int .i64 v, .int .i64 t, .int .i64 c]
abbrev z8 : List Value := cR 0 0 0 0 0 0 0 0
abbrev z5 : List Value := cE 0 0 0 0 0
theorem wpList_zz {ops : Array Oper} {rest : List Oper} {op op' : Oper} {a : Act} {Q : Exit → Act → World → Prop} {w : World} {z z' : Nat} {x y x' y' : Operand} (R : Bx w z z8) (Y : Bx w z' z5) (ne : z ≠ z') (hgd : op.guard = none) (ho : op.op = .store 160 x y) (hx : a.eval x = .pointer (some ⟨z, 0, none⟩)) (hy : a.eval y = .agg z8.toArray)
    (hgd' : op'.guard = none) (ho' : op'.op = .store 27 x' y') (hx' : (a.put op.dst undef).eval x' = .pointer (some ⟨z', 0, none⟩)) (hy' : (a.put op.dst undef).eval y' = .agg z5.toArray)
    (h : wpList Tryz.prog ops Q rest ((a.put op.dst undef).put op'.dst undef) ((w.setCells z 0 z8).setCells z' 0 z5)) : wpList Tryz.prog ops Q (op :: op' :: rest) a w :=
 wpList_put R z8 160 x y hgd ho hx hy rfl sizeR8 rfl (wpList_put (Y.off (Ne.symm ne)) z5 27 x' y' hgd' ho' hx' hy' rfl sizeE5 rfl h)
theorem link_res {ts : Array Value} {w : World} {p q : Nat} {err : Int} {k a e kd j v t c kd' j' v' t' c' : Int} (h1 : ts[10]? = some (.pointer (some ⟨p, 0, none⟩))) (h2 : ts[11]? = some (.pointer (some ⟨q, 0, none⟩))) (h3 : ts[12]? = some (.int .i64 err)) (B : Bx w p (cR k a e kd j v t c)) (B' : Bx w q (cE kd' j' v' t' c')) :
    (results Tryz.f118 ts).run Tryz.prog w = .ok (.tuple #[.agg (cR k a e kd j v t c).toArray, .agg (cE kd' j' v' t' c').toArray, .int .i64 err]) w := by
 have z0 := B.at_ 0 rfl; have z1 := B.at_ 1 rfl; have z2 := B.at_ 2 rfl; have z3 := B.at_ 3 rfl; have z4 := B.at_ 4 rfl; have z5 := B.at_ 5 rfl; have z6 := B.at_ 6 rfl; have z7 := B.at_ 7 rfl
 have y0 := B'.at_ 0 rfl; have y1 := B'.at_ 1 rfl; have y2 := B'.at_ 2 rfl; have y3 := B'.at_ 3 rfl; have y4 := B'.at_ 4 rfl
 simp [results, Tryz.results118, h1, h2, h3, go_sem, z0, z1, z2, z3, z4, z5, z6, z7, y0, y1, y2, y3, y4]
theorem link_end {w w4 W : World} {p q : Nat} {r : Rec × Entry × Int} {ts : Array Value} {k a e kd j v t c kd' j' v' t' c' err : Int} {o1 o2 : List Value} (hW : W = (w4.setCells p 0 (cR k a e kd j v t c)).setCells q 0 (cE kd' j' v' t' c')) (R : Bx w4 p o1) (Y : Bx w4 q o2) (l1 : o1.length = 8) (l2 : o2.length = 5) (ne : p ≠ q)
    (on : Onto w w4) (hp : w.heap.size ≤ p) (hq : w.heap.size ≤ q) (hr : r = (⟨k, a, e, ⟨kd, j, v, t, c⟩⟩, ⟨kd', j', v', t', c'⟩, err)) (h1 : ts[10]? = some (.pointer (some ⟨p, 0, none⟩))) (h2 : ts[11]? = some (.pointer (some ⟨q, 0, none⟩))) (h3 : ts[12]? = some (.int .i64 err)) : bodyPost Tryz.prog Tryz.f118 (LPost w r) .ret ⟨ts, []⟩ W := by
 subst hW hr
 exact bodyPost_ret (link_res h1 h2 h3 ((R.put (by rw [l1]; rfl)).off ne) ((Y.off (Ne.symm ne)).put (by rw [l2]; rfl))) rfl ⟨rfl, put_onto hq (put_onto hp on)⟩
theorem link_endD {w w4 W : World} {p q : Nat} {r : Rec × Entry × Int} {ts : Array Value} {k a e kd j v t c kd' j' v' t' c' err : Int} {o1 o2 : List Value} (hW : W = ((w4.setCells p 0 (cR k a e kd j v t c)).setCells q 0 (cE kd' j' v' t' c')).drew) (R : Bx w4 p o1) (Y : Bx w4 q o2) (l1 : o1.length = 8) (l2 : o2.length = 5) (ne : p ≠ q)
    (on : Onto w w4) (hp : w.heap.size ≤ p) (hq : w.heap.size ≤ q) (hr : r = (⟨k, a, e, ⟨kd, j, v, t, c⟩⟩, ⟨kd', j', v', t', c'⟩, err)) (h1 : ts[10]? = some (.pointer (some ⟨p, 0, none⟩))) (h2 : ts[11]? = some (.pointer (some ⟨q, 0, none⟩))) (h3 : ts[12]? = some (.int .i64 err)) : bodyPost Tryz.prog Tryz.f118 (LPost w r) .ret ⟨ts, []⟩ W := by
 subst hW hr
 exact bodyPost_ret (link_res h1 h2 h3 ((R.put (by rw [l1]; rfl)).off ne).draw ((Y.off (Ne.symm ne)).put (by rw [l2]; rfl)).draw) rfl ⟨rfl, (put_onto hq (put_onto hp on)).draw⟩
set_option maxHeartbeats 8000000 in
set_option maxRecDepth 100000 in
theorem Link_calls (A : Option Addr) (n c : Nat) (l : List UV) (k a : Int) (x : Entry) (ep : Int) (w : World) (h : Us w A n l) :
    Calls Tryz.prog 118 #[.slice A n c, .int .i64 k, .int .i64 a, .agg #[.int .i64 x.kind, .int .i64 x.job, .int .i64 x.every, .int .i64 x.time, .int .i64 x.client], .int .i64 ep] w (LPost w (linkC (unis l) k a x ep)) := by
 obtain ⟨q, hq⟩ : ∃ q, q = checkC (unis l) := ⟨_, rfl⟩
 obtain ⟨q2, hq2⟩ : ∃ q2, q2 = checkE x := ⟨_, rfl⟩
 obtain ⟨r, hr⟩ : ∃ r, r = linkC (unis l) k a x ep := ⟨_, rfl⟩
 rw [← hr]
 unfold linkC at hr
 rw [← hq, ← hq2] at hr
 have HQ := Lib.hid hq; have HQ2 := Lib.hid hq2; have HR0 := Lib.hid hr
 clear hq hq2 hr
 go_enter Tryz.func118, Tryz.ntmps118
 go_upto_region 1 with fail
 refine wp_box3 (v1 := cE x.kind x.job x.every x.time x.client) (v2 := z8) (v3 := z5) rfl rfl rfl fun w0 on X R Y => ?_
 replace h := h.onto on
 generalize hz : w.heap.size = z at X R Y ⊢
 have hne := neqE
 go_wp2_with fail
 refine Calls.mono (CCheck_calls A n c l _ h) ?_
 rw [← HQ.out]
 rintro e w1 ⟨rfl, b1⟩
 replace on := on.to b1; replace X := X.onto b1; replace R := R.onto b1; replace Y := Y.onto b1; replace h := h.onto b1
 clear b1
 by_cases h0 : q = 0
 · have hg := checkC_iff.1 (HQ.out.symm.trans h0)
   have hn : n = 3 := by rw [← h.len, ← List.length_map (f := UV.u)]; exact hg.len
   subst h0; subst hn
   have HG := Lib.hid hg
   have hr := HR0.out
   rw [if_neg (by simp)] at hr
   by_cases hbad : k < 0 ∨ 3 ≤ k ∨ a < 0 ∨ 60 ≤ a
   · rw [if_pos hbad] at hr
     have HR := Lib.hid hr
     clear hr HR0 hg
     by_cases hb1 : k < 0
     · clear hbad
       go_wp2_with (refine wpList_zz R Y (by omega) (by rfl) (by rfl) (by rfl) (by rfl) (by rfl) (by rfl) (by rfl) (by rfl) ?_)
       exact link_end rfl R Y rfl rfl (by omega) on (by omega) (by omega) HR.out rfl rfl rfl
     · by_cases hb2 : 3 ≤ k
       · clear hbad
         go_wp2_with (refine wpList_zz R Y (by omega) (by rfl) (by rfl) (by rfl) (by rfl) (by rfl) (by rfl) (by rfl) (by rfl) ?_)
         exact link_end rfl R Y rfl rfl (by omega) on (by omega) (by omega) HR.out rfl rfl rfl
       · by_cases hb3 : a < 0
         · clear hbad
           go_wp2_with (refine wpList_zz R Y (by omega) (by rfl) (by rfl) (by rfl) (by rfl) (by rfl) (by rfl) (by rfl) (by rfl) ?_)
           exact link_end rfl R Y rfl rfl (by omega) on (by omega) (by omega) HR.out rfl rfl rfl
         · have hb4 : 60 ≤ a := by omega
           clear hbad
           go_wp2_with (refine wpList_zz R Y (by omega) (by rfl) (by rfl) (by rfl) (by rfl) (by rfl) (by rfl) (by rfl) (by rfl) ?_)
           exact link_end rfl R Y rfl rfl (by omega) on (by omega) (by omega) HR.out rfl rfl rfl
   · rw [if_neg hbad] at hr
     obtain ⟨j, rfl⟩ : ∃ j : Nat, a = j := ⟨a.toNat, by omega⟩
     obtain ⟨i, rfl⟩ : ∃ i : Nat, k = i := ⟨k.toNat, by omega⟩
     have hi3 : i < 3 := by omega
     have hj60 : j < 60 := by omega
     have hn1 : ¬ (i : Int) < 0 := by omega
     have hn2 : ¬ (3 : Int) ≤ (i : Int) := by omega
     have hn3 : ¬ (j : Int) < 0 := by omega
     have hn4 : ¬ (60 : Int) ≤ (j : Int) := by omega
     have HR1 := Lib.hid hr
     clear hr hbad HR0 hg
     have x0 := X.at_ 0 rfl; have x1 := X.at_ 1 rfl; have x2 := X.at_ 2 rfl; have x3 := X.at_ 3 rfl; have x4 := X.at_ 4 rfl
     go_wp2_with fail
     refine Calls.mono (Check_calls x.kind x.job x.every x.time x.client _) ?_
     rw [show checkE ⟨x.kind, x.job, x.every, x.time, x.client⟩ = q2 from HQ2.out.symm]
     rintro e w2 ⟨rfl, b2⟩
     clear x0 x1 x2 x3 x4
     replace b2 : Onto w1 w2 := b2
     replace on := on.to b2; replace X := X.onto b2; replace R := R.onto b2; replace Y := Y.onto b2; replace h := h.onto b2
     clear b2
     have hr := HR1.out
     by_cases h20 : q2 = 0
     · subst h20
       rw [if_neg (by simp)] at hr
       obtain ⟨b, off, u, rfl, hbz, hu, e0, e1, hs, hul⟩ := h.atU hi3
       have hgu := HG.out.ok u.u (List.mem_map.2 ⟨u, List.mem_of_getElem? hu, rfl⟩)
       have hun : u.n = 60 := by rw [← hul]; exact hgu.len
       rw [Int.toNat_natCast, Int.toNat_natCast, uniAt_eq (unis_at hu)] at hr
       simp only [show u.u.ep = u.ep from rfl, show u.u.cells = u.cells from rfl] at hr
       rw [hun] at hs e1
       by_cases hep : ep ≠ u.ep
       · rw [if_pos hep] at hr
         have HR := Lib.hid hr
         have hd : (ep != u.ep) = true := by simpa using hep
         clear hr HR1 hep hs hgu e1
         go_wp2_with (refine wpList_zz R Y (by omega) (by rfl) (by rfl) (by rfl) (by rfl) (by rfl) (by rfl) (by rfl) (by rfl) ?_)
         exact link_end rfl R Y rfl rfl (by omega) on (by omega) (by omega) HR.out rfl rfl rfl
       · rw [if_neg hep] at hr
         have hep' : ep = u.ep := by omega
         subst hep'
         have HR1 := Lib.hid hr
         clear hr hep hgu
         obtain ⟨b1, off1, y, hA1, hyz, hy, d0, d1, d2, d3, d4⟩ := hs.atE hj60
         rw [hA1] at e1
         have hj60' : (j : Int) < 60 := by omega
         have hi3' : (i : Int) < 3 := by omega
         have hr := HR1.out
         rw [cellAt_eq hy] at hr
         clear hy HR1 hu
         rcases Nat.eq_zero_or_pos i with rfl | hpos
         · rw [if_neg (by omega)] at hr
           have HR1 := Lib.hid hr
           clear hr
           simp only [Nat.zero_mul, Nat.add_zero] at e0 e1
           have x0 := X.at_ 0 rfl; have x1 := X.at_ 1 rfl; have x2 := X.at_ 2 rfl; have x3 := X.at_ 3 rfl; have x4 := X.at_ 4 rfl
           go_wp2_with fail
           go_quiet (fail)
           obtain ⟨w3, hw3⟩ : ∃ w3, w3 = w2.drewN nq := ⟨_, rfl⟩
           rw [← hw3]
           have b3 : Onto w2 w3 := hw3 ▸ Onto.draws (Below.refl _ _) nq
           clear hw3
           replace e0 := cellB b3 e0; replace e1 := cellB b3 e1; replace d0 := cellB b3 d0; replace d1 := cellB b3 d1; replace d2 := cellB b3 d2; replace d3 := cellB b3 d3; replace d4 := cellB b3 d4
           clear x0 x1 x2 x3 x4
           clear hs h
           replace on := on.to b3; replace X := X.onto b3; replace R := R.onto b3; replace Y := Y.onto b3
           clear b3
           go_upto_region 14 with fail
           refine wp_box1 (v1 := cE y.kind y.job y.every y.time y.client) rfl fun w4 ob V => ?_
           generalize hv : w3.heap.size = zv at V ⊢
           have hxl := X.lt; have hrl := R.lt; have hyl := Y.lt
           clear e0 e1 d0 d1 d2 d3 d4
           replace on := on.to ob; replace X := X.onto ob; replace R := R.onto ob; replace Y := Y.onto ob
           clear ob
           have v0 := V.at_ 0 rfl; have v1 := V.at_ 1 rfl; have v2 := V.at_ 2 rfl; have v3 := V.at_ 3 rfl; have v4 := V.at_ 4 rfl
           have HR2 := HR1.out
           clear HR1
           by_cases h4 : y.kind ≠ 4
           · rw [if_pos h4] at HR2
             have HR := Lib.hid HR2
             have hd : (y.kind != 4) = true := by simpa using h4
             clear HR2 h4
             have r0 := R.at_ 0 rfl; have s0 := R.froz 0; have r1 := R.at_ 1 rfl; have s1 := R.froz 1; have r2 := R.at_ 2 rfl; have s2 := R.froz 2; have r3 := R.at_ 3 rfl; have s3 := R.froz 3; have r4 := R.at_ 4 rfl; have s4 := R.froz 4; have r5 := R.at_ 5 rfl; have s5 := R.froz 5; have r6 := R.at_ 6 rfl; have s6 := R.froz 6; have r7 := R.at_ 7 rfl; have s7 := R.froz 7; have y0 := Y.at_ 0 rfl; have t0 := Y.froz 0; have y1 := Y.at_ 1 rfl; have t1 := Y.froz 1; have y2 := Y.at_ 2 rfl; have t2 := Y.froz 2; have y3 := Y.at_ 3 rfl; have t3 := Y.froz 3; have y4 := Y.at_ 4 rfl; have t4 := Y.froz 4
             go_upto_region 15 with fail
             go_region
             all_goals
              go_wp2_with fail
              exact link_endD (k := 0) (a := 0) (e := 0) (kd := 0) (j := 0) (v := 0) (t := 0) (c := 0) (kd' := y.kind) (j' := y.job) (v' := y.every) (t' := y.time) (c' := y.client) (w4 := w4) rfl R Y rfl rfl (by omega) on (by omega) (by omega) HR.out rfl rfl rfl
           · rw [if_neg h4] at HR2
             have HR := Lib.hid HR2
             have hd : (y.kind != 4) = false := by simpa using h4
             clear HR2 h4
             have r0 := R.at_ 0 rfl; have s0 := R.froz 0; have r1 := R.at_ 1 rfl; have s1 := R.froz 1; have r2 := R.at_ 2 rfl; have s2 := R.froz 2; have r3 := R.at_ 3 rfl; have s3 := R.froz 3; have r4 := R.at_ 4 rfl; have s4 := R.froz 4; have r5 := R.at_ 5 rfl; have s5 := R.froz 5; have r6 := R.at_ 6 rfl; have s6 := R.froz 6; have r7 := R.at_ 7 rfl; have s7 := R.froz 7; have y0 := Y.at_ 0 rfl; have t0 := Y.froz 0; have y1 := Y.at_ 1 rfl; have t1 := Y.froz 1; have y2 := Y.at_ 2 rfl; have t2 := Y.froz 2; have y3 := Y.at_ 3 rfl; have t3 := Y.froz 3; have y4 := Y.at_ 4 rfl; have t4 := Y.froz 4
             have x0 := X.at_ 0 rfl; have x1 := X.at_ 1 rfl; have x2 := X.at_ 2 rfl; have x3 := X.at_ 3 rfl; have x4 := X.at_ 4 rfl
             go_upto_region 16 with fail
             go_region
             all_goals
              go_wp2_with fail
              exact link_endD (k := 1) (a := j) (e := 0) (kd := x.kind) (j := x.job) (v := x.every) (t := x.time) (c := x.client) (kd' := x.kind) (j' := x.job) (v' := x.every) (t' := x.time) (c' := x.client) (w4 := w4) rfl R Y rfl rfl (by omega) on (by omega) (by omega) HR.out rfl rfl rfl
         · obtain ⟨b', off', v, hA', _, hv, g0, g1, hsv, hvl⟩ := h.atU (i := i - 1) (by omega)
           injection hA' with hA'
           injection hA' with e1' e2' _
           subst e1'; subst e2'
           have hgv := HG.out.ok v.u (List.mem_map.2 ⟨v, List.mem_of_getElem? hv, rfl⟩)
           have hvn : v.n = 60 := by rw [← hvl]; exact hgv.len
           rw [hvn] at hsv g1
           obtain ⟨b2, off2, y', hA2, hyz', hy', f0, f1, f2, f3, f4⟩ := hsv.atE hj60
           rw [hA2] at g1
           rw [uniAt_eq (unis_at hv), show cellAt v.u.cells j = y' from cellAt_eq hy'] at hr
           have hpos' : (0 : Int) < (i : Int) := by omega
           clear hsv hv hy' hgv hA1 hA2
           by_cases hyx : y' = x
           · have hd2 : (!(y'.kind == x.kind && y'.job == x.job && y'.every == x.every && y'.time == x.time && y'.client == x.client)) = false := by simp [hyx]
             rw [if_neg (by simp [hyx])] at hr
             have HR1 := Lib.hid hr
             clear hr hyx
             have x0 := X.at_ 0 rfl; have x1 := X.at_ 1 rfl; have x2 := X.at_ 2 rfl; have x3 := X.at_ 3 rfl; have x4 := X.at_ 4 rfl
             go_wp2_with fail
             go_quiet (fail)
             obtain ⟨w3, hw3⟩ : ∃ w3, w3 = w2.drewN nq := ⟨_, rfl⟩
             rw [← hw3]
             have b3 : Onto w2 w3 := hw3 ▸ Onto.draws (Below.refl _ _) nq
             clear hw3
             replace e0 := cellB b3 e0; replace e1 := cellB b3 e1; replace d0 := cellB b3 d0; replace d1 := cellB b3 d1; replace d2 := cellB b3 d2; replace d3 := cellB b3 d3; replace d4 := cellB b3 d4
             clear f0 f1 f2 f3 f4 g0 g1 x0 x1 x2 x3 x4
             clear hs h
             replace on := on.to b3; replace X := X.onto b3; replace R := R.onto b3; replace Y := Y.onto b3
             clear b3
             go_upto_region 14 with fail
             refine wp_box1 (v1 := cE y.kind y.job y.every y.time y.client) rfl fun w4 ob V => ?_
             generalize hv : w3.heap.size = zv at V ⊢
             have hxl := X.lt; have hrl := R.lt; have hyl := Y.lt
             clear e0 e1 d0 d1 d2 d3 d4
             replace on := on.to ob; replace X := X.onto ob; replace R := R.onto ob; replace Y := Y.onto ob
             clear ob
             have v0 := V.at_ 0 rfl; have v1 := V.at_ 1 rfl; have v2 := V.at_ 2 rfl; have v3 := V.at_ 3 rfl; have v4 := V.at_ 4 rfl
             have HR2 := HR1.out
             clear HR1
             by_cases h4 : y.kind ≠ 4
             · rw [if_pos h4] at HR2
               have HR := Lib.hid HR2
               have hd : (y.kind != 4) = true := by simpa using h4
               clear HR2 h4
               have r0 := R.at_ 0 rfl; have s0 := R.froz 0; have r1 := R.at_ 1 rfl; have s1 := R.froz 1; have r2 := R.at_ 2 rfl; have s2 := R.froz 2; have r3 := R.at_ 3 rfl; have s3 := R.froz 3; have r4 := R.at_ 4 rfl; have s4 := R.froz 4; have r5 := R.at_ 5 rfl; have s5 := R.froz 5; have r6 := R.at_ 6 rfl; have s6 := R.froz 6; have r7 := R.at_ 7 rfl; have s7 := R.froz 7; have y0 := Y.at_ 0 rfl; have t0 := Y.froz 0; have y1 := Y.at_ 1 rfl; have t1 := Y.froz 1; have y2 := Y.at_ 2 rfl; have t2 := Y.froz 2; have y3 := Y.at_ 3 rfl; have t3 := Y.froz 3; have y4 := Y.at_ 4 rfl; have t4 := Y.froz 4
               go_upto_region 15 with fail
               go_region
               all_goals
                go_wp2_with fail
                exact link_endD (k := 0) (a := 0) (e := 0) (kd := 0) (j := 0) (v := 0) (t := 0) (c := 0) (kd' := y.kind) (j' := y.job) (v' := y.every) (t' := y.time) (c' := y.client) (w4 := w4) rfl R Y rfl rfl (by omega) on (by omega) (by omega) HR.out rfl rfl rfl
             · rw [if_neg h4] at HR2
               have HR := Lib.hid HR2
               have hd : (y.kind != 4) = false := by simpa using h4
               clear HR2 h4
               have r0 := R.at_ 0 rfl; have s0 := R.froz 0; have r1 := R.at_ 1 rfl; have s1 := R.froz 1; have r2 := R.at_ 2 rfl; have s2 := R.froz 2; have r3 := R.at_ 3 rfl; have s3 := R.froz 3; have r4 := R.at_ 4 rfl; have s4 := R.froz 4; have r5 := R.at_ 5 rfl; have s5 := R.froz 5; have r6 := R.at_ 6 rfl; have s6 := R.froz 6; have r7 := R.at_ 7 rfl; have s7 := R.froz 7; have y0 := Y.at_ 0 rfl; have t0 := Y.froz 0; have y1 := Y.at_ 1 rfl; have t1 := Y.froz 1; have y2 := Y.at_ 2 rfl; have t2 := Y.froz 2; have y3 := Y.at_ 3 rfl; have t3 := Y.froz 3; have y4 := Y.at_ 4 rfl; have t4 := Y.froz 4
               have x0 := X.at_ 0 rfl; have x1 := X.at_ 1 rfl; have x2 := X.at_ 2 rfl; have x3 := X.at_ 3 rfl; have x4 := X.at_ 4 rfl
               go_upto_region 16 with fail
               go_region
               all_goals
                go_wp2_with fail
                exact link_endD (k := 1) (a := j) (e := 0) (kd := x.kind) (j := x.job) (v := x.every) (t := x.time) (c := x.client) (kd' := x.kind) (j' := x.job) (v' := x.every) (t' := x.time) (c' := x.client) (w4 := w4) rfl R Y rfl rfl (by omega) on (by omega) (by omega) HR.out rfl rfl rfl
           · have hd2 : (!(y'.kind == x.kind && y'.job == x.job && y'.every == x.every && y'.time == x.time && y'.client == x.client)) = true := by
              rw [entry_eq_iff] at hyx
              simp only [Bool.not_eq_true', Bool.and_eq_false_iff, beq_eq_false_iff_ne]
              omega
             rw [if_pos ⟨by omega, hyx⟩] at hr
             have HR := Lib.hid hr
             clear hr hyx
             have x0 := X.at_ 0 rfl; have x1 := X.at_ 1 rfl; have x2 := X.at_ 2 rfl; have x3 := X.at_ 3 rfl; have x4 := X.at_ 4 rfl
             go_wp2_with fail
             go_quiet (fail)
             obtain ⟨w3, hw3⟩ : ∃ w3, w3 = w2.drewN nq := ⟨_, rfl⟩
             rw [← hw3]
             have b3 : Onto w2 w3 := hw3 ▸ Onto.draws (Below.refl _ _) nq
             clear hw3
             replace e0 := cellB b3 e0; replace e1 := cellB b3 e1; replace d0 := cellB b3 d0; replace d1 := cellB b3 d1; replace d2 := cellB b3 d2; replace d3 := cellB b3 d3; replace d4 := cellB b3 d4
             clear d0 d1 d2 d3 d4 f0 f1 f2 f3 f4 g0 g1 e0 e1 x0 x1 x2 x3 x4 hs h
             replace on := on.to b3; replace X := X.onto b3; replace R := R.onto b3; replace Y := Y.onto b3
             clear b3
             go_wp2_with (refine wpList_zz R Y (by omega) (by rfl) (by rfl) (by rfl) (by rfl) (by rfl) (by rfl) (by rfl) (by rfl) ?_)
             exact link_end rfl R Y rfl rfl (by omega) on (by omega) (by omega) HR.out rfl rfl rfl
     · rw [if_pos h20] at hr
       have HR := Lib.hid hr
       have hd : (q2 != 0) = true := by simpa using h20
       clear hr HR1 h20
       go_wp2_with (refine wpList_zz R Y (by omega) (by rfl) (by rfl) (by rfl) (by rfl) (by rfl) (by rfl) (by rfl) (by rfl) ?_)
       exact link_end rfl R Y rfl rfl (by omega) on (by omega) (by omega) HR.out rfl rfl rfl
 · have hr := HR0.out
   rw [if_pos h0] at hr
   have HR := Lib.hid hr
   have hd : (q != 0) = true := by simpa using h0
   clear hr HR0 h0
   go_wp2_with (refine wpList_zz R Y (by omega) (by rfl) (by rfl) (by rfl) (by rfl) (by rfl) (by rfl) (by rfl) (by rfl) ?_)
   exact link_end rfl R Y rfl rfl (by omega) on (by omega) (by omega) HR.out rfl rfl rfl
end
section
set_option linter.unusedSimpArgs false
set_option linter.unusedVariables false
open Go.RowKit
def EPost (w : World) (r : Entry × Int) (e : Ending) (w' : World) : Prop := e = .returned (.tuple #[.agg #[.int .i64 r.1.kind, .int .i64 r.1.job, .int .i64 r.1.every, .int .i64 r.1.time, .int .i64 r.1.client], .int .i64 r.2]) ∧ Onto w w'
set_option maxHeartbeats 8000000 in
set_option maxRecDepth 100000 in
theorem Read_calls (A : Option Addr) (n c : Nat) (l : List UV) (a : Int) (w : World) (h : Us w A n l) :
    Calls Tryz.prog 106 #[.slice A n c, .int .i64 a] w (EPost w (readC (unis l) a)) := by
 obtain ⟨q, hq⟩ : ∃ q, q = checkC (unis l) := ⟨_, rfl⟩
 obtain ⟨r, hr⟩ : ∃ r, r = readC (unis l) a := ⟨_, rfl⟩
 rw [← hr]
 unfold readC at hr
 rw [← hq] at hr
 have HQ := Lib.hid hq; have HR0 := Lib.hid hr
 clear hq hr
 go_enter Tryz.func106, Tryz.ntmps106
 go_wp2_with fail
 refine Calls.mono (CCheck_calls A n c l _ (h.new _)) ?_
 rw [← HQ.out]
 rintro e w1 ⟨rfl, hb1⟩
 have y0a : w1.cell? ⟨w.heap.size, 0, none⟩ = some (.int .i64 0) := cellB hb1 (by simp [go_sem])
 have fy0a : w1.frozen? ⟨w.heap.size, 0, none⟩ = false := frozB hb1 (v := .int .i64 0) (by simp [go_sem]) (by simp [go_sem])
 have y1a : w1.cell? ⟨w.heap.size, 1, none⟩ = some (.int .i64 0) := cellB hb1 (by simp [go_sem])
 have fy1a : w1.frozen? ⟨w.heap.size, 1, none⟩ = false := frozB hb1 (v := .int .i64 0) (by simp [go_sem]) (by simp [go_sem])
 have y2a : w1.cell? ⟨w.heap.size, 2, none⟩ = some (.int .i64 0) := cellB hb1 (by simp [go_sem])
 have fy2a : w1.frozen? ⟨w.heap.size, 2, none⟩ = false := frozB hb1 (v := .int .i64 0) (by simp [go_sem]) (by simp [go_sem])
 have y3a : w1.cell? ⟨w.heap.size, 3, none⟩ = some (.int .i64 0) := cellB hb1 (by simp [go_sem])
 have fy3a : w1.frozen? ⟨w.heap.size, 3, none⟩ = false := frozB hb1 (v := .int .i64 0) (by simp [go_sem]) (by simp [go_sem])
 have y4a : w1.cell? ⟨w.heap.size, 4, none⟩ = some (.int .i64 0) := cellB hb1 (by simp [go_sem])
 have fy4a : w1.frozen? ⟨w.heap.size, 4, none⟩ = false := frozB hb1 (v := .int .i64 0) (by simp [go_sem]) (by simp [go_sem])
 have h01 : Onto w w1 := ((Below.refl _ _).alloc (Nat.le_refl _) _).trans (hb1.mono (by simp))
 have hu1 := h.onto h01
 have hz1 : w.heap.size < w1.heap.size := World.block_lt_of_cell? _ _ y0a
 clear hb1 h
 by_cases h0 : q = 0
 · have hg := checkC_iff.1 (HQ.out.symm.trans h0)
   have hn : n = 3 := by rw [← hu1.len, ← List.length_map (f := UV.u)]; exact hg.len
   subst h0; subst hn
   have HG := Lib.hid hg
   have hr := HR0.out
   rw [if_neg (by simp)] at hr
   by_cases hbad : a < 0 ∨ 60 ≤ a
   · rw [if_pos hbad] at hr
     have HR := Lib.hid hr
     clear hr HR0 hu1 hg
     by_cases hb1 : a < 0
     · clear hbad
       go_wp2_with fail
       rw [show (((((w1.setCell ⟨w.heap.size, 0, none⟩ (.int .i64 0)).setCell ⟨w.heap.size, 1, none⟩ (.int .i64 0)).setCell ⟨w.heap.size, 2, none⟩ (.int .i64 0)).setCell ⟨w.heap.size, 3, none⟩ (.int .i64 0)).setCell ⟨w.heap.size, 4, none⟩ (.int .i64 0)) = (w1.setCells w.heap.size 0 [.int .i64 0, .int .i64 0, .int .i64 0, .int .i64 0, .int .i64 0]) from rfl]
       have hE : Onto w (w1.setCells w.heap.size 0 [.int .i64 0, .int .i64 0, .int .i64 0, .int .i64 0, .int .i64 0]) := put_onto (by omega) h01
       have F : ∀ (j : Nat) v, [.int .i64 0, .int .i64 0, .int .i64 0, .int .i64 0, .int .i64 0][j]? = some v → (w1.setCells w.heap.size 0 [.int .i64 0, .int .i64 0, .int .i64 0, .int .i64 0, .int .i64 0]).cell? ⟨w.heap.size, j, none⟩ = some v := fun j v hv => put_in (w := w1) (b := w.heap.size) (vs := [.int .i64 0, .int .i64 0, .int .i64 0, .int .i64 0, .int .i64 0]) (there5 y0a y1a y2a y3a y4a) hv
       generalize (w1.setCells w.heap.size 0 [.int .i64 0, .int .i64 0, .int .i64 0, .int .i64 0, .int .i64 0]) = wf at F hE ⊢
       have z0 := F 0 _ rfl
       have z1 := F 1 _ rfl
       have z2 := F 2 _ rfl
       have z3 := F 3 _ rfl
       have z4 := F 4 _ rfl
       refine bodyPost_ret (v := .tuple #[.agg #[.int .i64 0, .int .i64 0, .int .i64 0, .int .i64 0, .int .i64 0], .int .i64 5]) (by simp [results, Tryz.results106, go_sem, z0, z1, z2, z3, z4]) rfl ?_
       rw [HR.out]
       exact ⟨rfl, hE⟩
     · have hb2 : 60 ≤ a := by omega
       clear hbad
       go_wp2_with fail
       rw [show (((((w1.setCell ⟨w.heap.size, 0, none⟩ (.int .i64 0)).setCell ⟨w.heap.size, 1, none⟩ (.int .i64 0)).setCell ⟨w.heap.size, 2, none⟩ (.int .i64 0)).setCell ⟨w.heap.size, 3, none⟩ (.int .i64 0)).setCell ⟨w.heap.size, 4, none⟩ (.int .i64 0)) = (w1.setCells w.heap.size 0 [.int .i64 0, .int .i64 0, .int .i64 0, .int .i64 0, .int .i64 0]) from rfl]
       have hE : Onto w (w1.setCells w.heap.size 0 [.int .i64 0, .int .i64 0, .int .i64 0, .int .i64 0, .int .i64 0]) := put_onto (by omega) h01
       have F : ∀ (j : Nat) v, [.int .i64 0, .int .i64 0, .int .i64 0, .int .i64 0, .int .i64 0][j]? = some v → (w1.setCells w.heap.size 0 [.int .i64 0, .int .i64 0, .int .i64 0, .int .i64 0, .int .i64 0]).cell? ⟨w.heap.size, j, none⟩ = some v := fun j v hv => put_in (w := w1) (b := w.heap.size) (vs := [.int .i64 0, .int .i64 0, .int .i64 0, .int .i64 0, .int .i64 0]) (there5 y0a y1a y2a y3a y4a) hv
       generalize (w1.setCells w.heap.size 0 [.int .i64 0, .int .i64 0, .int .i64 0, .int .i64 0, .int .i64 0]) = wf at F hE ⊢
       have z0 := F 0 _ rfl
       have z1 := F 1 _ rfl
       have z2 := F 2 _ rfl
       have z3 := F 3 _ rfl
       have z4 := F 4 _ rfl
       refine bodyPost_ret (v := .tuple #[.agg #[.int .i64 0, .int .i64 0, .int .i64 0, .int .i64 0, .int .i64 0], .int .i64 5]) (by simp [results, Tryz.results106, go_sem, z0, z1, z2, z3, z4]) rfl ?_
       rw [HR.out]
       exact ⟨rfl, hE⟩
   · rw [if_neg hbad] at hr
     obtain ⟨j, rfl⟩ : ∃ j : Nat, a = j := ⟨a.toNat, by omega⟩
     have hj60 : j < 60 := by omega
     have hn3 : ¬ (j : Int) < 0 := by omega
     have hn4 : ¬ (60 : Int) ≤ (j : Int) := by omega
     have hj60' : (j : Int) < 60 := by omega
     obtain ⟨b, off, u, rfl, hbz, hu, e0, e1, hs, hul⟩ := hu1.atU (i := 2) (by omega)
     have hgu := HG.out.ok u.u (List.mem_map.2 ⟨u, List.mem_of_getElem? hu, rfl⟩)
     have hun : u.n = 60 := by rw [← hul]; exact hgu.len
     rw [hun] at hs e1
     obtain ⟨b1, off1, y, hA1, hyz, hy, d0, d1, d2, d3, d4⟩ := hs.atE hj60
     rw [hA1] at e1
     rw [Int.toNat_natCast, uniAt_eq (unis_at hu), show cellAt u.u.cells j = y from cellAt_eq hy] at hr
     simp only [Nat.reduceMul] at e1
     have HR1 := Lib.hid hr
     clear hr hbad HR0 hg hs hgu hu hy e0 hu1
     by_cases h4 : y.kind = 4
     all_goals
      have hr := HR1.out
      first | rw [if_pos h4] at hr | rw [if_neg h4] at hr
      have HR := Lib.hid hr
      first | (have hd : (y.kind == 4) = true := by simpa using h4) | (have hd : (y.kind == 4) = false := by simpa using h4)
      clear hr HR1 h4
      go_upto_region 7 with fail
      have hb2 : Onto w1 (w1.alloc (Obj.cells #[.int .i64 y.kind, .int .i64 y.job, .int .i64 y.every, .int .i64 y.time, .int .i64 y.client] 27)) := (Below.refl _ _).alloc (Nat.le_refl _) _
      have y0b := cellB hb2 y0a; have fy0b := frozB hb2 y0a fy0a; have y1b := cellB hb2 y1a; have fy1b := frozB hb2 y1a fy1a; have y2b := cellB hb2 y2a; have fy2b := frozB hb2 y2a fy2a; have y3b := cellB hb2 y3a; have fy3b := frozB hb2 y3a fy3a; have y4b := cellB hb2 y4a; have fy4b := frozB hb2 y4a fy4a
      clear y0a fy0a y1a fy1a y2a fy2a y3a fy3a y4a fy4a
      have k0 : (w1.alloc (Obj.cells #[.int .i64 y.kind, .int .i64 y.job, .int .i64 y.every, .int .i64 y.time, .int .i64 y.client] 27)).cell? ⟨w1.heap.size, 0, none⟩ = some (.int .i64 y.kind) := by simp [go_sem]
      have k1 : (w1.alloc (Obj.cells #[.int .i64 y.kind, .int .i64 y.job, .int .i64 y.every, .int .i64 y.time, .int .i64 y.client] 27)).cell? ⟨w1.heap.size, 1, none⟩ = some (.int .i64 y.job) := by simp [go_sem]
      have k2 : (w1.alloc (Obj.cells #[.int .i64 y.kind, .int .i64 y.job, .int .i64 y.every, .int .i64 y.time, .int .i64 y.client] 27)).cell? ⟨w1.heap.size, 2, none⟩ = some (.int .i64 y.every) := by simp [go_sem]
      have k3 : (w1.alloc (Obj.cells #[.int .i64 y.kind, .int .i64 y.job, .int .i64 y.every, .int .i64 y.time, .int .i64 y.client] 27)).cell? ⟨w1.heap.size, 3, none⟩ = some (.int .i64 y.time) := by simp [go_sem]
      have k4 : (w1.alloc (Obj.cells #[.int .i64 y.kind, .int .i64 y.job, .int .i64 y.every, .int .i64 y.time, .int .i64 y.client] 27)).cell? ⟨w1.heap.size, 4, none⟩ = some (.int .i64 y.client) := by simp [go_sem]
      have h02 := h01.to hb2
      have hz2 : w1.heap.size < (w1.alloc (Obj.cells #[.int .i64 y.kind, .int .i64 y.job, .int .i64 y.every, .int .i64 y.time, .int .i64 y.client] 27)).heap.size := by simp
      clear hb2 h01 e1 d0 d1 d2 d3 d4
      generalize (w1.alloc (Obj.cells #[.int .i64 y.kind, .int .i64 y.job, .int .i64 y.every, .int .i64 y.time, .int .i64 y.client] 27)) = w2 at *
     · go_wp2_with fail
       rw [show (((((w2.setCell ⟨w.heap.size, 0, none⟩ (.int .i64 0)).setCell ⟨w.heap.size, 1, none⟩ (.int .i64 0)).setCell ⟨w.heap.size, 2, none⟩ (.int .i64 0)).setCell ⟨w.heap.size, 3, none⟩ (.int .i64 0)).setCell ⟨w.heap.size, 4, none⟩ (.int .i64 0)) = (w2.setCells w.heap.size 0 [.int .i64 0, .int .i64 0, .int .i64 0, .int .i64 0, .int .i64 0]) from rfl]
       have hE : Onto w (w2.setCells w.heap.size 0 [.int .i64 0, .int .i64 0, .int .i64 0, .int .i64 0, .int .i64 0]) := put_onto (by omega) h02
       have F : ∀ (j : Nat) v, [.int .i64 0, .int .i64 0, .int .i64 0, .int .i64 0, .int .i64 0][j]? = some v → (w2.setCells w.heap.size 0 [.int .i64 0, .int .i64 0, .int .i64 0, .int .i64 0, .int .i64 0]).cell? ⟨w.heap.size, j, none⟩ = some v := fun j v hv => put_in (w := w2) (b := w.heap.size) (vs := [.int .i64 0, .int .i64 0, .int .i64 0, .int .i64 0, .int .i64 0]) (there5 y0b y1b y2b y3b y4b) hv
       generalize (w2.setCells w.heap.size 0 [.int .i64 0, .int .i64 0, .int .i64 0, .int .i64 0, .int .i64 0]) = wf at F hE ⊢
       have z0 := F 0 _ rfl
       have z1 := F 1 _ rfl
       have z2 := F 2 _ rfl
       have z3 := F 3 _ rfl
       have z4 := F 4 _ rfl
       refine bodyPost_ret (v := .tuple #[.agg #[.int .i64 0, .int .i64 0, .int .i64 0, .int .i64 0, .int .i64 0], .int .i64 7]) (by simp [results, Tryz.results106, go_sem, z0, z1, z2, z3, z4]) rfl ?_
       rw [HR.out]
       exact ⟨rfl, hE⟩
     · go_wp2_with fail
       rw [show (((((w2.setCell ⟨w.heap.size, 0, none⟩ (.int .i64 y.kind)).setCell ⟨w.heap.size, 1, none⟩ (.int .i64 y.job)).setCell ⟨w.heap.size, 2, none⟩ (.int .i64 y.every)).setCell ⟨w.heap.size, 3, none⟩ (.int .i64 y.time)).setCell ⟨w.heap.size, 4, none⟩ (.int .i64 y.client)) = (w2.setCells w.heap.size 0 [.int .i64 y.kind, .int .i64 y.job, .int .i64 y.every, .int .i64 y.time, .int .i64 y.client]) from rfl]
       have hE : Onto w (w2.setCells w.heap.size 0 [.int .i64 y.kind, .int .i64 y.job, .int .i64 y.every, .int .i64 y.time, .int .i64 y.client]) := put_onto (by omega) h02
       have F : ∀ (j : Nat) v, [.int .i64 y.kind, .int .i64 y.job, .int .i64 y.every, .int .i64 y.time, .int .i64 y.client][j]? = some v → (w2.setCells w.heap.size 0 [.int .i64 y.kind, .int .i64 y.job, .int .i64 y.every, .int .i64 y.time, .int .i64 y.client]).cell? ⟨w.heap.size, j, none⟩ = some v := fun j v hv => put_in (w := w2) (b := w.heap.size) (vs := [.int .i64 y.kind, .int .i64 y.job, .int .i64 y.every, .int .i64 y.time, .int .i64 y.client]) (there5 y0b y1b y2b y3b y4b) hv
       generalize (w2.setCells w.heap.size 0 [.int .i64 y.kind, .int .i64 y.job, .int .i64 y.every, .int .i64 y.time, .int .i64 y.client]) = wf at F hE ⊢
       have z0 := F 0 _ rfl
       have z1 := F 1 _ rfl
       have z2 := F 2 _ rfl
       have z3 := F 3 _ rfl
       have z4 := F 4 _ rfl
       refine bodyPost_ret (v := .tuple #[.agg #[.int .i64 y.kind, .int .i64 y.job, .int .i64 y.every, .int .i64 y.time, .int .i64 y.client], .int .i64 0]) (by simp [results, Tryz.results106, go_sem, z0, z1, z2, z3, z4]) rfl ?_
       rw [HR.out]
       exact ⟨rfl, hE⟩
 · have hr := HR0.out
   rw [if_pos h0] at hr
   have HR := Lib.hid hr
   have hd : (q != 0) = true := by simpa using h0
   clear hr HR0 h0 hu1
   go_wp2_with fail
   rw [show (((((w1.setCell ⟨w.heap.size, 0, none⟩ (.int .i64 0)).setCell ⟨w.heap.size, 1, none⟩ (.int .i64 0)).setCell ⟨w.heap.size, 2, none⟩ (.int .i64 0)).setCell ⟨w.heap.size, 3, none⟩ (.int .i64 0)).setCell ⟨w.heap.size, 4, none⟩ (.int .i64 0)) = (w1.setCells w.heap.size 0 [.int .i64 0, .int .i64 0, .int .i64 0, .int .i64 0, .int .i64 0]) from rfl]
   have hE : Onto w (w1.setCells w.heap.size 0 [.int .i64 0, .int .i64 0, .int .i64 0, .int .i64 0, .int .i64 0]) := put_onto (by omega) h01
   have F : ∀ (j : Nat) v, [.int .i64 0, .int .i64 0, .int .i64 0, .int .i64 0, .int .i64 0][j]? = some v → (w1.setCells w.heap.size 0 [.int .i64 0, .int .i64 0, .int .i64 0, .int .i64 0, .int .i64 0]).cell? ⟨w.heap.size, j, none⟩ = some v := fun j v hv => put_in (w := w1) (b := w.heap.size) (vs := [.int .i64 0, .int .i64 0, .int .i64 0, .int .i64 0, .int .i64 0]) (there5 y0a y1a y2a y3a y4a) hv
   generalize (w1.setCells w.heap.size 0 [.int .i64 0, .int .i64 0, .int .i64 0, .int .i64 0, .int .i64 0]) = wf at F hE ⊢
   have z0 := F 0 _ rfl
   have z1 := F 1 _ rfl
   have z2 := F 2 _ rfl
   have z3 := F 3 _ rfl
   have z4 := F 4 _ rfl
   refine bodyPost_ret (v := .tuple #[.agg #[.int .i64 0, .int .i64 0, .int .i64 0, .int .i64 0, .int .i64 0], .int .i64 q]) (by simp [results, Tryz.results106, go_sem, z0, z1, z2, z3, z4]) rfl ?_
   rw [HR.out]
   exact ⟨rfl, hE⟩
end
section
set_option linter.unusedSimpArgs false
set_option linter.unusedVariables false
open Go.RowKit
def tailG : Nat → Nat → List Entry → Nat
 | _, a, [] => a
 | k, a, c :: l => tailG (k + 1) (if c.kind ≠ 4 then k + 1 else a) l
def tailF (cs : List Entry) : Nat := tailG 0 0 cs
theorem tailG_snoc (l : List Entry) (c : Entry) : ∀ (k a : Nat), tailG k a (l ++ [c]) = if c.kind ≠ 4 then k + l.length + 1 else tailG k a l := by
 induction l with
 | nil => intro k a; simp [tailG]
 | cons x l ih =>
   intro k a
   simp only [List.cons_append, tailG, ih, List.length_cons]
   split <;> first | rfl | omega
theorem tailF_take {cs : List Entry} {k : Nat} {x : Entry} (hx : cs[k]? = some x) : tailF (cs.take (k + 1)) = if x.kind ≠ 4 then k + 1 else tailF (cs.take k) := by
 obtain ⟨hk, rfl⟩ := List.getElem?_eq_some_iff.1 hx
 unfold tailF
 rw [List.take_succ_eq_append_getElem hk, tailG_snoc, List.length_take]
 split
 · omega
 · rfl
set_option maxHeartbeats 1000000 in
theorem USame_calls (ep ep' : Int) (A A' : Option Addr) (n c m d : Nat) (cs cs' : List Entry) (w : World) (h : S w 5 A n (cs.map encE)) (h' : S w 5 A' m (cs'.map encE)) (hn : n ≤ 9223372036854775807) :
    Calls Tryz.prog 17 #[.agg #[.int .i64 ep, .slice A n c], .agg #[.int .i64 ep', .slice A' m d]] w fun e w' => e = .returned (.bool (decide ((⟨ep, cs⟩ : Uni) = ⟨ep', cs'⟩))) ∧ Onto w w' := by
 have HN := Lib.hid hn
 clear hn
 by_cases hep : ep = ep'
 · have hd : (ep == ep') = true := by simpa using hep
   have hdec : decide (cs = cs') = decide ((⟨ep, cs⟩ : Uni) = ⟨ep', cs'⟩) := by subst hep; simp
   have HD := Lib.hid hdec
   clear hdec hep
   go_enter Tryz.func17, Tryz.ntmps17
   go_wp2_with fail
   refine Calls.mono (EqualE_calls A A' n m c d _ cs cs' _ ((h.new _).new _) ((h'.new _).new _) HN.out) ?_
   rintro e w' ⟨rfl, q, rfl⟩
   rw [HD.out]
   clear h h'
   go_wp2_with fail
   go_ret
   refine ⟨ret_bool (by simp), ?_⟩
   exact Onto.draws (((Below.refl _ _).alloc (Nat.le_refl _) _).alloc (by simp) _) q
 · have hd : (ep == ep') = false := by simpa using hep
   have hdec : decide ((⟨ep, cs⟩ : Uni) = ⟨ep', cs'⟩) = false := by simp [hep]
   rw [hdec]
   clear h h' hep hdec
   go_enter Tryz.func17, Tryz.ntmps17
   go_wp2_with fail
   go_ret
   exact ⟨rfl, by first | exact ((Below.refl _ _).alloc (Nat.le_refl _) _).alloc (by simp) _ | exact Onto.draws (((Below.refl _ _).alloc (Nat.le_refl _) _).alloc (by simp) _) _⟩
set_option maxHeartbeats 4000000 in
set_option maxRecDepth 100000 in
theorem UTail_calls (ep : Int) (A : Option Addr) (n c : Nat) (cs : List Entry) (w : World) (h : S w 5 A n (cs.map encE)) (hn : n ≤ 1000000000000) :
    Calls Tryz.prog 40 #[.agg #[.int .i64 ep, .slice A n c]] w fun e w' => e = .returned (.int .i64 (tailF cs : Nat)) ∧ Onto w w' := by
 have hl : cs.length = n := by have := h.len; simpa using this
 have HL := Lib.hid hl
 obtain ⟨fin, hfin⟩ : ∃ fin, fin = tailF cs := ⟨_, rfl⟩
 rw [← hfin]
 have HF := Lib.hid hfin
 clear hl hfin
 have q1 : (w.alloc (Obj.cells #[.int .i64 ep, .slice A n c] 44)).cell? ⟨w.heap.size, 1, none⟩ = some (.slice A n c) := by simp [go_sem]
 have h1 := h.new (Obj.cells #[.int .i64 ep, .slice A n c] 44)
 have h01 : Onto w (w.alloc (Obj.cells #[.int .i64 ep, .slice A n c] 44)) := (Below.refl _ _).alloc (Nat.le_refl _) _
 go_enter Tryz.func40, Tryz.ntmps40
 go_upto_region 1 with fail
 have hz : w.heap.size < (w.alloc (Obj.cells #[.int .i64 ep, .slice A n c] 44)).heap.size := by simp
 generalize w.alloc (Obj.cells #[.int .i64 ep, .slice A n c] 44) = w1 at *
 go_wp2_with fail
 go_loopw [3] (fun s wr => ∃ k : Nat, k ≤ n ∧ s = .int .i64 k ∧ Onto w1 wr ∧ Hid (fin = tailF (cs.take k))) (fun s _ => (intOf s).toNat)
 case atStart => exact ⟨n, Nat.le_refl _, rfl, Below.refl _ _, by show _ = _; rw [HF.out, List.take_of_length_le (by rw [HL.out]; omega)]⟩
 case round =>
  obtain ⟨k, hk, rfl, hbr, HT⟩ := hrel
  rcases Nat.eq_zero_or_pos k with rfl | hpos
  · have hf0 : fin = 0 := HT.out
    subst hf0
    go_wp2_with fail
    go_ret
    exact ⟨rfl, Onto.to h01 hbr⟩
  · obtain ⟨k', rfl⟩ : ∃ k', k = k' + 1 := ⟨k - 1, by omega⟩
    obtain ⟨b, off, x, rfl, hb, hx, c0, c1, c2, c3, c4⟩ := (S.onto h1 hbr).atE (i := k') (by omega)
    have q2 := cellB hbr q1
    have hz2 := World.block_lt_of_cell? _ _ q2
    simp only at hz2
    have HX := Lib.hid (tailF_take hx)
    have hkn : (k' : Int) < (n : Int) := by omega
    have hw : IntKind.i64.wrap (((k' + 1 : Nat) : Int) - 1) = (k' : Int) := by rw [IntKind.wrap_i64]; omega
    have hw' : wrap64 (((k' + 1 : Nat) : Int) - 1) = (k' : Int) := by unfold wrap64; omega
    clear hx
    by_cases h4 : x.kind ≠ 4
    · have hd : (x.kind != 4) = true := by simpa using h4
      have hst : fin = k' + 1 := by rw [HT.out, HX.out, if_pos h4]
      clear h4 HX HT
      subst hst
      go_wp2_with fail
      go_ret
      exact ⟨ret_int (by simp), Onto.to h01 hbr⟩
    · have hd : (x.kind != 4) = false := by simpa using h4
      have HST := Lib.hid (show fin = tailF (cs.take k') by rw [HT.out, HX.out, if_neg h4])
      clear h4
      go_wp2_with fail
      go_roundw
      case measure => simp [intOf] <;> omega
      case rel => exact ⟨k', by omega, by go_num, hbr, HST.out⟩
end
end Go.Proofs.YtmppkaoonncddaaGreatDoor
