/- A table of pointers to jobs, in a world. -/
import Derived.Test.YtbipmoehcmighaaLawT
import Derived.Test.YtbipmoehcmighaaSee
import Derived.Test.YtbipmoehcmighaaPut
import Derived.Test.YtbipmoehcmighaaRBook
import Derived.Test.YtbipmoehcmighaaApply
namespace Go.Proofs.Ytbipmoehcmighaa
set_option linter.unusedSimpArgs false
set_option linter.unusedVariables false
open Go.RowKit

def ptrT (o : Option Nat) : Value := .pointer (o.map fun b => ⟨b, 0, none⟩)
/-- Block T holds six pointers: to jobs as the table t says. -/
structure TabAt (w : World) (T : Nat) (t : Nat → Option Job) (tp : Nat → Option Nat) : Prop where
  ptr : ∀ i, i < 6 → w.cell? ⟨T, i, none⟩ = some (ptrT (tp i))
  frz : ∀ i, i < 6 → w.frozen? ⟨T, i, none⟩ = false
  non : ∀ i, i < 6 → (tp i = none ↔ t i = none)
  job : ∀ i b j, i < 6 → tp i = some b → t i = some j → b ≠ T ∧ w.cell? ⟨b, 0, none⟩ = some (.int .i64 j.id) ∧ w.cell? ⟨b, 1, none⟩ = some (.int .i64 j.every) ∧ w.cell? ⟨b, 2, none⟩ = some (.int .i64 j.next)
theorem TabAt.onto {w w' : World} {T : Nat} {t : Nat → Option Job} {tp : Nat → Option Nat} (h : TabAt w T t tp) (hb : Onto w w') : TabAt w' T t tp := by
  refine ⟨fun i hi => cellB hb (h.ptr i hi), fun i hi => frozB hb (h.ptr i hi) (h.frz i hi), h.non, fun i b j hi h1 h2 => ?_⟩
  obtain ⟨h3, h4, h5, h6⟩ := h.job i b j hi h1 h2
  exact ⟨h3, cellB hb h4, cellB hb h5, cellB hb h6⟩
theorem TabAt.draw {w : World} {T : Nat} {t : Nat → Option Job} {tp : Nat → Option Nat} (h : TabAt w T t tp) : TabAt w.drew T t tp := h.onto (Onto.draw (Onto.rfl' w))
theorem TabAt.zero {w : World} {ty : TypeId} : TabAt (w.alloc (Obj.cells #[.pointer none, .pointer none, .pointer none, .pointer none, .pointer none, .pointer none] ty)) w.heap.size (fun _ => none) (fun _ => none) := by
  refine ⟨fun i hi => ?_, fun i hi => by simp [go_sem], fun i hi => by simp, fun i b j hi h1 h2 => by cases h1⟩
  match i, hi with
  | 0, _ => simp [go_sem, ptrT]
  | 1, _ => simp [go_sem, ptrT]
  | 2, _ => simp [go_sem, ptrT]
  | 3, _ => simp [go_sem, ptrT]
  | 4, _ => simp [go_sem, ptrT]
  | 5, _ => simp [go_sem, ptrT]
theorem cellNe {w : World} {p q : Addr} {u : Value} (h : p ≠ q) : (w.setCell q u).cell? p = w.cell? p := World.cell?_setCell_other w _ _ _ (Ne.symm h)
theorem cellS {w : World} {z o : Nat} {u v : Value} {p : Addr} (h : w.cell? p = some v) (hz : p.block ≠ z) : (w.setCell ⟨z, o, none⟩ u).cell? p = some v :=
  (World.cell?_setCell_other w _ _ _ (fun e => hz (by rw [← e]))).trans h
/-- A pointer is put into the table. -/
theorem TabAt.put {w : World} {T : Nat} {t : Nat → Option Job} {tp : Nat → Option Nat} (h : TabAt w T t tp) {k : Nat} (hk : k < 6) {o : Option Nat} {oj : Option Job} (hn : o = none ↔ oj = none)
    (hj : ∀ b j, o = some b → oj = some j → b ≠ T ∧ w.cell? ⟨b, 0, none⟩ = some (.int .i64 j.id) ∧ w.cell? ⟨b, 1, none⟩ = some (.int .i64 j.every) ∧ w.cell? ⟨b, 2, none⟩ = some (.int .i64 j.next)) :
    TabAt (w.setCell ⟨T, k, none⟩ (ptrT o)) T (updT t k oj) (fun i => if i = k then o else tp i) := by
  refine ⟨fun i hi => ?_, fun i hi => by simpa using h.frz i hi, fun i hi => ?_, fun i b j hi h1 h2 => ?_⟩
  · by_cases e : i = k
    · subst e
      rw [if_pos rfl]
      exact World.cell?_setCell_same w _ _ (h.ptr i hi)
    · rw [if_neg e, cellNe (by intro e'; injection e' with _ e2 _; exact e e2)]
      exact h.ptr i hi
  · by_cases e : i = k
    · subst e; rw [if_pos rfl, updT_same]; exact hn
    · rw [if_neg e, updT_other _ _ e]; exact h.non i hi
  · by_cases e : i = k
    · subst e
      rw [if_pos rfl] at h1; rw [updT_same] at h2
      obtain ⟨h3, h4, h5, h6⟩ := hj b j h1 h2
      exact ⟨h3, by rw [cellNe (by intro e; injection e; contradiction)]; exact h4, by rw [cellNe (by intro e; injection e; contradiction)]; exact h5, by rw [cellNe (by intro e; injection e; contradiction)]; exact h6⟩
    · rw [if_neg e] at h1; rw [updT_other _ _ e] at h2
      obtain ⟨h3, h4, h5, h6⟩ := h.job i b j hi h1 h2
      exact ⟨h3, by rw [cellNe (by intro e; injection e; contradiction)]; exact h4, by rw [cellNe (by intro e; injection e; contradiction)]; exact h5, by rw [cellNe (by intro e; injection e; contradiction)]; exact h6⟩
theorem TabAt.lt {w : World} {T : Nat} {t : Nat → Option Job} {tp : Nat → Option Nat} (h : TabAt w T t tp) {i b : Nat} (hi : i < 6) (h1 : tp i = some b) : b < w.heap.size := by
  cases ht : t i with
  | none => rw [(h.non i hi).2 ht] at h1; cases h1
  | some j => exact World.block_lt_of_cell? w _ (h.job i b j hi h1 ht).2.1
/-- A store elsewhere. -/
theorem TabAt.off {w : World} {T : Nat} {t : Nat → Option Job} {tp : Nat → Option Nat} (h : TabAt w T t tp) {z o : Nat} (hT : T ≠ z) (hz : ∀ i b, i < 6 → tp i = some b → b ≠ z) (u : Value) : TabAt (w.setCell ⟨z, o, none⟩ u) T t tp := by
  refine ⟨fun i hi => ?_, fun i hi => by simpa using h.frz i hi, h.non, fun i b j hi h1 h2 => ?_⟩
  · rw [cellNe (by intro e; injection e; contradiction)]; exact h.ptr i hi
  · have := hz i b hi h1
    obtain ⟨h3, h4, h5, h6⟩ := h.job i b j hi h1 h2
    exact ⟨h3, by rw [cellNe (by intro e; injection e; contradiction)]; exact h4, by rw [cellNe (by intro e; injection e; contradiction)]; exact h5, by rw [cellNe (by intro e; injection e; contradiction)]; exact h6⟩
/-- The document's switch: the table and what was rung. -/
def tab2 (b : Book) (x : Entry) : Nat → Option Job :=
  let t := tabT (fun _ => none) b.jobs
  if x.kind = 1 ∧ t x.job.toNat = none then updT t x.job.toNat (some ⟨x.job, x.every, x.time⟩)
  else if x.kind = 2 then updT t x.job.toNat none
  else match t x.job.toNat with
    | some j => if x.kind = 3 ∧ j.next = x.time ∧ b.rung.length < 60 then updT t x.job.toNat (some ⟨x.job, j.every, x.time + j.every⟩) else t
    | none => t
def rung2 (b : Book) (x : Entry) : List Rung :=
  match tabT (fun _ => none) b.jobs x.job.toNat with
    | some j => if x.kind = 3 ∧ j.next = x.time ∧ b.rung.length < 60 then b.rung ++ [⟨x.job, x.time, x.client⟩] else b.rung
    | none => b.rung
theorem stepT_tab (b : Book) (x : Entry) : stepT b x = ⟨rowsT (tab2 b x) 6, rung2 b x⟩ := by
  unfold stepT tab2 rung2
  dsimp only
  cases tabT (fun _ => none) b.jobs x.job.toNat with
  | none =>
    dsimp only
    split
    · rfl
    · split <;> rfl
  | some j =>
    dsimp only
    simp only [reduceCtorEq, and_false, if_false]
    split
    · rename_i h
      rw [if_neg (by omega : ¬ (x.kind = 3 ∧ _))]
    · split <;> rfl
/-- Where the document's Applied stands: the table in block T, what comes of it in block O. -/
structure Sw (w : World) (T O : Nat) (t : Nat → Option Job) (rg : List Rung) (wx : World) (tp : Nat → Option Nat) (A : Option Addr) (n c : Nat) : Prop where
  tab : TabAt wx T t tp
  nb : ∀ i z, i < 6 → tp i = some z → z ≠ O
  o0 : wx.cell? ⟨O, 0, none⟩ = some (.slice none 0 0)
  o1 : wx.cell? ⟨O, 1, none⟩ = some (.slice A n c)
  fo0 : wx.frozen? ⟨O, 0, none⟩ = false
  fo1 : wx.frozen? ⟨O, 1, none⟩ = false
  s : S wx 3 A n (rg.map encR)
  fresh : Fresh T A
  le : n ≤ c
  offO : OffN n O A
  offT : OffN n T A
  r0 : wx.cell? ⟨w.heap.size + 2, 0, none⟩ = some (.slice none 0 0)
  r1 : wx.cell? ⟨w.heap.size + 2, 1, none⟩ = some (.slice none 0 0)
  fr0 : wx.frozen? ⟨w.heap.size + 2, 0, none⟩ = false
  fr1 : wx.frozen? ⟨w.heap.size + 2, 1, none⟩ = false
  on : Onto w wx
  wT : w.heap.size + 2 < T
  TO : T < O
section
variable {w w1 w2 : World} {T O : Nat} {t : Nat → Option Job} {rg : List Rung} {tp : Nat → Option Nat} {A : Option Addr} {n c : Nat}
theorem Sw.onto (h : Sw w T O t rg w1 tp A n c) (hb : Onto w1 w2) : Sw w T O t rg w2 tp A n c :=
  ⟨h.tab.onto hb, h.nb, cellB hb h.o0, cellB hb h.o1, frozB hb h.o0 h.fo0, frozB hb h.o1 h.fo1, S.onto h.s hb, h.fresh, h.le, h.offO, h.offT, cellB hb h.r0, cellB hb h.r1, frozB hb h.r0 h.fr0, frozB hb h.r1 h.fr1, h.on.to hb, h.wT, h.TO⟩
theorem Sw.put (h : Sw w T O t rg w1 tp A n c) {k : Nat} (hk : k < 6) {o : Option Nat} {oj : Option Job} (hn : o = none ↔ oj = none) (hO : ∀ z, o = some z → z ≠ O)
    (hj : ∀ b j, o = some b → oj = some j → b ≠ T ∧ w1.cell? ⟨b, 0, none⟩ = some (.int .i64 j.id) ∧ w1.cell? ⟨b, 1, none⟩ = some (.int .i64 j.every) ∧ w1.cell? ⟨b, 2, none⟩ = some (.int .i64 j.next)) :
    Sw w T O (updT t k oj) rg (w1.setCell ⟨T, k, none⟩ (ptrT o)) (fun i => if i = k then o else tp i) A n c := by
  have h1 := h.wT; have h2 := h.TO
  refine ⟨h.tab.put hk hn hj, fun i z hi hz => ?_, cellS h.o0 (by simp only; omega), cellS h.o1 (by simp only; omega), by simpa using h.fo0, by simpa using h.fo1, S.off h.s (p := ⟨T, k, none⟩) h.offT _, h.fresh, h.le, h.offO, h.offT,
    cellS h.r0 (by simp only; omega), cellS h.r1 (by simp only; omega), by simpa using h.fr0, by simpa using h.fr1, h.on.put (p := ⟨T, k, none⟩) (by simp only; omega) _, h1, h2⟩
  by_cases e : i = k
  · rw [if_pos e] at hz; exact hO z hz
  · rw [if_neg e] at hz; exact h.nb i z hi hz
theorem Sw.rung (h : Sw w T O t rg w1 tp A n c) {A' : Option Addr} {n' c' : Nat} {rg' : List Rung} (s : S w1 3 A' n' (rg'.map encR)) (fr : Fresh T A') (le : n' ≤ c') (oO : OffN n' O A') (oT : OffN n' T A') :
    Sw w T O t rg' (w1.setCell ⟨O, 1, none⟩ (.slice A' n' c')) tp A' n' c' := by
  have h1 := h.wT; have h2 := h.TO
  refine ⟨h.tab.off (by omega) h.nb _, h.nb, ?_, World.cell?_setCell_same w1 _ _ h.o1, by simpa using h.fo0, by simpa using h.fo1, S.off s (p := ⟨O, 1, none⟩) oO _, fr, le, oO, oT,
    cellS h.r0 (by simp only; omega), cellS h.r1 (by simp only; omega), by simpa using h.fr0, by simpa using h.fr1, h.on.put (p := ⟨O, 1, none⟩) (by simp only; omega) _, h1, h2⟩
  rw [cellNe (by intro e; injection e with _ e2 _; cases e2)]
  exact h.o0
theorem TabAt.grow {w w' : World} {T : Nat} {t : Nat → Option Job} {tp : Nat → Option Nat} {row : Option Nat} (h : TabAt w T t tp) (hg : w.grownBy w' row) (hT : some T ≠ row) (hz : ∀ i b, i < 6 → tp i = some b → some b ≠ row) : TabAt w' T t tp := by
  refine ⟨fun i hi => grow_cell hg (h.ptr i hi) hT, fun i hi => grow_froz hg (h.ptr i hi) (h.frz i hi) hT, h.non, fun i b j hi h1 h2 => ?_⟩
  obtain ⟨h3, h4, h5, h6⟩ := h.job i b j hi h1 h2
  have hb := hz i b hi h1
  exact ⟨h3, grow_cell hg h4 hb, grow_cell hg h5 hb, grow_cell hg h6 hb⟩
theorem Sw.grew (h : Sw w T O t rg w1 tp A n c) {row : Option Nat} (hg : w1.grownBy w2 row) (hT : some T ≠ row) (hO : some O ≠ row) (hR : some (w.heap.size + 2) ≠ row) (hz : ∀ i b, i < 6 → tp i = some b → some b ≠ row) (hon : Onto w w2)
    {A' : Option Addr} {n' c' : Nat} {rg' : List Rung} (s : S w2 3 A' n' (rg'.map encR)) (fr : Fresh T A') (le : n' ≤ c') (oO : OffN n' O A') (oT : OffN n' T A') :
    Sw w T O t rg' (w2.setCell ⟨O, 1, none⟩ (.slice A' n' c')) tp A' n' c' := by
  have h1 := h.wT; have h2 := h.TO
  refine ⟨(h.tab.grow hg hT hz).off (by omega) h.nb _, h.nb, ?_, World.cell?_setCell_same w2 _ _ (grow_cell hg h.o1 hO), by simpa using grow_froz hg h.o0 h.fo0 hO, by simpa using grow_froz hg h.o1 h.fo1 hO, S.off s (p := ⟨O, 1, none⟩) oO _, fr, le, oO, oT,
    cellS (grow_cell hg h.r0 hR) (by simp only; omega), cellS (grow_cell hg h.r1 hR) (by simp only; omega), by simpa using grow_froz hg h.r0 h.fr0 hR, by simpa using grow_froz hg h.r1 h.fr1 hR, hon.put (p := ⟨O, 1, none⟩) (by simp only; omega) _, h1, h2⟩
  rw [cellNe (by intro e; injection e with _ e2 _; cases e2)]
  exact grow_cell hg h.o0 hO
end
theorem Sl.growB {w w' : World} {B k n : Nat} {A : Option Addr} {rows : List (List Value)} {row : Option Nat} (h : Sl w B k A n rows) (hg : w.grownBy w' row) (hr : ∀ z, z < B → some z ≠ row) (hB : B ≤ w.heap.size) : Sl w' B k A n rows :=
  h.keep fun p hp => World.cell?_of_block (hg.block p.block (by omega) (hr _ hp))
theorem Sl.unitJ {w : World} {t : TypeId} (x : Job) : Sl (w.alloc (Obj.cells #[.int .i64 x.id, .int .i64 x.every, .int .i64 x.next] t)) (w.heap.size + 1) 3 (some ⟨w.heap.size, 0, none⟩) 1 [encJ x] := by
  have := Sl.block (k := 3) (w := w.alloc (Obj.cells #[.int .i64 x.id, .int .i64 x.every, .int .i64 x.next] t)) [encJ x] (hNew rfl) (by simp [encJ]) (by rfl)
  simpa using this
end Go.Proofs.Ytbipmoehcmighaa
