/- The walk of the law ClientSays. -/
import Derived.Test.YtbipmoehcmighaaRing2
import Derived.Test.YtbipmoehcmighaaHeard
namespace Go.Proofs.Ytbipmoehcmighaa
set_option linter.unusedSimpArgs false
set_option linter.unusedVariables false
open Go.RowKit

def FewB (b : Book) : Prop := b.jobs.length ≤ 6 ∧ b.rung.length ≤ 60
theorem FewB.none : FewB Book.none := by simp [FewB, Book.none]
theorem FewB.of {b : Book} (h : GoodB b) : FewB b := ⟨h.nj, h.nr⟩
theorem wantCl_few (c : Cli) (y : Entry) : FewB (wantCl c y).1.b := by
  rw [wantCl_alt]
  split
  · exact FewB.none
  · rename_i h
    have hb := FewB.of (checkCl_book (c := c) (by simpa using h))
    (repeat' split) <;> first | exact FewB.none | exact hb
theorem placeCl_few (c : Cli) (v : Int) : FewB (placeCl c v).1.b := by
  unfold placeCl
  split
  · exact FewB.none
  · rename_i h
    have hb := FewB.of (checkCl_book (c := c) (by simpa using h))
    (repeat' split) <;> first | exact FewB.none | exact hb
theorem fillCl_few (c : Cli) (v : Int) : FewB (fillCl c v).1.b := by
  rw [fillCl_alt]
  split
  · exact FewB.none
  · rename_i h
    have hb := FewB.of (checkCl_book (c := c) (by simpa using h))
    (repeat' split) <;> first | exact FewB.none | exact hb
theorem ringCl_few (c : Cli) (me job t : Int) : FewB (ringCl c me job t).1.b := by
  unfold ringCl
  split
  · exact FewB.none
  · split
    · exact FewB.none
    · split
      · exact FewB.none
      · unfold ringM
        split
        · split
          · exact wantCl_few _ _
          · exact FewB.none
        · exact FewB.none

set_option maxHeartbeats 8000000 in
set_option maxRecDepth 100000 in
theorem ClientSays_lit (ep dg at_ ln pl : Int) (x y : Entry) (A A' : Option Addr) (n c m d : Nat) (b : Book) (v me job t : Int) (ep2 dg2 at2 ln2 pl2 : Int) (z : Entry) (G G' : Option Addr) (n' c' m' d' : Nat) (b2 : Book) (w : World) (sA : S w 3 A n (b.jobs.map encJ)) (sB : S w 3 A' m (b.rung.map encR)) (sG : S w 3 G n' (b2.jobs.map encJ)) (sH : S w 3 G' m' (b2.rung.map encR)) (hn : n ≤ 9223372036854775807) (hm : m ≤ 9223372036854775807) :
    Calls Try.prog 10 #[.agg #[.int .i64 ep, .int .i64 dg, .int .i64 x.kind, .int .i64 x.job, .int .i64 x.every, .int .i64 x.time, .int .i64 x.client, .int .i64 at_, .int .i64 ln, .int .i64 pl, .slice A n c, .slice A' m d], .agg #[.int .i64 y.kind, .int .i64 y.job, .int .i64 y.every, .int .i64 y.time, .int .i64 y.client], .int .i64 v, .int .i64 me, .int .i64 job, .int .i64 t, .agg #[.int .i64 ep2, .int .i64 dg2, .int .i64 z.kind, .int .i64 z.job, .int .i64 z.every, .int .i64 z.time, .int .i64 z.client, .int .i64 at2, .int .i64 ln2, .int .i64 pl2, .slice G n' c', .slice G' m' d']] w fun e w' => e = .returned (.bool true) ∧ Onto w w' := by
  have HN := Lib.hid hn; have HM := Lib.hid hm
  clear hn hm
  obtain ⟨rq, hrw⟩ : ∃ rq, rq = wantCl ⟨ep, dg, x, at_, ln, pl, b⟩ y := ⟨_, rfl⟩
  have frw := wantCl_few ⟨ep, dg, x, at_, ln, pl, b⟩ y
  rw [← hrw] at frw
  have Hrw := Lib.hid hrw; have Frw := Lib.hid frw
  clear hrw frw
  obtain ⟨rr, hrr⟩ : ∃ rr, rr = ringCl ⟨ep, dg, x, at_, ln, pl, b⟩ me job t := ⟨_, rfl⟩
  have frr := ringCl_few ⟨ep, dg, x, at_, ln, pl, b⟩ me job t
  rw [← hrr] at frr
  have Hrr := Lib.hid hrr; have Frr := Lib.hid frr
  clear hrr frr
  obtain ⟨rp, hrp⟩ : ∃ rp, rp = placeCl ⟨ep, dg, x, at_, ln, pl, b⟩ v := ⟨_, rfl⟩
  have frp := placeCl_few ⟨ep, dg, x, at_, ln, pl, b⟩ v
  rw [← hrp] at frp
  have Hrp := Lib.hid hrp; have Frp := Lib.hid frp
  clear hrp frp
  obtain ⟨rf, hrf⟩ : ∃ rf, rf = fillCl ⟨ep, dg, x, at_, ln, pl, b⟩ v := ⟨_, rfl⟩
  have frf := fillCl_few ⟨ep, dg, x, at_, ln, pl, b⟩ v
  rw [← hrf] at frf
  have Hrf := Lib.hid hrf; have Frf := Lib.hid frf
  clear hrf frf
  go_enter Try.func10, Try.ntmps10
  go_upto_region 1 with fail
  have hon : Onto w (((w.alloc (Obj.cells #[.int .i64 ep, .int .i64 dg, .int .i64 x.kind, .int .i64 x.job, .int .i64 x.every, .int .i64 x.time, .int .i64 x.client, .int .i64 at_, .int .i64 ln, .int .i64 pl, .slice A n c, .slice A' m d] 56)).alloc (Obj.cells #[.int .i64 y.kind, .int .i64 y.job, .int .i64 y.every, .int .i64 y.time, .int .i64 y.client] 24)).alloc (Obj.cells #[.int .i64 ep2, .int .i64 dg2, .int .i64 z.kind, .int .i64 z.job, .int .i64 z.every, .int .i64 z.time, .int .i64 z.client, .int .i64 at2, .int .i64 ln2, .int .i64 pl2, .slice G n' c', .slice G' m' d'] 56)) := (((Onto.rfl' w).new _).new _).new _
  replace sA := ((sA.new (Obj.cells #[.int .i64 ep, .int .i64 dg, .int .i64 x.kind, .int .i64 x.job, .int .i64 x.every, .int .i64 x.time, .int .i64 x.client, .int .i64 at_, .int .i64 ln, .int .i64 pl, .slice A n c, .slice A' m d] 56)).new (Obj.cells #[.int .i64 y.kind, .int .i64 y.job, .int .i64 y.every, .int .i64 y.time, .int .i64 y.client] 24)).new (Obj.cells #[.int .i64 ep2, .int .i64 dg2, .int .i64 z.kind, .int .i64 z.job, .int .i64 z.every, .int .i64 z.time, .int .i64 z.client, .int .i64 at2, .int .i64 ln2, .int .i64 pl2, .slice G n' c', .slice G' m' d'] 56)
  replace sB := ((sB.new (Obj.cells #[.int .i64 ep, .int .i64 dg, .int .i64 x.kind, .int .i64 x.job, .int .i64 x.every, .int .i64 x.time, .int .i64 x.client, .int .i64 at_, .int .i64 ln, .int .i64 pl, .slice A n c, .slice A' m d] 56)).new (Obj.cells #[.int .i64 y.kind, .int .i64 y.job, .int .i64 y.every, .int .i64 y.time, .int .i64 y.client] 24)).new (Obj.cells #[.int .i64 ep2, .int .i64 dg2, .int .i64 z.kind, .int .i64 z.job, .int .i64 z.every, .int .i64 z.time, .int .i64 z.client, .int .i64 at2, .int .i64 ln2, .int .i64 pl2, .slice G n' c', .slice G' m' d'] 56)
  replace sG := ((sG.new (Obj.cells #[.int .i64 ep, .int .i64 dg, .int .i64 x.kind, .int .i64 x.job, .int .i64 x.every, .int .i64 x.time, .int .i64 x.client, .int .i64 at_, .int .i64 ln, .int .i64 pl, .slice A n c, .slice A' m d] 56)).new (Obj.cells #[.int .i64 y.kind, .int .i64 y.job, .int .i64 y.every, .int .i64 y.time, .int .i64 y.client] 24)).new (Obj.cells #[.int .i64 ep2, .int .i64 dg2, .int .i64 z.kind, .int .i64 z.job, .int .i64 z.every, .int .i64 z.time, .int .i64 z.client, .int .i64 at2, .int .i64 ln2, .int .i64 pl2, .slice G n' c', .slice G' m' d'] 56)
  replace sH := ((sH.new (Obj.cells #[.int .i64 ep, .int .i64 dg, .int .i64 x.kind, .int .i64 x.job, .int .i64 x.every, .int .i64 x.time, .int .i64 x.client, .int .i64 at_, .int .i64 ln, .int .i64 pl, .slice A n c, .slice A' m d] 56)).new (Obj.cells #[.int .i64 y.kind, .int .i64 y.job, .int .i64 y.every, .int .i64 y.time, .int .i64 y.client] 24)).new (Obj.cells #[.int .i64 ep2, .int .i64 dg2, .int .i64 z.kind, .int .i64 z.job, .int .i64 z.every, .int .i64 z.time, .int .i64 z.client, .int .i64 at2, .int .i64 ln2, .int .i64 pl2, .slice G n' c', .slice G' m' d'] 56)
  have c0 : (((w.alloc (Obj.cells #[.int .i64 ep, .int .i64 dg, .int .i64 x.kind, .int .i64 x.job, .int .i64 x.every, .int .i64 x.time, .int .i64 x.client, .int .i64 at_, .int .i64 ln, .int .i64 pl, .slice A n c, .slice A' m d] 56)).alloc (Obj.cells #[.int .i64 y.kind, .int .i64 y.job, .int .i64 y.every, .int .i64 y.time, .int .i64 y.client] 24)).alloc (Obj.cells #[.int .i64 ep2, .int .i64 dg2, .int .i64 z.kind, .int .i64 z.job, .int .i64 z.every, .int .i64 z.time, .int .i64 z.client, .int .i64 at2, .int .i64 ln2, .int .i64 pl2, .slice G n' c', .slice G' m' d'] 56)).cell? ⟨w.heap.size, 0, none⟩ = some (.int .i64 ep) := by simp [go_sem]
  have c1 : (((w.alloc (Obj.cells #[.int .i64 ep, .int .i64 dg, .int .i64 x.kind, .int .i64 x.job, .int .i64 x.every, .int .i64 x.time, .int .i64 x.client, .int .i64 at_, .int .i64 ln, .int .i64 pl, .slice A n c, .slice A' m d] 56)).alloc (Obj.cells #[.int .i64 y.kind, .int .i64 y.job, .int .i64 y.every, .int .i64 y.time, .int .i64 y.client] 24)).alloc (Obj.cells #[.int .i64 ep2, .int .i64 dg2, .int .i64 z.kind, .int .i64 z.job, .int .i64 z.every, .int .i64 z.time, .int .i64 z.client, .int .i64 at2, .int .i64 ln2, .int .i64 pl2, .slice G n' c', .slice G' m' d'] 56)).cell? ⟨w.heap.size, 1, none⟩ = some (.int .i64 dg) := by simp [go_sem]
  have c2 : (((w.alloc (Obj.cells #[.int .i64 ep, .int .i64 dg, .int .i64 x.kind, .int .i64 x.job, .int .i64 x.every, .int .i64 x.time, .int .i64 x.client, .int .i64 at_, .int .i64 ln, .int .i64 pl, .slice A n c, .slice A' m d] 56)).alloc (Obj.cells #[.int .i64 y.kind, .int .i64 y.job, .int .i64 y.every, .int .i64 y.time, .int .i64 y.client] 24)).alloc (Obj.cells #[.int .i64 ep2, .int .i64 dg2, .int .i64 z.kind, .int .i64 z.job, .int .i64 z.every, .int .i64 z.time, .int .i64 z.client, .int .i64 at2, .int .i64 ln2, .int .i64 pl2, .slice G n' c', .slice G' m' d'] 56)).cell? ⟨w.heap.size, 2, none⟩ = some (.int .i64 x.kind) := by simp [go_sem]
  have c3 : (((w.alloc (Obj.cells #[.int .i64 ep, .int .i64 dg, .int .i64 x.kind, .int .i64 x.job, .int .i64 x.every, .int .i64 x.time, .int .i64 x.client, .int .i64 at_, .int .i64 ln, .int .i64 pl, .slice A n c, .slice A' m d] 56)).alloc (Obj.cells #[.int .i64 y.kind, .int .i64 y.job, .int .i64 y.every, .int .i64 y.time, .int .i64 y.client] 24)).alloc (Obj.cells #[.int .i64 ep2, .int .i64 dg2, .int .i64 z.kind, .int .i64 z.job, .int .i64 z.every, .int .i64 z.time, .int .i64 z.client, .int .i64 at2, .int .i64 ln2, .int .i64 pl2, .slice G n' c', .slice G' m' d'] 56)).cell? ⟨w.heap.size, 3, none⟩ = some (.int .i64 x.job) := by simp [go_sem]
  have c4 : (((w.alloc (Obj.cells #[.int .i64 ep, .int .i64 dg, .int .i64 x.kind, .int .i64 x.job, .int .i64 x.every, .int .i64 x.time, .int .i64 x.client, .int .i64 at_, .int .i64 ln, .int .i64 pl, .slice A n c, .slice A' m d] 56)).alloc (Obj.cells #[.int .i64 y.kind, .int .i64 y.job, .int .i64 y.every, .int .i64 y.time, .int .i64 y.client] 24)).alloc (Obj.cells #[.int .i64 ep2, .int .i64 dg2, .int .i64 z.kind, .int .i64 z.job, .int .i64 z.every, .int .i64 z.time, .int .i64 z.client, .int .i64 at2, .int .i64 ln2, .int .i64 pl2, .slice G n' c', .slice G' m' d'] 56)).cell? ⟨w.heap.size, 4, none⟩ = some (.int .i64 x.every) := by simp [go_sem]
  have c5 : (((w.alloc (Obj.cells #[.int .i64 ep, .int .i64 dg, .int .i64 x.kind, .int .i64 x.job, .int .i64 x.every, .int .i64 x.time, .int .i64 x.client, .int .i64 at_, .int .i64 ln, .int .i64 pl, .slice A n c, .slice A' m d] 56)).alloc (Obj.cells #[.int .i64 y.kind, .int .i64 y.job, .int .i64 y.every, .int .i64 y.time, .int .i64 y.client] 24)).alloc (Obj.cells #[.int .i64 ep2, .int .i64 dg2, .int .i64 z.kind, .int .i64 z.job, .int .i64 z.every, .int .i64 z.time, .int .i64 z.client, .int .i64 at2, .int .i64 ln2, .int .i64 pl2, .slice G n' c', .slice G' m' d'] 56)).cell? ⟨w.heap.size, 5, none⟩ = some (.int .i64 x.time) := by simp [go_sem]
  have c6 : (((w.alloc (Obj.cells #[.int .i64 ep, .int .i64 dg, .int .i64 x.kind, .int .i64 x.job, .int .i64 x.every, .int .i64 x.time, .int .i64 x.client, .int .i64 at_, .int .i64 ln, .int .i64 pl, .slice A n c, .slice A' m d] 56)).alloc (Obj.cells #[.int .i64 y.kind, .int .i64 y.job, .int .i64 y.every, .int .i64 y.time, .int .i64 y.client] 24)).alloc (Obj.cells #[.int .i64 ep2, .int .i64 dg2, .int .i64 z.kind, .int .i64 z.job, .int .i64 z.every, .int .i64 z.time, .int .i64 z.client, .int .i64 at2, .int .i64 ln2, .int .i64 pl2, .slice G n' c', .slice G' m' d'] 56)).cell? ⟨w.heap.size, 6, none⟩ = some (.int .i64 x.client) := by simp [go_sem]
  have c7 : (((w.alloc (Obj.cells #[.int .i64 ep, .int .i64 dg, .int .i64 x.kind, .int .i64 x.job, .int .i64 x.every, .int .i64 x.time, .int .i64 x.client, .int .i64 at_, .int .i64 ln, .int .i64 pl, .slice A n c, .slice A' m d] 56)).alloc (Obj.cells #[.int .i64 y.kind, .int .i64 y.job, .int .i64 y.every, .int .i64 y.time, .int .i64 y.client] 24)).alloc (Obj.cells #[.int .i64 ep2, .int .i64 dg2, .int .i64 z.kind, .int .i64 z.job, .int .i64 z.every, .int .i64 z.time, .int .i64 z.client, .int .i64 at2, .int .i64 ln2, .int .i64 pl2, .slice G n' c', .slice G' m' d'] 56)).cell? ⟨w.heap.size, 7, none⟩ = some (.int .i64 at_) := by simp [go_sem]
  have c8 : (((w.alloc (Obj.cells #[.int .i64 ep, .int .i64 dg, .int .i64 x.kind, .int .i64 x.job, .int .i64 x.every, .int .i64 x.time, .int .i64 x.client, .int .i64 at_, .int .i64 ln, .int .i64 pl, .slice A n c, .slice A' m d] 56)).alloc (Obj.cells #[.int .i64 y.kind, .int .i64 y.job, .int .i64 y.every, .int .i64 y.time, .int .i64 y.client] 24)).alloc (Obj.cells #[.int .i64 ep2, .int .i64 dg2, .int .i64 z.kind, .int .i64 z.job, .int .i64 z.every, .int .i64 z.time, .int .i64 z.client, .int .i64 at2, .int .i64 ln2, .int .i64 pl2, .slice G n' c', .slice G' m' d'] 56)).cell? ⟨w.heap.size, 8, none⟩ = some (.int .i64 ln) := by simp [go_sem]
  have c9 : (((w.alloc (Obj.cells #[.int .i64 ep, .int .i64 dg, .int .i64 x.kind, .int .i64 x.job, .int .i64 x.every, .int .i64 x.time, .int .i64 x.client, .int .i64 at_, .int .i64 ln, .int .i64 pl, .slice A n c, .slice A' m d] 56)).alloc (Obj.cells #[.int .i64 y.kind, .int .i64 y.job, .int .i64 y.every, .int .i64 y.time, .int .i64 y.client] 24)).alloc (Obj.cells #[.int .i64 ep2, .int .i64 dg2, .int .i64 z.kind, .int .i64 z.job, .int .i64 z.every, .int .i64 z.time, .int .i64 z.client, .int .i64 at2, .int .i64 ln2, .int .i64 pl2, .slice G n' c', .slice G' m' d'] 56)).cell? ⟨w.heap.size, 9, none⟩ = some (.int .i64 pl) := by simp [go_sem]
  have c10 : (((w.alloc (Obj.cells #[.int .i64 ep, .int .i64 dg, .int .i64 x.kind, .int .i64 x.job, .int .i64 x.every, .int .i64 x.time, .int .i64 x.client, .int .i64 at_, .int .i64 ln, .int .i64 pl, .slice A n c, .slice A' m d] 56)).alloc (Obj.cells #[.int .i64 y.kind, .int .i64 y.job, .int .i64 y.every, .int .i64 y.time, .int .i64 y.client] 24)).alloc (Obj.cells #[.int .i64 ep2, .int .i64 dg2, .int .i64 z.kind, .int .i64 z.job, .int .i64 z.every, .int .i64 z.time, .int .i64 z.client, .int .i64 at2, .int .i64 ln2, .int .i64 pl2, .slice G n' c', .slice G' m' d'] 56)).cell? ⟨w.heap.size, 10, none⟩ = some (.slice A n c) := by simp [go_sem]
  have c11 : (((w.alloc (Obj.cells #[.int .i64 ep, .int .i64 dg, .int .i64 x.kind, .int .i64 x.job, .int .i64 x.every, .int .i64 x.time, .int .i64 x.client, .int .i64 at_, .int .i64 ln, .int .i64 pl, .slice A n c, .slice A' m d] 56)).alloc (Obj.cells #[.int .i64 y.kind, .int .i64 y.job, .int .i64 y.every, .int .i64 y.time, .int .i64 y.client] 24)).alloc (Obj.cells #[.int .i64 ep2, .int .i64 dg2, .int .i64 z.kind, .int .i64 z.job, .int .i64 z.every, .int .i64 z.time, .int .i64 z.client, .int .i64 at2, .int .i64 ln2, .int .i64 pl2, .slice G n' c', .slice G' m' d'] 56)).cell? ⟨w.heap.size, 11, none⟩ = some (.slice A' m d) := by simp [go_sem]
  have e0 : (((w.alloc (Obj.cells #[.int .i64 ep, .int .i64 dg, .int .i64 x.kind, .int .i64 x.job, .int .i64 x.every, .int .i64 x.time, .int .i64 x.client, .int .i64 at_, .int .i64 ln, .int .i64 pl, .slice A n c, .slice A' m d] 56)).alloc (Obj.cells #[.int .i64 y.kind, .int .i64 y.job, .int .i64 y.every, .int .i64 y.time, .int .i64 y.client] 24)).alloc (Obj.cells #[.int .i64 ep2, .int .i64 dg2, .int .i64 z.kind, .int .i64 z.job, .int .i64 z.every, .int .i64 z.time, .int .i64 z.client, .int .i64 at2, .int .i64 ln2, .int .i64 pl2, .slice G n' c', .slice G' m' d'] 56)).cell? ⟨w.heap.size + 1, 0, none⟩ = some (.int .i64 y.kind) := by simp [go_sem]
  have e1 : (((w.alloc (Obj.cells #[.int .i64 ep, .int .i64 dg, .int .i64 x.kind, .int .i64 x.job, .int .i64 x.every, .int .i64 x.time, .int .i64 x.client, .int .i64 at_, .int .i64 ln, .int .i64 pl, .slice A n c, .slice A' m d] 56)).alloc (Obj.cells #[.int .i64 y.kind, .int .i64 y.job, .int .i64 y.every, .int .i64 y.time, .int .i64 y.client] 24)).alloc (Obj.cells #[.int .i64 ep2, .int .i64 dg2, .int .i64 z.kind, .int .i64 z.job, .int .i64 z.every, .int .i64 z.time, .int .i64 z.client, .int .i64 at2, .int .i64 ln2, .int .i64 pl2, .slice G n' c', .slice G' m' d'] 56)).cell? ⟨w.heap.size + 1, 1, none⟩ = some (.int .i64 y.job) := by simp [go_sem]
  have e2 : (((w.alloc (Obj.cells #[.int .i64 ep, .int .i64 dg, .int .i64 x.kind, .int .i64 x.job, .int .i64 x.every, .int .i64 x.time, .int .i64 x.client, .int .i64 at_, .int .i64 ln, .int .i64 pl, .slice A n c, .slice A' m d] 56)).alloc (Obj.cells #[.int .i64 y.kind, .int .i64 y.job, .int .i64 y.every, .int .i64 y.time, .int .i64 y.client] 24)).alloc (Obj.cells #[.int .i64 ep2, .int .i64 dg2, .int .i64 z.kind, .int .i64 z.job, .int .i64 z.every, .int .i64 z.time, .int .i64 z.client, .int .i64 at2, .int .i64 ln2, .int .i64 pl2, .slice G n' c', .slice G' m' d'] 56)).cell? ⟨w.heap.size + 1, 2, none⟩ = some (.int .i64 y.every) := by simp [go_sem]
  have e3 : (((w.alloc (Obj.cells #[.int .i64 ep, .int .i64 dg, .int .i64 x.kind, .int .i64 x.job, .int .i64 x.every, .int .i64 x.time, .int .i64 x.client, .int .i64 at_, .int .i64 ln, .int .i64 pl, .slice A n c, .slice A' m d] 56)).alloc (Obj.cells #[.int .i64 y.kind, .int .i64 y.job, .int .i64 y.every, .int .i64 y.time, .int .i64 y.client] 24)).alloc (Obj.cells #[.int .i64 ep2, .int .i64 dg2, .int .i64 z.kind, .int .i64 z.job, .int .i64 z.every, .int .i64 z.time, .int .i64 z.client, .int .i64 at2, .int .i64 ln2, .int .i64 pl2, .slice G n' c', .slice G' m' d'] 56)).cell? ⟨w.heap.size + 1, 3, none⟩ = some (.int .i64 y.time) := by simp [go_sem]
  have e4 : (((w.alloc (Obj.cells #[.int .i64 ep, .int .i64 dg, .int .i64 x.kind, .int .i64 x.job, .int .i64 x.every, .int .i64 x.time, .int .i64 x.client, .int .i64 at_, .int .i64 ln, .int .i64 pl, .slice A n c, .slice A' m d] 56)).alloc (Obj.cells #[.int .i64 y.kind, .int .i64 y.job, .int .i64 y.every, .int .i64 y.time, .int .i64 y.client] 24)).alloc (Obj.cells #[.int .i64 ep2, .int .i64 dg2, .int .i64 z.kind, .int .i64 z.job, .int .i64 z.every, .int .i64 z.time, .int .i64 z.client, .int .i64 at2, .int .i64 ln2, .int .i64 pl2, .slice G n' c', .slice G' m' d'] 56)).cell? ⟨w.heap.size + 1, 4, none⟩ = some (.int .i64 y.client) := by simp [go_sem]
  have g0 : (((w.alloc (Obj.cells #[.int .i64 ep, .int .i64 dg, .int .i64 x.kind, .int .i64 x.job, .int .i64 x.every, .int .i64 x.time, .int .i64 x.client, .int .i64 at_, .int .i64 ln, .int .i64 pl, .slice A n c, .slice A' m d] 56)).alloc (Obj.cells #[.int .i64 y.kind, .int .i64 y.job, .int .i64 y.every, .int .i64 y.time, .int .i64 y.client] 24)).alloc (Obj.cells #[.int .i64 ep2, .int .i64 dg2, .int .i64 z.kind, .int .i64 z.job, .int .i64 z.every, .int .i64 z.time, .int .i64 z.client, .int .i64 at2, .int .i64 ln2, .int .i64 pl2, .slice G n' c', .slice G' m' d'] 56)).cell? ⟨w.heap.size + 1 + 1, 0, none⟩ = some (.int .i64 ep2) := by simp [go_sem]
  have g1 : (((w.alloc (Obj.cells #[.int .i64 ep, .int .i64 dg, .int .i64 x.kind, .int .i64 x.job, .int .i64 x.every, .int .i64 x.time, .int .i64 x.client, .int .i64 at_, .int .i64 ln, .int .i64 pl, .slice A n c, .slice A' m d] 56)).alloc (Obj.cells #[.int .i64 y.kind, .int .i64 y.job, .int .i64 y.every, .int .i64 y.time, .int .i64 y.client] 24)).alloc (Obj.cells #[.int .i64 ep2, .int .i64 dg2, .int .i64 z.kind, .int .i64 z.job, .int .i64 z.every, .int .i64 z.time, .int .i64 z.client, .int .i64 at2, .int .i64 ln2, .int .i64 pl2, .slice G n' c', .slice G' m' d'] 56)).cell? ⟨w.heap.size + 1 + 1, 1, none⟩ = some (.int .i64 dg2) := by simp [go_sem]
  have g2 : (((w.alloc (Obj.cells #[.int .i64 ep, .int .i64 dg, .int .i64 x.kind, .int .i64 x.job, .int .i64 x.every, .int .i64 x.time, .int .i64 x.client, .int .i64 at_, .int .i64 ln, .int .i64 pl, .slice A n c, .slice A' m d] 56)).alloc (Obj.cells #[.int .i64 y.kind, .int .i64 y.job, .int .i64 y.every, .int .i64 y.time, .int .i64 y.client] 24)).alloc (Obj.cells #[.int .i64 ep2, .int .i64 dg2, .int .i64 z.kind, .int .i64 z.job, .int .i64 z.every, .int .i64 z.time, .int .i64 z.client, .int .i64 at2, .int .i64 ln2, .int .i64 pl2, .slice G n' c', .slice G' m' d'] 56)).cell? ⟨w.heap.size + 1 + 1, 2, none⟩ = some (.int .i64 z.kind) := by simp [go_sem]
  have g3 : (((w.alloc (Obj.cells #[.int .i64 ep, .int .i64 dg, .int .i64 x.kind, .int .i64 x.job, .int .i64 x.every, .int .i64 x.time, .int .i64 x.client, .int .i64 at_, .int .i64 ln, .int .i64 pl, .slice A n c, .slice A' m d] 56)).alloc (Obj.cells #[.int .i64 y.kind, .int .i64 y.job, .int .i64 y.every, .int .i64 y.time, .int .i64 y.client] 24)).alloc (Obj.cells #[.int .i64 ep2, .int .i64 dg2, .int .i64 z.kind, .int .i64 z.job, .int .i64 z.every, .int .i64 z.time, .int .i64 z.client, .int .i64 at2, .int .i64 ln2, .int .i64 pl2, .slice G n' c', .slice G' m' d'] 56)).cell? ⟨w.heap.size + 1 + 1, 3, none⟩ = some (.int .i64 z.job) := by simp [go_sem]
  have g4 : (((w.alloc (Obj.cells #[.int .i64 ep, .int .i64 dg, .int .i64 x.kind, .int .i64 x.job, .int .i64 x.every, .int .i64 x.time, .int .i64 x.client, .int .i64 at_, .int .i64 ln, .int .i64 pl, .slice A n c, .slice A' m d] 56)).alloc (Obj.cells #[.int .i64 y.kind, .int .i64 y.job, .int .i64 y.every, .int .i64 y.time, .int .i64 y.client] 24)).alloc (Obj.cells #[.int .i64 ep2, .int .i64 dg2, .int .i64 z.kind, .int .i64 z.job, .int .i64 z.every, .int .i64 z.time, .int .i64 z.client, .int .i64 at2, .int .i64 ln2, .int .i64 pl2, .slice G n' c', .slice G' m' d'] 56)).cell? ⟨w.heap.size + 1 + 1, 4, none⟩ = some (.int .i64 z.every) := by simp [go_sem]
  have g5 : (((w.alloc (Obj.cells #[.int .i64 ep, .int .i64 dg, .int .i64 x.kind, .int .i64 x.job, .int .i64 x.every, .int .i64 x.time, .int .i64 x.client, .int .i64 at_, .int .i64 ln, .int .i64 pl, .slice A n c, .slice A' m d] 56)).alloc (Obj.cells #[.int .i64 y.kind, .int .i64 y.job, .int .i64 y.every, .int .i64 y.time, .int .i64 y.client] 24)).alloc (Obj.cells #[.int .i64 ep2, .int .i64 dg2, .int .i64 z.kind, .int .i64 z.job, .int .i64 z.every, .int .i64 z.time, .int .i64 z.client, .int .i64 at2, .int .i64 ln2, .int .i64 pl2, .slice G n' c', .slice G' m' d'] 56)).cell? ⟨w.heap.size + 1 + 1, 5, none⟩ = some (.int .i64 z.time) := by simp [go_sem]
  have g6 : (((w.alloc (Obj.cells #[.int .i64 ep, .int .i64 dg, .int .i64 x.kind, .int .i64 x.job, .int .i64 x.every, .int .i64 x.time, .int .i64 x.client, .int .i64 at_, .int .i64 ln, .int .i64 pl, .slice A n c, .slice A' m d] 56)).alloc (Obj.cells #[.int .i64 y.kind, .int .i64 y.job, .int .i64 y.every, .int .i64 y.time, .int .i64 y.client] 24)).alloc (Obj.cells #[.int .i64 ep2, .int .i64 dg2, .int .i64 z.kind, .int .i64 z.job, .int .i64 z.every, .int .i64 z.time, .int .i64 z.client, .int .i64 at2, .int .i64 ln2, .int .i64 pl2, .slice G n' c', .slice G' m' d'] 56)).cell? ⟨w.heap.size + 1 + 1, 6, none⟩ = some (.int .i64 z.client) := by simp [go_sem]
  have g7 : (((w.alloc (Obj.cells #[.int .i64 ep, .int .i64 dg, .int .i64 x.kind, .int .i64 x.job, .int .i64 x.every, .int .i64 x.time, .int .i64 x.client, .int .i64 at_, .int .i64 ln, .int .i64 pl, .slice A n c, .slice A' m d] 56)).alloc (Obj.cells #[.int .i64 y.kind, .int .i64 y.job, .int .i64 y.every, .int .i64 y.time, .int .i64 y.client] 24)).alloc (Obj.cells #[.int .i64 ep2, .int .i64 dg2, .int .i64 z.kind, .int .i64 z.job, .int .i64 z.every, .int .i64 z.time, .int .i64 z.client, .int .i64 at2, .int .i64 ln2, .int .i64 pl2, .slice G n' c', .slice G' m' d'] 56)).cell? ⟨w.heap.size + 1 + 1, 7, none⟩ = some (.int .i64 at2) := by simp [go_sem]
  have g8 : (((w.alloc (Obj.cells #[.int .i64 ep, .int .i64 dg, .int .i64 x.kind, .int .i64 x.job, .int .i64 x.every, .int .i64 x.time, .int .i64 x.client, .int .i64 at_, .int .i64 ln, .int .i64 pl, .slice A n c, .slice A' m d] 56)).alloc (Obj.cells #[.int .i64 y.kind, .int .i64 y.job, .int .i64 y.every, .int .i64 y.time, .int .i64 y.client] 24)).alloc (Obj.cells #[.int .i64 ep2, .int .i64 dg2, .int .i64 z.kind, .int .i64 z.job, .int .i64 z.every, .int .i64 z.time, .int .i64 z.client, .int .i64 at2, .int .i64 ln2, .int .i64 pl2, .slice G n' c', .slice G' m' d'] 56)).cell? ⟨w.heap.size + 1 + 1, 8, none⟩ = some (.int .i64 ln2) := by simp [go_sem]
  have g9 : (((w.alloc (Obj.cells #[.int .i64 ep, .int .i64 dg, .int .i64 x.kind, .int .i64 x.job, .int .i64 x.every, .int .i64 x.time, .int .i64 x.client, .int .i64 at_, .int .i64 ln, .int .i64 pl, .slice A n c, .slice A' m d] 56)).alloc (Obj.cells #[.int .i64 y.kind, .int .i64 y.job, .int .i64 y.every, .int .i64 y.time, .int .i64 y.client] 24)).alloc (Obj.cells #[.int .i64 ep2, .int .i64 dg2, .int .i64 z.kind, .int .i64 z.job, .int .i64 z.every, .int .i64 z.time, .int .i64 z.client, .int .i64 at2, .int .i64 ln2, .int .i64 pl2, .slice G n' c', .slice G' m' d'] 56)).cell? ⟨w.heap.size + 1 + 1, 9, none⟩ = some (.int .i64 pl2) := by simp [go_sem]
  have g10 : (((w.alloc (Obj.cells #[.int .i64 ep, .int .i64 dg, .int .i64 x.kind, .int .i64 x.job, .int .i64 x.every, .int .i64 x.time, .int .i64 x.client, .int .i64 at_, .int .i64 ln, .int .i64 pl, .slice A n c, .slice A' m d] 56)).alloc (Obj.cells #[.int .i64 y.kind, .int .i64 y.job, .int .i64 y.every, .int .i64 y.time, .int .i64 y.client] 24)).alloc (Obj.cells #[.int .i64 ep2, .int .i64 dg2, .int .i64 z.kind, .int .i64 z.job, .int .i64 z.every, .int .i64 z.time, .int .i64 z.client, .int .i64 at2, .int .i64 ln2, .int .i64 pl2, .slice G n' c', .slice G' m' d'] 56)).cell? ⟨w.heap.size + 1 + 1, 10, none⟩ = some (.slice G n' c') := by simp [go_sem]
  have g11 : (((w.alloc (Obj.cells #[.int .i64 ep, .int .i64 dg, .int .i64 x.kind, .int .i64 x.job, .int .i64 x.every, .int .i64 x.time, .int .i64 x.client, .int .i64 at_, .int .i64 ln, .int .i64 pl, .slice A n c, .slice A' m d] 56)).alloc (Obj.cells #[.int .i64 y.kind, .int .i64 y.job, .int .i64 y.every, .int .i64 y.time, .int .i64 y.client] 24)).alloc (Obj.cells #[.int .i64 ep2, .int .i64 dg2, .int .i64 z.kind, .int .i64 z.job, .int .i64 z.every, .int .i64 z.time, .int .i64 z.client, .int .i64 at2, .int .i64 ln2, .int .i64 pl2, .slice G n' c', .slice G' m' d'] 56)).cell? ⟨w.heap.size + 1 + 1, 11, none⟩ = some (.slice G' m' d') := by simp [go_sem]
  change Code.wp _ _ _ _ (((w.alloc (Obj.cells #[.int .i64 ep, .int .i64 dg, .int .i64 x.kind, .int .i64 x.job, .int .i64 x.every, .int .i64 x.time, .int .i64 x.client, .int .i64 at_, .int .i64 ln, .int .i64 pl, .slice A n c, .slice A' m d] 56)).alloc (Obj.cells #[.int .i64 y.kind, .int .i64 y.job, .int .i64 y.every, .int .i64 y.time, .int .i64 y.client] 24)).alloc (Obj.cells #[.int .i64 ep2, .int .i64 dg2, .int .i64 z.kind, .int .i64 z.job, .int .i64 z.every, .int .i64 z.time, .int .i64 z.client, .int .i64 at2, .int .i64 ln2, .int .i64 pl2, .slice G n' c', .slice G' m' d'] 56))
  generalize (((w.alloc (Obj.cells #[.int .i64 ep, .int .i64 dg, .int .i64 x.kind, .int .i64 x.job, .int .i64 x.every, .int .i64 x.time, .int .i64 x.client, .int .i64 at_, .int .i64 ln, .int .i64 pl, .slice A n c, .slice A' m d] 56)).alloc (Obj.cells #[.int .i64 y.kind, .int .i64 y.job, .int .i64 y.every, .int .i64 y.time, .int .i64 y.client] 24)).alloc (Obj.cells #[.int .i64 ep2, .int .i64 dg2, .int .i64 z.kind, .int .i64 z.job, .int .i64 z.every, .int .i64 z.time, .int .i64 z.client, .int .i64 at2, .int .i64 ln2, .int .i64 pl2, .slice G n' c', .slice G' m' d'] 56)) = w0 at *
  go_wp2_with fail
  refine Calls.mono (ClWant_calls ep dg at_ ln pl x y A A' n c m d b _ sA sB) ?_
  rw [← Hrw.out]
  rintro e v1 ⟨X1, n1, k1, Y1, m1, d1, rfl, s1, t1, hb, _, _, _, _⟩
  replace c0 := cellB hb c0
  replace c1 := cellB hb c1
  replace c2 := cellB hb c2
  replace c3 := cellB hb c3
  replace c4 := cellB hb c4
  replace c5 := cellB hb c5
  replace c6 := cellB hb c6
  replace c7 := cellB hb c7
  replace c8 := cellB hb c8
  replace c9 := cellB hb c9
  replace c10 := cellB hb c10
  replace c11 := cellB hb c11
  replace e0 := cellB hb e0
  replace e1 := cellB hb e1
  replace e2 := cellB hb e2
  replace e3 := cellB hb e3
  replace e4 := cellB hb e4
  replace g0 := cellB hb g0
  replace g1 := cellB hb g1
  replace g2 := cellB hb g2
  replace g3 := cellB hb g3
  replace g4 := cellB hb g4
  replace g5 := cellB hb g5
  replace g6 := cellB hb g6
  replace g7 := cellB hb g7
  replace g8 := cellB hb g8
  replace g9 := cellB hb g9
  replace g10 := cellB hb g10
  replace g11 := cellB hb g11
  replace sA := S.onto sA hb
  replace sB := S.onto sB hb
  replace sG := S.onto sG hb
  replace sH := S.onto sH hb
  replace hon := Onto.to hon hb
  clear hb
  go_upto_region 2 with fail
  have haaw : w.heap.size ≤ v1.heap.size := hon.size
  have hcaa : w.heap.size < v1.heap.size := World.block_lt_of_cell? _ _ c0
  have heaa : w.heap.size + 1 < v1.heap.size := World.block_lt_of_cell? _ _ e0
  have hgaa : w.heap.size + 1 + 1 < v1.heap.size := World.block_lt_of_cell? _ _ g0
  have hbx : Onto v1 (v1.alloc (Obj.cells #[.int .i64 rq.1.epoch, .int .i64 rq.1.doing, .int .i64 rq.1.e.kind, .int .i64 rq.1.e.job, .int .i64 rq.1.e.every, .int .i64 rq.1.e.time, .int .i64 rq.1.e.client, .int .i64 rq.1.at_, .int .i64 rq.1.link, .int .i64 rq.1.played, .slice X1 n1 k1, .slice Y1 m1 d1] 56)) := (Below.refl _ _).alloc (Nat.le_refl _) _
  replace c0 := cellB hbx c0
  replace c1 := cellB hbx c1
  replace c2 := cellB hbx c2
  replace c3 := cellB hbx c3
  replace c4 := cellB hbx c4
  replace c5 := cellB hbx c5
  replace c6 := cellB hbx c6
  replace c7 := cellB hbx c7
  replace c8 := cellB hbx c8
  replace c9 := cellB hbx c9
  replace c10 := cellB hbx c10
  replace c11 := cellB hbx c11
  replace e0 := cellB hbx e0
  replace e1 := cellB hbx e1
  replace e2 := cellB hbx e2
  replace e3 := cellB hbx e3
  replace e4 := cellB hbx e4
  replace g0 := cellB hbx g0
  replace g1 := cellB hbx g1
  replace g2 := cellB hbx g2
  replace g3 := cellB hbx g3
  replace g4 := cellB hbx g4
  replace g5 := cellB hbx g5
  replace g6 := cellB hbx g6
  replace g7 := cellB hbx g7
  replace g8 := cellB hbx g8
  replace g9 := cellB hbx g9
  replace g10 := cellB hbx g10
  replace g11 := cellB hbx g11
  replace sA := S.onto sA hbx
  replace sB := S.onto sB hbx
  replace sG := S.onto sG hbx
  replace sH := S.onto sH hbx
  replace s1 := S.onto s1 hbx
  replace t1 := S.onto t1 hbx
  replace hon := Onto.to hon hbx
  have aa0 : (v1.alloc (Obj.cells #[.int .i64 rq.1.epoch, .int .i64 rq.1.doing, .int .i64 rq.1.e.kind, .int .i64 rq.1.e.job, .int .i64 rq.1.e.every, .int .i64 rq.1.e.time, .int .i64 rq.1.e.client, .int .i64 rq.1.at_, .int .i64 rq.1.link, .int .i64 rq.1.played, .slice X1 n1 k1, .slice Y1 m1 d1] 56)).cell? ⟨v1.heap.size, 0, none⟩ = some (.int .i64 rq.1.epoch) := by simp [go_sem]
  have aa1 : (v1.alloc (Obj.cells #[.int .i64 rq.1.epoch, .int .i64 rq.1.doing, .int .i64 rq.1.e.kind, .int .i64 rq.1.e.job, .int .i64 rq.1.e.every, .int .i64 rq.1.e.time, .int .i64 rq.1.e.client, .int .i64 rq.1.at_, .int .i64 rq.1.link, .int .i64 rq.1.played, .slice X1 n1 k1, .slice Y1 m1 d1] 56)).cell? ⟨v1.heap.size, 1, none⟩ = some (.int .i64 rq.1.doing) := by simp [go_sem]
  have aa2 : (v1.alloc (Obj.cells #[.int .i64 rq.1.epoch, .int .i64 rq.1.doing, .int .i64 rq.1.e.kind, .int .i64 rq.1.e.job, .int .i64 rq.1.e.every, .int .i64 rq.1.e.time, .int .i64 rq.1.e.client, .int .i64 rq.1.at_, .int .i64 rq.1.link, .int .i64 rq.1.played, .slice X1 n1 k1, .slice Y1 m1 d1] 56)).cell? ⟨v1.heap.size, 2, none⟩ = some (.int .i64 rq.1.e.kind) := by simp [go_sem]
  have aa3 : (v1.alloc (Obj.cells #[.int .i64 rq.1.epoch, .int .i64 rq.1.doing, .int .i64 rq.1.e.kind, .int .i64 rq.1.e.job, .int .i64 rq.1.e.every, .int .i64 rq.1.e.time, .int .i64 rq.1.e.client, .int .i64 rq.1.at_, .int .i64 rq.1.link, .int .i64 rq.1.played, .slice X1 n1 k1, .slice Y1 m1 d1] 56)).cell? ⟨v1.heap.size, 3, none⟩ = some (.int .i64 rq.1.e.job) := by simp [go_sem]
  have aa4 : (v1.alloc (Obj.cells #[.int .i64 rq.1.epoch, .int .i64 rq.1.doing, .int .i64 rq.1.e.kind, .int .i64 rq.1.e.job, .int .i64 rq.1.e.every, .int .i64 rq.1.e.time, .int .i64 rq.1.e.client, .int .i64 rq.1.at_, .int .i64 rq.1.link, .int .i64 rq.1.played, .slice X1 n1 k1, .slice Y1 m1 d1] 56)).cell? ⟨v1.heap.size, 4, none⟩ = some (.int .i64 rq.1.e.every) := by simp [go_sem]
  have aa5 : (v1.alloc (Obj.cells #[.int .i64 rq.1.epoch, .int .i64 rq.1.doing, .int .i64 rq.1.e.kind, .int .i64 rq.1.e.job, .int .i64 rq.1.e.every, .int .i64 rq.1.e.time, .int .i64 rq.1.e.client, .int .i64 rq.1.at_, .int .i64 rq.1.link, .int .i64 rq.1.played, .slice X1 n1 k1, .slice Y1 m1 d1] 56)).cell? ⟨v1.heap.size, 5, none⟩ = some (.int .i64 rq.1.e.time) := by simp [go_sem]
  have aa6 : (v1.alloc (Obj.cells #[.int .i64 rq.1.epoch, .int .i64 rq.1.doing, .int .i64 rq.1.e.kind, .int .i64 rq.1.e.job, .int .i64 rq.1.e.every, .int .i64 rq.1.e.time, .int .i64 rq.1.e.client, .int .i64 rq.1.at_, .int .i64 rq.1.link, .int .i64 rq.1.played, .slice X1 n1 k1, .slice Y1 m1 d1] 56)).cell? ⟨v1.heap.size, 6, none⟩ = some (.int .i64 rq.1.e.client) := by simp [go_sem]
  have aa7 : (v1.alloc (Obj.cells #[.int .i64 rq.1.epoch, .int .i64 rq.1.doing, .int .i64 rq.1.e.kind, .int .i64 rq.1.e.job, .int .i64 rq.1.e.every, .int .i64 rq.1.e.time, .int .i64 rq.1.e.client, .int .i64 rq.1.at_, .int .i64 rq.1.link, .int .i64 rq.1.played, .slice X1 n1 k1, .slice Y1 m1 d1] 56)).cell? ⟨v1.heap.size, 7, none⟩ = some (.int .i64 rq.1.at_) := by simp [go_sem]
  have aa8 : (v1.alloc (Obj.cells #[.int .i64 rq.1.epoch, .int .i64 rq.1.doing, .int .i64 rq.1.e.kind, .int .i64 rq.1.e.job, .int .i64 rq.1.e.every, .int .i64 rq.1.e.time, .int .i64 rq.1.e.client, .int .i64 rq.1.at_, .int .i64 rq.1.link, .int .i64 rq.1.played, .slice X1 n1 k1, .slice Y1 m1 d1] 56)).cell? ⟨v1.heap.size, 8, none⟩ = some (.int .i64 rq.1.link) := by simp [go_sem]
  have aa9 : (v1.alloc (Obj.cells #[.int .i64 rq.1.epoch, .int .i64 rq.1.doing, .int .i64 rq.1.e.kind, .int .i64 rq.1.e.job, .int .i64 rq.1.e.every, .int .i64 rq.1.e.time, .int .i64 rq.1.e.client, .int .i64 rq.1.at_, .int .i64 rq.1.link, .int .i64 rq.1.played, .slice X1 n1 k1, .slice Y1 m1 d1] 56)).cell? ⟨v1.heap.size, 9, none⟩ = some (.int .i64 rq.1.played) := by simp [go_sem]
  have aa10 : (v1.alloc (Obj.cells #[.int .i64 rq.1.epoch, .int .i64 rq.1.doing, .int .i64 rq.1.e.kind, .int .i64 rq.1.e.job, .int .i64 rq.1.e.every, .int .i64 rq.1.e.time, .int .i64 rq.1.e.client, .int .i64 rq.1.at_, .int .i64 rq.1.link, .int .i64 rq.1.played, .slice X1 n1 k1, .slice Y1 m1 d1] 56)).cell? ⟨v1.heap.size, 10, none⟩ = some (.slice X1 n1 k1) := by simp [go_sem]
  have aa11 : (v1.alloc (Obj.cells #[.int .i64 rq.1.epoch, .int .i64 rq.1.doing, .int .i64 rq.1.e.kind, .int .i64 rq.1.e.job, .int .i64 rq.1.e.every, .int .i64 rq.1.e.time, .int .i64 rq.1.e.client, .int .i64 rq.1.at_, .int .i64 rq.1.link, .int .i64 rq.1.played, .slice X1 n1 k1, .slice Y1 m1 d1] 56)).cell? ⟨v1.heap.size, 11, none⟩ = some (.slice Y1 m1 d1) := by simp [go_sem]
  change Code.wp _ _ _ _ (v1.alloc (Obj.cells #[.int .i64 rq.1.epoch, .int .i64 rq.1.doing, .int .i64 rq.1.e.kind, .int .i64 rq.1.e.job, .int .i64 rq.1.e.every, .int .i64 rq.1.e.time, .int .i64 rq.1.e.client, .int .i64 rq.1.at_, .int .i64 rq.1.link, .int .i64 rq.1.played, .slice X1 n1 k1, .slice Y1 m1 d1] 56))
  clear hbx
  generalize (v1.alloc (Obj.cells #[.int .i64 rq.1.epoch, .int .i64 rq.1.doing, .int .i64 rq.1.e.kind, .int .i64 rq.1.e.job, .int .i64 rq.1.e.every, .int .i64 rq.1.e.time, .int .i64 rq.1.e.client, .int .i64 rq.1.at_, .int .i64 rq.1.link, .int .i64 rq.1.played, .slice X1 n1 k1, .slice Y1 m1 d1] 56)) = w1 at *
  generalize v1.heap.size = Baa at *
  go_wp2_with fail
  refine Calls.mono (ClRing_calls ep dg at_ ln pl x A A' n c m d b me job t _ sA sB) ?_
  rw [← Hrr.out]
  rintro e v2 ⟨X2, n2, k2, Y2, m2, d2, rfl, s2, t2, hb⟩
  replace c0 := cellB hb c0
  replace c1 := cellB hb c1
  replace c2 := cellB hb c2
  replace c3 := cellB hb c3
  replace c4 := cellB hb c4
  replace c5 := cellB hb c5
  replace c6 := cellB hb c6
  replace c7 := cellB hb c7
  replace c8 := cellB hb c8
  replace c9 := cellB hb c9
  replace c10 := cellB hb c10
  replace c11 := cellB hb c11
  replace e0 := cellB hb e0
  replace e1 := cellB hb e1
  replace e2 := cellB hb e2
  replace e3 := cellB hb e3
  replace e4 := cellB hb e4
  replace g0 := cellB hb g0
  replace g1 := cellB hb g1
  replace g2 := cellB hb g2
  replace g3 := cellB hb g3
  replace g4 := cellB hb g4
  replace g5 := cellB hb g5
  replace g6 := cellB hb g6
  replace g7 := cellB hb g7
  replace g8 := cellB hb g8
  replace g9 := cellB hb g9
  replace g10 := cellB hb g10
  replace g11 := cellB hb g11
  replace aa0 := cellB hb aa0
  replace aa1 := cellB hb aa1
  replace aa2 := cellB hb aa2
  replace aa3 := cellB hb aa3
  replace aa4 := cellB hb aa4
  replace aa5 := cellB hb aa5
  replace aa6 := cellB hb aa6
  replace aa7 := cellB hb aa7
  replace aa8 := cellB hb aa8
  replace aa9 := cellB hb aa9
  replace aa10 := cellB hb aa10
  replace aa11 := cellB hb aa11
  replace sA := S.onto sA hb
  replace sB := S.onto sB hb
  replace sG := S.onto sG hb
  replace sH := S.onto sH hb
  replace s1 := S.onto s1 hb
  replace t1 := S.onto t1 hb
  replace hon := Onto.to hon hb
  clear hb
  go_upto_region 3 with fail
  have habw : w.heap.size ≤ v2.heap.size := hon.size
  have hcab : w.heap.size < v2.heap.size := World.block_lt_of_cell? _ _ c0
  have heab : w.heap.size + 1 < v2.heap.size := World.block_lt_of_cell? _ _ e0
  have hgab : w.heap.size + 1 + 1 < v2.heap.size := World.block_lt_of_cell? _ _ g0
  have haaab : Baa < v2.heap.size := World.block_lt_of_cell? _ _ aa0
  have hbx : Onto v2 (v2.alloc (Obj.cells #[.int .i64 rr.1.epoch, .int .i64 rr.1.doing, .int .i64 rr.1.e.kind, .int .i64 rr.1.e.job, .int .i64 rr.1.e.every, .int .i64 rr.1.e.time, .int .i64 rr.1.e.client, .int .i64 rr.1.at_, .int .i64 rr.1.link, .int .i64 rr.1.played, .slice X2 n2 k2, .slice Y2 m2 d2] 56)) := (Below.refl _ _).alloc (Nat.le_refl _) _
  replace c0 := cellB hbx c0
  replace c1 := cellB hbx c1
  replace c2 := cellB hbx c2
  replace c3 := cellB hbx c3
  replace c4 := cellB hbx c4
  replace c5 := cellB hbx c5
  replace c6 := cellB hbx c6
  replace c7 := cellB hbx c7
  replace c8 := cellB hbx c8
  replace c9 := cellB hbx c9
  replace c10 := cellB hbx c10
  replace c11 := cellB hbx c11
  replace e0 := cellB hbx e0
  replace e1 := cellB hbx e1
  replace e2 := cellB hbx e2
  replace e3 := cellB hbx e3
  replace e4 := cellB hbx e4
  replace g0 := cellB hbx g0
  replace g1 := cellB hbx g1
  replace g2 := cellB hbx g2
  replace g3 := cellB hbx g3
  replace g4 := cellB hbx g4
  replace g5 := cellB hbx g5
  replace g6 := cellB hbx g6
  replace g7 := cellB hbx g7
  replace g8 := cellB hbx g8
  replace g9 := cellB hbx g9
  replace g10 := cellB hbx g10
  replace g11 := cellB hbx g11
  replace aa0 := cellB hbx aa0
  replace aa1 := cellB hbx aa1
  replace aa2 := cellB hbx aa2
  replace aa3 := cellB hbx aa3
  replace aa4 := cellB hbx aa4
  replace aa5 := cellB hbx aa5
  replace aa6 := cellB hbx aa6
  replace aa7 := cellB hbx aa7
  replace aa8 := cellB hbx aa8
  replace aa9 := cellB hbx aa9
  replace aa10 := cellB hbx aa10
  replace aa11 := cellB hbx aa11
  replace sA := S.onto sA hbx
  replace sB := S.onto sB hbx
  replace sG := S.onto sG hbx
  replace sH := S.onto sH hbx
  replace s1 := S.onto s1 hbx
  replace t1 := S.onto t1 hbx
  replace s2 := S.onto s2 hbx
  replace t2 := S.onto t2 hbx
  replace hon := Onto.to hon hbx
  have ab0 : (v2.alloc (Obj.cells #[.int .i64 rr.1.epoch, .int .i64 rr.1.doing, .int .i64 rr.1.e.kind, .int .i64 rr.1.e.job, .int .i64 rr.1.e.every, .int .i64 rr.1.e.time, .int .i64 rr.1.e.client, .int .i64 rr.1.at_, .int .i64 rr.1.link, .int .i64 rr.1.played, .slice X2 n2 k2, .slice Y2 m2 d2] 56)).cell? ⟨v2.heap.size, 0, none⟩ = some (.int .i64 rr.1.epoch) := by simp [go_sem]
  have ab1 : (v2.alloc (Obj.cells #[.int .i64 rr.1.epoch, .int .i64 rr.1.doing, .int .i64 rr.1.e.kind, .int .i64 rr.1.e.job, .int .i64 rr.1.e.every, .int .i64 rr.1.e.time, .int .i64 rr.1.e.client, .int .i64 rr.1.at_, .int .i64 rr.1.link, .int .i64 rr.1.played, .slice X2 n2 k2, .slice Y2 m2 d2] 56)).cell? ⟨v2.heap.size, 1, none⟩ = some (.int .i64 rr.1.doing) := by simp [go_sem]
  have ab2 : (v2.alloc (Obj.cells #[.int .i64 rr.1.epoch, .int .i64 rr.1.doing, .int .i64 rr.1.e.kind, .int .i64 rr.1.e.job, .int .i64 rr.1.e.every, .int .i64 rr.1.e.time, .int .i64 rr.1.e.client, .int .i64 rr.1.at_, .int .i64 rr.1.link, .int .i64 rr.1.played, .slice X2 n2 k2, .slice Y2 m2 d2] 56)).cell? ⟨v2.heap.size, 2, none⟩ = some (.int .i64 rr.1.e.kind) := by simp [go_sem]
  have ab3 : (v2.alloc (Obj.cells #[.int .i64 rr.1.epoch, .int .i64 rr.1.doing, .int .i64 rr.1.e.kind, .int .i64 rr.1.e.job, .int .i64 rr.1.e.every, .int .i64 rr.1.e.time, .int .i64 rr.1.e.client, .int .i64 rr.1.at_, .int .i64 rr.1.link, .int .i64 rr.1.played, .slice X2 n2 k2, .slice Y2 m2 d2] 56)).cell? ⟨v2.heap.size, 3, none⟩ = some (.int .i64 rr.1.e.job) := by simp [go_sem]
  have ab4 : (v2.alloc (Obj.cells #[.int .i64 rr.1.epoch, .int .i64 rr.1.doing, .int .i64 rr.1.e.kind, .int .i64 rr.1.e.job, .int .i64 rr.1.e.every, .int .i64 rr.1.e.time, .int .i64 rr.1.e.client, .int .i64 rr.1.at_, .int .i64 rr.1.link, .int .i64 rr.1.played, .slice X2 n2 k2, .slice Y2 m2 d2] 56)).cell? ⟨v2.heap.size, 4, none⟩ = some (.int .i64 rr.1.e.every) := by simp [go_sem]
  have ab5 : (v2.alloc (Obj.cells #[.int .i64 rr.1.epoch, .int .i64 rr.1.doing, .int .i64 rr.1.e.kind, .int .i64 rr.1.e.job, .int .i64 rr.1.e.every, .int .i64 rr.1.e.time, .int .i64 rr.1.e.client, .int .i64 rr.1.at_, .int .i64 rr.1.link, .int .i64 rr.1.played, .slice X2 n2 k2, .slice Y2 m2 d2] 56)).cell? ⟨v2.heap.size, 5, none⟩ = some (.int .i64 rr.1.e.time) := by simp [go_sem]
  have ab6 : (v2.alloc (Obj.cells #[.int .i64 rr.1.epoch, .int .i64 rr.1.doing, .int .i64 rr.1.e.kind, .int .i64 rr.1.e.job, .int .i64 rr.1.e.every, .int .i64 rr.1.e.time, .int .i64 rr.1.e.client, .int .i64 rr.1.at_, .int .i64 rr.1.link, .int .i64 rr.1.played, .slice X2 n2 k2, .slice Y2 m2 d2] 56)).cell? ⟨v2.heap.size, 6, none⟩ = some (.int .i64 rr.1.e.client) := by simp [go_sem]
  have ab7 : (v2.alloc (Obj.cells #[.int .i64 rr.1.epoch, .int .i64 rr.1.doing, .int .i64 rr.1.e.kind, .int .i64 rr.1.e.job, .int .i64 rr.1.e.every, .int .i64 rr.1.e.time, .int .i64 rr.1.e.client, .int .i64 rr.1.at_, .int .i64 rr.1.link, .int .i64 rr.1.played, .slice X2 n2 k2, .slice Y2 m2 d2] 56)).cell? ⟨v2.heap.size, 7, none⟩ = some (.int .i64 rr.1.at_) := by simp [go_sem]
  have ab8 : (v2.alloc (Obj.cells #[.int .i64 rr.1.epoch, .int .i64 rr.1.doing, .int .i64 rr.1.e.kind, .int .i64 rr.1.e.job, .int .i64 rr.1.e.every, .int .i64 rr.1.e.time, .int .i64 rr.1.e.client, .int .i64 rr.1.at_, .int .i64 rr.1.link, .int .i64 rr.1.played, .slice X2 n2 k2, .slice Y2 m2 d2] 56)).cell? ⟨v2.heap.size, 8, none⟩ = some (.int .i64 rr.1.link) := by simp [go_sem]
  have ab9 : (v2.alloc (Obj.cells #[.int .i64 rr.1.epoch, .int .i64 rr.1.doing, .int .i64 rr.1.e.kind, .int .i64 rr.1.e.job, .int .i64 rr.1.e.every, .int .i64 rr.1.e.time, .int .i64 rr.1.e.client, .int .i64 rr.1.at_, .int .i64 rr.1.link, .int .i64 rr.1.played, .slice X2 n2 k2, .slice Y2 m2 d2] 56)).cell? ⟨v2.heap.size, 9, none⟩ = some (.int .i64 rr.1.played) := by simp [go_sem]
  have ab10 : (v2.alloc (Obj.cells #[.int .i64 rr.1.epoch, .int .i64 rr.1.doing, .int .i64 rr.1.e.kind, .int .i64 rr.1.e.job, .int .i64 rr.1.e.every, .int .i64 rr.1.e.time, .int .i64 rr.1.e.client, .int .i64 rr.1.at_, .int .i64 rr.1.link, .int .i64 rr.1.played, .slice X2 n2 k2, .slice Y2 m2 d2] 56)).cell? ⟨v2.heap.size, 10, none⟩ = some (.slice X2 n2 k2) := by simp [go_sem]
  have ab11 : (v2.alloc (Obj.cells #[.int .i64 rr.1.epoch, .int .i64 rr.1.doing, .int .i64 rr.1.e.kind, .int .i64 rr.1.e.job, .int .i64 rr.1.e.every, .int .i64 rr.1.e.time, .int .i64 rr.1.e.client, .int .i64 rr.1.at_, .int .i64 rr.1.link, .int .i64 rr.1.played, .slice X2 n2 k2, .slice Y2 m2 d2] 56)).cell? ⟨v2.heap.size, 11, none⟩ = some (.slice Y2 m2 d2) := by simp [go_sem]
  change Code.wp _ _ _ _ (v2.alloc (Obj.cells #[.int .i64 rr.1.epoch, .int .i64 rr.1.doing, .int .i64 rr.1.e.kind, .int .i64 rr.1.e.job, .int .i64 rr.1.e.every, .int .i64 rr.1.e.time, .int .i64 rr.1.e.client, .int .i64 rr.1.at_, .int .i64 rr.1.link, .int .i64 rr.1.played, .slice X2 n2 k2, .slice Y2 m2 d2] 56))
  clear hbx
  generalize (v2.alloc (Obj.cells #[.int .i64 rr.1.epoch, .int .i64 rr.1.doing, .int .i64 rr.1.e.kind, .int .i64 rr.1.e.job, .int .i64 rr.1.e.every, .int .i64 rr.1.e.time, .int .i64 rr.1.e.client, .int .i64 rr.1.at_, .int .i64 rr.1.link, .int .i64 rr.1.played, .slice X2 n2 k2, .slice Y2 m2 d2] 56)) = w2 at *
  generalize v2.heap.size = Bab at *
  go_wp2_with fail
  refine Calls.mono (ClPlace_calls ep dg at_ ln pl x A A' n c m d b v _ sA sB) ?_
  rw [← Hrp.out]
  rintro e v3 ⟨X3, n3, k3, Y3, m3, d3, rfl, s3, t3, hb, _, _, _, _⟩
  replace c0 := cellB hb c0
  replace c1 := cellB hb c1
  replace c2 := cellB hb c2
  replace c3 := cellB hb c3
  replace c4 := cellB hb c4
  replace c5 := cellB hb c5
  replace c6 := cellB hb c6
  replace c7 := cellB hb c7
  replace c8 := cellB hb c8
  replace c9 := cellB hb c9
  replace c10 := cellB hb c10
  replace c11 := cellB hb c11
  replace e0 := cellB hb e0
  replace e1 := cellB hb e1
  replace e2 := cellB hb e2
  replace e3 := cellB hb e3
  replace e4 := cellB hb e4
  replace g0 := cellB hb g0
  replace g1 := cellB hb g1
  replace g2 := cellB hb g2
  replace g3 := cellB hb g3
  replace g4 := cellB hb g4
  replace g5 := cellB hb g5
  replace g6 := cellB hb g6
  replace g7 := cellB hb g7
  replace g8 := cellB hb g8
  replace g9 := cellB hb g9
  replace g10 := cellB hb g10
  replace g11 := cellB hb g11
  replace aa0 := cellB hb aa0
  replace aa1 := cellB hb aa1
  replace aa2 := cellB hb aa2
  replace aa3 := cellB hb aa3
  replace aa4 := cellB hb aa4
  replace aa5 := cellB hb aa5
  replace aa6 := cellB hb aa6
  replace aa7 := cellB hb aa7
  replace aa8 := cellB hb aa8
  replace aa9 := cellB hb aa9
  replace aa10 := cellB hb aa10
  replace aa11 := cellB hb aa11
  replace ab0 := cellB hb ab0
  replace ab1 := cellB hb ab1
  replace ab2 := cellB hb ab2
  replace ab3 := cellB hb ab3
  replace ab4 := cellB hb ab4
  replace ab5 := cellB hb ab5
  replace ab6 := cellB hb ab6
  replace ab7 := cellB hb ab7
  replace ab8 := cellB hb ab8
  replace ab9 := cellB hb ab9
  replace ab10 := cellB hb ab10
  replace ab11 := cellB hb ab11
  replace sA := S.onto sA hb
  replace sB := S.onto sB hb
  replace sG := S.onto sG hb
  replace sH := S.onto sH hb
  replace s1 := S.onto s1 hb
  replace t1 := S.onto t1 hb
  replace s2 := S.onto s2 hb
  replace t2 := S.onto t2 hb
  replace hon := Onto.to hon hb
  clear hb
  go_upto_region 4 with fail
  have hacw : w.heap.size ≤ v3.heap.size := hon.size
  have hcac : w.heap.size < v3.heap.size := World.block_lt_of_cell? _ _ c0
  have heac : w.heap.size + 1 < v3.heap.size := World.block_lt_of_cell? _ _ e0
  have hgac : w.heap.size + 1 + 1 < v3.heap.size := World.block_lt_of_cell? _ _ g0
  have haaac : Baa < v3.heap.size := World.block_lt_of_cell? _ _ aa0
  have habac : Bab < v3.heap.size := World.block_lt_of_cell? _ _ ab0
  have hbx : Onto v3 (v3.alloc (Obj.cells #[.int .i64 rp.1.epoch, .int .i64 rp.1.doing, .int .i64 rp.1.e.kind, .int .i64 rp.1.e.job, .int .i64 rp.1.e.every, .int .i64 rp.1.e.time, .int .i64 rp.1.e.client, .int .i64 rp.1.at_, .int .i64 rp.1.link, .int .i64 rp.1.played, .slice X3 n3 k3, .slice Y3 m3 d3] 56)) := (Below.refl _ _).alloc (Nat.le_refl _) _
  replace c0 := cellB hbx c0
  replace c1 := cellB hbx c1
  replace c2 := cellB hbx c2
  replace c3 := cellB hbx c3
  replace c4 := cellB hbx c4
  replace c5 := cellB hbx c5
  replace c6 := cellB hbx c6
  replace c7 := cellB hbx c7
  replace c8 := cellB hbx c8
  replace c9 := cellB hbx c9
  replace c10 := cellB hbx c10
  replace c11 := cellB hbx c11
  replace e0 := cellB hbx e0
  replace e1 := cellB hbx e1
  replace e2 := cellB hbx e2
  replace e3 := cellB hbx e3
  replace e4 := cellB hbx e4
  replace g0 := cellB hbx g0
  replace g1 := cellB hbx g1
  replace g2 := cellB hbx g2
  replace g3 := cellB hbx g3
  replace g4 := cellB hbx g4
  replace g5 := cellB hbx g5
  replace g6 := cellB hbx g6
  replace g7 := cellB hbx g7
  replace g8 := cellB hbx g8
  replace g9 := cellB hbx g9
  replace g10 := cellB hbx g10
  replace g11 := cellB hbx g11
  replace aa0 := cellB hbx aa0
  replace aa1 := cellB hbx aa1
  replace aa2 := cellB hbx aa2
  replace aa3 := cellB hbx aa3
  replace aa4 := cellB hbx aa4
  replace aa5 := cellB hbx aa5
  replace aa6 := cellB hbx aa6
  replace aa7 := cellB hbx aa7
  replace aa8 := cellB hbx aa8
  replace aa9 := cellB hbx aa9
  replace aa10 := cellB hbx aa10
  replace aa11 := cellB hbx aa11
  replace ab0 := cellB hbx ab0
  replace ab1 := cellB hbx ab1
  replace ab2 := cellB hbx ab2
  replace ab3 := cellB hbx ab3
  replace ab4 := cellB hbx ab4
  replace ab5 := cellB hbx ab5
  replace ab6 := cellB hbx ab6
  replace ab7 := cellB hbx ab7
  replace ab8 := cellB hbx ab8
  replace ab9 := cellB hbx ab9
  replace ab10 := cellB hbx ab10
  replace ab11 := cellB hbx ab11
  replace sA := S.onto sA hbx
  replace sB := S.onto sB hbx
  replace sG := S.onto sG hbx
  replace sH := S.onto sH hbx
  replace s1 := S.onto s1 hbx
  replace t1 := S.onto t1 hbx
  replace s2 := S.onto s2 hbx
  replace t2 := S.onto t2 hbx
  replace s3 := S.onto s3 hbx
  replace t3 := S.onto t3 hbx
  replace hon := Onto.to hon hbx
  have ac0 : (v3.alloc (Obj.cells #[.int .i64 rp.1.epoch, .int .i64 rp.1.doing, .int .i64 rp.1.e.kind, .int .i64 rp.1.e.job, .int .i64 rp.1.e.every, .int .i64 rp.1.e.time, .int .i64 rp.1.e.client, .int .i64 rp.1.at_, .int .i64 rp.1.link, .int .i64 rp.1.played, .slice X3 n3 k3, .slice Y3 m3 d3] 56)).cell? ⟨v3.heap.size, 0, none⟩ = some (.int .i64 rp.1.epoch) := by simp [go_sem]
  have ac1 : (v3.alloc (Obj.cells #[.int .i64 rp.1.epoch, .int .i64 rp.1.doing, .int .i64 rp.1.e.kind, .int .i64 rp.1.e.job, .int .i64 rp.1.e.every, .int .i64 rp.1.e.time, .int .i64 rp.1.e.client, .int .i64 rp.1.at_, .int .i64 rp.1.link, .int .i64 rp.1.played, .slice X3 n3 k3, .slice Y3 m3 d3] 56)).cell? ⟨v3.heap.size, 1, none⟩ = some (.int .i64 rp.1.doing) := by simp [go_sem]
  have ac2 : (v3.alloc (Obj.cells #[.int .i64 rp.1.epoch, .int .i64 rp.1.doing, .int .i64 rp.1.e.kind, .int .i64 rp.1.e.job, .int .i64 rp.1.e.every, .int .i64 rp.1.e.time, .int .i64 rp.1.e.client, .int .i64 rp.1.at_, .int .i64 rp.1.link, .int .i64 rp.1.played, .slice X3 n3 k3, .slice Y3 m3 d3] 56)).cell? ⟨v3.heap.size, 2, none⟩ = some (.int .i64 rp.1.e.kind) := by simp [go_sem]
  have ac3 : (v3.alloc (Obj.cells #[.int .i64 rp.1.epoch, .int .i64 rp.1.doing, .int .i64 rp.1.e.kind, .int .i64 rp.1.e.job, .int .i64 rp.1.e.every, .int .i64 rp.1.e.time, .int .i64 rp.1.e.client, .int .i64 rp.1.at_, .int .i64 rp.1.link, .int .i64 rp.1.played, .slice X3 n3 k3, .slice Y3 m3 d3] 56)).cell? ⟨v3.heap.size, 3, none⟩ = some (.int .i64 rp.1.e.job) := by simp [go_sem]
  have ac4 : (v3.alloc (Obj.cells #[.int .i64 rp.1.epoch, .int .i64 rp.1.doing, .int .i64 rp.1.e.kind, .int .i64 rp.1.e.job, .int .i64 rp.1.e.every, .int .i64 rp.1.e.time, .int .i64 rp.1.e.client, .int .i64 rp.1.at_, .int .i64 rp.1.link, .int .i64 rp.1.played, .slice X3 n3 k3, .slice Y3 m3 d3] 56)).cell? ⟨v3.heap.size, 4, none⟩ = some (.int .i64 rp.1.e.every) := by simp [go_sem]
  have ac5 : (v3.alloc (Obj.cells #[.int .i64 rp.1.epoch, .int .i64 rp.1.doing, .int .i64 rp.1.e.kind, .int .i64 rp.1.e.job, .int .i64 rp.1.e.every, .int .i64 rp.1.e.time, .int .i64 rp.1.e.client, .int .i64 rp.1.at_, .int .i64 rp.1.link, .int .i64 rp.1.played, .slice X3 n3 k3, .slice Y3 m3 d3] 56)).cell? ⟨v3.heap.size, 5, none⟩ = some (.int .i64 rp.1.e.time) := by simp [go_sem]
  have ac6 : (v3.alloc (Obj.cells #[.int .i64 rp.1.epoch, .int .i64 rp.1.doing, .int .i64 rp.1.e.kind, .int .i64 rp.1.e.job, .int .i64 rp.1.e.every, .int .i64 rp.1.e.time, .int .i64 rp.1.e.client, .int .i64 rp.1.at_, .int .i64 rp.1.link, .int .i64 rp.1.played, .slice X3 n3 k3, .slice Y3 m3 d3] 56)).cell? ⟨v3.heap.size, 6, none⟩ = some (.int .i64 rp.1.e.client) := by simp [go_sem]
  have ac7 : (v3.alloc (Obj.cells #[.int .i64 rp.1.epoch, .int .i64 rp.1.doing, .int .i64 rp.1.e.kind, .int .i64 rp.1.e.job, .int .i64 rp.1.e.every, .int .i64 rp.1.e.time, .int .i64 rp.1.e.client, .int .i64 rp.1.at_, .int .i64 rp.1.link, .int .i64 rp.1.played, .slice X3 n3 k3, .slice Y3 m3 d3] 56)).cell? ⟨v3.heap.size, 7, none⟩ = some (.int .i64 rp.1.at_) := by simp [go_sem]
  have ac8 : (v3.alloc (Obj.cells #[.int .i64 rp.1.epoch, .int .i64 rp.1.doing, .int .i64 rp.1.e.kind, .int .i64 rp.1.e.job, .int .i64 rp.1.e.every, .int .i64 rp.1.e.time, .int .i64 rp.1.e.client, .int .i64 rp.1.at_, .int .i64 rp.1.link, .int .i64 rp.1.played, .slice X3 n3 k3, .slice Y3 m3 d3] 56)).cell? ⟨v3.heap.size, 8, none⟩ = some (.int .i64 rp.1.link) := by simp [go_sem]
  have ac9 : (v3.alloc (Obj.cells #[.int .i64 rp.1.epoch, .int .i64 rp.1.doing, .int .i64 rp.1.e.kind, .int .i64 rp.1.e.job, .int .i64 rp.1.e.every, .int .i64 rp.1.e.time, .int .i64 rp.1.e.client, .int .i64 rp.1.at_, .int .i64 rp.1.link, .int .i64 rp.1.played, .slice X3 n3 k3, .slice Y3 m3 d3] 56)).cell? ⟨v3.heap.size, 9, none⟩ = some (.int .i64 rp.1.played) := by simp [go_sem]
  have ac10 : (v3.alloc (Obj.cells #[.int .i64 rp.1.epoch, .int .i64 rp.1.doing, .int .i64 rp.1.e.kind, .int .i64 rp.1.e.job, .int .i64 rp.1.e.every, .int .i64 rp.1.e.time, .int .i64 rp.1.e.client, .int .i64 rp.1.at_, .int .i64 rp.1.link, .int .i64 rp.1.played, .slice X3 n3 k3, .slice Y3 m3 d3] 56)).cell? ⟨v3.heap.size, 10, none⟩ = some (.slice X3 n3 k3) := by simp [go_sem]
  have ac11 : (v3.alloc (Obj.cells #[.int .i64 rp.1.epoch, .int .i64 rp.1.doing, .int .i64 rp.1.e.kind, .int .i64 rp.1.e.job, .int .i64 rp.1.e.every, .int .i64 rp.1.e.time, .int .i64 rp.1.e.client, .int .i64 rp.1.at_, .int .i64 rp.1.link, .int .i64 rp.1.played, .slice X3 n3 k3, .slice Y3 m3 d3] 56)).cell? ⟨v3.heap.size, 11, none⟩ = some (.slice Y3 m3 d3) := by simp [go_sem]
  change Code.wp _ _ _ _ (v3.alloc (Obj.cells #[.int .i64 rp.1.epoch, .int .i64 rp.1.doing, .int .i64 rp.1.e.kind, .int .i64 rp.1.e.job, .int .i64 rp.1.e.every, .int .i64 rp.1.e.time, .int .i64 rp.1.e.client, .int .i64 rp.1.at_, .int .i64 rp.1.link, .int .i64 rp.1.played, .slice X3 n3 k3, .slice Y3 m3 d3] 56))
  clear hbx
  generalize (v3.alloc (Obj.cells #[.int .i64 rp.1.epoch, .int .i64 rp.1.doing, .int .i64 rp.1.e.kind, .int .i64 rp.1.e.job, .int .i64 rp.1.e.every, .int .i64 rp.1.e.time, .int .i64 rp.1.e.client, .int .i64 rp.1.at_, .int .i64 rp.1.link, .int .i64 rp.1.played, .slice X3 n3 k3, .slice Y3 m3 d3] 56)) = w3 at *
  generalize v3.heap.size = Bac at *
  go_wp2_with fail
  refine Calls.mono (ClFill_calls ep dg at_ ln pl x A A' n c m d b v _ sA sB) ?_
  rw [← Hrf.out]
  rintro e v4 ⟨X4, n4, k4, Y4, m4, d4, rfl, s4, t4, hb, _, _, _, _⟩
  replace c0 := cellB hb c0
  replace c1 := cellB hb c1
  replace c2 := cellB hb c2
  replace c3 := cellB hb c3
  replace c4 := cellB hb c4
  replace c5 := cellB hb c5
  replace c6 := cellB hb c6
  replace c7 := cellB hb c7
  replace c8 := cellB hb c8
  replace c9 := cellB hb c9
  replace c10 := cellB hb c10
  replace c11 := cellB hb c11
  replace e0 := cellB hb e0
  replace e1 := cellB hb e1
  replace e2 := cellB hb e2
  replace e3 := cellB hb e3
  replace e4 := cellB hb e4
  replace g0 := cellB hb g0
  replace g1 := cellB hb g1
  replace g2 := cellB hb g2
  replace g3 := cellB hb g3
  replace g4 := cellB hb g4
  replace g5 := cellB hb g5
  replace g6 := cellB hb g6
  replace g7 := cellB hb g7
  replace g8 := cellB hb g8
  replace g9 := cellB hb g9
  replace g10 := cellB hb g10
  replace g11 := cellB hb g11
  replace aa0 := cellB hb aa0
  replace aa1 := cellB hb aa1
  replace aa2 := cellB hb aa2
  replace aa3 := cellB hb aa3
  replace aa4 := cellB hb aa4
  replace aa5 := cellB hb aa5
  replace aa6 := cellB hb aa6
  replace aa7 := cellB hb aa7
  replace aa8 := cellB hb aa8
  replace aa9 := cellB hb aa9
  replace aa10 := cellB hb aa10
  replace aa11 := cellB hb aa11
  replace ab0 := cellB hb ab0
  replace ab1 := cellB hb ab1
  replace ab2 := cellB hb ab2
  replace ab3 := cellB hb ab3
  replace ab4 := cellB hb ab4
  replace ab5 := cellB hb ab5
  replace ab6 := cellB hb ab6
  replace ab7 := cellB hb ab7
  replace ab8 := cellB hb ab8
  replace ab9 := cellB hb ab9
  replace ab10 := cellB hb ab10
  replace ab11 := cellB hb ab11
  replace ac0 := cellB hb ac0
  replace ac1 := cellB hb ac1
  replace ac2 := cellB hb ac2
  replace ac3 := cellB hb ac3
  replace ac4 := cellB hb ac4
  replace ac5 := cellB hb ac5
  replace ac6 := cellB hb ac6
  replace ac7 := cellB hb ac7
  replace ac8 := cellB hb ac8
  replace ac9 := cellB hb ac9
  replace ac10 := cellB hb ac10
  replace ac11 := cellB hb ac11
  replace sA := S.onto sA hb
  replace sB := S.onto sB hb
  replace sG := S.onto sG hb
  replace sH := S.onto sH hb
  replace s1 := S.onto s1 hb
  replace t1 := S.onto t1 hb
  replace s2 := S.onto s2 hb
  replace t2 := S.onto t2 hb
  replace s3 := S.onto s3 hb
  replace t3 := S.onto t3 hb
  replace hon := Onto.to hon hb
  clear hb
  go_upto_region 5 with fail
  have hadw : w.heap.size ≤ v4.heap.size := hon.size
  have hcad : w.heap.size < v4.heap.size := World.block_lt_of_cell? _ _ c0
  have head : w.heap.size + 1 < v4.heap.size := World.block_lt_of_cell? _ _ e0
  have hgad : w.heap.size + 1 + 1 < v4.heap.size := World.block_lt_of_cell? _ _ g0
  have haaad : Baa < v4.heap.size := World.block_lt_of_cell? _ _ aa0
  have habad : Bab < v4.heap.size := World.block_lt_of_cell? _ _ ab0
  have hacad : Bac < v4.heap.size := World.block_lt_of_cell? _ _ ac0
  have hbx : Onto v4 (v4.alloc (Obj.cells #[.int .i64 rf.1.epoch, .int .i64 rf.1.doing, .int .i64 rf.1.e.kind, .int .i64 rf.1.e.job, .int .i64 rf.1.e.every, .int .i64 rf.1.e.time, .int .i64 rf.1.e.client, .int .i64 rf.1.at_, .int .i64 rf.1.link, .int .i64 rf.1.played, .slice X4 n4 k4, .slice Y4 m4 d4] 56)) := (Below.refl _ _).alloc (Nat.le_refl _) _
  replace c0 := cellB hbx c0
  replace c1 := cellB hbx c1
  replace c2 := cellB hbx c2
  replace c3 := cellB hbx c3
  replace c4 := cellB hbx c4
  replace c5 := cellB hbx c5
  replace c6 := cellB hbx c6
  replace c7 := cellB hbx c7
  replace c8 := cellB hbx c8
  replace c9 := cellB hbx c9
  replace c10 := cellB hbx c10
  replace c11 := cellB hbx c11
  replace e0 := cellB hbx e0
  replace e1 := cellB hbx e1
  replace e2 := cellB hbx e2
  replace e3 := cellB hbx e3
  replace e4 := cellB hbx e4
  replace g0 := cellB hbx g0
  replace g1 := cellB hbx g1
  replace g2 := cellB hbx g2
  replace g3 := cellB hbx g3
  replace g4 := cellB hbx g4
  replace g5 := cellB hbx g5
  replace g6 := cellB hbx g6
  replace g7 := cellB hbx g7
  replace g8 := cellB hbx g8
  replace g9 := cellB hbx g9
  replace g10 := cellB hbx g10
  replace g11 := cellB hbx g11
  replace aa0 := cellB hbx aa0
  replace aa1 := cellB hbx aa1
  replace aa2 := cellB hbx aa2
  replace aa3 := cellB hbx aa3
  replace aa4 := cellB hbx aa4
  replace aa5 := cellB hbx aa5
  replace aa6 := cellB hbx aa6
  replace aa7 := cellB hbx aa7
  replace aa8 := cellB hbx aa8
  replace aa9 := cellB hbx aa9
  replace aa10 := cellB hbx aa10
  replace aa11 := cellB hbx aa11
  replace ab0 := cellB hbx ab0
  replace ab1 := cellB hbx ab1
  replace ab2 := cellB hbx ab2
  replace ab3 := cellB hbx ab3
  replace ab4 := cellB hbx ab4
  replace ab5 := cellB hbx ab5
  replace ab6 := cellB hbx ab6
  replace ab7 := cellB hbx ab7
  replace ab8 := cellB hbx ab8
  replace ab9 := cellB hbx ab9
  replace ab10 := cellB hbx ab10
  replace ab11 := cellB hbx ab11
  replace ac0 := cellB hbx ac0
  replace ac1 := cellB hbx ac1
  replace ac2 := cellB hbx ac2
  replace ac3 := cellB hbx ac3
  replace ac4 := cellB hbx ac4
  replace ac5 := cellB hbx ac5
  replace ac6 := cellB hbx ac6
  replace ac7 := cellB hbx ac7
  replace ac8 := cellB hbx ac8
  replace ac9 := cellB hbx ac9
  replace ac10 := cellB hbx ac10
  replace ac11 := cellB hbx ac11
  replace sA := S.onto sA hbx
  replace sB := S.onto sB hbx
  replace sG := S.onto sG hbx
  replace sH := S.onto sH hbx
  replace s1 := S.onto s1 hbx
  replace t1 := S.onto t1 hbx
  replace s2 := S.onto s2 hbx
  replace t2 := S.onto t2 hbx
  replace s3 := S.onto s3 hbx
  replace t3 := S.onto t3 hbx
  replace s4 := S.onto s4 hbx
  replace t4 := S.onto t4 hbx
  replace hon := Onto.to hon hbx
  have ad0 : (v4.alloc (Obj.cells #[.int .i64 rf.1.epoch, .int .i64 rf.1.doing, .int .i64 rf.1.e.kind, .int .i64 rf.1.e.job, .int .i64 rf.1.e.every, .int .i64 rf.1.e.time, .int .i64 rf.1.e.client, .int .i64 rf.1.at_, .int .i64 rf.1.link, .int .i64 rf.1.played, .slice X4 n4 k4, .slice Y4 m4 d4] 56)).cell? ⟨v4.heap.size, 0, none⟩ = some (.int .i64 rf.1.epoch) := by simp [go_sem]
  have ad1 : (v4.alloc (Obj.cells #[.int .i64 rf.1.epoch, .int .i64 rf.1.doing, .int .i64 rf.1.e.kind, .int .i64 rf.1.e.job, .int .i64 rf.1.e.every, .int .i64 rf.1.e.time, .int .i64 rf.1.e.client, .int .i64 rf.1.at_, .int .i64 rf.1.link, .int .i64 rf.1.played, .slice X4 n4 k4, .slice Y4 m4 d4] 56)).cell? ⟨v4.heap.size, 1, none⟩ = some (.int .i64 rf.1.doing) := by simp [go_sem]
  have ad2 : (v4.alloc (Obj.cells #[.int .i64 rf.1.epoch, .int .i64 rf.1.doing, .int .i64 rf.1.e.kind, .int .i64 rf.1.e.job, .int .i64 rf.1.e.every, .int .i64 rf.1.e.time, .int .i64 rf.1.e.client, .int .i64 rf.1.at_, .int .i64 rf.1.link, .int .i64 rf.1.played, .slice X4 n4 k4, .slice Y4 m4 d4] 56)).cell? ⟨v4.heap.size, 2, none⟩ = some (.int .i64 rf.1.e.kind) := by simp [go_sem]
  have ad3 : (v4.alloc (Obj.cells #[.int .i64 rf.1.epoch, .int .i64 rf.1.doing, .int .i64 rf.1.e.kind, .int .i64 rf.1.e.job, .int .i64 rf.1.e.every, .int .i64 rf.1.e.time, .int .i64 rf.1.e.client, .int .i64 rf.1.at_, .int .i64 rf.1.link, .int .i64 rf.1.played, .slice X4 n4 k4, .slice Y4 m4 d4] 56)).cell? ⟨v4.heap.size, 3, none⟩ = some (.int .i64 rf.1.e.job) := by simp [go_sem]
  have ad4 : (v4.alloc (Obj.cells #[.int .i64 rf.1.epoch, .int .i64 rf.1.doing, .int .i64 rf.1.e.kind, .int .i64 rf.1.e.job, .int .i64 rf.1.e.every, .int .i64 rf.1.e.time, .int .i64 rf.1.e.client, .int .i64 rf.1.at_, .int .i64 rf.1.link, .int .i64 rf.1.played, .slice X4 n4 k4, .slice Y4 m4 d4] 56)).cell? ⟨v4.heap.size, 4, none⟩ = some (.int .i64 rf.1.e.every) := by simp [go_sem]
  have ad5 : (v4.alloc (Obj.cells #[.int .i64 rf.1.epoch, .int .i64 rf.1.doing, .int .i64 rf.1.e.kind, .int .i64 rf.1.e.job, .int .i64 rf.1.e.every, .int .i64 rf.1.e.time, .int .i64 rf.1.e.client, .int .i64 rf.1.at_, .int .i64 rf.1.link, .int .i64 rf.1.played, .slice X4 n4 k4, .slice Y4 m4 d4] 56)).cell? ⟨v4.heap.size, 5, none⟩ = some (.int .i64 rf.1.e.time) := by simp [go_sem]
  have ad6 : (v4.alloc (Obj.cells #[.int .i64 rf.1.epoch, .int .i64 rf.1.doing, .int .i64 rf.1.e.kind, .int .i64 rf.1.e.job, .int .i64 rf.1.e.every, .int .i64 rf.1.e.time, .int .i64 rf.1.e.client, .int .i64 rf.1.at_, .int .i64 rf.1.link, .int .i64 rf.1.played, .slice X4 n4 k4, .slice Y4 m4 d4] 56)).cell? ⟨v4.heap.size, 6, none⟩ = some (.int .i64 rf.1.e.client) := by simp [go_sem]
  have ad7 : (v4.alloc (Obj.cells #[.int .i64 rf.1.epoch, .int .i64 rf.1.doing, .int .i64 rf.1.e.kind, .int .i64 rf.1.e.job, .int .i64 rf.1.e.every, .int .i64 rf.1.e.time, .int .i64 rf.1.e.client, .int .i64 rf.1.at_, .int .i64 rf.1.link, .int .i64 rf.1.played, .slice X4 n4 k4, .slice Y4 m4 d4] 56)).cell? ⟨v4.heap.size, 7, none⟩ = some (.int .i64 rf.1.at_) := by simp [go_sem]
  have ad8 : (v4.alloc (Obj.cells #[.int .i64 rf.1.epoch, .int .i64 rf.1.doing, .int .i64 rf.1.e.kind, .int .i64 rf.1.e.job, .int .i64 rf.1.e.every, .int .i64 rf.1.e.time, .int .i64 rf.1.e.client, .int .i64 rf.1.at_, .int .i64 rf.1.link, .int .i64 rf.1.played, .slice X4 n4 k4, .slice Y4 m4 d4] 56)).cell? ⟨v4.heap.size, 8, none⟩ = some (.int .i64 rf.1.link) := by simp [go_sem]
  have ad9 : (v4.alloc (Obj.cells #[.int .i64 rf.1.epoch, .int .i64 rf.1.doing, .int .i64 rf.1.e.kind, .int .i64 rf.1.e.job, .int .i64 rf.1.e.every, .int .i64 rf.1.e.time, .int .i64 rf.1.e.client, .int .i64 rf.1.at_, .int .i64 rf.1.link, .int .i64 rf.1.played, .slice X4 n4 k4, .slice Y4 m4 d4] 56)).cell? ⟨v4.heap.size, 9, none⟩ = some (.int .i64 rf.1.played) := by simp [go_sem]
  have ad10 : (v4.alloc (Obj.cells #[.int .i64 rf.1.epoch, .int .i64 rf.1.doing, .int .i64 rf.1.e.kind, .int .i64 rf.1.e.job, .int .i64 rf.1.e.every, .int .i64 rf.1.e.time, .int .i64 rf.1.e.client, .int .i64 rf.1.at_, .int .i64 rf.1.link, .int .i64 rf.1.played, .slice X4 n4 k4, .slice Y4 m4 d4] 56)).cell? ⟨v4.heap.size, 10, none⟩ = some (.slice X4 n4 k4) := by simp [go_sem]
  have ad11 : (v4.alloc (Obj.cells #[.int .i64 rf.1.epoch, .int .i64 rf.1.doing, .int .i64 rf.1.e.kind, .int .i64 rf.1.e.job, .int .i64 rf.1.e.every, .int .i64 rf.1.e.time, .int .i64 rf.1.e.client, .int .i64 rf.1.at_, .int .i64 rf.1.link, .int .i64 rf.1.played, .slice X4 n4 k4, .slice Y4 m4 d4] 56)).cell? ⟨v4.heap.size, 11, none⟩ = some (.slice Y4 m4 d4) := by simp [go_sem]
  change Code.wp _ _ _ _ (v4.alloc (Obj.cells #[.int .i64 rf.1.epoch, .int .i64 rf.1.doing, .int .i64 rf.1.e.kind, .int .i64 rf.1.e.job, .int .i64 rf.1.e.every, .int .i64 rf.1.e.time, .int .i64 rf.1.e.client, .int .i64 rf.1.at_, .int .i64 rf.1.link, .int .i64 rf.1.played, .slice X4 n4 k4, .slice Y4 m4 d4] 56))
  clear hbx
  generalize (v4.alloc (Obj.cells #[.int .i64 rf.1.epoch, .int .i64 rf.1.doing, .int .i64 rf.1.e.kind, .int .i64 rf.1.e.job, .int .i64 rf.1.e.every, .int .i64 rf.1.e.time, .int .i64 rf.1.e.client, .int .i64 rf.1.at_, .int .i64 rf.1.link, .int .i64 rf.1.played, .slice X4 n4 k4, .slice Y4 m4 d4] 56)) = w4 at *
  generalize v4.heap.size = Bad at *
  go_wp2_with fail
  refine Calls.mono (RWanted_calls ep dg at_ ln pl x y A A' n c m d b _ sA sB) ?_
  rw [← Hrw.out]
  rintro e v5 ⟨X5, n5, k5, Y5, m5, d5, rfl, s5, t5, hb, _⟩
  replace c0 := cellB hb c0
  replace c1 := cellB hb c1
  replace c2 := cellB hb c2
  replace c3 := cellB hb c3
  replace c4 := cellB hb c4
  replace c5 := cellB hb c5
  replace c6 := cellB hb c6
  replace c7 := cellB hb c7
  replace c8 := cellB hb c8
  replace c9 := cellB hb c9
  replace c10 := cellB hb c10
  replace c11 := cellB hb c11
  replace e0 := cellB hb e0
  replace e1 := cellB hb e1
  replace e2 := cellB hb e2
  replace e3 := cellB hb e3
  replace e4 := cellB hb e4
  replace g0 := cellB hb g0
  replace g1 := cellB hb g1
  replace g2 := cellB hb g2
  replace g3 := cellB hb g3
  replace g4 := cellB hb g4
  replace g5 := cellB hb g5
  replace g6 := cellB hb g6
  replace g7 := cellB hb g7
  replace g8 := cellB hb g8
  replace g9 := cellB hb g9
  replace g10 := cellB hb g10
  replace g11 := cellB hb g11
  replace aa0 := cellB hb aa0
  replace aa1 := cellB hb aa1
  replace aa2 := cellB hb aa2
  replace aa3 := cellB hb aa3
  replace aa4 := cellB hb aa4
  replace aa5 := cellB hb aa5
  replace aa6 := cellB hb aa6
  replace aa7 := cellB hb aa7
  replace aa8 := cellB hb aa8
  replace aa9 := cellB hb aa9
  replace aa10 := cellB hb aa10
  replace aa11 := cellB hb aa11
  replace ab0 := cellB hb ab0
  replace ab1 := cellB hb ab1
  replace ab2 := cellB hb ab2
  replace ab3 := cellB hb ab3
  replace ab4 := cellB hb ab4
  replace ab5 := cellB hb ab5
  replace ab6 := cellB hb ab6
  replace ab7 := cellB hb ab7
  replace ab8 := cellB hb ab8
  replace ab9 := cellB hb ab9
  replace ab10 := cellB hb ab10
  replace ab11 := cellB hb ab11
  replace ac0 := cellB hb ac0
  replace ac1 := cellB hb ac1
  replace ac2 := cellB hb ac2
  replace ac3 := cellB hb ac3
  replace ac4 := cellB hb ac4
  replace ac5 := cellB hb ac5
  replace ac6 := cellB hb ac6
  replace ac7 := cellB hb ac7
  replace ac8 := cellB hb ac8
  replace ac9 := cellB hb ac9
  replace ac10 := cellB hb ac10
  replace ac11 := cellB hb ac11
  replace ad0 := cellB hb ad0
  replace ad1 := cellB hb ad1
  replace ad2 := cellB hb ad2
  replace ad3 := cellB hb ad3
  replace ad4 := cellB hb ad4
  replace ad5 := cellB hb ad5
  replace ad6 := cellB hb ad6
  replace ad7 := cellB hb ad7
  replace ad8 := cellB hb ad8
  replace ad9 := cellB hb ad9
  replace ad10 := cellB hb ad10
  replace ad11 := cellB hb ad11
  replace sA := S.onto sA hb
  replace sB := S.onto sB hb
  replace sG := S.onto sG hb
  replace sH := S.onto sH hb
  replace s1 := S.onto s1 hb
  replace t1 := S.onto t1 hb
  replace s2 := S.onto s2 hb
  replace t2 := S.onto t2 hb
  replace s3 := S.onto s3 hb
  replace t3 := S.onto t3 hb
  replace s4 := S.onto s4 hb
  replace t4 := S.onto t4 hb
  replace hon := Onto.to hon hb
  clear hb
  go_upto_region 6 with fail
  have hdaw : w.heap.size ≤ v5.heap.size := hon.size
  have hcda : w.heap.size < v5.heap.size := World.block_lt_of_cell? _ _ c0
  have heda : w.heap.size + 1 < v5.heap.size := World.block_lt_of_cell? _ _ e0
  have hgda : w.heap.size + 1 + 1 < v5.heap.size := World.block_lt_of_cell? _ _ g0
  have haada : Baa < v5.heap.size := World.block_lt_of_cell? _ _ aa0
  have habda : Bab < v5.heap.size := World.block_lt_of_cell? _ _ ab0
  have hacda : Bac < v5.heap.size := World.block_lt_of_cell? _ _ ac0
  have hadda : Bad < v5.heap.size := World.block_lt_of_cell? _ _ ad0
  have hbx : Onto v5 (v5.alloc (Obj.cells #[.int .i64 rq.1.epoch, .int .i64 rq.1.doing, .int .i64 rq.1.e.kind, .int .i64 rq.1.e.job, .int .i64 rq.1.e.every, .int .i64 rq.1.e.time, .int .i64 rq.1.e.client, .int .i64 rq.1.at_, .int .i64 rq.1.link, .int .i64 rq.1.played, .slice X5 n5 k5, .slice Y5 m5 d5] 56)) := (Below.refl _ _).alloc (Nat.le_refl _) _
  replace c0 := cellB hbx c0
  replace c1 := cellB hbx c1
  replace c2 := cellB hbx c2
  replace c3 := cellB hbx c3
  replace c4 := cellB hbx c4
  replace c5 := cellB hbx c5
  replace c6 := cellB hbx c6
  replace c7 := cellB hbx c7
  replace c8 := cellB hbx c8
  replace c9 := cellB hbx c9
  replace c10 := cellB hbx c10
  replace c11 := cellB hbx c11
  replace e0 := cellB hbx e0
  replace e1 := cellB hbx e1
  replace e2 := cellB hbx e2
  replace e3 := cellB hbx e3
  replace e4 := cellB hbx e4
  replace g0 := cellB hbx g0
  replace g1 := cellB hbx g1
  replace g2 := cellB hbx g2
  replace g3 := cellB hbx g3
  replace g4 := cellB hbx g4
  replace g5 := cellB hbx g5
  replace g6 := cellB hbx g6
  replace g7 := cellB hbx g7
  replace g8 := cellB hbx g8
  replace g9 := cellB hbx g9
  replace g10 := cellB hbx g10
  replace g11 := cellB hbx g11
  replace aa0 := cellB hbx aa0
  replace aa1 := cellB hbx aa1
  replace aa2 := cellB hbx aa2
  replace aa3 := cellB hbx aa3
  replace aa4 := cellB hbx aa4
  replace aa5 := cellB hbx aa5
  replace aa6 := cellB hbx aa6
  replace aa7 := cellB hbx aa7
  replace aa8 := cellB hbx aa8
  replace aa9 := cellB hbx aa9
  replace aa10 := cellB hbx aa10
  replace aa11 := cellB hbx aa11
  replace ab0 := cellB hbx ab0
  replace ab1 := cellB hbx ab1
  replace ab2 := cellB hbx ab2
  replace ab3 := cellB hbx ab3
  replace ab4 := cellB hbx ab4
  replace ab5 := cellB hbx ab5
  replace ab6 := cellB hbx ab6
  replace ab7 := cellB hbx ab7
  replace ab8 := cellB hbx ab8
  replace ab9 := cellB hbx ab9
  replace ab10 := cellB hbx ab10
  replace ab11 := cellB hbx ab11
  replace ac0 := cellB hbx ac0
  replace ac1 := cellB hbx ac1
  replace ac2 := cellB hbx ac2
  replace ac3 := cellB hbx ac3
  replace ac4 := cellB hbx ac4
  replace ac5 := cellB hbx ac5
  replace ac6 := cellB hbx ac6
  replace ac7 := cellB hbx ac7
  replace ac8 := cellB hbx ac8
  replace ac9 := cellB hbx ac9
  replace ac10 := cellB hbx ac10
  replace ac11 := cellB hbx ac11
  replace ad0 := cellB hbx ad0
  replace ad1 := cellB hbx ad1
  replace ad2 := cellB hbx ad2
  replace ad3 := cellB hbx ad3
  replace ad4 := cellB hbx ad4
  replace ad5 := cellB hbx ad5
  replace ad6 := cellB hbx ad6
  replace ad7 := cellB hbx ad7
  replace ad8 := cellB hbx ad8
  replace ad9 := cellB hbx ad9
  replace ad10 := cellB hbx ad10
  replace ad11 := cellB hbx ad11
  replace sA := S.onto sA hbx
  replace sB := S.onto sB hbx
  replace sG := S.onto sG hbx
  replace sH := S.onto sH hbx
  replace s1 := S.onto s1 hbx
  replace t1 := S.onto t1 hbx
  replace s2 := S.onto s2 hbx
  replace t2 := S.onto t2 hbx
  replace s3 := S.onto s3 hbx
  replace t3 := S.onto t3 hbx
  replace s4 := S.onto s4 hbx
  replace t4 := S.onto t4 hbx
  replace s5 := S.onto s5 hbx
  replace t5 := S.onto t5 hbx
  replace hon := Onto.to hon hbx
  have da0 : (v5.alloc (Obj.cells #[.int .i64 rq.1.epoch, .int .i64 rq.1.doing, .int .i64 rq.1.e.kind, .int .i64 rq.1.e.job, .int .i64 rq.1.e.every, .int .i64 rq.1.e.time, .int .i64 rq.1.e.client, .int .i64 rq.1.at_, .int .i64 rq.1.link, .int .i64 rq.1.played, .slice X5 n5 k5, .slice Y5 m5 d5] 56)).cell? ⟨v5.heap.size, 0, none⟩ = some (.int .i64 rq.1.epoch) := by simp [go_sem]
  have da1 : (v5.alloc (Obj.cells #[.int .i64 rq.1.epoch, .int .i64 rq.1.doing, .int .i64 rq.1.e.kind, .int .i64 rq.1.e.job, .int .i64 rq.1.e.every, .int .i64 rq.1.e.time, .int .i64 rq.1.e.client, .int .i64 rq.1.at_, .int .i64 rq.1.link, .int .i64 rq.1.played, .slice X5 n5 k5, .slice Y5 m5 d5] 56)).cell? ⟨v5.heap.size, 1, none⟩ = some (.int .i64 rq.1.doing) := by simp [go_sem]
  have da2 : (v5.alloc (Obj.cells #[.int .i64 rq.1.epoch, .int .i64 rq.1.doing, .int .i64 rq.1.e.kind, .int .i64 rq.1.e.job, .int .i64 rq.1.e.every, .int .i64 rq.1.e.time, .int .i64 rq.1.e.client, .int .i64 rq.1.at_, .int .i64 rq.1.link, .int .i64 rq.1.played, .slice X5 n5 k5, .slice Y5 m5 d5] 56)).cell? ⟨v5.heap.size, 2, none⟩ = some (.int .i64 rq.1.e.kind) := by simp [go_sem]
  have da3 : (v5.alloc (Obj.cells #[.int .i64 rq.1.epoch, .int .i64 rq.1.doing, .int .i64 rq.1.e.kind, .int .i64 rq.1.e.job, .int .i64 rq.1.e.every, .int .i64 rq.1.e.time, .int .i64 rq.1.e.client, .int .i64 rq.1.at_, .int .i64 rq.1.link, .int .i64 rq.1.played, .slice X5 n5 k5, .slice Y5 m5 d5] 56)).cell? ⟨v5.heap.size, 3, none⟩ = some (.int .i64 rq.1.e.job) := by simp [go_sem]
  have da4 : (v5.alloc (Obj.cells #[.int .i64 rq.1.epoch, .int .i64 rq.1.doing, .int .i64 rq.1.e.kind, .int .i64 rq.1.e.job, .int .i64 rq.1.e.every, .int .i64 rq.1.e.time, .int .i64 rq.1.e.client, .int .i64 rq.1.at_, .int .i64 rq.1.link, .int .i64 rq.1.played, .slice X5 n5 k5, .slice Y5 m5 d5] 56)).cell? ⟨v5.heap.size, 4, none⟩ = some (.int .i64 rq.1.e.every) := by simp [go_sem]
  have da5 : (v5.alloc (Obj.cells #[.int .i64 rq.1.epoch, .int .i64 rq.1.doing, .int .i64 rq.1.e.kind, .int .i64 rq.1.e.job, .int .i64 rq.1.e.every, .int .i64 rq.1.e.time, .int .i64 rq.1.e.client, .int .i64 rq.1.at_, .int .i64 rq.1.link, .int .i64 rq.1.played, .slice X5 n5 k5, .slice Y5 m5 d5] 56)).cell? ⟨v5.heap.size, 5, none⟩ = some (.int .i64 rq.1.e.time) := by simp [go_sem]
  have da6 : (v5.alloc (Obj.cells #[.int .i64 rq.1.epoch, .int .i64 rq.1.doing, .int .i64 rq.1.e.kind, .int .i64 rq.1.e.job, .int .i64 rq.1.e.every, .int .i64 rq.1.e.time, .int .i64 rq.1.e.client, .int .i64 rq.1.at_, .int .i64 rq.1.link, .int .i64 rq.1.played, .slice X5 n5 k5, .slice Y5 m5 d5] 56)).cell? ⟨v5.heap.size, 6, none⟩ = some (.int .i64 rq.1.e.client) := by simp [go_sem]
  have da7 : (v5.alloc (Obj.cells #[.int .i64 rq.1.epoch, .int .i64 rq.1.doing, .int .i64 rq.1.e.kind, .int .i64 rq.1.e.job, .int .i64 rq.1.e.every, .int .i64 rq.1.e.time, .int .i64 rq.1.e.client, .int .i64 rq.1.at_, .int .i64 rq.1.link, .int .i64 rq.1.played, .slice X5 n5 k5, .slice Y5 m5 d5] 56)).cell? ⟨v5.heap.size, 7, none⟩ = some (.int .i64 rq.1.at_) := by simp [go_sem]
  have da8 : (v5.alloc (Obj.cells #[.int .i64 rq.1.epoch, .int .i64 rq.1.doing, .int .i64 rq.1.e.kind, .int .i64 rq.1.e.job, .int .i64 rq.1.e.every, .int .i64 rq.1.e.time, .int .i64 rq.1.e.client, .int .i64 rq.1.at_, .int .i64 rq.1.link, .int .i64 rq.1.played, .slice X5 n5 k5, .slice Y5 m5 d5] 56)).cell? ⟨v5.heap.size, 8, none⟩ = some (.int .i64 rq.1.link) := by simp [go_sem]
  have da9 : (v5.alloc (Obj.cells #[.int .i64 rq.1.epoch, .int .i64 rq.1.doing, .int .i64 rq.1.e.kind, .int .i64 rq.1.e.job, .int .i64 rq.1.e.every, .int .i64 rq.1.e.time, .int .i64 rq.1.e.client, .int .i64 rq.1.at_, .int .i64 rq.1.link, .int .i64 rq.1.played, .slice X5 n5 k5, .slice Y5 m5 d5] 56)).cell? ⟨v5.heap.size, 9, none⟩ = some (.int .i64 rq.1.played) := by simp [go_sem]
  have da10 : (v5.alloc (Obj.cells #[.int .i64 rq.1.epoch, .int .i64 rq.1.doing, .int .i64 rq.1.e.kind, .int .i64 rq.1.e.job, .int .i64 rq.1.e.every, .int .i64 rq.1.e.time, .int .i64 rq.1.e.client, .int .i64 rq.1.at_, .int .i64 rq.1.link, .int .i64 rq.1.played, .slice X5 n5 k5, .slice Y5 m5 d5] 56)).cell? ⟨v5.heap.size, 10, none⟩ = some (.slice X5 n5 k5) := by simp [go_sem]
  have da11 : (v5.alloc (Obj.cells #[.int .i64 rq.1.epoch, .int .i64 rq.1.doing, .int .i64 rq.1.e.kind, .int .i64 rq.1.e.job, .int .i64 rq.1.e.every, .int .i64 rq.1.e.time, .int .i64 rq.1.e.client, .int .i64 rq.1.at_, .int .i64 rq.1.link, .int .i64 rq.1.played, .slice X5 n5 k5, .slice Y5 m5 d5] 56)).cell? ⟨v5.heap.size, 11, none⟩ = some (.slice Y5 m5 d5) := by simp [go_sem]
  change Code.wp _ _ _ _ (v5.alloc (Obj.cells #[.int .i64 rq.1.epoch, .int .i64 rq.1.doing, .int .i64 rq.1.e.kind, .int .i64 rq.1.e.job, .int .i64 rq.1.e.every, .int .i64 rq.1.e.time, .int .i64 rq.1.e.client, .int .i64 rq.1.at_, .int .i64 rq.1.link, .int .i64 rq.1.played, .slice X5 n5 k5, .slice Y5 m5 d5] 56))
  clear hbx
  generalize (v5.alloc (Obj.cells #[.int .i64 rq.1.epoch, .int .i64 rq.1.doing, .int .i64 rq.1.e.kind, .int .i64 rq.1.e.job, .int .i64 rq.1.e.every, .int .i64 rq.1.e.time, .int .i64 rq.1.e.client, .int .i64 rq.1.at_, .int .i64 rq.1.link, .int .i64 rq.1.played, .slice X5 n5 k5, .slice Y5 m5 d5] 56)) = w5 at *
  generalize v5.heap.size = Bda at *
  go_wp2_with fail
  refine Calls.mono (RRinging_calls ep dg at_ ln pl x A A' n c m d b me job t _ sA sB) ?_
  rw [← Hrr.out]
  rintro e v6 ⟨X6, n6, k6, Y6, m6, d6, rfl, s6, t6, hb⟩
  replace c0 := cellB hb c0
  replace c1 := cellB hb c1
  replace c2 := cellB hb c2
  replace c3 := cellB hb c3
  replace c4 := cellB hb c4
  replace c5 := cellB hb c5
  replace c6 := cellB hb c6
  replace c7 := cellB hb c7
  replace c8 := cellB hb c8
  replace c9 := cellB hb c9
  replace c10 := cellB hb c10
  replace c11 := cellB hb c11
  replace e0 := cellB hb e0
  replace e1 := cellB hb e1
  replace e2 := cellB hb e2
  replace e3 := cellB hb e3
  replace e4 := cellB hb e4
  replace g0 := cellB hb g0
  replace g1 := cellB hb g1
  replace g2 := cellB hb g2
  replace g3 := cellB hb g3
  replace g4 := cellB hb g4
  replace g5 := cellB hb g5
  replace g6 := cellB hb g6
  replace g7 := cellB hb g7
  replace g8 := cellB hb g8
  replace g9 := cellB hb g9
  replace g10 := cellB hb g10
  replace g11 := cellB hb g11
  replace aa0 := cellB hb aa0
  replace aa1 := cellB hb aa1
  replace aa2 := cellB hb aa2
  replace aa3 := cellB hb aa3
  replace aa4 := cellB hb aa4
  replace aa5 := cellB hb aa5
  replace aa6 := cellB hb aa6
  replace aa7 := cellB hb aa7
  replace aa8 := cellB hb aa8
  replace aa9 := cellB hb aa9
  replace aa10 := cellB hb aa10
  replace aa11 := cellB hb aa11
  replace ab0 := cellB hb ab0
  replace ab1 := cellB hb ab1
  replace ab2 := cellB hb ab2
  replace ab3 := cellB hb ab3
  replace ab4 := cellB hb ab4
  replace ab5 := cellB hb ab5
  replace ab6 := cellB hb ab6
  replace ab7 := cellB hb ab7
  replace ab8 := cellB hb ab8
  replace ab9 := cellB hb ab9
  replace ab10 := cellB hb ab10
  replace ab11 := cellB hb ab11
  replace ac0 := cellB hb ac0
  replace ac1 := cellB hb ac1
  replace ac2 := cellB hb ac2
  replace ac3 := cellB hb ac3
  replace ac4 := cellB hb ac4
  replace ac5 := cellB hb ac5
  replace ac6 := cellB hb ac6
  replace ac7 := cellB hb ac7
  replace ac8 := cellB hb ac8
  replace ac9 := cellB hb ac9
  replace ac10 := cellB hb ac10
  replace ac11 := cellB hb ac11
  replace ad0 := cellB hb ad0
  replace ad1 := cellB hb ad1
  replace ad2 := cellB hb ad2
  replace ad3 := cellB hb ad3
  replace ad4 := cellB hb ad4
  replace ad5 := cellB hb ad5
  replace ad6 := cellB hb ad6
  replace ad7 := cellB hb ad7
  replace ad8 := cellB hb ad8
  replace ad9 := cellB hb ad9
  replace ad10 := cellB hb ad10
  replace ad11 := cellB hb ad11
  replace da0 := cellB hb da0
  replace da1 := cellB hb da1
  replace da2 := cellB hb da2
  replace da3 := cellB hb da3
  replace da4 := cellB hb da4
  replace da5 := cellB hb da5
  replace da6 := cellB hb da6
  replace da7 := cellB hb da7
  replace da8 := cellB hb da8
  replace da9 := cellB hb da9
  replace da10 := cellB hb da10
  replace da11 := cellB hb da11
  replace sA := S.onto sA hb
  replace sB := S.onto sB hb
  replace sG := S.onto sG hb
  replace sH := S.onto sH hb
  replace s1 := S.onto s1 hb
  replace t1 := S.onto t1 hb
  replace s2 := S.onto s2 hb
  replace t2 := S.onto t2 hb
  replace s3 := S.onto s3 hb
  replace t3 := S.onto t3 hb
  replace s4 := S.onto s4 hb
  replace t4 := S.onto t4 hb
  replace s5 := S.onto s5 hb
  replace t5 := S.onto t5 hb
  replace hon := Onto.to hon hb
  clear hb
  go_upto_region 7 with fail
  have hdbw : w.heap.size ≤ v6.heap.size := hon.size
  have hcdb : w.heap.size < v6.heap.size := World.block_lt_of_cell? _ _ c0
  have hedb : w.heap.size + 1 < v6.heap.size := World.block_lt_of_cell? _ _ e0
  have hgdb : w.heap.size + 1 + 1 < v6.heap.size := World.block_lt_of_cell? _ _ g0
  have haadb : Baa < v6.heap.size := World.block_lt_of_cell? _ _ aa0
  have habdb : Bab < v6.heap.size := World.block_lt_of_cell? _ _ ab0
  have hacdb : Bac < v6.heap.size := World.block_lt_of_cell? _ _ ac0
  have haddb : Bad < v6.heap.size := World.block_lt_of_cell? _ _ ad0
  have hdadb : Bda < v6.heap.size := World.block_lt_of_cell? _ _ da0
  have hbx : Onto v6 (v6.alloc (Obj.cells #[.int .i64 rr.1.epoch, .int .i64 rr.1.doing, .int .i64 rr.1.e.kind, .int .i64 rr.1.e.job, .int .i64 rr.1.e.every, .int .i64 rr.1.e.time, .int .i64 rr.1.e.client, .int .i64 rr.1.at_, .int .i64 rr.1.link, .int .i64 rr.1.played, .slice X6 n6 k6, .slice Y6 m6 d6] 56)) := (Below.refl _ _).alloc (Nat.le_refl _) _
  replace c0 := cellB hbx c0
  replace c1 := cellB hbx c1
  replace c2 := cellB hbx c2
  replace c3 := cellB hbx c3
  replace c4 := cellB hbx c4
  replace c5 := cellB hbx c5
  replace c6 := cellB hbx c6
  replace c7 := cellB hbx c7
  replace c8 := cellB hbx c8
  replace c9 := cellB hbx c9
  replace c10 := cellB hbx c10
  replace c11 := cellB hbx c11
  replace e0 := cellB hbx e0
  replace e1 := cellB hbx e1
  replace e2 := cellB hbx e2
  replace e3 := cellB hbx e3
  replace e4 := cellB hbx e4
  replace g0 := cellB hbx g0
  replace g1 := cellB hbx g1
  replace g2 := cellB hbx g2
  replace g3 := cellB hbx g3
  replace g4 := cellB hbx g4
  replace g5 := cellB hbx g5
  replace g6 := cellB hbx g6
  replace g7 := cellB hbx g7
  replace g8 := cellB hbx g8
  replace g9 := cellB hbx g9
  replace g10 := cellB hbx g10
  replace g11 := cellB hbx g11
  replace aa0 := cellB hbx aa0
  replace aa1 := cellB hbx aa1
  replace aa2 := cellB hbx aa2
  replace aa3 := cellB hbx aa3
  replace aa4 := cellB hbx aa4
  replace aa5 := cellB hbx aa5
  replace aa6 := cellB hbx aa6
  replace aa7 := cellB hbx aa7
  replace aa8 := cellB hbx aa8
  replace aa9 := cellB hbx aa9
  replace aa10 := cellB hbx aa10
  replace aa11 := cellB hbx aa11
  replace ab0 := cellB hbx ab0
  replace ab1 := cellB hbx ab1
  replace ab2 := cellB hbx ab2
  replace ab3 := cellB hbx ab3
  replace ab4 := cellB hbx ab4
  replace ab5 := cellB hbx ab5
  replace ab6 := cellB hbx ab6
  replace ab7 := cellB hbx ab7
  replace ab8 := cellB hbx ab8
  replace ab9 := cellB hbx ab9
  replace ab10 := cellB hbx ab10
  replace ab11 := cellB hbx ab11
  replace ac0 := cellB hbx ac0
  replace ac1 := cellB hbx ac1
  replace ac2 := cellB hbx ac2
  replace ac3 := cellB hbx ac3
  replace ac4 := cellB hbx ac4
  replace ac5 := cellB hbx ac5
  replace ac6 := cellB hbx ac6
  replace ac7 := cellB hbx ac7
  replace ac8 := cellB hbx ac8
  replace ac9 := cellB hbx ac9
  replace ac10 := cellB hbx ac10
  replace ac11 := cellB hbx ac11
  replace ad0 := cellB hbx ad0
  replace ad1 := cellB hbx ad1
  replace ad2 := cellB hbx ad2
  replace ad3 := cellB hbx ad3
  replace ad4 := cellB hbx ad4
  replace ad5 := cellB hbx ad5
  replace ad6 := cellB hbx ad6
  replace ad7 := cellB hbx ad7
  replace ad8 := cellB hbx ad8
  replace ad9 := cellB hbx ad9
  replace ad10 := cellB hbx ad10
  replace ad11 := cellB hbx ad11
  replace da0 := cellB hbx da0
  replace da1 := cellB hbx da1
  replace da2 := cellB hbx da2
  replace da3 := cellB hbx da3
  replace da4 := cellB hbx da4
  replace da5 := cellB hbx da5
  replace da6 := cellB hbx da6
  replace da7 := cellB hbx da7
  replace da8 := cellB hbx da8
  replace da9 := cellB hbx da9
  replace da10 := cellB hbx da10
  replace da11 := cellB hbx da11
  replace sA := S.onto sA hbx
  replace sB := S.onto sB hbx
  replace sG := S.onto sG hbx
  replace sH := S.onto sH hbx
  replace s1 := S.onto s1 hbx
  replace t1 := S.onto t1 hbx
  replace s2 := S.onto s2 hbx
  replace t2 := S.onto t2 hbx
  replace s3 := S.onto s3 hbx
  replace t3 := S.onto t3 hbx
  replace s4 := S.onto s4 hbx
  replace t4 := S.onto t4 hbx
  replace s5 := S.onto s5 hbx
  replace t5 := S.onto t5 hbx
  replace s6 := S.onto s6 hbx
  replace t6 := S.onto t6 hbx
  replace hon := Onto.to hon hbx
  have db0 : (v6.alloc (Obj.cells #[.int .i64 rr.1.epoch, .int .i64 rr.1.doing, .int .i64 rr.1.e.kind, .int .i64 rr.1.e.job, .int .i64 rr.1.e.every, .int .i64 rr.1.e.time, .int .i64 rr.1.e.client, .int .i64 rr.1.at_, .int .i64 rr.1.link, .int .i64 rr.1.played, .slice X6 n6 k6, .slice Y6 m6 d6] 56)).cell? ⟨v6.heap.size, 0, none⟩ = some (.int .i64 rr.1.epoch) := by simp [go_sem]
  have db1 : (v6.alloc (Obj.cells #[.int .i64 rr.1.epoch, .int .i64 rr.1.doing, .int .i64 rr.1.e.kind, .int .i64 rr.1.e.job, .int .i64 rr.1.e.every, .int .i64 rr.1.e.time, .int .i64 rr.1.e.client, .int .i64 rr.1.at_, .int .i64 rr.1.link, .int .i64 rr.1.played, .slice X6 n6 k6, .slice Y6 m6 d6] 56)).cell? ⟨v6.heap.size, 1, none⟩ = some (.int .i64 rr.1.doing) := by simp [go_sem]
  have db2 : (v6.alloc (Obj.cells #[.int .i64 rr.1.epoch, .int .i64 rr.1.doing, .int .i64 rr.1.e.kind, .int .i64 rr.1.e.job, .int .i64 rr.1.e.every, .int .i64 rr.1.e.time, .int .i64 rr.1.e.client, .int .i64 rr.1.at_, .int .i64 rr.1.link, .int .i64 rr.1.played, .slice X6 n6 k6, .slice Y6 m6 d6] 56)).cell? ⟨v6.heap.size, 2, none⟩ = some (.int .i64 rr.1.e.kind) := by simp [go_sem]
  have db3 : (v6.alloc (Obj.cells #[.int .i64 rr.1.epoch, .int .i64 rr.1.doing, .int .i64 rr.1.e.kind, .int .i64 rr.1.e.job, .int .i64 rr.1.e.every, .int .i64 rr.1.e.time, .int .i64 rr.1.e.client, .int .i64 rr.1.at_, .int .i64 rr.1.link, .int .i64 rr.1.played, .slice X6 n6 k6, .slice Y6 m6 d6] 56)).cell? ⟨v6.heap.size, 3, none⟩ = some (.int .i64 rr.1.e.job) := by simp [go_sem]
  have db4 : (v6.alloc (Obj.cells #[.int .i64 rr.1.epoch, .int .i64 rr.1.doing, .int .i64 rr.1.e.kind, .int .i64 rr.1.e.job, .int .i64 rr.1.e.every, .int .i64 rr.1.e.time, .int .i64 rr.1.e.client, .int .i64 rr.1.at_, .int .i64 rr.1.link, .int .i64 rr.1.played, .slice X6 n6 k6, .slice Y6 m6 d6] 56)).cell? ⟨v6.heap.size, 4, none⟩ = some (.int .i64 rr.1.e.every) := by simp [go_sem]
  have db5 : (v6.alloc (Obj.cells #[.int .i64 rr.1.epoch, .int .i64 rr.1.doing, .int .i64 rr.1.e.kind, .int .i64 rr.1.e.job, .int .i64 rr.1.e.every, .int .i64 rr.1.e.time, .int .i64 rr.1.e.client, .int .i64 rr.1.at_, .int .i64 rr.1.link, .int .i64 rr.1.played, .slice X6 n6 k6, .slice Y6 m6 d6] 56)).cell? ⟨v6.heap.size, 5, none⟩ = some (.int .i64 rr.1.e.time) := by simp [go_sem]
  have db6 : (v6.alloc (Obj.cells #[.int .i64 rr.1.epoch, .int .i64 rr.1.doing, .int .i64 rr.1.e.kind, .int .i64 rr.1.e.job, .int .i64 rr.1.e.every, .int .i64 rr.1.e.time, .int .i64 rr.1.e.client, .int .i64 rr.1.at_, .int .i64 rr.1.link, .int .i64 rr.1.played, .slice X6 n6 k6, .slice Y6 m6 d6] 56)).cell? ⟨v6.heap.size, 6, none⟩ = some (.int .i64 rr.1.e.client) := by simp [go_sem]
  have db7 : (v6.alloc (Obj.cells #[.int .i64 rr.1.epoch, .int .i64 rr.1.doing, .int .i64 rr.1.e.kind, .int .i64 rr.1.e.job, .int .i64 rr.1.e.every, .int .i64 rr.1.e.time, .int .i64 rr.1.e.client, .int .i64 rr.1.at_, .int .i64 rr.1.link, .int .i64 rr.1.played, .slice X6 n6 k6, .slice Y6 m6 d6] 56)).cell? ⟨v6.heap.size, 7, none⟩ = some (.int .i64 rr.1.at_) := by simp [go_sem]
  have db8 : (v6.alloc (Obj.cells #[.int .i64 rr.1.epoch, .int .i64 rr.1.doing, .int .i64 rr.1.e.kind, .int .i64 rr.1.e.job, .int .i64 rr.1.e.every, .int .i64 rr.1.e.time, .int .i64 rr.1.e.client, .int .i64 rr.1.at_, .int .i64 rr.1.link, .int .i64 rr.1.played, .slice X6 n6 k6, .slice Y6 m6 d6] 56)).cell? ⟨v6.heap.size, 8, none⟩ = some (.int .i64 rr.1.link) := by simp [go_sem]
  have db9 : (v6.alloc (Obj.cells #[.int .i64 rr.1.epoch, .int .i64 rr.1.doing, .int .i64 rr.1.e.kind, .int .i64 rr.1.e.job, .int .i64 rr.1.e.every, .int .i64 rr.1.e.time, .int .i64 rr.1.e.client, .int .i64 rr.1.at_, .int .i64 rr.1.link, .int .i64 rr.1.played, .slice X6 n6 k6, .slice Y6 m6 d6] 56)).cell? ⟨v6.heap.size, 9, none⟩ = some (.int .i64 rr.1.played) := by simp [go_sem]
  have db10 : (v6.alloc (Obj.cells #[.int .i64 rr.1.epoch, .int .i64 rr.1.doing, .int .i64 rr.1.e.kind, .int .i64 rr.1.e.job, .int .i64 rr.1.e.every, .int .i64 rr.1.e.time, .int .i64 rr.1.e.client, .int .i64 rr.1.at_, .int .i64 rr.1.link, .int .i64 rr.1.played, .slice X6 n6 k6, .slice Y6 m6 d6] 56)).cell? ⟨v6.heap.size, 10, none⟩ = some (.slice X6 n6 k6) := by simp [go_sem]
  have db11 : (v6.alloc (Obj.cells #[.int .i64 rr.1.epoch, .int .i64 rr.1.doing, .int .i64 rr.1.e.kind, .int .i64 rr.1.e.job, .int .i64 rr.1.e.every, .int .i64 rr.1.e.time, .int .i64 rr.1.e.client, .int .i64 rr.1.at_, .int .i64 rr.1.link, .int .i64 rr.1.played, .slice X6 n6 k6, .slice Y6 m6 d6] 56)).cell? ⟨v6.heap.size, 11, none⟩ = some (.slice Y6 m6 d6) := by simp [go_sem]
  change Code.wp _ _ _ _ (v6.alloc (Obj.cells #[.int .i64 rr.1.epoch, .int .i64 rr.1.doing, .int .i64 rr.1.e.kind, .int .i64 rr.1.e.job, .int .i64 rr.1.e.every, .int .i64 rr.1.e.time, .int .i64 rr.1.e.client, .int .i64 rr.1.at_, .int .i64 rr.1.link, .int .i64 rr.1.played, .slice X6 n6 k6, .slice Y6 m6 d6] 56))
  clear hbx
  generalize (v6.alloc (Obj.cells #[.int .i64 rr.1.epoch, .int .i64 rr.1.doing, .int .i64 rr.1.e.kind, .int .i64 rr.1.e.job, .int .i64 rr.1.e.every, .int .i64 rr.1.e.time, .int .i64 rr.1.e.client, .int .i64 rr.1.at_, .int .i64 rr.1.link, .int .i64 rr.1.played, .slice X6 n6 k6, .slice Y6 m6 d6] 56)) = w6 at *
  generalize v6.heap.size = Bdb at *
  go_wp2_with fail
  refine Calls.mono (RPlace_calls ep dg at_ ln pl x A A' n c m d b v _ sA sB) ?_
  rw [← Hrp.out]
  rintro e v7 ⟨X7, n7, k7, Y7, m7, d7, rfl, s7, t7, hb⟩
  replace c0 := cellB hb c0
  replace c1 := cellB hb c1
  replace c2 := cellB hb c2
  replace c3 := cellB hb c3
  replace c4 := cellB hb c4
  replace c5 := cellB hb c5
  replace c6 := cellB hb c6
  replace c7 := cellB hb c7
  replace c8 := cellB hb c8
  replace c9 := cellB hb c9
  replace c10 := cellB hb c10
  replace c11 := cellB hb c11
  replace e0 := cellB hb e0
  replace e1 := cellB hb e1
  replace e2 := cellB hb e2
  replace e3 := cellB hb e3
  replace e4 := cellB hb e4
  replace g0 := cellB hb g0
  replace g1 := cellB hb g1
  replace g2 := cellB hb g2
  replace g3 := cellB hb g3
  replace g4 := cellB hb g4
  replace g5 := cellB hb g5
  replace g6 := cellB hb g6
  replace g7 := cellB hb g7
  replace g8 := cellB hb g8
  replace g9 := cellB hb g9
  replace g10 := cellB hb g10
  replace g11 := cellB hb g11
  replace aa0 := cellB hb aa0
  replace aa1 := cellB hb aa1
  replace aa2 := cellB hb aa2
  replace aa3 := cellB hb aa3
  replace aa4 := cellB hb aa4
  replace aa5 := cellB hb aa5
  replace aa6 := cellB hb aa6
  replace aa7 := cellB hb aa7
  replace aa8 := cellB hb aa8
  replace aa9 := cellB hb aa9
  replace aa10 := cellB hb aa10
  replace aa11 := cellB hb aa11
  replace ab0 := cellB hb ab0
  replace ab1 := cellB hb ab1
  replace ab2 := cellB hb ab2
  replace ab3 := cellB hb ab3
  replace ab4 := cellB hb ab4
  replace ab5 := cellB hb ab5
  replace ab6 := cellB hb ab6
  replace ab7 := cellB hb ab7
  replace ab8 := cellB hb ab8
  replace ab9 := cellB hb ab9
  replace ab10 := cellB hb ab10
  replace ab11 := cellB hb ab11
  replace ac0 := cellB hb ac0
  replace ac1 := cellB hb ac1
  replace ac2 := cellB hb ac2
  replace ac3 := cellB hb ac3
  replace ac4 := cellB hb ac4
  replace ac5 := cellB hb ac5
  replace ac6 := cellB hb ac6
  replace ac7 := cellB hb ac7
  replace ac8 := cellB hb ac8
  replace ac9 := cellB hb ac9
  replace ac10 := cellB hb ac10
  replace ac11 := cellB hb ac11
  replace ad0 := cellB hb ad0
  replace ad1 := cellB hb ad1
  replace ad2 := cellB hb ad2
  replace ad3 := cellB hb ad3
  replace ad4 := cellB hb ad4
  replace ad5 := cellB hb ad5
  replace ad6 := cellB hb ad6
  replace ad7 := cellB hb ad7
  replace ad8 := cellB hb ad8
  replace ad9 := cellB hb ad9
  replace ad10 := cellB hb ad10
  replace ad11 := cellB hb ad11
  replace da0 := cellB hb da0
  replace da1 := cellB hb da1
  replace da2 := cellB hb da2
  replace da3 := cellB hb da3
  replace da4 := cellB hb da4
  replace da5 := cellB hb da5
  replace da6 := cellB hb da6
  replace da7 := cellB hb da7
  replace da8 := cellB hb da8
  replace da9 := cellB hb da9
  replace da10 := cellB hb da10
  replace da11 := cellB hb da11
  replace db0 := cellB hb db0
  replace db1 := cellB hb db1
  replace db2 := cellB hb db2
  replace db3 := cellB hb db3
  replace db4 := cellB hb db4
  replace db5 := cellB hb db5
  replace db6 := cellB hb db6
  replace db7 := cellB hb db7
  replace db8 := cellB hb db8
  replace db9 := cellB hb db9
  replace db10 := cellB hb db10
  replace db11 := cellB hb db11
  replace sA := S.onto sA hb
  replace sB := S.onto sB hb
  replace sG := S.onto sG hb
  replace sH := S.onto sH hb
  replace s1 := S.onto s1 hb
  replace t1 := S.onto t1 hb
  replace s2 := S.onto s2 hb
  replace t2 := S.onto t2 hb
  replace s3 := S.onto s3 hb
  replace t3 := S.onto t3 hb
  replace s4 := S.onto s4 hb
  replace t4 := S.onto t4 hb
  replace s5 := S.onto s5 hb
  replace t5 := S.onto t5 hb
  replace s6 := S.onto s6 hb
  replace t6 := S.onto t6 hb
  replace hon := Onto.to hon hb
  clear hb
  go_upto_region 8 with fail
  have hdcw : w.heap.size ≤ v7.heap.size := hon.size
  have hcdc : w.heap.size < v7.heap.size := World.block_lt_of_cell? _ _ c0
  have hedc : w.heap.size + 1 < v7.heap.size := World.block_lt_of_cell? _ _ e0
  have hgdc : w.heap.size + 1 + 1 < v7.heap.size := World.block_lt_of_cell? _ _ g0
  have haadc : Baa < v7.heap.size := World.block_lt_of_cell? _ _ aa0
  have habdc : Bab < v7.heap.size := World.block_lt_of_cell? _ _ ab0
  have hacdc : Bac < v7.heap.size := World.block_lt_of_cell? _ _ ac0
  have haddc : Bad < v7.heap.size := World.block_lt_of_cell? _ _ ad0
  have hdadc : Bda < v7.heap.size := World.block_lt_of_cell? _ _ da0
  have hdbdc : Bdb < v7.heap.size := World.block_lt_of_cell? _ _ db0
  have hbx : Onto v7 (v7.alloc (Obj.cells #[.int .i64 rp.1.epoch, .int .i64 rp.1.doing, .int .i64 rp.1.e.kind, .int .i64 rp.1.e.job, .int .i64 rp.1.e.every, .int .i64 rp.1.e.time, .int .i64 rp.1.e.client, .int .i64 rp.1.at_, .int .i64 rp.1.link, .int .i64 rp.1.played, .slice X7 n7 k7, .slice Y7 m7 d7] 56)) := (Below.refl _ _).alloc (Nat.le_refl _) _
  replace c0 := cellB hbx c0
  replace c1 := cellB hbx c1
  replace c2 := cellB hbx c2
  replace c3 := cellB hbx c3
  replace c4 := cellB hbx c4
  replace c5 := cellB hbx c5
  replace c6 := cellB hbx c6
  replace c7 := cellB hbx c7
  replace c8 := cellB hbx c8
  replace c9 := cellB hbx c9
  replace c10 := cellB hbx c10
  replace c11 := cellB hbx c11
  replace e0 := cellB hbx e0
  replace e1 := cellB hbx e1
  replace e2 := cellB hbx e2
  replace e3 := cellB hbx e3
  replace e4 := cellB hbx e4
  replace g0 := cellB hbx g0
  replace g1 := cellB hbx g1
  replace g2 := cellB hbx g2
  replace g3 := cellB hbx g3
  replace g4 := cellB hbx g4
  replace g5 := cellB hbx g5
  replace g6 := cellB hbx g6
  replace g7 := cellB hbx g7
  replace g8 := cellB hbx g8
  replace g9 := cellB hbx g9
  replace g10 := cellB hbx g10
  replace g11 := cellB hbx g11
  replace aa0 := cellB hbx aa0
  replace aa1 := cellB hbx aa1
  replace aa2 := cellB hbx aa2
  replace aa3 := cellB hbx aa3
  replace aa4 := cellB hbx aa4
  replace aa5 := cellB hbx aa5
  replace aa6 := cellB hbx aa6
  replace aa7 := cellB hbx aa7
  replace aa8 := cellB hbx aa8
  replace aa9 := cellB hbx aa9
  replace aa10 := cellB hbx aa10
  replace aa11 := cellB hbx aa11
  replace ab0 := cellB hbx ab0
  replace ab1 := cellB hbx ab1
  replace ab2 := cellB hbx ab2
  replace ab3 := cellB hbx ab3
  replace ab4 := cellB hbx ab4
  replace ab5 := cellB hbx ab5
  replace ab6 := cellB hbx ab6
  replace ab7 := cellB hbx ab7
  replace ab8 := cellB hbx ab8
  replace ab9 := cellB hbx ab9
  replace ab10 := cellB hbx ab10
  replace ab11 := cellB hbx ab11
  replace ac0 := cellB hbx ac0
  replace ac1 := cellB hbx ac1
  replace ac2 := cellB hbx ac2
  replace ac3 := cellB hbx ac3
  replace ac4 := cellB hbx ac4
  replace ac5 := cellB hbx ac5
  replace ac6 := cellB hbx ac6
  replace ac7 := cellB hbx ac7
  replace ac8 := cellB hbx ac8
  replace ac9 := cellB hbx ac9
  replace ac10 := cellB hbx ac10
  replace ac11 := cellB hbx ac11
  replace ad0 := cellB hbx ad0
  replace ad1 := cellB hbx ad1
  replace ad2 := cellB hbx ad2
  replace ad3 := cellB hbx ad3
  replace ad4 := cellB hbx ad4
  replace ad5 := cellB hbx ad5
  replace ad6 := cellB hbx ad6
  replace ad7 := cellB hbx ad7
  replace ad8 := cellB hbx ad8
  replace ad9 := cellB hbx ad9
  replace ad10 := cellB hbx ad10
  replace ad11 := cellB hbx ad11
  replace da0 := cellB hbx da0
  replace da1 := cellB hbx da1
  replace da2 := cellB hbx da2
  replace da3 := cellB hbx da3
  replace da4 := cellB hbx da4
  replace da5 := cellB hbx da5
  replace da6 := cellB hbx da6
  replace da7 := cellB hbx da7
  replace da8 := cellB hbx da8
  replace da9 := cellB hbx da9
  replace da10 := cellB hbx da10
  replace da11 := cellB hbx da11
  replace db0 := cellB hbx db0
  replace db1 := cellB hbx db1
  replace db2 := cellB hbx db2
  replace db3 := cellB hbx db3
  replace db4 := cellB hbx db4
  replace db5 := cellB hbx db5
  replace db6 := cellB hbx db6
  replace db7 := cellB hbx db7
  replace db8 := cellB hbx db8
  replace db9 := cellB hbx db9
  replace db10 := cellB hbx db10
  replace db11 := cellB hbx db11
  replace sA := S.onto sA hbx
  replace sB := S.onto sB hbx
  replace sG := S.onto sG hbx
  replace sH := S.onto sH hbx
  replace s1 := S.onto s1 hbx
  replace t1 := S.onto t1 hbx
  replace s2 := S.onto s2 hbx
  replace t2 := S.onto t2 hbx
  replace s3 := S.onto s3 hbx
  replace t3 := S.onto t3 hbx
  replace s4 := S.onto s4 hbx
  replace t4 := S.onto t4 hbx
  replace s5 := S.onto s5 hbx
  replace t5 := S.onto t5 hbx
  replace s6 := S.onto s6 hbx
  replace t6 := S.onto t6 hbx
  replace s7 := S.onto s7 hbx
  replace t7 := S.onto t7 hbx
  replace hon := Onto.to hon hbx
  have dc0 : (v7.alloc (Obj.cells #[.int .i64 rp.1.epoch, .int .i64 rp.1.doing, .int .i64 rp.1.e.kind, .int .i64 rp.1.e.job, .int .i64 rp.1.e.every, .int .i64 rp.1.e.time, .int .i64 rp.1.e.client, .int .i64 rp.1.at_, .int .i64 rp.1.link, .int .i64 rp.1.played, .slice X7 n7 k7, .slice Y7 m7 d7] 56)).cell? ⟨v7.heap.size, 0, none⟩ = some (.int .i64 rp.1.epoch) := by simp [go_sem]
  have dc1 : (v7.alloc (Obj.cells #[.int .i64 rp.1.epoch, .int .i64 rp.1.doing, .int .i64 rp.1.e.kind, .int .i64 rp.1.e.job, .int .i64 rp.1.e.every, .int .i64 rp.1.e.time, .int .i64 rp.1.e.client, .int .i64 rp.1.at_, .int .i64 rp.1.link, .int .i64 rp.1.played, .slice X7 n7 k7, .slice Y7 m7 d7] 56)).cell? ⟨v7.heap.size, 1, none⟩ = some (.int .i64 rp.1.doing) := by simp [go_sem]
  have dc2 : (v7.alloc (Obj.cells #[.int .i64 rp.1.epoch, .int .i64 rp.1.doing, .int .i64 rp.1.e.kind, .int .i64 rp.1.e.job, .int .i64 rp.1.e.every, .int .i64 rp.1.e.time, .int .i64 rp.1.e.client, .int .i64 rp.1.at_, .int .i64 rp.1.link, .int .i64 rp.1.played, .slice X7 n7 k7, .slice Y7 m7 d7] 56)).cell? ⟨v7.heap.size, 2, none⟩ = some (.int .i64 rp.1.e.kind) := by simp [go_sem]
  have dc3 : (v7.alloc (Obj.cells #[.int .i64 rp.1.epoch, .int .i64 rp.1.doing, .int .i64 rp.1.e.kind, .int .i64 rp.1.e.job, .int .i64 rp.1.e.every, .int .i64 rp.1.e.time, .int .i64 rp.1.e.client, .int .i64 rp.1.at_, .int .i64 rp.1.link, .int .i64 rp.1.played, .slice X7 n7 k7, .slice Y7 m7 d7] 56)).cell? ⟨v7.heap.size, 3, none⟩ = some (.int .i64 rp.1.e.job) := by simp [go_sem]
  have dc4 : (v7.alloc (Obj.cells #[.int .i64 rp.1.epoch, .int .i64 rp.1.doing, .int .i64 rp.1.e.kind, .int .i64 rp.1.e.job, .int .i64 rp.1.e.every, .int .i64 rp.1.e.time, .int .i64 rp.1.e.client, .int .i64 rp.1.at_, .int .i64 rp.1.link, .int .i64 rp.1.played, .slice X7 n7 k7, .slice Y7 m7 d7] 56)).cell? ⟨v7.heap.size, 4, none⟩ = some (.int .i64 rp.1.e.every) := by simp [go_sem]
  have dc5 : (v7.alloc (Obj.cells #[.int .i64 rp.1.epoch, .int .i64 rp.1.doing, .int .i64 rp.1.e.kind, .int .i64 rp.1.e.job, .int .i64 rp.1.e.every, .int .i64 rp.1.e.time, .int .i64 rp.1.e.client, .int .i64 rp.1.at_, .int .i64 rp.1.link, .int .i64 rp.1.played, .slice X7 n7 k7, .slice Y7 m7 d7] 56)).cell? ⟨v7.heap.size, 5, none⟩ = some (.int .i64 rp.1.e.time) := by simp [go_sem]
  have dc6 : (v7.alloc (Obj.cells #[.int .i64 rp.1.epoch, .int .i64 rp.1.doing, .int .i64 rp.1.e.kind, .int .i64 rp.1.e.job, .int .i64 rp.1.e.every, .int .i64 rp.1.e.time, .int .i64 rp.1.e.client, .int .i64 rp.1.at_, .int .i64 rp.1.link, .int .i64 rp.1.played, .slice X7 n7 k7, .slice Y7 m7 d7] 56)).cell? ⟨v7.heap.size, 6, none⟩ = some (.int .i64 rp.1.e.client) := by simp [go_sem]
  have dc7 : (v7.alloc (Obj.cells #[.int .i64 rp.1.epoch, .int .i64 rp.1.doing, .int .i64 rp.1.e.kind, .int .i64 rp.1.e.job, .int .i64 rp.1.e.every, .int .i64 rp.1.e.time, .int .i64 rp.1.e.client, .int .i64 rp.1.at_, .int .i64 rp.1.link, .int .i64 rp.1.played, .slice X7 n7 k7, .slice Y7 m7 d7] 56)).cell? ⟨v7.heap.size, 7, none⟩ = some (.int .i64 rp.1.at_) := by simp [go_sem]
  have dc8 : (v7.alloc (Obj.cells #[.int .i64 rp.1.epoch, .int .i64 rp.1.doing, .int .i64 rp.1.e.kind, .int .i64 rp.1.e.job, .int .i64 rp.1.e.every, .int .i64 rp.1.e.time, .int .i64 rp.1.e.client, .int .i64 rp.1.at_, .int .i64 rp.1.link, .int .i64 rp.1.played, .slice X7 n7 k7, .slice Y7 m7 d7] 56)).cell? ⟨v7.heap.size, 8, none⟩ = some (.int .i64 rp.1.link) := by simp [go_sem]
  have dc9 : (v7.alloc (Obj.cells #[.int .i64 rp.1.epoch, .int .i64 rp.1.doing, .int .i64 rp.1.e.kind, .int .i64 rp.1.e.job, .int .i64 rp.1.e.every, .int .i64 rp.1.e.time, .int .i64 rp.1.e.client, .int .i64 rp.1.at_, .int .i64 rp.1.link, .int .i64 rp.1.played, .slice X7 n7 k7, .slice Y7 m7 d7] 56)).cell? ⟨v7.heap.size, 9, none⟩ = some (.int .i64 rp.1.played) := by simp [go_sem]
  have dc10 : (v7.alloc (Obj.cells #[.int .i64 rp.1.epoch, .int .i64 rp.1.doing, .int .i64 rp.1.e.kind, .int .i64 rp.1.e.job, .int .i64 rp.1.e.every, .int .i64 rp.1.e.time, .int .i64 rp.1.e.client, .int .i64 rp.1.at_, .int .i64 rp.1.link, .int .i64 rp.1.played, .slice X7 n7 k7, .slice Y7 m7 d7] 56)).cell? ⟨v7.heap.size, 10, none⟩ = some (.slice X7 n7 k7) := by simp [go_sem]
  have dc11 : (v7.alloc (Obj.cells #[.int .i64 rp.1.epoch, .int .i64 rp.1.doing, .int .i64 rp.1.e.kind, .int .i64 rp.1.e.job, .int .i64 rp.1.e.every, .int .i64 rp.1.e.time, .int .i64 rp.1.e.client, .int .i64 rp.1.at_, .int .i64 rp.1.link, .int .i64 rp.1.played, .slice X7 n7 k7, .slice Y7 m7 d7] 56)).cell? ⟨v7.heap.size, 11, none⟩ = some (.slice Y7 m7 d7) := by simp [go_sem]
  change Code.wp _ _ _ _ (v7.alloc (Obj.cells #[.int .i64 rp.1.epoch, .int .i64 rp.1.doing, .int .i64 rp.1.e.kind, .int .i64 rp.1.e.job, .int .i64 rp.1.e.every, .int .i64 rp.1.e.time, .int .i64 rp.1.e.client, .int .i64 rp.1.at_, .int .i64 rp.1.link, .int .i64 rp.1.played, .slice X7 n7 k7, .slice Y7 m7 d7] 56))
  clear hbx
  generalize (v7.alloc (Obj.cells #[.int .i64 rp.1.epoch, .int .i64 rp.1.doing, .int .i64 rp.1.e.kind, .int .i64 rp.1.e.job, .int .i64 rp.1.e.every, .int .i64 rp.1.e.time, .int .i64 rp.1.e.client, .int .i64 rp.1.at_, .int .i64 rp.1.link, .int .i64 rp.1.played, .slice X7 n7 k7, .slice Y7 m7 d7] 56)) = w7 at *
  generalize v7.heap.size = Bdc at *
  go_wp2_with fail
  refine Calls.mono (RFill_calls ep dg at_ ln pl x A A' n c m d b v _ sA sB) ?_
  rw [← Hrf.out]
  rintro e v8 ⟨X8, n8, k8, Y8, m8, d8, rfl, s8, t8, hb⟩
  replace c0 := cellB hb c0
  replace c1 := cellB hb c1
  replace c2 := cellB hb c2
  replace c3 := cellB hb c3
  replace c4 := cellB hb c4
  replace c5 := cellB hb c5
  replace c6 := cellB hb c6
  replace c7 := cellB hb c7
  replace c8 := cellB hb c8
  replace c9 := cellB hb c9
  replace c10 := cellB hb c10
  replace c11 := cellB hb c11
  replace e0 := cellB hb e0
  replace e1 := cellB hb e1
  replace e2 := cellB hb e2
  replace e3 := cellB hb e3
  replace e4 := cellB hb e4
  replace g0 := cellB hb g0
  replace g1 := cellB hb g1
  replace g2 := cellB hb g2
  replace g3 := cellB hb g3
  replace g4 := cellB hb g4
  replace g5 := cellB hb g5
  replace g6 := cellB hb g6
  replace g7 := cellB hb g7
  replace g8 := cellB hb g8
  replace g9 := cellB hb g9
  replace g10 := cellB hb g10
  replace g11 := cellB hb g11
  replace aa0 := cellB hb aa0
  replace aa1 := cellB hb aa1
  replace aa2 := cellB hb aa2
  replace aa3 := cellB hb aa3
  replace aa4 := cellB hb aa4
  replace aa5 := cellB hb aa5
  replace aa6 := cellB hb aa6
  replace aa7 := cellB hb aa7
  replace aa8 := cellB hb aa8
  replace aa9 := cellB hb aa9
  replace aa10 := cellB hb aa10
  replace aa11 := cellB hb aa11
  replace ab0 := cellB hb ab0
  replace ab1 := cellB hb ab1
  replace ab2 := cellB hb ab2
  replace ab3 := cellB hb ab3
  replace ab4 := cellB hb ab4
  replace ab5 := cellB hb ab5
  replace ab6 := cellB hb ab6
  replace ab7 := cellB hb ab7
  replace ab8 := cellB hb ab8
  replace ab9 := cellB hb ab9
  replace ab10 := cellB hb ab10
  replace ab11 := cellB hb ab11
  replace ac0 := cellB hb ac0
  replace ac1 := cellB hb ac1
  replace ac2 := cellB hb ac2
  replace ac3 := cellB hb ac3
  replace ac4 := cellB hb ac4
  replace ac5 := cellB hb ac5
  replace ac6 := cellB hb ac6
  replace ac7 := cellB hb ac7
  replace ac8 := cellB hb ac8
  replace ac9 := cellB hb ac9
  replace ac10 := cellB hb ac10
  replace ac11 := cellB hb ac11
  replace ad0 := cellB hb ad0
  replace ad1 := cellB hb ad1
  replace ad2 := cellB hb ad2
  replace ad3 := cellB hb ad3
  replace ad4 := cellB hb ad4
  replace ad5 := cellB hb ad5
  replace ad6 := cellB hb ad6
  replace ad7 := cellB hb ad7
  replace ad8 := cellB hb ad8
  replace ad9 := cellB hb ad9
  replace ad10 := cellB hb ad10
  replace ad11 := cellB hb ad11
  replace da0 := cellB hb da0
  replace da1 := cellB hb da1
  replace da2 := cellB hb da2
  replace da3 := cellB hb da3
  replace da4 := cellB hb da4
  replace da5 := cellB hb da5
  replace da6 := cellB hb da6
  replace da7 := cellB hb da7
  replace da8 := cellB hb da8
  replace da9 := cellB hb da9
  replace da10 := cellB hb da10
  replace da11 := cellB hb da11
  replace db0 := cellB hb db0
  replace db1 := cellB hb db1
  replace db2 := cellB hb db2
  replace db3 := cellB hb db3
  replace db4 := cellB hb db4
  replace db5 := cellB hb db5
  replace db6 := cellB hb db6
  replace db7 := cellB hb db7
  replace db8 := cellB hb db8
  replace db9 := cellB hb db9
  replace db10 := cellB hb db10
  replace db11 := cellB hb db11
  replace dc0 := cellB hb dc0
  replace dc1 := cellB hb dc1
  replace dc2 := cellB hb dc2
  replace dc3 := cellB hb dc3
  replace dc4 := cellB hb dc4
  replace dc5 := cellB hb dc5
  replace dc6 := cellB hb dc6
  replace dc7 := cellB hb dc7
  replace dc8 := cellB hb dc8
  replace dc9 := cellB hb dc9
  replace dc10 := cellB hb dc10
  replace dc11 := cellB hb dc11
  replace sA := S.onto sA hb
  replace sB := S.onto sB hb
  replace sG := S.onto sG hb
  replace sH := S.onto sH hb
  replace s1 := S.onto s1 hb
  replace t1 := S.onto t1 hb
  replace s2 := S.onto s2 hb
  replace t2 := S.onto t2 hb
  replace s3 := S.onto s3 hb
  replace t3 := S.onto t3 hb
  replace s4 := S.onto s4 hb
  replace t4 := S.onto t4 hb
  replace s5 := S.onto s5 hb
  replace t5 := S.onto t5 hb
  replace s6 := S.onto s6 hb
  replace t6 := S.onto t6 hb
  replace s7 := S.onto s7 hb
  replace t7 := S.onto t7 hb
  replace hon := Onto.to hon hb
  clear hb
  go_upto_region 9 with fail
  have hddw : w.heap.size ≤ v8.heap.size := hon.size
  have hcdd : w.heap.size < v8.heap.size := World.block_lt_of_cell? _ _ c0
  have hedd : w.heap.size + 1 < v8.heap.size := World.block_lt_of_cell? _ _ e0
  have hgdd : w.heap.size + 1 + 1 < v8.heap.size := World.block_lt_of_cell? _ _ g0
  have haadd : Baa < v8.heap.size := World.block_lt_of_cell? _ _ aa0
  have habdd : Bab < v8.heap.size := World.block_lt_of_cell? _ _ ab0
  have hacdd : Bac < v8.heap.size := World.block_lt_of_cell? _ _ ac0
  have haddd : Bad < v8.heap.size := World.block_lt_of_cell? _ _ ad0
  have hdadd : Bda < v8.heap.size := World.block_lt_of_cell? _ _ da0
  have hdbdd : Bdb < v8.heap.size := World.block_lt_of_cell? _ _ db0
  have hdcdd : Bdc < v8.heap.size := World.block_lt_of_cell? _ _ dc0
  have hbx : Onto v8 (v8.alloc (Obj.cells #[.int .i64 rf.1.epoch, .int .i64 rf.1.doing, .int .i64 rf.1.e.kind, .int .i64 rf.1.e.job, .int .i64 rf.1.e.every, .int .i64 rf.1.e.time, .int .i64 rf.1.e.client, .int .i64 rf.1.at_, .int .i64 rf.1.link, .int .i64 rf.1.played, .slice X8 n8 k8, .slice Y8 m8 d8] 56)) := (Below.refl _ _).alloc (Nat.le_refl _) _
  replace c0 := cellB hbx c0
  replace c1 := cellB hbx c1
  replace c2 := cellB hbx c2
  replace c3 := cellB hbx c3
  replace c4 := cellB hbx c4
  replace c5 := cellB hbx c5
  replace c6 := cellB hbx c6
  replace c7 := cellB hbx c7
  replace c8 := cellB hbx c8
  replace c9 := cellB hbx c9
  replace c10 := cellB hbx c10
  replace c11 := cellB hbx c11
  replace e0 := cellB hbx e0
  replace e1 := cellB hbx e1
  replace e2 := cellB hbx e2
  replace e3 := cellB hbx e3
  replace e4 := cellB hbx e4
  replace g0 := cellB hbx g0
  replace g1 := cellB hbx g1
  replace g2 := cellB hbx g2
  replace g3 := cellB hbx g3
  replace g4 := cellB hbx g4
  replace g5 := cellB hbx g5
  replace g6 := cellB hbx g6
  replace g7 := cellB hbx g7
  replace g8 := cellB hbx g8
  replace g9 := cellB hbx g9
  replace g10 := cellB hbx g10
  replace g11 := cellB hbx g11
  replace aa0 := cellB hbx aa0
  replace aa1 := cellB hbx aa1
  replace aa2 := cellB hbx aa2
  replace aa3 := cellB hbx aa3
  replace aa4 := cellB hbx aa4
  replace aa5 := cellB hbx aa5
  replace aa6 := cellB hbx aa6
  replace aa7 := cellB hbx aa7
  replace aa8 := cellB hbx aa8
  replace aa9 := cellB hbx aa9
  replace aa10 := cellB hbx aa10
  replace aa11 := cellB hbx aa11
  replace ab0 := cellB hbx ab0
  replace ab1 := cellB hbx ab1
  replace ab2 := cellB hbx ab2
  replace ab3 := cellB hbx ab3
  replace ab4 := cellB hbx ab4
  replace ab5 := cellB hbx ab5
  replace ab6 := cellB hbx ab6
  replace ab7 := cellB hbx ab7
  replace ab8 := cellB hbx ab8
  replace ab9 := cellB hbx ab9
  replace ab10 := cellB hbx ab10
  replace ab11 := cellB hbx ab11
  replace ac0 := cellB hbx ac0
  replace ac1 := cellB hbx ac1
  replace ac2 := cellB hbx ac2
  replace ac3 := cellB hbx ac3
  replace ac4 := cellB hbx ac4
  replace ac5 := cellB hbx ac5
  replace ac6 := cellB hbx ac6
  replace ac7 := cellB hbx ac7
  replace ac8 := cellB hbx ac8
  replace ac9 := cellB hbx ac9
  replace ac10 := cellB hbx ac10
  replace ac11 := cellB hbx ac11
  replace ad0 := cellB hbx ad0
  replace ad1 := cellB hbx ad1
  replace ad2 := cellB hbx ad2
  replace ad3 := cellB hbx ad3
  replace ad4 := cellB hbx ad4
  replace ad5 := cellB hbx ad5
  replace ad6 := cellB hbx ad6
  replace ad7 := cellB hbx ad7
  replace ad8 := cellB hbx ad8
  replace ad9 := cellB hbx ad9
  replace ad10 := cellB hbx ad10
  replace ad11 := cellB hbx ad11
  replace da0 := cellB hbx da0
  replace da1 := cellB hbx da1
  replace da2 := cellB hbx da2
  replace da3 := cellB hbx da3
  replace da4 := cellB hbx da4
  replace da5 := cellB hbx da5
  replace da6 := cellB hbx da6
  replace da7 := cellB hbx da7
  replace da8 := cellB hbx da8
  replace da9 := cellB hbx da9
  replace da10 := cellB hbx da10
  replace da11 := cellB hbx da11
  replace db0 := cellB hbx db0
  replace db1 := cellB hbx db1
  replace db2 := cellB hbx db2
  replace db3 := cellB hbx db3
  replace db4 := cellB hbx db4
  replace db5 := cellB hbx db5
  replace db6 := cellB hbx db6
  replace db7 := cellB hbx db7
  replace db8 := cellB hbx db8
  replace db9 := cellB hbx db9
  replace db10 := cellB hbx db10
  replace db11 := cellB hbx db11
  replace dc0 := cellB hbx dc0
  replace dc1 := cellB hbx dc1
  replace dc2 := cellB hbx dc2
  replace dc3 := cellB hbx dc3
  replace dc4 := cellB hbx dc4
  replace dc5 := cellB hbx dc5
  replace dc6 := cellB hbx dc6
  replace dc7 := cellB hbx dc7
  replace dc8 := cellB hbx dc8
  replace dc9 := cellB hbx dc9
  replace dc10 := cellB hbx dc10
  replace dc11 := cellB hbx dc11
  replace sA := S.onto sA hbx
  replace sB := S.onto sB hbx
  replace sG := S.onto sG hbx
  replace sH := S.onto sH hbx
  replace s1 := S.onto s1 hbx
  replace t1 := S.onto t1 hbx
  replace s2 := S.onto s2 hbx
  replace t2 := S.onto t2 hbx
  replace s3 := S.onto s3 hbx
  replace t3 := S.onto t3 hbx
  replace s4 := S.onto s4 hbx
  replace t4 := S.onto t4 hbx
  replace s5 := S.onto s5 hbx
  replace t5 := S.onto t5 hbx
  replace s6 := S.onto s6 hbx
  replace t6 := S.onto t6 hbx
  replace s7 := S.onto s7 hbx
  replace t7 := S.onto t7 hbx
  replace s8 := S.onto s8 hbx
  replace t8 := S.onto t8 hbx
  replace hon := Onto.to hon hbx
  have dd0 : (v8.alloc (Obj.cells #[.int .i64 rf.1.epoch, .int .i64 rf.1.doing, .int .i64 rf.1.e.kind, .int .i64 rf.1.e.job, .int .i64 rf.1.e.every, .int .i64 rf.1.e.time, .int .i64 rf.1.e.client, .int .i64 rf.1.at_, .int .i64 rf.1.link, .int .i64 rf.1.played, .slice X8 n8 k8, .slice Y8 m8 d8] 56)).cell? ⟨v8.heap.size, 0, none⟩ = some (.int .i64 rf.1.epoch) := by simp [go_sem]
  have dd1 : (v8.alloc (Obj.cells #[.int .i64 rf.1.epoch, .int .i64 rf.1.doing, .int .i64 rf.1.e.kind, .int .i64 rf.1.e.job, .int .i64 rf.1.e.every, .int .i64 rf.1.e.time, .int .i64 rf.1.e.client, .int .i64 rf.1.at_, .int .i64 rf.1.link, .int .i64 rf.1.played, .slice X8 n8 k8, .slice Y8 m8 d8] 56)).cell? ⟨v8.heap.size, 1, none⟩ = some (.int .i64 rf.1.doing) := by simp [go_sem]
  have dd2 : (v8.alloc (Obj.cells #[.int .i64 rf.1.epoch, .int .i64 rf.1.doing, .int .i64 rf.1.e.kind, .int .i64 rf.1.e.job, .int .i64 rf.1.e.every, .int .i64 rf.1.e.time, .int .i64 rf.1.e.client, .int .i64 rf.1.at_, .int .i64 rf.1.link, .int .i64 rf.1.played, .slice X8 n8 k8, .slice Y8 m8 d8] 56)).cell? ⟨v8.heap.size, 2, none⟩ = some (.int .i64 rf.1.e.kind) := by simp [go_sem]
  have dd3 : (v8.alloc (Obj.cells #[.int .i64 rf.1.epoch, .int .i64 rf.1.doing, .int .i64 rf.1.e.kind, .int .i64 rf.1.e.job, .int .i64 rf.1.e.every, .int .i64 rf.1.e.time, .int .i64 rf.1.e.client, .int .i64 rf.1.at_, .int .i64 rf.1.link, .int .i64 rf.1.played, .slice X8 n8 k8, .slice Y8 m8 d8] 56)).cell? ⟨v8.heap.size, 3, none⟩ = some (.int .i64 rf.1.e.job) := by simp [go_sem]
  have dd4 : (v8.alloc (Obj.cells #[.int .i64 rf.1.epoch, .int .i64 rf.1.doing, .int .i64 rf.1.e.kind, .int .i64 rf.1.e.job, .int .i64 rf.1.e.every, .int .i64 rf.1.e.time, .int .i64 rf.1.e.client, .int .i64 rf.1.at_, .int .i64 rf.1.link, .int .i64 rf.1.played, .slice X8 n8 k8, .slice Y8 m8 d8] 56)).cell? ⟨v8.heap.size, 4, none⟩ = some (.int .i64 rf.1.e.every) := by simp [go_sem]
  have dd5 : (v8.alloc (Obj.cells #[.int .i64 rf.1.epoch, .int .i64 rf.1.doing, .int .i64 rf.1.e.kind, .int .i64 rf.1.e.job, .int .i64 rf.1.e.every, .int .i64 rf.1.e.time, .int .i64 rf.1.e.client, .int .i64 rf.1.at_, .int .i64 rf.1.link, .int .i64 rf.1.played, .slice X8 n8 k8, .slice Y8 m8 d8] 56)).cell? ⟨v8.heap.size, 5, none⟩ = some (.int .i64 rf.1.e.time) := by simp [go_sem]
  have dd6 : (v8.alloc (Obj.cells #[.int .i64 rf.1.epoch, .int .i64 rf.1.doing, .int .i64 rf.1.e.kind, .int .i64 rf.1.e.job, .int .i64 rf.1.e.every, .int .i64 rf.1.e.time, .int .i64 rf.1.e.client, .int .i64 rf.1.at_, .int .i64 rf.1.link, .int .i64 rf.1.played, .slice X8 n8 k8, .slice Y8 m8 d8] 56)).cell? ⟨v8.heap.size, 6, none⟩ = some (.int .i64 rf.1.e.client) := by simp [go_sem]
  have dd7 : (v8.alloc (Obj.cells #[.int .i64 rf.1.epoch, .int .i64 rf.1.doing, .int .i64 rf.1.e.kind, .int .i64 rf.1.e.job, .int .i64 rf.1.e.every, .int .i64 rf.1.e.time, .int .i64 rf.1.e.client, .int .i64 rf.1.at_, .int .i64 rf.1.link, .int .i64 rf.1.played, .slice X8 n8 k8, .slice Y8 m8 d8] 56)).cell? ⟨v8.heap.size, 7, none⟩ = some (.int .i64 rf.1.at_) := by simp [go_sem]
  have dd8 : (v8.alloc (Obj.cells #[.int .i64 rf.1.epoch, .int .i64 rf.1.doing, .int .i64 rf.1.e.kind, .int .i64 rf.1.e.job, .int .i64 rf.1.e.every, .int .i64 rf.1.e.time, .int .i64 rf.1.e.client, .int .i64 rf.1.at_, .int .i64 rf.1.link, .int .i64 rf.1.played, .slice X8 n8 k8, .slice Y8 m8 d8] 56)).cell? ⟨v8.heap.size, 8, none⟩ = some (.int .i64 rf.1.link) := by simp [go_sem]
  have dd9 : (v8.alloc (Obj.cells #[.int .i64 rf.1.epoch, .int .i64 rf.1.doing, .int .i64 rf.1.e.kind, .int .i64 rf.1.e.job, .int .i64 rf.1.e.every, .int .i64 rf.1.e.time, .int .i64 rf.1.e.client, .int .i64 rf.1.at_, .int .i64 rf.1.link, .int .i64 rf.1.played, .slice X8 n8 k8, .slice Y8 m8 d8] 56)).cell? ⟨v8.heap.size, 9, none⟩ = some (.int .i64 rf.1.played) := by simp [go_sem]
  have dd10 : (v8.alloc (Obj.cells #[.int .i64 rf.1.epoch, .int .i64 rf.1.doing, .int .i64 rf.1.e.kind, .int .i64 rf.1.e.job, .int .i64 rf.1.e.every, .int .i64 rf.1.e.time, .int .i64 rf.1.e.client, .int .i64 rf.1.at_, .int .i64 rf.1.link, .int .i64 rf.1.played, .slice X8 n8 k8, .slice Y8 m8 d8] 56)).cell? ⟨v8.heap.size, 10, none⟩ = some (.slice X8 n8 k8) := by simp [go_sem]
  have dd11 : (v8.alloc (Obj.cells #[.int .i64 rf.1.epoch, .int .i64 rf.1.doing, .int .i64 rf.1.e.kind, .int .i64 rf.1.e.job, .int .i64 rf.1.e.every, .int .i64 rf.1.e.time, .int .i64 rf.1.e.client, .int .i64 rf.1.at_, .int .i64 rf.1.link, .int .i64 rf.1.played, .slice X8 n8 k8, .slice Y8 m8 d8] 56)).cell? ⟨v8.heap.size, 11, none⟩ = some (.slice Y8 m8 d8) := by simp [go_sem]
  change Code.wp _ _ _ _ (v8.alloc (Obj.cells #[.int .i64 rf.1.epoch, .int .i64 rf.1.doing, .int .i64 rf.1.e.kind, .int .i64 rf.1.e.job, .int .i64 rf.1.e.every, .int .i64 rf.1.e.time, .int .i64 rf.1.e.client, .int .i64 rf.1.at_, .int .i64 rf.1.link, .int .i64 rf.1.played, .slice X8 n8 k8, .slice Y8 m8 d8] 56))
  clear hbx
  generalize (v8.alloc (Obj.cells #[.int .i64 rf.1.epoch, .int .i64 rf.1.doing, .int .i64 rf.1.e.kind, .int .i64 rf.1.e.job, .int .i64 rf.1.e.every, .int .i64 rf.1.e.time, .int .i64 rf.1.e.client, .int .i64 rf.1.at_, .int .i64 rf.1.link, .int .i64 rf.1.played, .slice X8 n8 k8, .slice Y8 m8 d8] 56)) = w8 at *
  generalize v8.heap.size = Bdd at *
  obtain ⟨qc, hqc⟩ : ∃ qc, qc = checkCl ⟨ep, dg, x, at_, ln, pl, b⟩ := ⟨_, rfl⟩
  obtain ⟨qs, hqs⟩ : ∃ qs, qs = decide ((⟨ep, dg, x, at_, ln, pl, b⟩ : Cli) = ⟨ep2, dg2, z, at2, ln2, pl2, b2⟩) := ⟨_, rfl⟩
  have HQC := Lib.hid hqc; have HQS := Lib.hid hqs
  clear hqc hqs
  clear e0 e1 e2 e3 e4
  have ln1 : n1 ≤ 9223372036854775807 := by have h1 := s1.len; have h2 := Frw.out.1; simp at h1; omega
  have lm1 : m1 ≤ 9223372036854775807 := by have h1 := t1.len; have h2 := Frw.out.2; simp at h1; omega
  have LN1 := Lib.hid ln1; have LM1 := Lib.hid lm1
  clear ln1 lm1
  have ln2 : n2 ≤ 9223372036854775807 := by have h1 := s2.len; have h2 := Frr.out.1; simp at h1; omega
  have lm2 : m2 ≤ 9223372036854775807 := by have h1 := t2.len; have h2 := Frr.out.2; simp at h1; omega
  have LN2 := Lib.hid ln2; have LM2 := Lib.hid lm2
  clear ln2 lm2
  have ln3 : n3 ≤ 9223372036854775807 := by have h1 := s3.len; have h2 := Frp.out.1; simp at h1; omega
  have lm3 : m3 ≤ 9223372036854775807 := by have h1 := t3.len; have h2 := Frp.out.2; simp at h1; omega
  have LN3 := Lib.hid ln3; have LM3 := Lib.hid lm3
  clear ln3 lm3
  have ln4 : n4 ≤ 9223372036854775807 := by have h1 := s4.len; have h2 := Frf.out.1; simp at h1; omega
  have lm4 : m4 ≤ 9223372036854775807 := by have h1 := t4.len; have h2 := Frf.out.2; simp at h1; omega
  have LN4 := Lib.hid ln4; have LM4 := Lib.hid lm4
  clear ln4 lm4
  have oc0 := onto_cell c0; have oc1 := onto_cell c1; have oc2 := onto_cell c2; have oc3 := onto_cell c3; have oc4 := onto_cell c4; have oc5 := onto_cell c5; have oc6 := onto_cell c6; have oc7 := onto_cell c7; have oc8 := onto_cell c8; have oc9 := onto_cell c9; have oc10 := onto_cell c10; have oc11 := onto_cell c11; have og0 := onto_cell g0; have og1 := onto_cell g1; have og2 := onto_cell g2; have og3 := onto_cell g3; have og4 := onto_cell g4; have og5 := onto_cell g5; have og6 := onto_cell g6; have og7 := onto_cell g7; have og8 := onto_cell g8; have og9 := onto_cell g9; have og10 := onto_cell g10; have og11 := onto_cell g11; have oaa0 := onto_cell aa0; have oaa1 := onto_cell aa1; have oaa2 := onto_cell aa2; have oaa3 := onto_cell aa3; have oaa4 := onto_cell aa4; have oaa5 := onto_cell aa5; have oaa6 := onto_cell aa6; have oaa7 := onto_cell aa7; have oaa8 := onto_cell aa8; have oaa9 := onto_cell aa9; have oaa10 := onto_cell aa10; have oaa11 := onto_cell aa11; have oab0 := onto_cell ab0; have oab1 := onto_cell ab1; have oab2 := onto_cell ab2; have oab3 := onto_cell ab3; have oab4 := onto_cell ab4; have oab5 := onto_cell ab5; have oab6 := onto_cell ab6; have oab7 := onto_cell ab7; have oab8 := onto_cell ab8; have oab9 := onto_cell ab9; have oab10 := onto_cell ab10; have oab11 := onto_cell ab11; have oac0 := onto_cell ac0; have oac1 := onto_cell ac1; have oac2 := onto_cell ac2; have oac3 := onto_cell ac3; have oac4 := onto_cell ac4; have oac5 := onto_cell ac5; have oac6 := onto_cell ac6; have oac7 := onto_cell ac7; have oac8 := onto_cell ac8; have oac9 := onto_cell ac9; have oac10 := onto_cell ac10; have oac11 := onto_cell ac11; have oad0 := onto_cell ad0; have oad1 := onto_cell ad1; have oad2 := onto_cell ad2; have oad3 := onto_cell ad3; have oad4 := onto_cell ad4; have oad5 := onto_cell ad5; have oad6 := onto_cell ad6; have oad7 := onto_cell ad7; have oad8 := onto_cell ad8; have oad9 := onto_cell ad9; have oad10 := onto_cell ad10; have oad11 := onto_cell ad11; have oda0 := onto_cell da0; have oda1 := onto_cell da1; have oda2 := onto_cell da2; have oda3 := onto_cell da3; have oda4 := onto_cell da4; have oda5 := onto_cell da5; have oda6 := onto_cell da6; have oda7 := onto_cell da7; have oda8 := onto_cell da8; have oda9 := onto_cell da9; have oda10 := onto_cell da10; have oda11 := onto_cell da11; have odb0 := onto_cell db0; have odb1 := onto_cell db1; have odb2 := onto_cell db2; have odb3 := onto_cell db3; have odb4 := onto_cell db4; have odb5 := onto_cell db5; have odb6 := onto_cell db6; have odb7 := onto_cell db7; have odb8 := onto_cell db8; have odb9 := onto_cell db9; have odb10 := onto_cell db10; have odb11 := onto_cell db11; have odc0 := onto_cell dc0; have odc1 := onto_cell dc1; have odc2 := onto_cell dc2; have odc3 := onto_cell dc3; have odc4 := onto_cell dc4; have odc5 := onto_cell dc5; have odc6 := onto_cell dc6; have odc7 := onto_cell dc7; have odc8 := onto_cell dc8; have odc9 := onto_cell dc9; have odc10 := onto_cell dc10; have odc11 := onto_cell dc11; have odd0 := onto_cell dd0; have odd1 := onto_cell dd1; have odd2 := onto_cell dd2; have odd3 := onto_cell dd3; have odd4 := onto_cell dd4; have odd5 := onto_cell dd5; have odd6 := onto_cell dd6; have odd7 := onto_cell dd7; have odd8 := onto_cell dd8; have odd9 := onto_cell dd9; have odd10 := onto_cell dd10; have odd11 := onto_cell dd11
  clear c0 c1 c2 c3 c4 c5 c6 c7 c8 c9 c10 c11 g0 g1 g2 g3 g4 g5 g6 g7 g8 g9 g10 g11 aa0 aa1 aa2 aa3 aa4 aa5 aa6 aa7 aa8 aa9 aa10 aa11 ab0 ab1 ab2 ab3 ab4 ab5 ab6 ab7 ab8 ab9 ab10 ab11 ac0 ac1 ac2 ac3 ac4 ac5 ac6 ac7 ac8 ac9 ac10 ac11 ad0 ad1 ad2 ad3 ad4 ad5 ad6 ad7 ad8 ad9 ad10 ad11 da0 da1 da2 da3 da4 da5 da6 da7 da8 da9 da10 da11 db0 db1 db2 db3 db4 db5 db6 db7 db8 db9 db10 db11 dc0 dc1 dc2 dc3 dc4 dc5 dc6 dc7 dc8 dc9 dc10 dc11 dd0 dd1 dd2 dd3 dd4 dd5 dd6 dd7 dd8 dd9 dd10 dd11
  refine wp_region_onto (by kernel_rfl) (by kernel_rfl) ?_
  repeat (go_big_quiet_step ((first
    | (go_at_call 34; exact calls_onto' (u := .bool true) (heard_calls _) rfl)
    | (go_at_call 35; exact calls_onto' (u := .int .i64 qc) (ClCheck_calls ep dg at_ ln pl x A A' n c m d b _ (S.onto sA (onto_on _ _)) (S.onto sB (onto_on _ _))) (by rw [HQC.out]))
    | (go_at_call 52; exact calls_onto' (u := .int .i64 qc) (RClCheck_calls ep dg at_ ln pl x A A' n c m d b _ (S.onto sA (onto_on _ _)) (S.onto sB (onto_on _ _))) (by rw [HQC.out]))
    | (go_at_call 53; exact calls_onto' (u := .agg #[.int .i64 1, .int .i64 0, .int .i64 0, .int .i64 0, .int .i64 0, .int .i64 0, .int .i64 0, .int .i64 0, .int .i64 0, .int .i64 0, .slice none 0 0, .slice none 0 0]) (ClNew_calls _) rfl)
    | (go_at_call 40; exact calls_onto' (u := .bool qs) (by with_reducible exact (ClSame_calls ep dg at_ ln pl ep2 dg2 at2 ln2 pl2 x z A A' G G' n c m d n' c' m' d' b b2 _ (S.onto sA (onto_on _ _)) (S.onto sB (onto_on _ _)) (S.onto sG (onto_on _ _)) (S.onto sH (onto_on _ _)) HN.out HM.out)) (by rw [HQS.out]))
    | (go_at_call 45; exact calls_onto' (u := .bool qs) (by with_reducible exact (RClSame_calls ep dg at_ ln pl ep2 dg2 at2 ln2 pl2 x z A A' G G' n c m d n' c' m' d' b b2 _ (S.onto sA (onto_on _ _)) (S.onto sB (onto_on _ _)) (S.onto sG (onto_on _ _)) (S.onto sH (onto_on _ _)) HN.out HM.out)) (by rw [HQS.out]))
    | (go_at_call 45; exact calls_onto' (u := .bool true) (by with_reducible exact (RClSame_calls 1 0 0 0 0 1 0 0 0 0 ⟨0, 0, 0, 0, 0⟩ ⟨0, 0, 0, 0, 0⟩ none none none none 0 0 0 0 0 0 0 0 Book.none Book.none _ (SJ0 _ _) (SR0 _ _) (SJ0 _ _) (SR0 _ _) (by omega) (by omega))) (by simp))
    | (go_at_call 45; exact calls_onto' (u := .bool true) (by with_reducible exact (RClSame_calls rq.1.epoch rq.1.doing rq.1.at_ rq.1.link rq.1.played rq.1.epoch rq.1.doing rq.1.at_ rq.1.link rq.1.played rq.1.e rq.1.e X1 Y1 X5 Y5 n1 k1 m1 d1 n5 k5 m5 d5 rq.1.b rq.1.b _ (S.onto s1 (onto_on _ _)) (S.onto t1 (onto_on _ _)) (S.onto s5 (onto_on _ _)) (S.onto t5 (onto_on _ _)) LN1.out LM1.out)) (by simp))
    | (go_at_call 45; exact calls_onto' (u := .bool true) (by with_reducible exact (RClSame_calls rr.1.epoch rr.1.doing rr.1.at_ rr.1.link rr.1.played rr.1.epoch rr.1.doing rr.1.at_ rr.1.link rr.1.played rr.1.e rr.1.e X2 Y2 X6 Y6 n2 k2 m2 d2 n6 k6 m6 d6 rr.1.b rr.1.b _ (S.onto s2 (onto_on _ _)) (S.onto t2 (onto_on _ _)) (S.onto s6 (onto_on _ _)) (S.onto t6 (onto_on _ _)) LN2.out LM2.out)) (by simp))
    | (go_at_call 45; exact calls_onto' (u := .bool true) (by with_reducible exact (RClSame_calls rp.1.epoch rp.1.doing rp.1.at_ rp.1.link rp.1.played rp.1.epoch rp.1.doing rp.1.at_ rp.1.link rp.1.played rp.1.e rp.1.e X3 Y3 X7 Y7 n3 k3 m3 d3 n7 k7 m7 d7 rp.1.b rp.1.b _ (S.onto s3 (onto_on _ _)) (S.onto t3 (onto_on _ _)) (S.onto s7 (onto_on _ _)) (S.onto t7 (onto_on _ _)) LN3.out LM3.out)) (by simp))
    | (go_at_call 45; exact calls_onto' (u := .bool true) (by with_reducible exact (RClSame_calls rf.1.epoch rf.1.doing rf.1.at_ rf.1.link rf.1.played rf.1.epoch rf.1.doing rf.1.at_ rf.1.link rf.1.played rf.1.e rf.1.e X4 Y4 X8 Y8 n4 k4 m4 d4 n8 k8 m8 d8 rf.1.b rf.1.b _ (S.onto s4 (onto_on _ _)) (S.onto t4 (onto_on _ _)) (S.onto s8 (onto_on _ _)) (S.onto t8 (onto_on _ _)) LN4.out LM4.out)) (by simp)))))
  refine wpQuiet_nil ?_
  intro wz hb
  replace hon := Onto.to hon hb
  clear oc0 oc1 oc2 oc3 oc4 oc5 oc6 oc7 oc8 oc9 oc10 oc11 og0 og1 og2 og3 og4 og5 og6 og7 og8 og9 og10 og11 oaa0 oaa1 oaa2 oaa3 oaa4 oaa5 oaa6 oaa7 oaa8 oaa9 oaa10 oaa11 oab0 oab1 oab2 oab3 oab4 oab5 oab6 oab7 oab8 oab9 oab10 oab11 oac0 oac1 oac2 oac3 oac4 oac5 oac6 oac7 oac8 oac9 oac10 oac11 oad0 oad1 oad2 oad3 oad4 oad5 oad6 oad7 oad8 oad9 oad10 oad11 oda0 oda1 oda2 oda3 oda4 oda5 oda6 oda7 oda8 oda9 oda10 oda11 odb0 odb1 odb2 odb3 odb4 odb5 odb6 odb7 odb8 odb9 odb10 odb11 odc0 odc1 odc2 odc3 odc4 odc5 odc6 odc7 odc8 odc9 odc10 odc11 odd0 odd1 odd2 odd3 odd4 odd5 odd6 odd7 odd8 odd9 odd10 odd11 hb sA sB sG sH s1 t1 s2 t2 s3 t3 s4 t4 s5 t5 s6 t6 s7 t7 s8 t8
  go_wp2_with fail
  go_ret
  exact ⟨rfl, hon⟩

theorem ClientSays_walk (c : Cli) (A B : Option Addr) (n k m d : Nat) (y : Entry) (v me job t : Int) (c2 : Cli) (G H : Option Addr) (n' k' m' d' : Nat) (w : World) (h : S w 3 A n (c.b.jobs.map encJ)) (h' : S w 3 B m (c.b.rung.map encR)) (hnk : n ≤ k) (hkm : k ≤ maxLen) (hmd : m ≤ d) (hdm : d ≤ maxLen)
    (g : S w 3 G n' (c2.b.jobs.map encJ)) (g' : S w 3 H m' (c2.b.rung.map encR)) (_ : n' ≤ k') (_ : k' ≤ maxLen) (_ : m' ≤ d') (_ : d' ≤ maxLen) :
    Calls Try.prog 10 #[.agg #[.int .i64 c.epoch, .int .i64 c.doing, .int .i64 c.e.kind, .int .i64 c.e.job, .int .i64 c.e.every, .int .i64 c.e.time, .int .i64 c.e.client, .int .i64 c.at_, .int .i64 c.link, .int .i64 c.played, .slice A n k, .slice B m d], .agg #[.int .i64 y.kind, .int .i64 y.job, .int .i64 y.every, .int .i64 y.time, .int .i64 y.client], .int .i64 v, .int .i64 me, .int .i64 job, .int .i64 t, .agg #[.int .i64 c2.epoch, .int .i64 c2.doing, .int .i64 c2.e.kind, .int .i64 c2.e.job, .int .i64 c2.e.every, .int .i64 c2.e.time, .int .i64 c2.e.client, .int .i64 c2.at_, .int .i64 c2.link, .int .i64 c2.played, .slice G n' k', .slice H m' d']] w fun e w' => e = .returned (.bool true) ∧ Below w.heap.size w w' := by
  obtain ⟨ep, dg, x, at_, ln, pl, b⟩ := c
  obtain ⟨ep2, dg2, z, at2, ln2, pl2, b2⟩ := c2
  unfold maxLen at hkm hdm
  exact ClientSays_lit ep dg at_ ln pl x y A B n k m d b v me job t ep2 dg2 at2 ln2 pl2 z G H n' k' m' d' b2 w h h' g g' (by omega) (by omega)
end Go.Proofs.Ytbipmoehcmighaa
