/- The walk of the law ClientHears. -/
import Derived.Test.YtbipmoehcmighaaRPlay
import Derived.Test.YtbipmoehcmighaaHeard
namespace Go.Proofs.Ytbipmoehcmighaa
set_option linter.unusedSimpArgs false
set_option linter.unusedVariables false
open Go.RowKit

def FewB (b : Book) : Prop := b.jobs.length ≤ 6 ∧ b.rung.length ≤ 60
theorem FewB.none : FewB Book.none := by simp [FewB, Book.none]
theorem FewB.of {b : Book} (h : GoodB b) : FewB b := ⟨h.nj, h.nr⟩
theorem learnCl_few (c : Cli) (v : Int) : FewB (learnCl c v).1.b := by
  unfold learnCl
  split
  · exact FewB.none
  · rename_i h
    split
    · exact FewB.none
    · split
      · exact FewB.none
      · exact FewB.of (checkCl_book (c := c) (by simpa using h))
theorem heardCl_few (c : Cli) (y : Entry) : FewB (heardCl c y).1.b := by
  unfold heardCl
  split
  · exact FewB.none
  · rename_i h
    have hb := FewB.of (checkCl_book (c := c) (by simpa using h))
    (repeat' split) <;> first | exact FewB.none | exact hb
theorem playCl_few (c : Cli) (y : Entry) : FewB (playCl c y).1.b := by
  by_cases h : (playCl c y).2 = 0
  · have hk := playCl_keeps h
    rw [hk.2.2.2.1]
    exact FewB.of (checkCl_book hk.2.2.2.2)
  · unfold playCl at h ⊢
    (repeat' split) <;> first | exact FewB.none | (simp_all; done) | (exfalso; simp_all)

set_option maxHeartbeats 8000000 in
set_option maxRecDepth 100000 in
theorem ClientHears_lit (ep dg at_ ln pl : Int) (x y : Entry) (A A' : Option Addr) (n c m d : Nat) (b : Book) (v : Int) (w : World) (sA : S w 3 A n (b.jobs.map encJ)) (sB : S w 3 A' m (b.rung.map encR)) :
    Calls Try.prog 9 #[.agg #[.int .i64 ep, .int .i64 dg, .int .i64 x.kind, .int .i64 x.job, .int .i64 x.every, .int .i64 x.time, .int .i64 x.client, .int .i64 at_, .int .i64 ln, .int .i64 pl, .slice A n c, .slice A' m d], .agg #[.int .i64 y.kind, .int .i64 y.job, .int .i64 y.every, .int .i64 y.time, .int .i64 y.client], .int .i64 v] w fun e w' => e = .returned (.bool true) ∧ Onto w w' := by
  obtain ⟨rh, hrh⟩ : ∃ rh, rh = heardCl ⟨ep, dg, x, at_, ln, pl, b⟩ y := ⟨_, rfl⟩
  have frh := heardCl_few ⟨ep, dg, x, at_, ln, pl, b⟩ y
  rw [← hrh] at frh
  have Hrh := Lib.hid hrh; have Frh := Lib.hid frh
  clear hrh frh
  obtain ⟨rp, hrp⟩ : ∃ rp, rp = playCl ⟨ep, dg, x, at_, ln, pl, b⟩ y := ⟨_, rfl⟩
  have frp := playCl_few ⟨ep, dg, x, at_, ln, pl, b⟩ y
  rw [← hrp] at frp
  have Hrp := Lib.hid hrp; have Frp := Lib.hid frp
  clear hrp frp
  obtain ⟨rl, hrl⟩ : ∃ rl, rl = learnCl ⟨ep, dg, x, at_, ln, pl, b⟩ v := ⟨_, rfl⟩
  have frl := learnCl_few ⟨ep, dg, x, at_, ln, pl, b⟩ v
  rw [← hrl] at frl
  have Hrl := Lib.hid hrl; have Frl := Lib.hid frl
  clear hrl frl
  go_enter Try.func9, Try.ntmps9
  go_upto_region 1 with fail
  have hon : Onto w ((w.alloc (Obj.cells #[.int .i64 ep, .int .i64 dg, .int .i64 x.kind, .int .i64 x.job, .int .i64 x.every, .int .i64 x.time, .int .i64 x.client, .int .i64 at_, .int .i64 ln, .int .i64 pl, .slice A n c, .slice A' m d] 56)).alloc (Obj.cells #[.int .i64 y.kind, .int .i64 y.job, .int .i64 y.every, .int .i64 y.time, .int .i64 y.client] 24)) := ((Onto.rfl' w).new _).new _
  replace sA := (sA.new (Obj.cells #[.int .i64 ep, .int .i64 dg, .int .i64 x.kind, .int .i64 x.job, .int .i64 x.every, .int .i64 x.time, .int .i64 x.client, .int .i64 at_, .int .i64 ln, .int .i64 pl, .slice A n c, .slice A' m d] 56)).new (Obj.cells #[.int .i64 y.kind, .int .i64 y.job, .int .i64 y.every, .int .i64 y.time, .int .i64 y.client] 24)
  replace sB := (sB.new (Obj.cells #[.int .i64 ep, .int .i64 dg, .int .i64 x.kind, .int .i64 x.job, .int .i64 x.every, .int .i64 x.time, .int .i64 x.client, .int .i64 at_, .int .i64 ln, .int .i64 pl, .slice A n c, .slice A' m d] 56)).new (Obj.cells #[.int .i64 y.kind, .int .i64 y.job, .int .i64 y.every, .int .i64 y.time, .int .i64 y.client] 24)
  have c0 : ((w.alloc (Obj.cells #[.int .i64 ep, .int .i64 dg, .int .i64 x.kind, .int .i64 x.job, .int .i64 x.every, .int .i64 x.time, .int .i64 x.client, .int .i64 at_, .int .i64 ln, .int .i64 pl, .slice A n c, .slice A' m d] 56)).alloc (Obj.cells #[.int .i64 y.kind, .int .i64 y.job, .int .i64 y.every, .int .i64 y.time, .int .i64 y.client] 24)).cell? ⟨w.heap.size, 0, none⟩ = some (.int .i64 ep) := by simp [go_sem]
  have c1 : ((w.alloc (Obj.cells #[.int .i64 ep, .int .i64 dg, .int .i64 x.kind, .int .i64 x.job, .int .i64 x.every, .int .i64 x.time, .int .i64 x.client, .int .i64 at_, .int .i64 ln, .int .i64 pl, .slice A n c, .slice A' m d] 56)).alloc (Obj.cells #[.int .i64 y.kind, .int .i64 y.job, .int .i64 y.every, .int .i64 y.time, .int .i64 y.client] 24)).cell? ⟨w.heap.size, 1, none⟩ = some (.int .i64 dg) := by simp [go_sem]
  have c2 : ((w.alloc (Obj.cells #[.int .i64 ep, .int .i64 dg, .int .i64 x.kind, .int .i64 x.job, .int .i64 x.every, .int .i64 x.time, .int .i64 x.client, .int .i64 at_, .int .i64 ln, .int .i64 pl, .slice A n c, .slice A' m d] 56)).alloc (Obj.cells #[.int .i64 y.kind, .int .i64 y.job, .int .i64 y.every, .int .i64 y.time, .int .i64 y.client] 24)).cell? ⟨w.heap.size, 2, none⟩ = some (.int .i64 x.kind) := by simp [go_sem]
  have c3 : ((w.alloc (Obj.cells #[.int .i64 ep, .int .i64 dg, .int .i64 x.kind, .int .i64 x.job, .int .i64 x.every, .int .i64 x.time, .int .i64 x.client, .int .i64 at_, .int .i64 ln, .int .i64 pl, .slice A n c, .slice A' m d] 56)).alloc (Obj.cells #[.int .i64 y.kind, .int .i64 y.job, .int .i64 y.every, .int .i64 y.time, .int .i64 y.client] 24)).cell? ⟨w.heap.size, 3, none⟩ = some (.int .i64 x.job) := by simp [go_sem]
  have c4 : ((w.alloc (Obj.cells #[.int .i64 ep, .int .i64 dg, .int .i64 x.kind, .int .i64 x.job, .int .i64 x.every, .int .i64 x.time, .int .i64 x.client, .int .i64 at_, .int .i64 ln, .int .i64 pl, .slice A n c, .slice A' m d] 56)).alloc (Obj.cells #[.int .i64 y.kind, .int .i64 y.job, .int .i64 y.every, .int .i64 y.time, .int .i64 y.client] 24)).cell? ⟨w.heap.size, 4, none⟩ = some (.int .i64 x.every) := by simp [go_sem]
  have c5 : ((w.alloc (Obj.cells #[.int .i64 ep, .int .i64 dg, .int .i64 x.kind, .int .i64 x.job, .int .i64 x.every, .int .i64 x.time, .int .i64 x.client, .int .i64 at_, .int .i64 ln, .int .i64 pl, .slice A n c, .slice A' m d] 56)).alloc (Obj.cells #[.int .i64 y.kind, .int .i64 y.job, .int .i64 y.every, .int .i64 y.time, .int .i64 y.client] 24)).cell? ⟨w.heap.size, 5, none⟩ = some (.int .i64 x.time) := by simp [go_sem]
  have c6 : ((w.alloc (Obj.cells #[.int .i64 ep, .int .i64 dg, .int .i64 x.kind, .int .i64 x.job, .int .i64 x.every, .int .i64 x.time, .int .i64 x.client, .int .i64 at_, .int .i64 ln, .int .i64 pl, .slice A n c, .slice A' m d] 56)).alloc (Obj.cells #[.int .i64 y.kind, .int .i64 y.job, .int .i64 y.every, .int .i64 y.time, .int .i64 y.client] 24)).cell? ⟨w.heap.size, 6, none⟩ = some (.int .i64 x.client) := by simp [go_sem]
  have c7 : ((w.alloc (Obj.cells #[.int .i64 ep, .int .i64 dg, .int .i64 x.kind, .int .i64 x.job, .int .i64 x.every, .int .i64 x.time, .int .i64 x.client, .int .i64 at_, .int .i64 ln, .int .i64 pl, .slice A n c, .slice A' m d] 56)).alloc (Obj.cells #[.int .i64 y.kind, .int .i64 y.job, .int .i64 y.every, .int .i64 y.time, .int .i64 y.client] 24)).cell? ⟨w.heap.size, 7, none⟩ = some (.int .i64 at_) := by simp [go_sem]
  have c8 : ((w.alloc (Obj.cells #[.int .i64 ep, .int .i64 dg, .int .i64 x.kind, .int .i64 x.job, .int .i64 x.every, .int .i64 x.time, .int .i64 x.client, .int .i64 at_, .int .i64 ln, .int .i64 pl, .slice A n c, .slice A' m d] 56)).alloc (Obj.cells #[.int .i64 y.kind, .int .i64 y.job, .int .i64 y.every, .int .i64 y.time, .int .i64 y.client] 24)).cell? ⟨w.heap.size, 8, none⟩ = some (.int .i64 ln) := by simp [go_sem]
  have c9 : ((w.alloc (Obj.cells #[.int .i64 ep, .int .i64 dg, .int .i64 x.kind, .int .i64 x.job, .int .i64 x.every, .int .i64 x.time, .int .i64 x.client, .int .i64 at_, .int .i64 ln, .int .i64 pl, .slice A n c, .slice A' m d] 56)).alloc (Obj.cells #[.int .i64 y.kind, .int .i64 y.job, .int .i64 y.every, .int .i64 y.time, .int .i64 y.client] 24)).cell? ⟨w.heap.size, 9, none⟩ = some (.int .i64 pl) := by simp [go_sem]
  have c10 : ((w.alloc (Obj.cells #[.int .i64 ep, .int .i64 dg, .int .i64 x.kind, .int .i64 x.job, .int .i64 x.every, .int .i64 x.time, .int .i64 x.client, .int .i64 at_, .int .i64 ln, .int .i64 pl, .slice A n c, .slice A' m d] 56)).alloc (Obj.cells #[.int .i64 y.kind, .int .i64 y.job, .int .i64 y.every, .int .i64 y.time, .int .i64 y.client] 24)).cell? ⟨w.heap.size, 10, none⟩ = some (.slice A n c) := by simp [go_sem]
  have c11 : ((w.alloc (Obj.cells #[.int .i64 ep, .int .i64 dg, .int .i64 x.kind, .int .i64 x.job, .int .i64 x.every, .int .i64 x.time, .int .i64 x.client, .int .i64 at_, .int .i64 ln, .int .i64 pl, .slice A n c, .slice A' m d] 56)).alloc (Obj.cells #[.int .i64 y.kind, .int .i64 y.job, .int .i64 y.every, .int .i64 y.time, .int .i64 y.client] 24)).cell? ⟨w.heap.size, 11, none⟩ = some (.slice A' m d) := by simp [go_sem]
  have e0 : ((w.alloc (Obj.cells #[.int .i64 ep, .int .i64 dg, .int .i64 x.kind, .int .i64 x.job, .int .i64 x.every, .int .i64 x.time, .int .i64 x.client, .int .i64 at_, .int .i64 ln, .int .i64 pl, .slice A n c, .slice A' m d] 56)).alloc (Obj.cells #[.int .i64 y.kind, .int .i64 y.job, .int .i64 y.every, .int .i64 y.time, .int .i64 y.client] 24)).cell? ⟨w.heap.size + 1, 0, none⟩ = some (.int .i64 y.kind) := by simp [go_sem]
  have e1 : ((w.alloc (Obj.cells #[.int .i64 ep, .int .i64 dg, .int .i64 x.kind, .int .i64 x.job, .int .i64 x.every, .int .i64 x.time, .int .i64 x.client, .int .i64 at_, .int .i64 ln, .int .i64 pl, .slice A n c, .slice A' m d] 56)).alloc (Obj.cells #[.int .i64 y.kind, .int .i64 y.job, .int .i64 y.every, .int .i64 y.time, .int .i64 y.client] 24)).cell? ⟨w.heap.size + 1, 1, none⟩ = some (.int .i64 y.job) := by simp [go_sem]
  have e2 : ((w.alloc (Obj.cells #[.int .i64 ep, .int .i64 dg, .int .i64 x.kind, .int .i64 x.job, .int .i64 x.every, .int .i64 x.time, .int .i64 x.client, .int .i64 at_, .int .i64 ln, .int .i64 pl, .slice A n c, .slice A' m d] 56)).alloc (Obj.cells #[.int .i64 y.kind, .int .i64 y.job, .int .i64 y.every, .int .i64 y.time, .int .i64 y.client] 24)).cell? ⟨w.heap.size + 1, 2, none⟩ = some (.int .i64 y.every) := by simp [go_sem]
  have e3 : ((w.alloc (Obj.cells #[.int .i64 ep, .int .i64 dg, .int .i64 x.kind, .int .i64 x.job, .int .i64 x.every, .int .i64 x.time, .int .i64 x.client, .int .i64 at_, .int .i64 ln, .int .i64 pl, .slice A n c, .slice A' m d] 56)).alloc (Obj.cells #[.int .i64 y.kind, .int .i64 y.job, .int .i64 y.every, .int .i64 y.time, .int .i64 y.client] 24)).cell? ⟨w.heap.size + 1, 3, none⟩ = some (.int .i64 y.time) := by simp [go_sem]
  have e4 : ((w.alloc (Obj.cells #[.int .i64 ep, .int .i64 dg, .int .i64 x.kind, .int .i64 x.job, .int .i64 x.every, .int .i64 x.time, .int .i64 x.client, .int .i64 at_, .int .i64 ln, .int .i64 pl, .slice A n c, .slice A' m d] 56)).alloc (Obj.cells #[.int .i64 y.kind, .int .i64 y.job, .int .i64 y.every, .int .i64 y.time, .int .i64 y.client] 24)).cell? ⟨w.heap.size + 1, 4, none⟩ = some (.int .i64 y.client) := by simp [go_sem]
  change Code.wp _ _ _ _ ((w.alloc (Obj.cells #[.int .i64 ep, .int .i64 dg, .int .i64 x.kind, .int .i64 x.job, .int .i64 x.every, .int .i64 x.time, .int .i64 x.client, .int .i64 at_, .int .i64 ln, .int .i64 pl, .slice A n c, .slice A' m d] 56)).alloc (Obj.cells #[.int .i64 y.kind, .int .i64 y.job, .int .i64 y.every, .int .i64 y.time, .int .i64 y.client] 24))
  generalize ((w.alloc (Obj.cells #[.int .i64 ep, .int .i64 dg, .int .i64 x.kind, .int .i64 x.job, .int .i64 x.every, .int .i64 x.time, .int .i64 x.client, .int .i64 at_, .int .i64 ln, .int .i64 pl, .slice A n c, .slice A' m d] 56)).alloc (Obj.cells #[.int .i64 y.kind, .int .i64 y.job, .int .i64 y.every, .int .i64 y.time, .int .i64 y.client] 24)) = w0 at *
  go_wp2_with fail
  refine Calls.mono (ClHeard_calls ep dg at_ ln pl x y A A' n c m d b _ sA sB) ?_
  rw [← Hrh.out]
  rintro e v1 ⟨X1, n1, k1, Y1, m1, d1, rfl, s1, t1, hb, _, _, _, _⟩
  replace c0 := cellB hb c0
  replace c1 := cellB hb c1
  replace c2 := cellB hb c2
  replace c3 := cellB hb c3
  replace c4 := cellB hb c4
  replace c5 := cellB hb c5
  replace c6 := cellB hb c6
  replace c7 := cellB hb c7
  replace c8 := cellB hb c8
  replace c9 := cellB hb c9
  replace c10 := cellB hb c10
  replace c11 := cellB hb c11
  replace e0 := cellB hb e0
  replace e1 := cellB hb e1
  replace e2 := cellB hb e2
  replace e3 := cellB hb e3
  replace e4 := cellB hb e4
  replace sA := S.onto sA hb
  replace sB := S.onto sB hb
  replace hon := Onto.to hon hb
  clear hb
  go_upto_region 2 with fail
  have haaw : w.heap.size ≤ v1.heap.size := hon.size
  have hcaa : w.heap.size < v1.heap.size := World.block_lt_of_cell? _ _ c0
  have heaa : w.heap.size + 1 < v1.heap.size := World.block_lt_of_cell? _ _ e0
  have hbx : Onto v1 (v1.alloc (Obj.cells #[.int .i64 rh.1.epoch, .int .i64 rh.1.doing, .int .i64 rh.1.e.kind, .int .i64 rh.1.e.job, .int .i64 rh.1.e.every, .int .i64 rh.1.e.time, .int .i64 rh.1.e.client, .int .i64 rh.1.at_, .int .i64 rh.1.link, .int .i64 rh.1.played, .slice X1 n1 k1, .slice Y1 m1 d1] 56)) := (Below.refl _ _).alloc (Nat.le_refl _) _
  replace c0 := cellB hbx c0
  replace c1 := cellB hbx c1
  replace c2 := cellB hbx c2
  replace c3 := cellB hbx c3
  replace c4 := cellB hbx c4
  replace c5 := cellB hbx c5
  replace c6 := cellB hbx c6
  replace c7 := cellB hbx c7
  replace c8 := cellB hbx c8
  replace c9 := cellB hbx c9
  replace c10 := cellB hbx c10
  replace c11 := cellB hbx c11
  replace e0 := cellB hbx e0
  replace e1 := cellB hbx e1
  replace e2 := cellB hbx e2
  replace e3 := cellB hbx e3
  replace e4 := cellB hbx e4
  replace sA := S.onto sA hbx
  replace sB := S.onto sB hbx
  replace s1 := S.onto s1 hbx
  replace t1 := S.onto t1 hbx
  replace hon := Onto.to hon hbx
  have aa0 : (v1.alloc (Obj.cells #[.int .i64 rh.1.epoch, .int .i64 rh.1.doing, .int .i64 rh.1.e.kind, .int .i64 rh.1.e.job, .int .i64 rh.1.e.every, .int .i64 rh.1.e.time, .int .i64 rh.1.e.client, .int .i64 rh.1.at_, .int .i64 rh.1.link, .int .i64 rh.1.played, .slice X1 n1 k1, .slice Y1 m1 d1] 56)).cell? ⟨v1.heap.size, 0, none⟩ = some (.int .i64 rh.1.epoch) := by simp [go_sem]
  have aa1 : (v1.alloc (Obj.cells #[.int .i64 rh.1.epoch, .int .i64 rh.1.doing, .int .i64 rh.1.e.kind, .int .i64 rh.1.e.job, .int .i64 rh.1.e.every, .int .i64 rh.1.e.time, .int .i64 rh.1.e.client, .int .i64 rh.1.at_, .int .i64 rh.1.link, .int .i64 rh.1.played, .slice X1 n1 k1, .slice Y1 m1 d1] 56)).cell? ⟨v1.heap.size, 1, none⟩ = some (.int .i64 rh.1.doing) := by simp [go_sem]
  have aa2 : (v1.alloc (Obj.cells #[.int .i64 rh.1.epoch, .int .i64 rh.1.doing, .int .i64 rh.1.e.kind, .int .i64 rh.1.e.job, .int .i64 rh.1.e.every, .int .i64 rh.1.e.time, .int .i64 rh.1.e.client, .int .i64 rh.1.at_, .int .i64 rh.1.link, .int .i64 rh.1.played, .slice X1 n1 k1, .slice Y1 m1 d1] 56)).cell? ⟨v1.heap.size, 2, none⟩ = some (.int .i64 rh.1.e.kind) := by simp [go_sem]
  have aa3 : (v1.alloc (Obj.cells #[.int .i64 rh.1.epoch, .int .i64 rh.1.doing, .int .i64 rh.1.e.kind, .int .i64 rh.1.e.job, .int .i64 rh.1.e.every, .int .i64 rh.1.e.time, .int .i64 rh.1.e.client, .int .i64 rh.1.at_, .int .i64 rh.1.link, .int .i64 rh.1.played, .slice X1 n1 k1, .slice Y1 m1 d1] 56)).cell? ⟨v1.heap.size, 3, none⟩ = some (.int .i64 rh.1.e.job) := by simp [go_sem]
  have aa4 : (v1.alloc (Obj.cells #[.int .i64 rh.1.epoch, .int .i64 rh.1.doing, .int .i64 rh.1.e.kind, .int .i64 rh.1.e.job, .int .i64 rh.1.e.every, .int .i64 rh.1.e.time, .int .i64 rh.1.e.client, .int .i64 rh.1.at_, .int .i64 rh.1.link, .int .i64 rh.1.played, .slice X1 n1 k1, .slice Y1 m1 d1] 56)).cell? ⟨v1.heap.size, 4, none⟩ = some (.int .i64 rh.1.e.every) := by simp [go_sem]
  have aa5 : (v1.alloc (Obj.cells #[.int .i64 rh.1.epoch, .int .i64 rh.1.doing, .int .i64 rh.1.e.kind, .int .i64 rh.1.e.job, .int .i64 rh.1.e.every, .int .i64 rh.1.e.time, .int .i64 rh.1.e.client, .int .i64 rh.1.at_, .int .i64 rh.1.link, .int .i64 rh.1.played, .slice X1 n1 k1, .slice Y1 m1 d1] 56)).cell? ⟨v1.heap.size, 5, none⟩ = some (.int .i64 rh.1.e.time) := by simp [go_sem]
  have aa6 : (v1.alloc (Obj.cells #[.int .i64 rh.1.epoch, .int .i64 rh.1.doing, .int .i64 rh.1.e.kind, .int .i64 rh.1.e.job, .int .i64 rh.1.e.every, .int .i64 rh.1.e.time, .int .i64 rh.1.e.client, .int .i64 rh.1.at_, .int .i64 rh.1.link, .int .i64 rh.1.played, .slice X1 n1 k1, .slice Y1 m1 d1] 56)).cell? ⟨v1.heap.size, 6, none⟩ = some (.int .i64 rh.1.e.client) := by simp [go_sem]
  have aa7 : (v1.alloc (Obj.cells #[.int .i64 rh.1.epoch, .int .i64 rh.1.doing, .int .i64 rh.1.e.kind, .int .i64 rh.1.e.job, .int .i64 rh.1.e.every, .int .i64 rh.1.e.time, .int .i64 rh.1.e.client, .int .i64 rh.1.at_, .int .i64 rh.1.link, .int .i64 rh.1.played, .slice X1 n1 k1, .slice Y1 m1 d1] 56)).cell? ⟨v1.heap.size, 7, none⟩ = some (.int .i64 rh.1.at_) := by simp [go_sem]
  have aa8 : (v1.alloc (Obj.cells #[.int .i64 rh.1.epoch, .int .i64 rh.1.doing, .int .i64 rh.1.e.kind, .int .i64 rh.1.e.job, .int .i64 rh.1.e.every, .int .i64 rh.1.e.time, .int .i64 rh.1.e.client, .int .i64 rh.1.at_, .int .i64 rh.1.link, .int .i64 rh.1.played, .slice X1 n1 k1, .slice Y1 m1 d1] 56)).cell? ⟨v1.heap.size, 8, none⟩ = some (.int .i64 rh.1.link) := by simp [go_sem]
  have aa9 : (v1.alloc (Obj.cells #[.int .i64 rh.1.epoch, .int .i64 rh.1.doing, .int .i64 rh.1.e.kind, .int .i64 rh.1.e.job, .int .i64 rh.1.e.every, .int .i64 rh.1.e.time, .int .i64 rh.1.e.client, .int .i64 rh.1.at_, .int .i64 rh.1.link, .int .i64 rh.1.played, .slice X1 n1 k1, .slice Y1 m1 d1] 56)).cell? ⟨v1.heap.size, 9, none⟩ = some (.int .i64 rh.1.played) := by simp [go_sem]
  have aa10 : (v1.alloc (Obj.cells #[.int .i64 rh.1.epoch, .int .i64 rh.1.doing, .int .i64 rh.1.e.kind, .int .i64 rh.1.e.job, .int .i64 rh.1.e.every, .int .i64 rh.1.e.time, .int .i64 rh.1.e.client, .int .i64 rh.1.at_, .int .i64 rh.1.link, .int .i64 rh.1.played, .slice X1 n1 k1, .slice Y1 m1 d1] 56)).cell? ⟨v1.heap.size, 10, none⟩ = some (.slice X1 n1 k1) := by simp [go_sem]
  have aa11 : (v1.alloc (Obj.cells #[.int .i64 rh.1.epoch, .int .i64 rh.1.doing, .int .i64 rh.1.e.kind, .int .i64 rh.1.e.job, .int .i64 rh.1.e.every, .int .i64 rh.1.e.time, .int .i64 rh.1.e.client, .int .i64 rh.1.at_, .int .i64 rh.1.link, .int .i64 rh.1.played, .slice X1 n1 k1, .slice Y1 m1 d1] 56)).cell? ⟨v1.heap.size, 11, none⟩ = some (.slice Y1 m1 d1) := by simp [go_sem]
  change Code.wp _ _ _ _ (v1.alloc (Obj.cells #[.int .i64 rh.1.epoch, .int .i64 rh.1.doing, .int .i64 rh.1.e.kind, .int .i64 rh.1.e.job, .int .i64 rh.1.e.every, .int .i64 rh.1.e.time, .int .i64 rh.1.e.client, .int .i64 rh.1.at_, .int .i64 rh.1.link, .int .i64 rh.1.played, .slice X1 n1 k1, .slice Y1 m1 d1] 56))
  clear hbx
  generalize (v1.alloc (Obj.cells #[.int .i64 rh.1.epoch, .int .i64 rh.1.doing, .int .i64 rh.1.e.kind, .int .i64 rh.1.e.job, .int .i64 rh.1.e.every, .int .i64 rh.1.e.time, .int .i64 rh.1.e.client, .int .i64 rh.1.at_, .int .i64 rh.1.link, .int .i64 rh.1.played, .slice X1 n1 k1, .slice Y1 m1 d1] 56)) = w1 at *
  generalize v1.heap.size = Baa at *
  go_wp2_with fail
  refine Calls.mono (ClPlay_calls ep dg at_ ln pl x y A A' n c m d b _ sA sB) ?_
  rw [← Hrp.out]
  rintro e v2 ⟨X2, n2, k2, Y2, m2, d2, rfl, s2, t2, hb, _, _, _, _⟩
  replace c0 := cellB hb c0
  replace c1 := cellB hb c1
  replace c2 := cellB hb c2
  replace c3 := cellB hb c3
  replace c4 := cellB hb c4
  replace c5 := cellB hb c5
  replace c6 := cellB hb c6
  replace c7 := cellB hb c7
  replace c8 := cellB hb c8
  replace c9 := cellB hb c9
  replace c10 := cellB hb c10
  replace c11 := cellB hb c11
  replace e0 := cellB hb e0
  replace e1 := cellB hb e1
  replace e2 := cellB hb e2
  replace e3 := cellB hb e3
  replace e4 := cellB hb e4
  replace aa0 := cellB hb aa0
  replace aa1 := cellB hb aa1
  replace aa2 := cellB hb aa2
  replace aa3 := cellB hb aa3
  replace aa4 := cellB hb aa4
  replace aa5 := cellB hb aa5
  replace aa6 := cellB hb aa6
  replace aa7 := cellB hb aa7
  replace aa8 := cellB hb aa8
  replace aa9 := cellB hb aa9
  replace aa10 := cellB hb aa10
  replace aa11 := cellB hb aa11
  replace sA := S.onto sA hb
  replace sB := S.onto sB hb
  replace s1 := S.onto s1 hb
  replace t1 := S.onto t1 hb
  replace hon := Onto.to hon hb
  clear hb
  go_upto_region 3 with fail
  have habw : w.heap.size ≤ v2.heap.size := hon.size
  have hcab : w.heap.size < v2.heap.size := World.block_lt_of_cell? _ _ c0
  have heab : w.heap.size + 1 < v2.heap.size := World.block_lt_of_cell? _ _ e0
  have haaab : Baa < v2.heap.size := World.block_lt_of_cell? _ _ aa0
  have hbx : Onto v2 (v2.alloc (Obj.cells #[.int .i64 rp.1.epoch, .int .i64 rp.1.doing, .int .i64 rp.1.e.kind, .int .i64 rp.1.e.job, .int .i64 rp.1.e.every, .int .i64 rp.1.e.time, .int .i64 rp.1.e.client, .int .i64 rp.1.at_, .int .i64 rp.1.link, .int .i64 rp.1.played, .slice X2 n2 k2, .slice Y2 m2 d2] 56)) := (Below.refl _ _).alloc (Nat.le_refl _) _
  replace c0 := cellB hbx c0
  replace c1 := cellB hbx c1
  replace c2 := cellB hbx c2
  replace c3 := cellB hbx c3
  replace c4 := cellB hbx c4
  replace c5 := cellB hbx c5
  replace c6 := cellB hbx c6
  replace c7 := cellB hbx c7
  replace c8 := cellB hbx c8
  replace c9 := cellB hbx c9
  replace c10 := cellB hbx c10
  replace c11 := cellB hbx c11
  replace e0 := cellB hbx e0
  replace e1 := cellB hbx e1
  replace e2 := cellB hbx e2
  replace e3 := cellB hbx e3
  replace e4 := cellB hbx e4
  replace aa0 := cellB hbx aa0
  replace aa1 := cellB hbx aa1
  replace aa2 := cellB hbx aa2
  replace aa3 := cellB hbx aa3
  replace aa4 := cellB hbx aa4
  replace aa5 := cellB hbx aa5
  replace aa6 := cellB hbx aa6
  replace aa7 := cellB hbx aa7
  replace aa8 := cellB hbx aa8
  replace aa9 := cellB hbx aa9
  replace aa10 := cellB hbx aa10
  replace aa11 := cellB hbx aa11
  replace sA := S.onto sA hbx
  replace sB := S.onto sB hbx
  replace s1 := S.onto s1 hbx
  replace t1 := S.onto t1 hbx
  replace s2 := S.onto s2 hbx
  replace t2 := S.onto t2 hbx
  replace hon := Onto.to hon hbx
  have ab0 : (v2.alloc (Obj.cells #[.int .i64 rp.1.epoch, .int .i64 rp.1.doing, .int .i64 rp.1.e.kind, .int .i64 rp.1.e.job, .int .i64 rp.1.e.every, .int .i64 rp.1.e.time, .int .i64 rp.1.e.client, .int .i64 rp.1.at_, .int .i64 rp.1.link, .int .i64 rp.1.played, .slice X2 n2 k2, .slice Y2 m2 d2] 56)).cell? ⟨v2.heap.size, 0, none⟩ = some (.int .i64 rp.1.epoch) := by simp [go_sem]
  have ab1 : (v2.alloc (Obj.cells #[.int .i64 rp.1.epoch, .int .i64 rp.1.doing, .int .i64 rp.1.e.kind, .int .i64 rp.1.e.job, .int .i64 rp.1.e.every, .int .i64 rp.1.e.time, .int .i64 rp.1.e.client, .int .i64 rp.1.at_, .int .i64 rp.1.link, .int .i64 rp.1.played, .slice X2 n2 k2, .slice Y2 m2 d2] 56)).cell? ⟨v2.heap.size, 1, none⟩ = some (.int .i64 rp.1.doing) := by simp [go_sem]
  have ab2 : (v2.alloc (Obj.cells #[.int .i64 rp.1.epoch, .int .i64 rp.1.doing, .int .i64 rp.1.e.kind, .int .i64 rp.1.e.job, .int .i64 rp.1.e.every, .int .i64 rp.1.e.time, .int .i64 rp.1.e.client, .int .i64 rp.1.at_, .int .i64 rp.1.link, .int .i64 rp.1.played, .slice X2 n2 k2, .slice Y2 m2 d2] 56)).cell? ⟨v2.heap.size, 2, none⟩ = some (.int .i64 rp.1.e.kind) := by simp [go_sem]
  have ab3 : (v2.alloc (Obj.cells #[.int .i64 rp.1.epoch, .int .i64 rp.1.doing, .int .i64 rp.1.e.kind, .int .i64 rp.1.e.job, .int .i64 rp.1.e.every, .int .i64 rp.1.e.time, .int .i64 rp.1.e.client, .int .i64 rp.1.at_, .int .i64 rp.1.link, .int .i64 rp.1.played, .slice X2 n2 k2, .slice Y2 m2 d2] 56)).cell? ⟨v2.heap.size, 3, none⟩ = some (.int .i64 rp.1.e.job) := by simp [go_sem]
  have ab4 : (v2.alloc (Obj.cells #[.int .i64 rp.1.epoch, .int .i64 rp.1.doing, .int .i64 rp.1.e.kind, .int .i64 rp.1.e.job, .int .i64 rp.1.e.every, .int .i64 rp.1.e.time, .int .i64 rp.1.e.client, .int .i64 rp.1.at_, .int .i64 rp.1.link, .int .i64 rp.1.played, .slice X2 n2 k2, .slice Y2 m2 d2] 56)).cell? ⟨v2.heap.size, 4, none⟩ = some (.int .i64 rp.1.e.every) := by simp [go_sem]
  have ab5 : (v2.alloc (Obj.cells #[.int .i64 rp.1.epoch, .int .i64 rp.1.doing, .int .i64 rp.1.e.kind, .int .i64 rp.1.e.job, .int .i64 rp.1.e.every, .int .i64 rp.1.e.time, .int .i64 rp.1.e.client, .int .i64 rp.1.at_, .int .i64 rp.1.link, .int .i64 rp.1.played, .slice X2 n2 k2, .slice Y2 m2 d2] 56)).cell? ⟨v2.heap.size, 5, none⟩ = some (.int .i64 rp.1.e.time) := by simp [go_sem]
  have ab6 : (v2.alloc (Obj.cells #[.int .i64 rp.1.epoch, .int .i64 rp.1.doing, .int .i64 rp.1.e.kind, .int .i64 rp.1.e.job, .int .i64 rp.1.e.every, .int .i64 rp.1.e.time, .int .i64 rp.1.e.client, .int .i64 rp.1.at_, .int .i64 rp.1.link, .int .i64 rp.1.played, .slice X2 n2 k2, .slice Y2 m2 d2] 56)).cell? ⟨v2.heap.size, 6, none⟩ = some (.int .i64 rp.1.e.client) := by simp [go_sem]
  have ab7 : (v2.alloc (Obj.cells #[.int .i64 rp.1.epoch, .int .i64 rp.1.doing, .int .i64 rp.1.e.kind, .int .i64 rp.1.e.job, .int .i64 rp.1.e.every, .int .i64 rp.1.e.time, .int .i64 rp.1.e.client, .int .i64 rp.1.at_, .int .i64 rp.1.link, .int .i64 rp.1.played, .slice X2 n2 k2, .slice Y2 m2 d2] 56)).cell? ⟨v2.heap.size, 7, none⟩ = some (.int .i64 rp.1.at_) := by simp [go_sem]
  have ab8 : (v2.alloc (Obj.cells #[.int .i64 rp.1.epoch, .int .i64 rp.1.doing, .int .i64 rp.1.e.kind, .int .i64 rp.1.e.job, .int .i64 rp.1.e.every, .int .i64 rp.1.e.time, .int .i64 rp.1.e.client, .int .i64 rp.1.at_, .int .i64 rp.1.link, .int .i64 rp.1.played, .slice X2 n2 k2, .slice Y2 m2 d2] 56)).cell? ⟨v2.heap.size, 8, none⟩ = some (.int .i64 rp.1.link) := by simp [go_sem]
  have ab9 : (v2.alloc (Obj.cells #[.int .i64 rp.1.epoch, .int .i64 rp.1.doing, .int .i64 rp.1.e.kind, .int .i64 rp.1.e.job, .int .i64 rp.1.e.every, .int .i64 rp.1.e.time, .int .i64 rp.1.e.client, .int .i64 rp.1.at_, .int .i64 rp.1.link, .int .i64 rp.1.played, .slice X2 n2 k2, .slice Y2 m2 d2] 56)).cell? ⟨v2.heap.size, 9, none⟩ = some (.int .i64 rp.1.played) := by simp [go_sem]
  have ab10 : (v2.alloc (Obj.cells #[.int .i64 rp.1.epoch, .int .i64 rp.1.doing, .int .i64 rp.1.e.kind, .int .i64 rp.1.e.job, .int .i64 rp.1.e.every, .int .i64 rp.1.e.time, .int .i64 rp.1.e.client, .int .i64 rp.1.at_, .int .i64 rp.1.link, .int .i64 rp.1.played, .slice X2 n2 k2, .slice Y2 m2 d2] 56)).cell? ⟨v2.heap.size, 10, none⟩ = some (.slice X2 n2 k2) := by simp [go_sem]
  have ab11 : (v2.alloc (Obj.cells #[.int .i64 rp.1.epoch, .int .i64 rp.1.doing, .int .i64 rp.1.e.kind, .int .i64 rp.1.e.job, .int .i64 rp.1.e.every, .int .i64 rp.1.e.time, .int .i64 rp.1.e.client, .int .i64 rp.1.at_, .int .i64 rp.1.link, .int .i64 rp.1.played, .slice X2 n2 k2, .slice Y2 m2 d2] 56)).cell? ⟨v2.heap.size, 11, none⟩ = some (.slice Y2 m2 d2) := by simp [go_sem]
  change Code.wp _ _ _ _ (v2.alloc (Obj.cells #[.int .i64 rp.1.epoch, .int .i64 rp.1.doing, .int .i64 rp.1.e.kind, .int .i64 rp.1.e.job, .int .i64 rp.1.e.every, .int .i64 rp.1.e.time, .int .i64 rp.1.e.client, .int .i64 rp.1.at_, .int .i64 rp.1.link, .int .i64 rp.1.played, .slice X2 n2 k2, .slice Y2 m2 d2] 56))
  clear hbx
  generalize (v2.alloc (Obj.cells #[.int .i64 rp.1.epoch, .int .i64 rp.1.doing, .int .i64 rp.1.e.kind, .int .i64 rp.1.e.job, .int .i64 rp.1.e.every, .int .i64 rp.1.e.time, .int .i64 rp.1.e.client, .int .i64 rp.1.at_, .int .i64 rp.1.link, .int .i64 rp.1.played, .slice X2 n2 k2, .slice Y2 m2 d2] 56)) = w2 at *
  generalize v2.heap.size = Bab at *
  go_wp2_with fail
  refine Calls.mono (ClLearn_calls ep dg at_ ln pl x A A' n c m d b v _ sA sB) ?_
  rw [← Hrl.out]
  rintro e v3 ⟨X3, n3, k3, Y3, m3, d3, rfl, s3, t3, hb, _, _, _, _⟩
  replace c0 := cellB hb c0
  replace c1 := cellB hb c1
  replace c2 := cellB hb c2
  replace c3 := cellB hb c3
  replace c4 := cellB hb c4
  replace c5 := cellB hb c5
  replace c6 := cellB hb c6
  replace c7 := cellB hb c7
  replace c8 := cellB hb c8
  replace c9 := cellB hb c9
  replace c10 := cellB hb c10
  replace c11 := cellB hb c11
  replace e0 := cellB hb e0
  replace e1 := cellB hb e1
  replace e2 := cellB hb e2
  replace e3 := cellB hb e3
  replace e4 := cellB hb e4
  replace aa0 := cellB hb aa0
  replace aa1 := cellB hb aa1
  replace aa2 := cellB hb aa2
  replace aa3 := cellB hb aa3
  replace aa4 := cellB hb aa4
  replace aa5 := cellB hb aa5
  replace aa6 := cellB hb aa6
  replace aa7 := cellB hb aa7
  replace aa8 := cellB hb aa8
  replace aa9 := cellB hb aa9
  replace aa10 := cellB hb aa10
  replace aa11 := cellB hb aa11
  replace ab0 := cellB hb ab0
  replace ab1 := cellB hb ab1
  replace ab2 := cellB hb ab2
  replace ab3 := cellB hb ab3
  replace ab4 := cellB hb ab4
  replace ab5 := cellB hb ab5
  replace ab6 := cellB hb ab6
  replace ab7 := cellB hb ab7
  replace ab8 := cellB hb ab8
  replace ab9 := cellB hb ab9
  replace ab10 := cellB hb ab10
  replace ab11 := cellB hb ab11
  replace sA := S.onto sA hb
  replace sB := S.onto sB hb
  replace s1 := S.onto s1 hb
  replace t1 := S.onto t1 hb
  replace s2 := S.onto s2 hb
  replace t2 := S.onto t2 hb
  replace hon := Onto.to hon hb
  clear hb
  go_upto_region 4 with fail
  have hacw : w.heap.size ≤ v3.heap.size := hon.size
  have hcac : w.heap.size < v3.heap.size := World.block_lt_of_cell? _ _ c0
  have heac : w.heap.size + 1 < v3.heap.size := World.block_lt_of_cell? _ _ e0
  have haaac : Baa < v3.heap.size := World.block_lt_of_cell? _ _ aa0
  have habac : Bab < v3.heap.size := World.block_lt_of_cell? _ _ ab0
  have hbx : Onto v3 (v3.alloc (Obj.cells #[.int .i64 rl.1.epoch, .int .i64 rl.1.doing, .int .i64 rl.1.e.kind, .int .i64 rl.1.e.job, .int .i64 rl.1.e.every, .int .i64 rl.1.e.time, .int .i64 rl.1.e.client, .int .i64 rl.1.at_, .int .i64 rl.1.link, .int .i64 rl.1.played, .slice X3 n3 k3, .slice Y3 m3 d3] 56)) := (Below.refl _ _).alloc (Nat.le_refl _) _
  replace c0 := cellB hbx c0
  replace c1 := cellB hbx c1
  replace c2 := cellB hbx c2
  replace c3 := cellB hbx c3
  replace c4 := cellB hbx c4
  replace c5 := cellB hbx c5
  replace c6 := cellB hbx c6
  replace c7 := cellB hbx c7
  replace c8 := cellB hbx c8
  replace c9 := cellB hbx c9
  replace c10 := cellB hbx c10
  replace c11 := cellB hbx c11
  replace e0 := cellB hbx e0
  replace e1 := cellB hbx e1
  replace e2 := cellB hbx e2
  replace e3 := cellB hbx e3
  replace e4 := cellB hbx e4
  replace aa0 := cellB hbx aa0
  replace aa1 := cellB hbx aa1
  replace aa2 := cellB hbx aa2
  replace aa3 := cellB hbx aa3
  replace aa4 := cellB hbx aa4
  replace aa5 := cellB hbx aa5
  replace aa6 := cellB hbx aa6
  replace aa7 := cellB hbx aa7
  replace aa8 := cellB hbx aa8
  replace aa9 := cellB hbx aa9
  replace aa10 := cellB hbx aa10
  replace aa11 := cellB hbx aa11
  replace ab0 := cellB hbx ab0
  replace ab1 := cellB hbx ab1
  replace ab2 := cellB hbx ab2
  replace ab3 := cellB hbx ab3
  replace ab4 := cellB hbx ab4
  replace ab5 := cellB hbx ab5
  replace ab6 := cellB hbx ab6
  replace ab7 := cellB hbx ab7
  replace ab8 := cellB hbx ab8
  replace ab9 := cellB hbx ab9
  replace ab10 := cellB hbx ab10
  replace ab11 := cellB hbx ab11
  replace sA := S.onto sA hbx
  replace sB := S.onto sB hbx
  replace s1 := S.onto s1 hbx
  replace t1 := S.onto t1 hbx
  replace s2 := S.onto s2 hbx
  replace t2 := S.onto t2 hbx
  replace s3 := S.onto s3 hbx
  replace t3 := S.onto t3 hbx
  replace hon := Onto.to hon hbx
  have ac0 : (v3.alloc (Obj.cells #[.int .i64 rl.1.epoch, .int .i64 rl.1.doing, .int .i64 rl.1.e.kind, .int .i64 rl.1.e.job, .int .i64 rl.1.e.every, .int .i64 rl.1.e.time, .int .i64 rl.1.e.client, .int .i64 rl.1.at_, .int .i64 rl.1.link, .int .i64 rl.1.played, .slice X3 n3 k3, .slice Y3 m3 d3] 56)).cell? ⟨v3.heap.size, 0, none⟩ = some (.int .i64 rl.1.epoch) := by simp [go_sem]
  have ac1 : (v3.alloc (Obj.cells #[.int .i64 rl.1.epoch, .int .i64 rl.1.doing, .int .i64 rl.1.e.kind, .int .i64 rl.1.e.job, .int .i64 rl.1.e.every, .int .i64 rl.1.e.time, .int .i64 rl.1.e.client, .int .i64 rl.1.at_, .int .i64 rl.1.link, .int .i64 rl.1.played, .slice X3 n3 k3, .slice Y3 m3 d3] 56)).cell? ⟨v3.heap.size, 1, none⟩ = some (.int .i64 rl.1.doing) := by simp [go_sem]
  have ac2 : (v3.alloc (Obj.cells #[.int .i64 rl.1.epoch, .int .i64 rl.1.doing, .int .i64 rl.1.e.kind, .int .i64 rl.1.e.job, .int .i64 rl.1.e.every, .int .i64 rl.1.e.time, .int .i64 rl.1.e.client, .int .i64 rl.1.at_, .int .i64 rl.1.link, .int .i64 rl.1.played, .slice X3 n3 k3, .slice Y3 m3 d3] 56)).cell? ⟨v3.heap.size, 2, none⟩ = some (.int .i64 rl.1.e.kind) := by simp [go_sem]
  have ac3 : (v3.alloc (Obj.cells #[.int .i64 rl.1.epoch, .int .i64 rl.1.doing, .int .i64 rl.1.e.kind, .int .i64 rl.1.e.job, .int .i64 rl.1.e.every, .int .i64 rl.1.e.time, .int .i64 rl.1.e.client, .int .i64 rl.1.at_, .int .i64 rl.1.link, .int .i64 rl.1.played, .slice X3 n3 k3, .slice Y3 m3 d3] 56)).cell? ⟨v3.heap.size, 3, none⟩ = some (.int .i64 rl.1.e.job) := by simp [go_sem]
  have ac4 : (v3.alloc (Obj.cells #[.int .i64 rl.1.epoch, .int .i64 rl.1.doing, .int .i64 rl.1.e.kind, .int .i64 rl.1.e.job, .int .i64 rl.1.e.every, .int .i64 rl.1.e.time, .int .i64 rl.1.e.client, .int .i64 rl.1.at_, .int .i64 rl.1.link, .int .i64 rl.1.played, .slice X3 n3 k3, .slice Y3 m3 d3] 56)).cell? ⟨v3.heap.size, 4, none⟩ = some (.int .i64 rl.1.e.every) := by simp [go_sem]
  have ac5 : (v3.alloc (Obj.cells #[.int .i64 rl.1.epoch, .int .i64 rl.1.doing, .int .i64 rl.1.e.kind, .int .i64 rl.1.e.job, .int .i64 rl.1.e.every, .int .i64 rl.1.e.time, .int .i64 rl.1.e.client, .int .i64 rl.1.at_, .int .i64 rl.1.link, .int .i64 rl.1.played, .slice X3 n3 k3, .slice Y3 m3 d3] 56)).cell? ⟨v3.heap.size, 5, none⟩ = some (.int .i64 rl.1.e.time) := by simp [go_sem]
  have ac6 : (v3.alloc (Obj.cells #[.int .i64 rl.1.epoch, .int .i64 rl.1.doing, .int .i64 rl.1.e.kind, .int .i64 rl.1.e.job, .int .i64 rl.1.e.every, .int .i64 rl.1.e.time, .int .i64 rl.1.e.client, .int .i64 rl.1.at_, .int .i64 rl.1.link, .int .i64 rl.1.played, .slice X3 n3 k3, .slice Y3 m3 d3] 56)).cell? ⟨v3.heap.size, 6, none⟩ = some (.int .i64 rl.1.e.client) := by simp [go_sem]
  have ac7 : (v3.alloc (Obj.cells #[.int .i64 rl.1.epoch, .int .i64 rl.1.doing, .int .i64 rl.1.e.kind, .int .i64 rl.1.e.job, .int .i64 rl.1.e.every, .int .i64 rl.1.e.time, .int .i64 rl.1.e.client, .int .i64 rl.1.at_, .int .i64 rl.1.link, .int .i64 rl.1.played, .slice X3 n3 k3, .slice Y3 m3 d3] 56)).cell? ⟨v3.heap.size, 7, none⟩ = some (.int .i64 rl.1.at_) := by simp [go_sem]
  have ac8 : (v3.alloc (Obj.cells #[.int .i64 rl.1.epoch, .int .i64 rl.1.doing, .int .i64 rl.1.e.kind, .int .i64 rl.1.e.job, .int .i64 rl.1.e.every, .int .i64 rl.1.e.time, .int .i64 rl.1.e.client, .int .i64 rl.1.at_, .int .i64 rl.1.link, .int .i64 rl.1.played, .slice X3 n3 k3, .slice Y3 m3 d3] 56)).cell? ⟨v3.heap.size, 8, none⟩ = some (.int .i64 rl.1.link) := by simp [go_sem]
  have ac9 : (v3.alloc (Obj.cells #[.int .i64 rl.1.epoch, .int .i64 rl.1.doing, .int .i64 rl.1.e.kind, .int .i64 rl.1.e.job, .int .i64 rl.1.e.every, .int .i64 rl.1.e.time, .int .i64 rl.1.e.client, .int .i64 rl.1.at_, .int .i64 rl.1.link, .int .i64 rl.1.played, .slice X3 n3 k3, .slice Y3 m3 d3] 56)).cell? ⟨v3.heap.size, 9, none⟩ = some (.int .i64 rl.1.played) := by simp [go_sem]
  have ac10 : (v3.alloc (Obj.cells #[.int .i64 rl.1.epoch, .int .i64 rl.1.doing, .int .i64 rl.1.e.kind, .int .i64 rl.1.e.job, .int .i64 rl.1.e.every, .int .i64 rl.1.e.time, .int .i64 rl.1.e.client, .int .i64 rl.1.at_, .int .i64 rl.1.link, .int .i64 rl.1.played, .slice X3 n3 k3, .slice Y3 m3 d3] 56)).cell? ⟨v3.heap.size, 10, none⟩ = some (.slice X3 n3 k3) := by simp [go_sem]
  have ac11 : (v3.alloc (Obj.cells #[.int .i64 rl.1.epoch, .int .i64 rl.1.doing, .int .i64 rl.1.e.kind, .int .i64 rl.1.e.job, .int .i64 rl.1.e.every, .int .i64 rl.1.e.time, .int .i64 rl.1.e.client, .int .i64 rl.1.at_, .int .i64 rl.1.link, .int .i64 rl.1.played, .slice X3 n3 k3, .slice Y3 m3 d3] 56)).cell? ⟨v3.heap.size, 11, none⟩ = some (.slice Y3 m3 d3) := by simp [go_sem]
  change Code.wp _ _ _ _ (v3.alloc (Obj.cells #[.int .i64 rl.1.epoch, .int .i64 rl.1.doing, .int .i64 rl.1.e.kind, .int .i64 rl.1.e.job, .int .i64 rl.1.e.every, .int .i64 rl.1.e.time, .int .i64 rl.1.e.client, .int .i64 rl.1.at_, .int .i64 rl.1.link, .int .i64 rl.1.played, .slice X3 n3 k3, .slice Y3 m3 d3] 56))
  clear hbx
  generalize (v3.alloc (Obj.cells #[.int .i64 rl.1.epoch, .int .i64 rl.1.doing, .int .i64 rl.1.e.kind, .int .i64 rl.1.e.job, .int .i64 rl.1.e.every, .int .i64 rl.1.e.time, .int .i64 rl.1.e.client, .int .i64 rl.1.at_, .int .i64 rl.1.link, .int .i64 rl.1.played, .slice X3 n3 k3, .slice Y3 m3 d3] 56)) = w3 at *
  generalize v3.heap.size = Bac at *
  go_wp2_with fail
  refine Calls.mono (RHeardOf_calls ep dg at_ ln pl x y A A' n c m d b _ sA sB) ?_
  rw [← Hrh.out]
  rintro e v4 ⟨X4, n4, k4, Y4, m4, d4, rfl, s4, t4, hb⟩
  replace c0 := cellB hb c0
  replace c1 := cellB hb c1
  replace c2 := cellB hb c2
  replace c3 := cellB hb c3
  replace c4 := cellB hb c4
  replace c5 := cellB hb c5
  replace c6 := cellB hb c6
  replace c7 := cellB hb c7
  replace c8 := cellB hb c8
  replace c9 := cellB hb c9
  replace c10 := cellB hb c10
  replace c11 := cellB hb c11
  replace e0 := cellB hb e0
  replace e1 := cellB hb e1
  replace e2 := cellB hb e2
  replace e3 := cellB hb e3
  replace e4 := cellB hb e4
  replace aa0 := cellB hb aa0
  replace aa1 := cellB hb aa1
  replace aa2 := cellB hb aa2
  replace aa3 := cellB hb aa3
  replace aa4 := cellB hb aa4
  replace aa5 := cellB hb aa5
  replace aa6 := cellB hb aa6
  replace aa7 := cellB hb aa7
  replace aa8 := cellB hb aa8
  replace aa9 := cellB hb aa9
  replace aa10 := cellB hb aa10
  replace aa11 := cellB hb aa11
  replace ab0 := cellB hb ab0
  replace ab1 := cellB hb ab1
  replace ab2 := cellB hb ab2
  replace ab3 := cellB hb ab3
  replace ab4 := cellB hb ab4
  replace ab5 := cellB hb ab5
  replace ab6 := cellB hb ab6
  replace ab7 := cellB hb ab7
  replace ab8 := cellB hb ab8
  replace ab9 := cellB hb ab9
  replace ab10 := cellB hb ab10
  replace ab11 := cellB hb ab11
  replace ac0 := cellB hb ac0
  replace ac1 := cellB hb ac1
  replace ac2 := cellB hb ac2
  replace ac3 := cellB hb ac3
  replace ac4 := cellB hb ac4
  replace ac5 := cellB hb ac5
  replace ac6 := cellB hb ac6
  replace ac7 := cellB hb ac7
  replace ac8 := cellB hb ac8
  replace ac9 := cellB hb ac9
  replace ac10 := cellB hb ac10
  replace ac11 := cellB hb ac11
  replace sA := S.onto sA hb
  replace sB := S.onto sB hb
  replace s1 := S.onto s1 hb
  replace t1 := S.onto t1 hb
  replace s2 := S.onto s2 hb
  replace t2 := S.onto t2 hb
  replace s3 := S.onto s3 hb
  replace t3 := S.onto t3 hb
  replace hon := Onto.to hon hb
  clear hb
  go_upto_region 5 with fail
  have hdaw : w.heap.size ≤ v4.heap.size := hon.size
  have hcda : w.heap.size < v4.heap.size := World.block_lt_of_cell? _ _ c0
  have heda : w.heap.size + 1 < v4.heap.size := World.block_lt_of_cell? _ _ e0
  have haada : Baa < v4.heap.size := World.block_lt_of_cell? _ _ aa0
  have habda : Bab < v4.heap.size := World.block_lt_of_cell? _ _ ab0
  have hacda : Bac < v4.heap.size := World.block_lt_of_cell? _ _ ac0
  have hbx : Onto v4 (v4.alloc (Obj.cells #[.int .i64 rh.1.epoch, .int .i64 rh.1.doing, .int .i64 rh.1.e.kind, .int .i64 rh.1.e.job, .int .i64 rh.1.e.every, .int .i64 rh.1.e.time, .int .i64 rh.1.e.client, .int .i64 rh.1.at_, .int .i64 rh.1.link, .int .i64 rh.1.played, .slice X4 n4 k4, .slice Y4 m4 d4] 56)) := (Below.refl _ _).alloc (Nat.le_refl _) _
  replace c0 := cellB hbx c0
  replace c1 := cellB hbx c1
  replace c2 := cellB hbx c2
  replace c3 := cellB hbx c3
  replace c4 := cellB hbx c4
  replace c5 := cellB hbx c5
  replace c6 := cellB hbx c6
  replace c7 := cellB hbx c7
  replace c8 := cellB hbx c8
  replace c9 := cellB hbx c9
  replace c10 := cellB hbx c10
  replace c11 := cellB hbx c11
  replace e0 := cellB hbx e0
  replace e1 := cellB hbx e1
  replace e2 := cellB hbx e2
  replace e3 := cellB hbx e3
  replace e4 := cellB hbx e4
  replace aa0 := cellB hbx aa0
  replace aa1 := cellB hbx aa1
  replace aa2 := cellB hbx aa2
  replace aa3 := cellB hbx aa3
  replace aa4 := cellB hbx aa4
  replace aa5 := cellB hbx aa5
  replace aa6 := cellB hbx aa6
  replace aa7 := cellB hbx aa7
  replace aa8 := cellB hbx aa8
  replace aa9 := cellB hbx aa9
  replace aa10 := cellB hbx aa10
  replace aa11 := cellB hbx aa11
  replace ab0 := cellB hbx ab0
  replace ab1 := cellB hbx ab1
  replace ab2 := cellB hbx ab2
  replace ab3 := cellB hbx ab3
  replace ab4 := cellB hbx ab4
  replace ab5 := cellB hbx ab5
  replace ab6 := cellB hbx ab6
  replace ab7 := cellB hbx ab7
  replace ab8 := cellB hbx ab8
  replace ab9 := cellB hbx ab9
  replace ab10 := cellB hbx ab10
  replace ab11 := cellB hbx ab11
  replace ac0 := cellB hbx ac0
  replace ac1 := cellB hbx ac1
  replace ac2 := cellB hbx ac2
  replace ac3 := cellB hbx ac3
  replace ac4 := cellB hbx ac4
  replace ac5 := cellB hbx ac5
  replace ac6 := cellB hbx ac6
  replace ac7 := cellB hbx ac7
  replace ac8 := cellB hbx ac8
  replace ac9 := cellB hbx ac9
  replace ac10 := cellB hbx ac10
  replace ac11 := cellB hbx ac11
  replace sA := S.onto sA hbx
  replace sB := S.onto sB hbx
  replace s1 := S.onto s1 hbx
  replace t1 := S.onto t1 hbx
  replace s2 := S.onto s2 hbx
  replace t2 := S.onto t2 hbx
  replace s3 := S.onto s3 hbx
  replace t3 := S.onto t3 hbx
  replace s4 := S.onto s4 hbx
  replace t4 := S.onto t4 hbx
  replace hon := Onto.to hon hbx
  have da0 : (v4.alloc (Obj.cells #[.int .i64 rh.1.epoch, .int .i64 rh.1.doing, .int .i64 rh.1.e.kind, .int .i64 rh.1.e.job, .int .i64 rh.1.e.every, .int .i64 rh.1.e.time, .int .i64 rh.1.e.client, .int .i64 rh.1.at_, .int .i64 rh.1.link, .int .i64 rh.1.played, .slice X4 n4 k4, .slice Y4 m4 d4] 56)).cell? ⟨v4.heap.size, 0, none⟩ = some (.int .i64 rh.1.epoch) := by simp [go_sem]
  have da1 : (v4.alloc (Obj.cells #[.int .i64 rh.1.epoch, .int .i64 rh.1.doing, .int .i64 rh.1.e.kind, .int .i64 rh.1.e.job, .int .i64 rh.1.e.every, .int .i64 rh.1.e.time, .int .i64 rh.1.e.client, .int .i64 rh.1.at_, .int .i64 rh.1.link, .int .i64 rh.1.played, .slice X4 n4 k4, .slice Y4 m4 d4] 56)).cell? ⟨v4.heap.size, 1, none⟩ = some (.int .i64 rh.1.doing) := by simp [go_sem]
  have da2 : (v4.alloc (Obj.cells #[.int .i64 rh.1.epoch, .int .i64 rh.1.doing, .int .i64 rh.1.e.kind, .int .i64 rh.1.e.job, .int .i64 rh.1.e.every, .int .i64 rh.1.e.time, .int .i64 rh.1.e.client, .int .i64 rh.1.at_, .int .i64 rh.1.link, .int .i64 rh.1.played, .slice X4 n4 k4, .slice Y4 m4 d4] 56)).cell? ⟨v4.heap.size, 2, none⟩ = some (.int .i64 rh.1.e.kind) := by simp [go_sem]
  have da3 : (v4.alloc (Obj.cells #[.int .i64 rh.1.epoch, .int .i64 rh.1.doing, .int .i64 rh.1.e.kind, .int .i64 rh.1.e.job, .int .i64 rh.1.e.every, .int .i64 rh.1.e.time, .int .i64 rh.1.e.client, .int .i64 rh.1.at_, .int .i64 rh.1.link, .int .i64 rh.1.played, .slice X4 n4 k4, .slice Y4 m4 d4] 56)).cell? ⟨v4.heap.size, 3, none⟩ = some (.int .i64 rh.1.e.job) := by simp [go_sem]
  have da4 : (v4.alloc (Obj.cells #[.int .i64 rh.1.epoch, .int .i64 rh.1.doing, .int .i64 rh.1.e.kind, .int .i64 rh.1.e.job, .int .i64 rh.1.e.every, .int .i64 rh.1.e.time, .int .i64 rh.1.e.client, .int .i64 rh.1.at_, .int .i64 rh.1.link, .int .i64 rh.1.played, .slice X4 n4 k4, .slice Y4 m4 d4] 56)).cell? ⟨v4.heap.size, 4, none⟩ = some (.int .i64 rh.1.e.every) := by simp [go_sem]
  have da5 : (v4.alloc (Obj.cells #[.int .i64 rh.1.epoch, .int .i64 rh.1.doing, .int .i64 rh.1.e.kind, .int .i64 rh.1.e.job, .int .i64 rh.1.e.every, .int .i64 rh.1.e.time, .int .i64 rh.1.e.client, .int .i64 rh.1.at_, .int .i64 rh.1.link, .int .i64 rh.1.played, .slice X4 n4 k4, .slice Y4 m4 d4] 56)).cell? ⟨v4.heap.size, 5, none⟩ = some (.int .i64 rh.1.e.time) := by simp [go_sem]
  have da6 : (v4.alloc (Obj.cells #[.int .i64 rh.1.epoch, .int .i64 rh.1.doing, .int .i64 rh.1.e.kind, .int .i64 rh.1.e.job, .int .i64 rh.1.e.every, .int .i64 rh.1.e.time, .int .i64 rh.1.e.client, .int .i64 rh.1.at_, .int .i64 rh.1.link, .int .i64 rh.1.played, .slice X4 n4 k4, .slice Y4 m4 d4] 56)).cell? ⟨v4.heap.size, 6, none⟩ = some (.int .i64 rh.1.e.client) := by simp [go_sem]
  have da7 : (v4.alloc (Obj.cells #[.int .i64 rh.1.epoch, .int .i64 rh.1.doing, .int .i64 rh.1.e.kind, .int .i64 rh.1.e.job, .int .i64 rh.1.e.every, .int .i64 rh.1.e.time, .int .i64 rh.1.e.client, .int .i64 rh.1.at_, .int .i64 rh.1.link, .int .i64 rh.1.played, .slice X4 n4 k4, .slice Y4 m4 d4] 56)).cell? ⟨v4.heap.size, 7, none⟩ = some (.int .i64 rh.1.at_) := by simp [go_sem]
  have da8 : (v4.alloc (Obj.cells #[.int .i64 rh.1.epoch, .int .i64 rh.1.doing, .int .i64 rh.1.e.kind, .int .i64 rh.1.e.job, .int .i64 rh.1.e.every, .int .i64 rh.1.e.time, .int .i64 rh.1.e.client, .int .i64 rh.1.at_, .int .i64 rh.1.link, .int .i64 rh.1.played, .slice X4 n4 k4, .slice Y4 m4 d4] 56)).cell? ⟨v4.heap.size, 8, none⟩ = some (.int .i64 rh.1.link) := by simp [go_sem]
  have da9 : (v4.alloc (Obj.cells #[.int .i64 rh.1.epoch, .int .i64 rh.1.doing, .int .i64 rh.1.e.kind, .int .i64 rh.1.e.job, .int .i64 rh.1.e.every, .int .i64 rh.1.e.time, .int .i64 rh.1.e.client, .int .i64 rh.1.at_, .int .i64 rh.1.link, .int .i64 rh.1.played, .slice X4 n4 k4, .slice Y4 m4 d4] 56)).cell? ⟨v4.heap.size, 9, none⟩ = some (.int .i64 rh.1.played) := by simp [go_sem]
  have da10 : (v4.alloc (Obj.cells #[.int .i64 rh.1.epoch, .int .i64 rh.1.doing, .int .i64 rh.1.e.kind, .int .i64 rh.1.e.job, .int .i64 rh.1.e.every, .int .i64 rh.1.e.time, .int .i64 rh.1.e.client, .int .i64 rh.1.at_, .int .i64 rh.1.link, .int .i64 rh.1.played, .slice X4 n4 k4, .slice Y4 m4 d4] 56)).cell? ⟨v4.heap.size, 10, none⟩ = some (.slice X4 n4 k4) := by simp [go_sem]
  have da11 : (v4.alloc (Obj.cells #[.int .i64 rh.1.epoch, .int .i64 rh.1.doing, .int .i64 rh.1.e.kind, .int .i64 rh.1.e.job, .int .i64 rh.1.e.every, .int .i64 rh.1.e.time, .int .i64 rh.1.e.client, .int .i64 rh.1.at_, .int .i64 rh.1.link, .int .i64 rh.1.played, .slice X4 n4 k4, .slice Y4 m4 d4] 56)).cell? ⟨v4.heap.size, 11, none⟩ = some (.slice Y4 m4 d4) := by simp [go_sem]
  change Code.wp _ _ _ _ (v4.alloc (Obj.cells #[.int .i64 rh.1.epoch, .int .i64 rh.1.doing, .int .i64 rh.1.e.kind, .int .i64 rh.1.e.job, .int .i64 rh.1.e.every, .int .i64 rh.1.e.time, .int .i64 rh.1.e.client, .int .i64 rh.1.at_, .int .i64 rh.1.link, .int .i64 rh.1.played, .slice X4 n4 k4, .slice Y4 m4 d4] 56))
  clear hbx
  generalize (v4.alloc (Obj.cells #[.int .i64 rh.1.epoch, .int .i64 rh.1.doing, .int .i64 rh.1.e.kind, .int .i64 rh.1.e.job, .int .i64 rh.1.e.every, .int .i64 rh.1.e.time, .int .i64 rh.1.e.client, .int .i64 rh.1.at_, .int .i64 rh.1.link, .int .i64 rh.1.played, .slice X4 n4 k4, .slice Y4 m4 d4] 56)) = w4 at *
  generalize v4.heap.size = Bda at *
  go_wp2_with fail
  refine Calls.mono (RPlayedOn_calls ep dg at_ ln pl x y A A' n c m d b _ sA sB) ?_
  rw [← Hrp.out]
  rintro e v5 ⟨X5, n5, k5, Y5, m5, d5, rfl, s5, t5, hb⟩
  replace c0 := cellB hb c0
  replace c1 := cellB hb c1
  replace c2 := cellB hb c2
  replace c3 := cellB hb c3
  replace c4 := cellB hb c4
  replace c5 := cellB hb c5
  replace c6 := cellB hb c6
  replace c7 := cellB hb c7
  replace c8 := cellB hb c8
  replace c9 := cellB hb c9
  replace c10 := cellB hb c10
  replace c11 := cellB hb c11
  replace e0 := cellB hb e0
  replace e1 := cellB hb e1
  replace e2 := cellB hb e2
  replace e3 := cellB hb e3
  replace e4 := cellB hb e4
  replace aa0 := cellB hb aa0
  replace aa1 := cellB hb aa1
  replace aa2 := cellB hb aa2
  replace aa3 := cellB hb aa3
  replace aa4 := cellB hb aa4
  replace aa5 := cellB hb aa5
  replace aa6 := cellB hb aa6
  replace aa7 := cellB hb aa7
  replace aa8 := cellB hb aa8
  replace aa9 := cellB hb aa9
  replace aa10 := cellB hb aa10
  replace aa11 := cellB hb aa11
  replace ab0 := cellB hb ab0
  replace ab1 := cellB hb ab1
  replace ab2 := cellB hb ab2
  replace ab3 := cellB hb ab3
  replace ab4 := cellB hb ab4
  replace ab5 := cellB hb ab5
  replace ab6 := cellB hb ab6
  replace ab7 := cellB hb ab7
  replace ab8 := cellB hb ab8
  replace ab9 := cellB hb ab9
  replace ab10 := cellB hb ab10
  replace ab11 := cellB hb ab11
  replace ac0 := cellB hb ac0
  replace ac1 := cellB hb ac1
  replace ac2 := cellB hb ac2
  replace ac3 := cellB hb ac3
  replace ac4 := cellB hb ac4
  replace ac5 := cellB hb ac5
  replace ac6 := cellB hb ac6
  replace ac7 := cellB hb ac7
  replace ac8 := cellB hb ac8
  replace ac9 := cellB hb ac9
  replace ac10 := cellB hb ac10
  replace ac11 := cellB hb ac11
  replace da0 := cellB hb da0
  replace da1 := cellB hb da1
  replace da2 := cellB hb da2
  replace da3 := cellB hb da3
  replace da4 := cellB hb da4
  replace da5 := cellB hb da5
  replace da6 := cellB hb da6
  replace da7 := cellB hb da7
  replace da8 := cellB hb da8
  replace da9 := cellB hb da9
  replace da10 := cellB hb da10
  replace da11 := cellB hb da11
  replace sA := S.onto sA hb
  replace sB := S.onto sB hb
  replace s1 := S.onto s1 hb
  replace t1 := S.onto t1 hb
  replace s2 := S.onto s2 hb
  replace t2 := S.onto t2 hb
  replace s3 := S.onto s3 hb
  replace t3 := S.onto t3 hb
  replace s4 := S.onto s4 hb
  replace t4 := S.onto t4 hb
  replace hon := Onto.to hon hb
  clear hb
  go_upto_region 6 with fail
  have hdbw : w.heap.size ≤ v5.heap.size := hon.size
  have hcdb : w.heap.size < v5.heap.size := World.block_lt_of_cell? _ _ c0
  have hedb : w.heap.size + 1 < v5.heap.size := World.block_lt_of_cell? _ _ e0
  have haadb : Baa < v5.heap.size := World.block_lt_of_cell? _ _ aa0
  have habdb : Bab < v5.heap.size := World.block_lt_of_cell? _ _ ab0
  have hacdb : Bac < v5.heap.size := World.block_lt_of_cell? _ _ ac0
  have hdadb : Bda < v5.heap.size := World.block_lt_of_cell? _ _ da0
  have hbx : Onto v5 (v5.alloc (Obj.cells #[.int .i64 rp.1.epoch, .int .i64 rp.1.doing, .int .i64 rp.1.e.kind, .int .i64 rp.1.e.job, .int .i64 rp.1.e.every, .int .i64 rp.1.e.time, .int .i64 rp.1.e.client, .int .i64 rp.1.at_, .int .i64 rp.1.link, .int .i64 rp.1.played, .slice X5 n5 k5, .slice Y5 m5 d5] 56)) := (Below.refl _ _).alloc (Nat.le_refl _) _
  replace c0 := cellB hbx c0
  replace c1 := cellB hbx c1
  replace c2 := cellB hbx c2
  replace c3 := cellB hbx c3
  replace c4 := cellB hbx c4
  replace c5 := cellB hbx c5
  replace c6 := cellB hbx c6
  replace c7 := cellB hbx c7
  replace c8 := cellB hbx c8
  replace c9 := cellB hbx c9
  replace c10 := cellB hbx c10
  replace c11 := cellB hbx c11
  replace e0 := cellB hbx e0
  replace e1 := cellB hbx e1
  replace e2 := cellB hbx e2
  replace e3 := cellB hbx e3
  replace e4 := cellB hbx e4
  replace aa0 := cellB hbx aa0
  replace aa1 := cellB hbx aa1
  replace aa2 := cellB hbx aa2
  replace aa3 := cellB hbx aa3
  replace aa4 := cellB hbx aa4
  replace aa5 := cellB hbx aa5
  replace aa6 := cellB hbx aa6
  replace aa7 := cellB hbx aa7
  replace aa8 := cellB hbx aa8
  replace aa9 := cellB hbx aa9
  replace aa10 := cellB hbx aa10
  replace aa11 := cellB hbx aa11
  replace ab0 := cellB hbx ab0
  replace ab1 := cellB hbx ab1
  replace ab2 := cellB hbx ab2
  replace ab3 := cellB hbx ab3
  replace ab4 := cellB hbx ab4
  replace ab5 := cellB hbx ab5
  replace ab6 := cellB hbx ab6
  replace ab7 := cellB hbx ab7
  replace ab8 := cellB hbx ab8
  replace ab9 := cellB hbx ab9
  replace ab10 := cellB hbx ab10
  replace ab11 := cellB hbx ab11
  replace ac0 := cellB hbx ac0
  replace ac1 := cellB hbx ac1
  replace ac2 := cellB hbx ac2
  replace ac3 := cellB hbx ac3
  replace ac4 := cellB hbx ac4
  replace ac5 := cellB hbx ac5
  replace ac6 := cellB hbx ac6
  replace ac7 := cellB hbx ac7
  replace ac8 := cellB hbx ac8
  replace ac9 := cellB hbx ac9
  replace ac10 := cellB hbx ac10
  replace ac11 := cellB hbx ac11
  replace da0 := cellB hbx da0
  replace da1 := cellB hbx da1
  replace da2 := cellB hbx da2
  replace da3 := cellB hbx da3
  replace da4 := cellB hbx da4
  replace da5 := cellB hbx da5
  replace da6 := cellB hbx da6
  replace da7 := cellB hbx da7
  replace da8 := cellB hbx da8
  replace da9 := cellB hbx da9
  replace da10 := cellB hbx da10
  replace da11 := cellB hbx da11
  replace sA := S.onto sA hbx
  replace sB := S.onto sB hbx
  replace s1 := S.onto s1 hbx
  replace t1 := S.onto t1 hbx
  replace s2 := S.onto s2 hbx
  replace t2 := S.onto t2 hbx
  replace s3 := S.onto s3 hbx
  replace t3 := S.onto t3 hbx
  replace s4 := S.onto s4 hbx
  replace t4 := S.onto t4 hbx
  replace s5 := S.onto s5 hbx
  replace t5 := S.onto t5 hbx
  replace hon := Onto.to hon hbx
  have db0 : (v5.alloc (Obj.cells #[.int .i64 rp.1.epoch, .int .i64 rp.1.doing, .int .i64 rp.1.e.kind, .int .i64 rp.1.e.job, .int .i64 rp.1.e.every, .int .i64 rp.1.e.time, .int .i64 rp.1.e.client, .int .i64 rp.1.at_, .int .i64 rp.1.link, .int .i64 rp.1.played, .slice X5 n5 k5, .slice Y5 m5 d5] 56)).cell? ⟨v5.heap.size, 0, none⟩ = some (.int .i64 rp.1.epoch) := by simp [go_sem]
  have db1 : (v5.alloc (Obj.cells #[.int .i64 rp.1.epoch, .int .i64 rp.1.doing, .int .i64 rp.1.e.kind, .int .i64 rp.1.e.job, .int .i64 rp.1.e.every, .int .i64 rp.1.e.time, .int .i64 rp.1.e.client, .int .i64 rp.1.at_, .int .i64 rp.1.link, .int .i64 rp.1.played, .slice X5 n5 k5, .slice Y5 m5 d5] 56)).cell? ⟨v5.heap.size, 1, none⟩ = some (.int .i64 rp.1.doing) := by simp [go_sem]
  have db2 : (v5.alloc (Obj.cells #[.int .i64 rp.1.epoch, .int .i64 rp.1.doing, .int .i64 rp.1.e.kind, .int .i64 rp.1.e.job, .int .i64 rp.1.e.every, .int .i64 rp.1.e.time, .int .i64 rp.1.e.client, .int .i64 rp.1.at_, .int .i64 rp.1.link, .int .i64 rp.1.played, .slice X5 n5 k5, .slice Y5 m5 d5] 56)).cell? ⟨v5.heap.size, 2, none⟩ = some (.int .i64 rp.1.e.kind) := by simp [go_sem]
  have db3 : (v5.alloc (Obj.cells #[.int .i64 rp.1.epoch, .int .i64 rp.1.doing, .int .i64 rp.1.e.kind, .int .i64 rp.1.e.job, .int .i64 rp.1.e.every, .int .i64 rp.1.e.time, .int .i64 rp.1.e.client, .int .i64 rp.1.at_, .int .i64 rp.1.link, .int .i64 rp.1.played, .slice X5 n5 k5, .slice Y5 m5 d5] 56)).cell? ⟨v5.heap.size, 3, none⟩ = some (.int .i64 rp.1.e.job) := by simp [go_sem]
  have db4 : (v5.alloc (Obj.cells #[.int .i64 rp.1.epoch, .int .i64 rp.1.doing, .int .i64 rp.1.e.kind, .int .i64 rp.1.e.job, .int .i64 rp.1.e.every, .int .i64 rp.1.e.time, .int .i64 rp.1.e.client, .int .i64 rp.1.at_, .int .i64 rp.1.link, .int .i64 rp.1.played, .slice X5 n5 k5, .slice Y5 m5 d5] 56)).cell? ⟨v5.heap.size, 4, none⟩ = some (.int .i64 rp.1.e.every) := by simp [go_sem]
  have db5 : (v5.alloc (Obj.cells #[.int .i64 rp.1.epoch, .int .i64 rp.1.doing, .int .i64 rp.1.e.kind, .int .i64 rp.1.e.job, .int .i64 rp.1.e.every, .int .i64 rp.1.e.time, .int .i64 rp.1.e.client, .int .i64 rp.1.at_, .int .i64 rp.1.link, .int .i64 rp.1.played, .slice X5 n5 k5, .slice Y5 m5 d5] 56)).cell? ⟨v5.heap.size, 5, none⟩ = some (.int .i64 rp.1.e.time) := by simp [go_sem]
  have db6 : (v5.alloc (Obj.cells #[.int .i64 rp.1.epoch, .int .i64 rp.1.doing, .int .i64 rp.1.e.kind, .int .i64 rp.1.e.job, .int .i64 rp.1.e.every, .int .i64 rp.1.e.time, .int .i64 rp.1.e.client, .int .i64 rp.1.at_, .int .i64 rp.1.link, .int .i64 rp.1.played, .slice X5 n5 k5, .slice Y5 m5 d5] 56)).cell? ⟨v5.heap.size, 6, none⟩ = some (.int .i64 rp.1.e.client) := by simp [go_sem]
  have db7 : (v5.alloc (Obj.cells #[.int .i64 rp.1.epoch, .int .i64 rp.1.doing, .int .i64 rp.1.e.kind, .int .i64 rp.1.e.job, .int .i64 rp.1.e.every, .int .i64 rp.1.e.time, .int .i64 rp.1.e.client, .int .i64 rp.1.at_, .int .i64 rp.1.link, .int .i64 rp.1.played, .slice X5 n5 k5, .slice Y5 m5 d5] 56)).cell? ⟨v5.heap.size, 7, none⟩ = some (.int .i64 rp.1.at_) := by simp [go_sem]
  have db8 : (v5.alloc (Obj.cells #[.int .i64 rp.1.epoch, .int .i64 rp.1.doing, .int .i64 rp.1.e.kind, .int .i64 rp.1.e.job, .int .i64 rp.1.e.every, .int .i64 rp.1.e.time, .int .i64 rp.1.e.client, .int .i64 rp.1.at_, .int .i64 rp.1.link, .int .i64 rp.1.played, .slice X5 n5 k5, .slice Y5 m5 d5] 56)).cell? ⟨v5.heap.size, 8, none⟩ = some (.int .i64 rp.1.link) := by simp [go_sem]
  have db9 : (v5.alloc (Obj.cells #[.int .i64 rp.1.epoch, .int .i64 rp.1.doing, .int .i64 rp.1.e.kind, .int .i64 rp.1.e.job, .int .i64 rp.1.e.every, .int .i64 rp.1.e.time, .int .i64 rp.1.e.client, .int .i64 rp.1.at_, .int .i64 rp.1.link, .int .i64 rp.1.played, .slice X5 n5 k5, .slice Y5 m5 d5] 56)).cell? ⟨v5.heap.size, 9, none⟩ = some (.int .i64 rp.1.played) := by simp [go_sem]
  have db10 : (v5.alloc (Obj.cells #[.int .i64 rp.1.epoch, .int .i64 rp.1.doing, .int .i64 rp.1.e.kind, .int .i64 rp.1.e.job, .int .i64 rp.1.e.every, .int .i64 rp.1.e.time, .int .i64 rp.1.e.client, .int .i64 rp.1.at_, .int .i64 rp.1.link, .int .i64 rp.1.played, .slice X5 n5 k5, .slice Y5 m5 d5] 56)).cell? ⟨v5.heap.size, 10, none⟩ = some (.slice X5 n5 k5) := by simp [go_sem]
  have db11 : (v5.alloc (Obj.cells #[.int .i64 rp.1.epoch, .int .i64 rp.1.doing, .int .i64 rp.1.e.kind, .int .i64 rp.1.e.job, .int .i64 rp.1.e.every, .int .i64 rp.1.e.time, .int .i64 rp.1.e.client, .int .i64 rp.1.at_, .int .i64 rp.1.link, .int .i64 rp.1.played, .slice X5 n5 k5, .slice Y5 m5 d5] 56)).cell? ⟨v5.heap.size, 11, none⟩ = some (.slice Y5 m5 d5) := by simp [go_sem]
  change Code.wp _ _ _ _ (v5.alloc (Obj.cells #[.int .i64 rp.1.epoch, .int .i64 rp.1.doing, .int .i64 rp.1.e.kind, .int .i64 rp.1.e.job, .int .i64 rp.1.e.every, .int .i64 rp.1.e.time, .int .i64 rp.1.e.client, .int .i64 rp.1.at_, .int .i64 rp.1.link, .int .i64 rp.1.played, .slice X5 n5 k5, .slice Y5 m5 d5] 56))
  clear hbx
  generalize (v5.alloc (Obj.cells #[.int .i64 rp.1.epoch, .int .i64 rp.1.doing, .int .i64 rp.1.e.kind, .int .i64 rp.1.e.job, .int .i64 rp.1.e.every, .int .i64 rp.1.e.time, .int .i64 rp.1.e.client, .int .i64 rp.1.at_, .int .i64 rp.1.link, .int .i64 rp.1.played, .slice X5 n5 k5, .slice Y5 m5 d5] 56)) = w5 at *
  generalize v5.heap.size = Bdb at *
  go_wp2_with fail
  refine Calls.mono (RLearned_calls ep dg at_ ln pl x A A' n c m d b v _ sA sB) ?_
  rw [← Hrl.out]
  rintro e v6 ⟨X6, n6, k6, Y6, m6, d6, rfl, s6, t6, hb⟩
  replace c0 := cellB hb c0
  replace c1 := cellB hb c1
  replace c2 := cellB hb c2
  replace c3 := cellB hb c3
  replace c4 := cellB hb c4
  replace c5 := cellB hb c5
  replace c6 := cellB hb c6
  replace c7 := cellB hb c7
  replace c8 := cellB hb c8
  replace c9 := cellB hb c9
  replace c10 := cellB hb c10
  replace c11 := cellB hb c11
  replace e0 := cellB hb e0
  replace e1 := cellB hb e1
  replace e2 := cellB hb e2
  replace e3 := cellB hb e3
  replace e4 := cellB hb e4
  replace aa0 := cellB hb aa0
  replace aa1 := cellB hb aa1
  replace aa2 := cellB hb aa2
  replace aa3 := cellB hb aa3
  replace aa4 := cellB hb aa4
  replace aa5 := cellB hb aa5
  replace aa6 := cellB hb aa6
  replace aa7 := cellB hb aa7
  replace aa8 := cellB hb aa8
  replace aa9 := cellB hb aa9
  replace aa10 := cellB hb aa10
  replace aa11 := cellB hb aa11
  replace ab0 := cellB hb ab0
  replace ab1 := cellB hb ab1
  replace ab2 := cellB hb ab2
  replace ab3 := cellB hb ab3
  replace ab4 := cellB hb ab4
  replace ab5 := cellB hb ab5
  replace ab6 := cellB hb ab6
  replace ab7 := cellB hb ab7
  replace ab8 := cellB hb ab8
  replace ab9 := cellB hb ab9
  replace ab10 := cellB hb ab10
  replace ab11 := cellB hb ab11
  replace ac0 := cellB hb ac0
  replace ac1 := cellB hb ac1
  replace ac2 := cellB hb ac2
  replace ac3 := cellB hb ac3
  replace ac4 := cellB hb ac4
  replace ac5 := cellB hb ac5
  replace ac6 := cellB hb ac6
  replace ac7 := cellB hb ac7
  replace ac8 := cellB hb ac8
  replace ac9 := cellB hb ac9
  replace ac10 := cellB hb ac10
  replace ac11 := cellB hb ac11
  replace da0 := cellB hb da0
  replace da1 := cellB hb da1
  replace da2 := cellB hb da2
  replace da3 := cellB hb da3
  replace da4 := cellB hb da4
  replace da5 := cellB hb da5
  replace da6 := cellB hb da6
  replace da7 := cellB hb da7
  replace da8 := cellB hb da8
  replace da9 := cellB hb da9
  replace da10 := cellB hb da10
  replace da11 := cellB hb da11
  replace db0 := cellB hb db0
  replace db1 := cellB hb db1
  replace db2 := cellB hb db2
  replace db3 := cellB hb db3
  replace db4 := cellB hb db4
  replace db5 := cellB hb db5
  replace db6 := cellB hb db6
  replace db7 := cellB hb db7
  replace db8 := cellB hb db8
  replace db9 := cellB hb db9
  replace db10 := cellB hb db10
  replace db11 := cellB hb db11
  replace sA := S.onto sA hb
  replace sB := S.onto sB hb
  replace s1 := S.onto s1 hb
  replace t1 := S.onto t1 hb
  replace s2 := S.onto s2 hb
  replace t2 := S.onto t2 hb
  replace s3 := S.onto s3 hb
  replace t3 := S.onto t3 hb
  replace s4 := S.onto s4 hb
  replace t4 := S.onto t4 hb
  replace s5 := S.onto s5 hb
  replace t5 := S.onto t5 hb
  replace hon := Onto.to hon hb
  clear hb
  go_upto_region 7 with fail
  have hdcw : w.heap.size ≤ v6.heap.size := hon.size
  have hcdc : w.heap.size < v6.heap.size := World.block_lt_of_cell? _ _ c0
  have hedc : w.heap.size + 1 < v6.heap.size := World.block_lt_of_cell? _ _ e0
  have haadc : Baa < v6.heap.size := World.block_lt_of_cell? _ _ aa0
  have habdc : Bab < v6.heap.size := World.block_lt_of_cell? _ _ ab0
  have hacdc : Bac < v6.heap.size := World.block_lt_of_cell? _ _ ac0
  have hdadc : Bda < v6.heap.size := World.block_lt_of_cell? _ _ da0
  have hdbdc : Bdb < v6.heap.size := World.block_lt_of_cell? _ _ db0
  have hbx : Onto v6 (v6.alloc (Obj.cells #[.int .i64 rl.1.epoch, .int .i64 rl.1.doing, .int .i64 rl.1.e.kind, .int .i64 rl.1.e.job, .int .i64 rl.1.e.every, .int .i64 rl.1.e.time, .int .i64 rl.1.e.client, .int .i64 rl.1.at_, .int .i64 rl.1.link, .int .i64 rl.1.played, .slice X6 n6 k6, .slice Y6 m6 d6] 56)) := (Below.refl _ _).alloc (Nat.le_refl _) _
  replace c0 := cellB hbx c0
  replace c1 := cellB hbx c1
  replace c2 := cellB hbx c2
  replace c3 := cellB hbx c3
  replace c4 := cellB hbx c4
  replace c5 := cellB hbx c5
  replace c6 := cellB hbx c6
  replace c7 := cellB hbx c7
  replace c8 := cellB hbx c8
  replace c9 := cellB hbx c9
  replace c10 := cellB hbx c10
  replace c11 := cellB hbx c11
  replace e0 := cellB hbx e0
  replace e1 := cellB hbx e1
  replace e2 := cellB hbx e2
  replace e3 := cellB hbx e3
  replace e4 := cellB hbx e4
  replace aa0 := cellB hbx aa0
  replace aa1 := cellB hbx aa1
  replace aa2 := cellB hbx aa2
  replace aa3 := cellB hbx aa3
  replace aa4 := cellB hbx aa4
  replace aa5 := cellB hbx aa5
  replace aa6 := cellB hbx aa6
  replace aa7 := cellB hbx aa7
  replace aa8 := cellB hbx aa8
  replace aa9 := cellB hbx aa9
  replace aa10 := cellB hbx aa10
  replace aa11 := cellB hbx aa11
  replace ab0 := cellB hbx ab0
  replace ab1 := cellB hbx ab1
  replace ab2 := cellB hbx ab2
  replace ab3 := cellB hbx ab3
  replace ab4 := cellB hbx ab4
  replace ab5 := cellB hbx ab5
  replace ab6 := cellB hbx ab6
  replace ab7 := cellB hbx ab7
  replace ab8 := cellB hbx ab8
  replace ab9 := cellB hbx ab9
  replace ab10 := cellB hbx ab10
  replace ab11 := cellB hbx ab11
  replace ac0 := cellB hbx ac0
  replace ac1 := cellB hbx ac1
  replace ac2 := cellB hbx ac2
  replace ac3 := cellB hbx ac3
  replace ac4 := cellB hbx ac4
  replace ac5 := cellB hbx ac5
  replace ac6 := cellB hbx ac6
  replace ac7 := cellB hbx ac7
  replace ac8 := cellB hbx ac8
  replace ac9 := cellB hbx ac9
  replace ac10 := cellB hbx ac10
  replace ac11 := cellB hbx ac11
  replace da0 := cellB hbx da0
  replace da1 := cellB hbx da1
  replace da2 := cellB hbx da2
  replace da3 := cellB hbx da3
  replace da4 := cellB hbx da4
  replace da5 := cellB hbx da5
  replace da6 := cellB hbx da6
  replace da7 := cellB hbx da7
  replace da8 := cellB hbx da8
  replace da9 := cellB hbx da9
  replace da10 := cellB hbx da10
  replace da11 := cellB hbx da11
  replace db0 := cellB hbx db0
  replace db1 := cellB hbx db1
  replace db2 := cellB hbx db2
  replace db3 := cellB hbx db3
  replace db4 := cellB hbx db4
  replace db5 := cellB hbx db5
  replace db6 := cellB hbx db6
  replace db7 := cellB hbx db7
  replace db8 := cellB hbx db8
  replace db9 := cellB hbx db9
  replace db10 := cellB hbx db10
  replace db11 := cellB hbx db11
  replace sA := S.onto sA hbx
  replace sB := S.onto sB hbx
  replace s1 := S.onto s1 hbx
  replace t1 := S.onto t1 hbx
  replace s2 := S.onto s2 hbx
  replace t2 := S.onto t2 hbx
  replace s3 := S.onto s3 hbx
  replace t3 := S.onto t3 hbx
  replace s4 := S.onto s4 hbx
  replace t4 := S.onto t4 hbx
  replace s5 := S.onto s5 hbx
  replace t5 := S.onto t5 hbx
  replace s6 := S.onto s6 hbx
  replace t6 := S.onto t6 hbx
  replace hon := Onto.to hon hbx
  have dc0 : (v6.alloc (Obj.cells #[.int .i64 rl.1.epoch, .int .i64 rl.1.doing, .int .i64 rl.1.e.kind, .int .i64 rl.1.e.job, .int .i64 rl.1.e.every, .int .i64 rl.1.e.time, .int .i64 rl.1.e.client, .int .i64 rl.1.at_, .int .i64 rl.1.link, .int .i64 rl.1.played, .slice X6 n6 k6, .slice Y6 m6 d6] 56)).cell? ⟨v6.heap.size, 0, none⟩ = some (.int .i64 rl.1.epoch) := by simp [go_sem]
  have dc1 : (v6.alloc (Obj.cells #[.int .i64 rl.1.epoch, .int .i64 rl.1.doing, .int .i64 rl.1.e.kind, .int .i64 rl.1.e.job, .int .i64 rl.1.e.every, .int .i64 rl.1.e.time, .int .i64 rl.1.e.client, .int .i64 rl.1.at_, .int .i64 rl.1.link, .int .i64 rl.1.played, .slice X6 n6 k6, .slice Y6 m6 d6] 56)).cell? ⟨v6.heap.size, 1, none⟩ = some (.int .i64 rl.1.doing) := by simp [go_sem]
  have dc2 : (v6.alloc (Obj.cells #[.int .i64 rl.1.epoch, .int .i64 rl.1.doing, .int .i64 rl.1.e.kind, .int .i64 rl.1.e.job, .int .i64 rl.1.e.every, .int .i64 rl.1.e.time, .int .i64 rl.1.e.client, .int .i64 rl.1.at_, .int .i64 rl.1.link, .int .i64 rl.1.played, .slice X6 n6 k6, .slice Y6 m6 d6] 56)).cell? ⟨v6.heap.size, 2, none⟩ = some (.int .i64 rl.1.e.kind) := by simp [go_sem]
  have dc3 : (v6.alloc (Obj.cells #[.int .i64 rl.1.epoch, .int .i64 rl.1.doing, .int .i64 rl.1.e.kind, .int .i64 rl.1.e.job, .int .i64 rl.1.e.every, .int .i64 rl.1.e.time, .int .i64 rl.1.e.client, .int .i64 rl.1.at_, .int .i64 rl.1.link, .int .i64 rl.1.played, .slice X6 n6 k6, .slice Y6 m6 d6] 56)).cell? ⟨v6.heap.size, 3, none⟩ = some (.int .i64 rl.1.e.job) := by simp [go_sem]
  have dc4 : (v6.alloc (Obj.cells #[.int .i64 rl.1.epoch, .int .i64 rl.1.doing, .int .i64 rl.1.e.kind, .int .i64 rl.1.e.job, .int .i64 rl.1.e.every, .int .i64 rl.1.e.time, .int .i64 rl.1.e.client, .int .i64 rl.1.at_, .int .i64 rl.1.link, .int .i64 rl.1.played, .slice X6 n6 k6, .slice Y6 m6 d6] 56)).cell? ⟨v6.heap.size, 4, none⟩ = some (.int .i64 rl.1.e.every) := by simp [go_sem]
  have dc5 : (v6.alloc (Obj.cells #[.int .i64 rl.1.epoch, .int .i64 rl.1.doing, .int .i64 rl.1.e.kind, .int .i64 rl.1.e.job, .int .i64 rl.1.e.every, .int .i64 rl.1.e.time, .int .i64 rl.1.e.client, .int .i64 rl.1.at_, .int .i64 rl.1.link, .int .i64 rl.1.played, .slice X6 n6 k6, .slice Y6 m6 d6] 56)).cell? ⟨v6.heap.size, 5, none⟩ = some (.int .i64 rl.1.e.time) := by simp [go_sem]
  have dc6 : (v6.alloc (Obj.cells #[.int .i64 rl.1.epoch, .int .i64 rl.1.doing, .int .i64 rl.1.e.kind, .int .i64 rl.1.e.job, .int .i64 rl.1.e.every, .int .i64 rl.1.e.time, .int .i64 rl.1.e.client, .int .i64 rl.1.at_, .int .i64 rl.1.link, .int .i64 rl.1.played, .slice X6 n6 k6, .slice Y6 m6 d6] 56)).cell? ⟨v6.heap.size, 6, none⟩ = some (.int .i64 rl.1.e.client) := by simp [go_sem]
  have dc7 : (v6.alloc (Obj.cells #[.int .i64 rl.1.epoch, .int .i64 rl.1.doing, .int .i64 rl.1.e.kind, .int .i64 rl.1.e.job, .int .i64 rl.1.e.every, .int .i64 rl.1.e.time, .int .i64 rl.1.e.client, .int .i64 rl.1.at_, .int .i64 rl.1.link, .int .i64 rl.1.played, .slice X6 n6 k6, .slice Y6 m6 d6] 56)).cell? ⟨v6.heap.size, 7, none⟩ = some (.int .i64 rl.1.at_) := by simp [go_sem]
  have dc8 : (v6.alloc (Obj.cells #[.int .i64 rl.1.epoch, .int .i64 rl.1.doing, .int .i64 rl.1.e.kind, .int .i64 rl.1.e.job, .int .i64 rl.1.e.every, .int .i64 rl.1.e.time, .int .i64 rl.1.e.client, .int .i64 rl.1.at_, .int .i64 rl.1.link, .int .i64 rl.1.played, .slice X6 n6 k6, .slice Y6 m6 d6] 56)).cell? ⟨v6.heap.size, 8, none⟩ = some (.int .i64 rl.1.link) := by simp [go_sem]
  have dc9 : (v6.alloc (Obj.cells #[.int .i64 rl.1.epoch, .int .i64 rl.1.doing, .int .i64 rl.1.e.kind, .int .i64 rl.1.e.job, .int .i64 rl.1.e.every, .int .i64 rl.1.e.time, .int .i64 rl.1.e.client, .int .i64 rl.1.at_, .int .i64 rl.1.link, .int .i64 rl.1.played, .slice X6 n6 k6, .slice Y6 m6 d6] 56)).cell? ⟨v6.heap.size, 9, none⟩ = some (.int .i64 rl.1.played) := by simp [go_sem]
  have dc10 : (v6.alloc (Obj.cells #[.int .i64 rl.1.epoch, .int .i64 rl.1.doing, .int .i64 rl.1.e.kind, .int .i64 rl.1.e.job, .int .i64 rl.1.e.every, .int .i64 rl.1.e.time, .int .i64 rl.1.e.client, .int .i64 rl.1.at_, .int .i64 rl.1.link, .int .i64 rl.1.played, .slice X6 n6 k6, .slice Y6 m6 d6] 56)).cell? ⟨v6.heap.size, 10, none⟩ = some (.slice X6 n6 k6) := by simp [go_sem]
  have dc11 : (v6.alloc (Obj.cells #[.int .i64 rl.1.epoch, .int .i64 rl.1.doing, .int .i64 rl.1.e.kind, .int .i64 rl.1.e.job, .int .i64 rl.1.e.every, .int .i64 rl.1.e.time, .int .i64 rl.1.e.client, .int .i64 rl.1.at_, .int .i64 rl.1.link, .int .i64 rl.1.played, .slice X6 n6 k6, .slice Y6 m6 d6] 56)).cell? ⟨v6.heap.size, 11, none⟩ = some (.slice Y6 m6 d6) := by simp [go_sem]
  change Code.wp _ _ _ _ (v6.alloc (Obj.cells #[.int .i64 rl.1.epoch, .int .i64 rl.1.doing, .int .i64 rl.1.e.kind, .int .i64 rl.1.e.job, .int .i64 rl.1.e.every, .int .i64 rl.1.e.time, .int .i64 rl.1.e.client, .int .i64 rl.1.at_, .int .i64 rl.1.link, .int .i64 rl.1.played, .slice X6 n6 k6, .slice Y6 m6 d6] 56))
  clear hbx
  generalize (v6.alloc (Obj.cells #[.int .i64 rl.1.epoch, .int .i64 rl.1.doing, .int .i64 rl.1.e.kind, .int .i64 rl.1.e.job, .int .i64 rl.1.e.every, .int .i64 rl.1.e.time, .int .i64 rl.1.e.client, .int .i64 rl.1.at_, .int .i64 rl.1.link, .int .i64 rl.1.played, .slice X6 n6 k6, .slice Y6 m6 d6] 56)) = w6 at *
  generalize v6.heap.size = Bdc at *
  clear c0 c1 c2 c3 c4 c5 c6 c7 c8 c9 c10 c11
  clear e0 e1 e2 e3 e4
  clear sA sB
  go_wp2_with fail
  refine Calls.mono (heard_calls _) ?_
  rintro e w8 ⟨rfl, hb⟩
  replace aa0 := cellB hb aa0
  replace aa1 := cellB hb aa1
  replace aa2 := cellB hb aa2
  replace aa3 := cellB hb aa3
  replace aa4 := cellB hb aa4
  replace aa5 := cellB hb aa5
  replace aa6 := cellB hb aa6
  replace aa7 := cellB hb aa7
  replace aa8 := cellB hb aa8
  replace aa9 := cellB hb aa9
  replace aa10 := cellB hb aa10
  replace aa11 := cellB hb aa11
  replace ab0 := cellB hb ab0
  replace ab1 := cellB hb ab1
  replace ab2 := cellB hb ab2
  replace ab3 := cellB hb ab3
  replace ab4 := cellB hb ab4
  replace ab5 := cellB hb ab5
  replace ab6 := cellB hb ab6
  replace ab7 := cellB hb ab7
  replace ab8 := cellB hb ab8
  replace ab9 := cellB hb ab9
  replace ab10 := cellB hb ab10
  replace ab11 := cellB hb ab11
  replace ac0 := cellB hb ac0
  replace ac1 := cellB hb ac1
  replace ac2 := cellB hb ac2
  replace ac3 := cellB hb ac3
  replace ac4 := cellB hb ac4
  replace ac5 := cellB hb ac5
  replace ac6 := cellB hb ac6
  replace ac7 := cellB hb ac7
  replace ac8 := cellB hb ac8
  replace ac9 := cellB hb ac9
  replace ac10 := cellB hb ac10
  replace ac11 := cellB hb ac11
  replace da0 := cellB hb da0
  replace da1 := cellB hb da1
  replace da2 := cellB hb da2
  replace da3 := cellB hb da3
  replace da4 := cellB hb da4
  replace da5 := cellB hb da5
  replace da6 := cellB hb da6
  replace da7 := cellB hb da7
  replace da8 := cellB hb da8
  replace da9 := cellB hb da9
  replace da10 := cellB hb da10
  replace da11 := cellB hb da11
  replace db0 := cellB hb db0
  replace db1 := cellB hb db1
  replace db2 := cellB hb db2
  replace db3 := cellB hb db3
  replace db4 := cellB hb db4
  replace db5 := cellB hb db5
  replace db6 := cellB hb db6
  replace db7 := cellB hb db7
  replace db8 := cellB hb db8
  replace db9 := cellB hb db9
  replace db10 := cellB hb db10
  replace db11 := cellB hb db11
  replace dc0 := cellB hb dc0
  replace dc1 := cellB hb dc1
  replace dc2 := cellB hb dc2
  replace dc3 := cellB hb dc3
  replace dc4 := cellB hb dc4
  replace dc5 := cellB hb dc5
  replace dc6 := cellB hb dc6
  replace dc7 := cellB hb dc7
  replace dc8 := cellB hb dc8
  replace dc9 := cellB hb dc9
  replace dc10 := cellB hb dc10
  replace dc11 := cellB hb dc11
  replace s1 := S.onto s1 hb
  replace t1 := S.onto t1 hb
  replace s2 := S.onto s2 hb
  replace t2 := S.onto t2 hb
  replace s3 := S.onto s3 hb
  replace t3 := S.onto t3 hb
  replace s4 := S.onto s4 hb
  replace t4 := S.onto t4 hb
  replace s5 := S.onto s5 hb
  replace t5 := S.onto t5 hb
  replace s6 := S.onto s6 hb
  replace t6 := S.onto t6 hb
  replace hon := Onto.to hon hb
  clear hb
  go_wp2_with fail
  refine Calls.mono (RClSame_calls rh.1.epoch rh.1.doing rh.1.at_ rh.1.link rh.1.played rh.1.epoch rh.1.doing rh.1.at_ rh.1.link rh.1.played rh.1.e rh.1.e X1 Y1 X4 Y4 n1 k1 m1 d1 n4 k4 m4 d4 rh.1.b rh.1.b _ s1 t1 s4 t4 (by have h1 := s1.len; have h2 := Frh.out.1; simp at h1; omega) (by have h1 := t1.len; have h2 := Frh.out.2; simp at h1; omega)) ?_
  rw [decide_eq_true rfl]
  rintro e z1 ⟨rfl, hb⟩
  clear aa0 aa1 aa2 aa3 aa4 aa5 aa6 aa7 aa8 aa9 aa10 aa11
  clear da0 da1 da2 da3 da4 da5 da6 da7 da8 da9 da10 da11
  clear s1 t1 s4 t4
  replace ab0 := cellB hb ab0
  replace ab1 := cellB hb ab1
  replace ab2 := cellB hb ab2
  replace ab3 := cellB hb ab3
  replace ab4 := cellB hb ab4
  replace ab5 := cellB hb ab5
  replace ab6 := cellB hb ab6
  replace ab7 := cellB hb ab7
  replace ab8 := cellB hb ab8
  replace ab9 := cellB hb ab9
  replace ab10 := cellB hb ab10
  replace ab11 := cellB hb ab11
  replace ac0 := cellB hb ac0
  replace ac1 := cellB hb ac1
  replace ac2 := cellB hb ac2
  replace ac3 := cellB hb ac3
  replace ac4 := cellB hb ac4
  replace ac5 := cellB hb ac5
  replace ac6 := cellB hb ac6
  replace ac7 := cellB hb ac7
  replace ac8 := cellB hb ac8
  replace ac9 := cellB hb ac9
  replace ac10 := cellB hb ac10
  replace ac11 := cellB hb ac11
  replace db0 := cellB hb db0
  replace db1 := cellB hb db1
  replace db2 := cellB hb db2
  replace db3 := cellB hb db3
  replace db4 := cellB hb db4
  replace db5 := cellB hb db5
  replace db6 := cellB hb db6
  replace db7 := cellB hb db7
  replace db8 := cellB hb db8
  replace db9 := cellB hb db9
  replace db10 := cellB hb db10
  replace db11 := cellB hb db11
  replace dc0 := cellB hb dc0
  replace dc1 := cellB hb dc1
  replace dc2 := cellB hb dc2
  replace dc3 := cellB hb dc3
  replace dc4 := cellB hb dc4
  replace dc5 := cellB hb dc5
  replace dc6 := cellB hb dc6
  replace dc7 := cellB hb dc7
  replace dc8 := cellB hb dc8
  replace dc9 := cellB hb dc9
  replace dc10 := cellB hb dc10
  replace dc11 := cellB hb dc11
  replace s2 := S.onto s2 hb
  replace t2 := S.onto t2 hb
  replace s3 := S.onto s3 hb
  replace t3 := S.onto t3 hb
  replace s5 := S.onto s5 hb
  replace t5 := S.onto t5 hb
  replace s6 := S.onto s6 hb
  replace t6 := S.onto t6 hb
  replace hon := Onto.to hon hb
  clear hb
  go_wp2_with fail
  refine Calls.mono (RClSame_calls rp.1.epoch rp.1.doing rp.1.at_ rp.1.link rp.1.played rp.1.epoch rp.1.doing rp.1.at_ rp.1.link rp.1.played rp.1.e rp.1.e X2 Y2 X5 Y5 n2 k2 m2 d2 n5 k5 m5 d5 rp.1.b rp.1.b _ s2 t2 s5 t5 (by have h1 := s2.len; have h2 := Frp.out.1; simp at h1; omega) (by have h1 := t2.len; have h2 := Frp.out.2; simp at h1; omega)) ?_
  rw [decide_eq_true rfl]
  rintro e z2 ⟨rfl, hb⟩
  clear ab0 ab1 ab2 ab3 ab4 ab5 ab6 ab7 ab8 ab9 ab10 ab11
  clear db0 db1 db2 db3 db4 db5 db6 db7 db8 db9 db10 db11
  clear s2 t2 s5 t5
  replace ac0 := cellB hb ac0
  replace ac1 := cellB hb ac1
  replace ac2 := cellB hb ac2
  replace ac3 := cellB hb ac3
  replace ac4 := cellB hb ac4
  replace ac5 := cellB hb ac5
  replace ac6 := cellB hb ac6
  replace ac7 := cellB hb ac7
  replace ac8 := cellB hb ac8
  replace ac9 := cellB hb ac9
  replace ac10 := cellB hb ac10
  replace ac11 := cellB hb ac11
  replace dc0 := cellB hb dc0
  replace dc1 := cellB hb dc1
  replace dc2 := cellB hb dc2
  replace dc3 := cellB hb dc3
  replace dc4 := cellB hb dc4
  replace dc5 := cellB hb dc5
  replace dc6 := cellB hb dc6
  replace dc7 := cellB hb dc7
  replace dc8 := cellB hb dc8
  replace dc9 := cellB hb dc9
  replace dc10 := cellB hb dc10
  replace dc11 := cellB hb dc11
  replace s3 := S.onto s3 hb
  replace t3 := S.onto t3 hb
  replace s6 := S.onto s6 hb
  replace t6 := S.onto t6 hb
  replace hon := Onto.to hon hb
  clear hb
  go_wp2_with fail
  refine Calls.mono (RClSame_calls rl.1.epoch rl.1.doing rl.1.at_ rl.1.link rl.1.played rl.1.epoch rl.1.doing rl.1.at_ rl.1.link rl.1.played rl.1.e rl.1.e X3 Y3 X6 Y6 n3 k3 m3 d3 n6 k6 m6 d6 rl.1.b rl.1.b _ s3 t3 s6 t6 (by have h1 := s3.len; have h2 := Frl.out.1; simp at h1; omega) (by have h1 := t3.len; have h2 := Frl.out.2; simp at h1; omega)) ?_
  rw [decide_eq_true rfl]
  rintro e z3 ⟨rfl, hb⟩
  clear ac0 ac1 ac2 ac3 ac4 ac5 ac6 ac7 ac8 ac9 ac10 ac11
  clear dc0 dc1 dc2 dc3 dc4 dc5 dc6 dc7 dc8 dc9 dc10 dc11
  clear s3 t3 s6 t6
  replace hon := Onto.to hon hb
  clear hb
  go_wp2_with fail
  go_ret
  exact ⟨rfl, hon⟩

theorem ClientHears_walk (c : Cli) (A B : Option Addr) (n k m d : Nat) (y : Entry) (v : Int) (w : World) (h : S w 3 A n (c.b.jobs.map encJ)) (h' : S w 3 B m (c.b.rung.map encR)) (_ : n ≤ k) (_ : k ≤ maxLen) (_ : m ≤ d) (_ : d ≤ maxLen) :
    Calls Try.prog 9 #[.agg #[.int .i64 c.epoch, .int .i64 c.doing, .int .i64 c.e.kind, .int .i64 c.e.job, .int .i64 c.e.every, .int .i64 c.e.time, .int .i64 c.e.client, .int .i64 c.at_, .int .i64 c.link, .int .i64 c.played, .slice A n k, .slice B m d], .agg #[.int .i64 y.kind, .int .i64 y.job, .int .i64 y.every, .int .i64 y.time, .int .i64 y.client], .int .i64 v] w fun e w' => e = .returned (.bool true) ∧ Below w.heap.size w w' := by
  obtain ⟨ep, dg, x, at_, ln, pl, b⟩ := c
  exact ClientHears_lit ep dg at_ ln pl x y A B n k m d b v w h h'
end Go.Proofs.Ytbipmoehcmighaa
