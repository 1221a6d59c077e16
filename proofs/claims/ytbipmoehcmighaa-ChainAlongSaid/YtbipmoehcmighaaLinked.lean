/- The closed fact 'linked': it holds. -/
import Derived.Test.YtbipmoehcmighaaLink
import Derived.Test.YtbipmoehcmighaaReadC
import Derived.Test.YtbipmoehcmighaaNew
import Derived.Test.YtbipmoehcmighaaTail
namespace Go.Proofs.Ytbipmoehcmighaa
set_option linter.unusedSimpArgs false
set_option linter.unusedVariables false
open Go.RowKit

theorem write_calls (k : Int) (x : Entry) (w : World) :
    Calls Try.prog 59 #[.int .i64 k, entV x] w fun e w' => e = .returned (recV ⟨1, k, 0, x⟩) ∧ Onto w w' := by
  go_enter Try.func59, Try.ntmps59
  go_wp2
  refine bodyPost_ret (v := recV ⟨1, k, 0, x⟩) (by simp [results, Try.results59, go_sem]) rfl ⟨rfl, ?_⟩
  repeat (first | exact Below.refl _ _ | refine Below.alloc ?_ (by simp <;> omega) _ | refine Below.setCell ?_ (by simp) _)

def lkE : Entry := ⟨1, 2, 5, 10, 0⟩
def lkU : Uni := ⟨1, newU.cells.set 0 lkE⟩
def lkL : List Uni := [lkU, newU, newU]
theorem lk1 : linkC lkL 1 0 lkE 1 = (⟨1, 0, 0, lkE⟩, lkE, 0) := by kernel_rfl
theorem lk2 : linkC lkL 0 0 zeroE 1 = (zeroR, lkE, 0) := by kernel_rfl
theorem lk3 : linkC lkL 2 0 lkE 1 = (zeroR, zeroE, 7) := by kernel_rfl
theorem lk4 : linkC lkL 0 1 zeroE 2 = (zeroR, zeroE, 8) := by kernel_rfl
theorem lk5 : readC lkL 0 = (zeroE, 7) := by kernel_rfl
theorem lk6 : readC [lkU, lkU, lkU] 0 = (lkE, 0) := by kernel_rfl
theorem lk7 : checkC lkL = 0 := by kernel_rfl
theorem lk8 : checkC [newU, lkU, newU] = 4 := by kernel_rfl
theorem lk_next : nextU newU ⟨1, 0, 0, lkE⟩ = (lkU, 0) := by kernel_rfl

set_option maxHeartbeats 4000000 in
set_option maxRecDepth 100000 in
theorem linked_calls (w : World) : Calls Try.prog 13 #[] w fun e w' => e = .returned (.bool true) ∧ Onto w w' := by
  go_enter Try.func13, Try.ntmps13
  go_wp2_with fail
  refine Calls.mono (UNew_calls _) ?_
  rintro e w1 ⟨A0, c0, rfl, hs0, hb0, hc0, hcm0⟩
  go_wp2_with fail
  refine Calls.mono (put_calls _ _ _ _) ?_
  rintro e w2 ⟨rfl, hb1⟩
  have h02 := hb0.to hb1
  have hs1 := hs0.onto hb1
  go_wp2_with fail
  refine Calls.mono (write_calls 0 lkE _) ?_
  rintro e w3 ⟨rfl, hb2⟩
  have h03 := h02.to hb2
  have hs2 := hs1.onto hb2
  clear hb0 hb1 hb2 hs0 hs1 h02
  go_wp2_with fail
  refine Calls.mono (UNext_calls 1 A0 60 c0 newU.cells 1 0 0 lkE _ hs2) ?_
  rw [show (⟨1, newU.cells⟩ : Uni) = newU from rfl, lk_next]
  rintro e w4 ⟨A1, n1, c1, rfl, hs3, hb3, hc1, hcm1, _⟩
  have h04 := h03.to hb3
  have hn1 : 60 = n1 := by have := hs3.len; simpa [lkU, newU] using this
  subst hn1
  have hb4 : Onto w4 (w4.alloc (Obj.cells #[.int .i64 1, .slice A1 60 c1] 34)) := (Below.refl _ _).alloc (Nat.le_refl _) _
  clear hb3 hs2 h03
  go_upto_region 2 with fail
  have q0 : (w4.alloc (Obj.cells #[.int .i64 1, .slice A1 60 c1] 34)).cell? ⟨w4.heap.size, 0, none⟩ = some (.int .i64 1) := by simp [go_sem]
  have q1 : (w4.alloc (Obj.cells #[.int .i64 1, .slice A1 60 c1] 34)).cell? ⟨w4.heap.size, 1, none⟩ = some (.slice A1 60 c1) := by simp [go_sem]
  have h05 := h04.to hb4; have hs4 := hs3.onto hb4
  change Code.wp _ _ _ _ (w4.alloc (Obj.cells #[.int .i64 1, .slice A1 60 c1] 34))
  generalize w4.alloc (Obj.cells #[.int .i64 1, .slice A1 60 c1] 34) = w5 at q0 q1 h05 hs4 ⊢
  clear hb4 hs3 h04
  go_region_held3 (fun w' => w'.cell? ⟨w4.heap.size, 0, none⟩ = some (.int .i64 1) ∧ w'.cell? ⟨w4.heap.size, 1, none⟩ = some (.slice A1 60 c1))
    (first | exact ⟨q0, q1⟩ | exact ⟨cellB hbN q0, cellB hbN q1⟩ | exact ⟨cellB hbM (cellB hbN q0), cellB hbM (cellB hbN q1)⟩ | go_keep)
    (first
      | (go_at_call 32; refine Calls.mono (UNew_calls _) ?_; first | (have _t := hbN; rintro e w7 ⟨A3, c3, rfl, hsM, hbM, hc3, hcm3⟩) | (rintro e w6 ⟨A2, c2, rfl, hsN, hbN, hc2, hcm2⟩)))
  have hb7 : Onto w5 w7 := ((Onto.rfl' w5).draw.to hbN).to hbM
  have h07 := h05.to hb7
  have sa := hs4.onto hb7; have sb := hsN.onto hbM; have sc := hsM
  have a0 := cellB hb7 q0; have a1 := cellB hb7 q1
  clear h05 hs4 hsN hbN hsM hbM _t hb7 q0 q1
  obtain ⟨L, hL⟩ : ∃ L, L = [(⟨1, A1, 60, c1, lkU.cells⟩ : UV), ⟨1, A2, 60, c2, newU.cells⟩, ⟨1, A3, 60, c3, newU.cells⟩] := ⟨_, rfl⟩
  have hLU : unis L = lkL := by rw [hL]; rfl
  have hUs : Us (w7.alloc (Obj.cells #[.int .i64 1, .slice A1 60 c1, .int .i64 1, .slice A2 60 c2, .int .i64 1, .slice A3 60 c3] 34)) (some ⟨w7.heap.size, 0, none⟩) 3 L := by
    refine ⟨?_, ?_, ?_⟩
    · rw [hL]
      exact Sl.block (k := 2) ([(⟨1, A1, 60, c1, lkU.cells⟩ : UV), ⟨1, A2, 60, c2, newU.cells⟩, ⟨1, A3, 60, c3, newU.cells⟩].map encU) (hNew rfl) (by simp [encU]) (by rfl)
    · rw [hL]; intro v hv; simp at hv; rcases hv with rfl | rfl | rfl
      · exact sa.new _
      · exact sb.new _
      · exact sc.new _
    · rw [hL]; intro v hv; simp at hv; rcases hv with rfl | rfl | rfl
      · exact ⟨hc1, hcm1⟩
      · exact ⟨hc2, hcm2⟩
      · exact ⟨hc3, hcm3⟩
  obtain ⟨b1, off1, u1, hA1, hz1, hu1, l0, l1, _, _⟩ := hUs.atU (i := 1) (by omega)
  have hu1' : u1 = ⟨1, A2, 60, c2, newU.cells⟩ := by rw [hL] at hu1; simpa using hu1.symm
  injection hA1 with hA1
  injection hA1 with e1 e2 _
  subst e1; subst e2; subst hu1'
  simp only [Nat.zero_add, Nat.one_mul, Nat.reduceAdd] at l0 l1
  have hb8 : Onto w7 (w7.alloc (Obj.cells #[.int .i64 1, .slice A1 60 c1, .int .i64 1, .slice A2 60 c2, .int .i64 1, .slice A3 60 c3] 34)) := (Below.refl _ _).alloc (Nat.le_refl _) _
  have h08 := h07.to hb8
  have sa' := sa.onto hb8
  have a0' := cellB hb8 a0; have a1' := cellB hb8 a1
  clear a0 a1 h07 hb8 sa sb sc hu1 hz1
  generalize w7.alloc (Obj.cells #[.int .i64 1, .slice A1 60 c1, .int .i64 1, .slice A2 60 c2, .int .i64 1, .slice A3 60 c3] 34) = w8 at *
  have HL := Lib.hid hLU; have HLL := Lib.hid hL
  clear hLU hL
  go_wp2_with fail
  refine Calls.mono (put_calls _ _ _ _) ?_
  rintro e v8 ⟨rfl, pb8⟩
  have hUs8 := Us.onto hUs pb8
  go_wp2_with fail
  refine Calls.mono (Link_calls _ 3 3 L 1 0 lkE 1 _ hUs8) ?_
  rw [HL.out, lk1]
  rintro e v8' ⟨rfl, pb8'⟩
  have pc8 := Onto.to pb8 pb8'
  go_upto_region 4 with fail
  have pd8 : Onto v8' ((v8'.alloc (Obj.cells #[.int .i64 1, .int .i64 0, .int .i64 0, .int .i64 1, .int .i64 2, .int .i64 5, .int .i64 10, .int .i64 0] 26)).alloc (Obj.cells #[.int .i64 1, .int .i64 2, .int .i64 5, .int .i64 10, .int .i64 0] 24)) := ((Below.refl _ _).alloc (Nat.le_refl _) _).alloc (by simp) _
  have pe8 := Onto.to pc8 pd8
  have r0 : ((v8'.alloc (Obj.cells #[.int .i64 1, .int .i64 0, .int .i64 0, .int .i64 1, .int .i64 2, .int .i64 5, .int .i64 10, .int .i64 0] 26)).alloc (Obj.cells #[.int .i64 1, .int .i64 2, .int .i64 5, .int .i64 10, .int .i64 0] 24)).cell? ⟨v8'.heap.size, 0, none⟩ = some (.int .i64 1) := by simp [go_sem]
  have r1 : ((v8'.alloc (Obj.cells #[.int .i64 1, .int .i64 0, .int .i64 0, .int .i64 1, .int .i64 2, .int .i64 5, .int .i64 10, .int .i64 0] 26)).alloc (Obj.cells #[.int .i64 1, .int .i64 2, .int .i64 5, .int .i64 10, .int .i64 0] 24)).cell? ⟨v8'.heap.size, 1, none⟩ = some (.int .i64 0) := by simp [go_sem]
  have r2 : ((v8'.alloc (Obj.cells #[.int .i64 1, .int .i64 0, .int .i64 0, .int .i64 1, .int .i64 2, .int .i64 5, .int .i64 10, .int .i64 0] 26)).alloc (Obj.cells #[.int .i64 1, .int .i64 2, .int .i64 5, .int .i64 10, .int .i64 0] 24)).cell? ⟨v8'.heap.size, 2, none⟩ = some (.int .i64 0) := by simp [go_sem]
  have r3 : ((v8'.alloc (Obj.cells #[.int .i64 1, .int .i64 0, .int .i64 0, .int .i64 1, .int .i64 2, .int .i64 5, .int .i64 10, .int .i64 0] 26)).alloc (Obj.cells #[.int .i64 1, .int .i64 2, .int .i64 5, .int .i64 10, .int .i64 0] 24)).cell? ⟨v8'.heap.size, 3, none⟩ = some (.int .i64 1) := by simp [go_sem]
  have r4 : ((v8'.alloc (Obj.cells #[.int .i64 1, .int .i64 0, .int .i64 0, .int .i64 1, .int .i64 2, .int .i64 5, .int .i64 10, .int .i64 0] 26)).alloc (Obj.cells #[.int .i64 1, .int .i64 2, .int .i64 5, .int .i64 10, .int .i64 0] 24)).cell? ⟨v8'.heap.size, 4, none⟩ = some (.int .i64 2) := by simp [go_sem]
  have r5 : ((v8'.alloc (Obj.cells #[.int .i64 1, .int .i64 0, .int .i64 0, .int .i64 1, .int .i64 2, .int .i64 5, .int .i64 10, .int .i64 0] 26)).alloc (Obj.cells #[.int .i64 1, .int .i64 2, .int .i64 5, .int .i64 10, .int .i64 0] 24)).cell? ⟨v8'.heap.size, 5, none⟩ = some (.int .i64 5) := by simp [go_sem]
  have r6 : ((v8'.alloc (Obj.cells #[.int .i64 1, .int .i64 0, .int .i64 0, .int .i64 1, .int .i64 2, .int .i64 5, .int .i64 10, .int .i64 0] 26)).alloc (Obj.cells #[.int .i64 1, .int .i64 2, .int .i64 5, .int .i64 10, .int .i64 0] 24)).cell? ⟨v8'.heap.size, 6, none⟩ = some (.int .i64 10) := by simp [go_sem]
  have r7 : ((v8'.alloc (Obj.cells #[.int .i64 1, .int .i64 0, .int .i64 0, .int .i64 1, .int .i64 2, .int .i64 5, .int .i64 10, .int .i64 0] 26)).alloc (Obj.cells #[.int .i64 1, .int .i64 2, .int .i64 5, .int .i64 10, .int .i64 0] 24)).cell? ⟨v8'.heap.size, 7, none⟩ = some (.int .i64 0) := by simp [go_sem]
  have x0 : ((v8'.alloc (Obj.cells #[.int .i64 1, .int .i64 0, .int .i64 0, .int .i64 1, .int .i64 2, .int .i64 5, .int .i64 10, .int .i64 0] 26)).alloc (Obj.cells #[.int .i64 1, .int .i64 2, .int .i64 5, .int .i64 10, .int .i64 0] 24)).cell? ⟨v8'.heap.size + 1, 0, none⟩ = some (.int .i64 1) := by simp [go_sem]
  have x1 : ((v8'.alloc (Obj.cells #[.int .i64 1, .int .i64 0, .int .i64 0, .int .i64 1, .int .i64 2, .int .i64 5, .int .i64 10, .int .i64 0] 26)).alloc (Obj.cells #[.int .i64 1, .int .i64 2, .int .i64 5, .int .i64 10, .int .i64 0] 24)).cell? ⟨v8'.heap.size + 1, 1, none⟩ = some (.int .i64 2) := by simp [go_sem]
  have x2 : ((v8'.alloc (Obj.cells #[.int .i64 1, .int .i64 0, .int .i64 0, .int .i64 1, .int .i64 2, .int .i64 5, .int .i64 10, .int .i64 0] 26)).alloc (Obj.cells #[.int .i64 1, .int .i64 2, .int .i64 5, .int .i64 10, .int .i64 0] 24)).cell? ⟨v8'.heap.size + 1, 2, none⟩ = some (.int .i64 5) := by simp [go_sem]
  have x3 : ((v8'.alloc (Obj.cells #[.int .i64 1, .int .i64 0, .int .i64 0, .int .i64 1, .int .i64 2, .int .i64 5, .int .i64 10, .int .i64 0] 26)).alloc (Obj.cells #[.int .i64 1, .int .i64 2, .int .i64 5, .int .i64 10, .int .i64 0] 24)).cell? ⟨v8'.heap.size + 1, 3, none⟩ = some (.int .i64 10) := by simp [go_sem]
  have x4 : ((v8'.alloc (Obj.cells #[.int .i64 1, .int .i64 0, .int .i64 0, .int .i64 1, .int .i64 2, .int .i64 5, .int .i64 10, .int .i64 0] 26)).alloc (Obj.cells #[.int .i64 1, .int .i64 2, .int .i64 5, .int .i64 10, .int .i64 0] 24)).cell? ⟨v8'.heap.size + 1, 4, none⟩ = some (.int .i64 0) := by simp [go_sem]
  have a0'n := cellB pe8 a0'; have a1'n := cellB pe8 a1'; have l0n := cellB pe8 l0; have l1n := cellB pe8 l1
  have hUsn := hUs.onto pe8; have h09 := Onto.to h08 pe8; have san := sa'.onto pe8
  clear a0' a1' l0 l1 hUs h08 sa'
  have a0' := a0'n; have a1' := a1'n; have l0 := l0n; have l1 := l1n; have hUs := hUsn; have sa' := san
  clear a0'n a1'n l0n l1n hUsn san pb8 pb8' pc8 pd8 pe8 hUs8
  change Code.wp _ _ _ _ ((v8'.alloc (Obj.cells #[.int .i64 1, .int .i64 0, .int .i64 0, .int .i64 1, .int .i64 2, .int .i64 5, .int .i64 10, .int .i64 0] 26)).alloc (Obj.cells #[.int .i64 1, .int .i64 2, .int .i64 5, .int .i64 10, .int .i64 0] 24))
  generalize ((v8'.alloc (Obj.cells #[.int .i64 1, .int .i64 0, .int .i64 0, .int .i64 1, .int .i64 2, .int .i64 5, .int .i64 10, .int .i64 0] 26)).alloc (Obj.cells #[.int .i64 1, .int .i64 2, .int .i64 5, .int .i64 10, .int .i64 0] 24)) = w9 at a0' a1' l0 l1 r0 r1 r2 r3 r4 r5 r6 r7 x0 x1 x2 x3 x4 hUs h09 sa' ⊢
  generalize v8'.heap.size = s8 at *
  have pb9 : Onto w9 w9 := Onto.rfl' _
  have hUs9 := hUs
  go_wp2_with fail
  refine Calls.mono (Link_calls _ 3 3 L 0 0 zeroE 1 _ hUs9) ?_
  rw [HL.out, lk2]
  rintro e v9' ⟨rfl, pb9'⟩
  have pc9 := Onto.to pb9 pb9'
  go_upto_region 5 with fail
  have pd9 : Onto v9' ((v9'.alloc (Obj.cells #[.int .i64 0, .int .i64 0, .int .i64 0, .int .i64 0, .int .i64 0, .int .i64 0, .int .i64 0, .int .i64 0] 26)).alloc (Obj.cells #[.int .i64 1, .int .i64 2, .int .i64 5, .int .i64 10, .int .i64 0] 24)) := ((Below.refl _ _).alloc (Nat.le_refl _) _).alloc (by simp) _
  have pe9 := Onto.to pc9 pd9
  have y0 : ((v9'.alloc (Obj.cells #[.int .i64 0, .int .i64 0, .int .i64 0, .int .i64 0, .int .i64 0, .int .i64 0, .int .i64 0, .int .i64 0] 26)).alloc (Obj.cells #[.int .i64 1, .int .i64 2, .int .i64 5, .int .i64 10, .int .i64 0] 24)).cell? ⟨v9'.heap.size + 1, 0, none⟩ = some (.int .i64 1) := by simp [go_sem]
  have y1 : ((v9'.alloc (Obj.cells #[.int .i64 0, .int .i64 0, .int .i64 0, .int .i64 0, .int .i64 0, .int .i64 0, .int .i64 0, .int .i64 0] 26)).alloc (Obj.cells #[.int .i64 1, .int .i64 2, .int .i64 5, .int .i64 10, .int .i64 0] 24)).cell? ⟨v9'.heap.size + 1, 1, none⟩ = some (.int .i64 2) := by simp [go_sem]
  have y2 : ((v9'.alloc (Obj.cells #[.int .i64 0, .int .i64 0, .int .i64 0, .int .i64 0, .int .i64 0, .int .i64 0, .int .i64 0, .int .i64 0] 26)).alloc (Obj.cells #[.int .i64 1, .int .i64 2, .int .i64 5, .int .i64 10, .int .i64 0] 24)).cell? ⟨v9'.heap.size + 1, 2, none⟩ = some (.int .i64 5) := by simp [go_sem]
  have y3 : ((v9'.alloc (Obj.cells #[.int .i64 0, .int .i64 0, .int .i64 0, .int .i64 0, .int .i64 0, .int .i64 0, .int .i64 0, .int .i64 0] 26)).alloc (Obj.cells #[.int .i64 1, .int .i64 2, .int .i64 5, .int .i64 10, .int .i64 0] 24)).cell? ⟨v9'.heap.size + 1, 3, none⟩ = some (.int .i64 10) := by simp [go_sem]
  have y4 : ((v9'.alloc (Obj.cells #[.int .i64 0, .int .i64 0, .int .i64 0, .int .i64 0, .int .i64 0, .int .i64 0, .int .i64 0, .int .i64 0] 26)).alloc (Obj.cells #[.int .i64 1, .int .i64 2, .int .i64 5, .int .i64 10, .int .i64 0] 24)).cell? ⟨v9'.heap.size + 1, 4, none⟩ = some (.int .i64 0) := by simp [go_sem]
  have a0'n := cellB pe9 a0'; have a1'n := cellB pe9 a1'; have l0n := cellB pe9 l0; have l1n := cellB pe9 l1; have r0n := cellB pe9 r0; have r1n := cellB pe9 r1; have r2n := cellB pe9 r2; have r3n := cellB pe9 r3; have r4n := cellB pe9 r4; have r5n := cellB pe9 r5; have r6n := cellB pe9 r6; have r7n := cellB pe9 r7; have x0n := cellB pe9 x0; have x1n := cellB pe9 x1; have x2n := cellB pe9 x2; have x3n := cellB pe9 x3; have x4n := cellB pe9 x4
  have hUsn := hUs.onto pe9; have h010 := Onto.to h09 pe9; have san := sa'.onto pe9
  clear a0' a1' l0 l1 r0 r1 r2 r3 r4 r5 r6 r7 x0 x1 x2 x3 x4 hUs h09 sa'
  have a0' := a0'n; have a1' := a1'n; have l0 := l0n; have l1 := l1n; have r0 := r0n; have r1 := r1n; have r2 := r2n; have r3 := r3n; have r4 := r4n; have r5 := r5n; have r6 := r6n; have r7 := r7n; have x0 := x0n; have x1 := x1n; have x2 := x2n; have x3 := x3n; have x4 := x4n; have hUs := hUsn; have sa' := san
  clear a0'n a1'n l0n l1n r0n r1n r2n r3n r4n r5n r6n r7n x0n x1n x2n x3n x4n hUsn san pb9 pb9' pc9 pd9 pe9 hUs9
  change Code.wp _ _ _ _ ((v9'.alloc (Obj.cells #[.int .i64 0, .int .i64 0, .int .i64 0, .int .i64 0, .int .i64 0, .int .i64 0, .int .i64 0, .int .i64 0] 26)).alloc (Obj.cells #[.int .i64 1, .int .i64 2, .int .i64 5, .int .i64 10, .int .i64 0] 24))
  generalize ((v9'.alloc (Obj.cells #[.int .i64 0, .int .i64 0, .int .i64 0, .int .i64 0, .int .i64 0, .int .i64 0, .int .i64 0, .int .i64 0] 26)).alloc (Obj.cells #[.int .i64 1, .int .i64 2, .int .i64 5, .int .i64 10, .int .i64 0] 24)) = w10 at a0' a1' l0 l1 r0 r1 r2 r3 r4 r5 r6 r7 x0 x1 x2 x3 x4 y0 y1 y2 y3 y4 hUs h010 sa' ⊢
  generalize v9'.heap.size = s9 at *
  go_wp2_with fail
  refine Calls.mono (put_calls _ _ _ _) ?_
  rintro e v10 ⟨rfl, pb10⟩
  have hUs10 := Us.onto hUs pb10
  go_wp2_with fail
  refine Calls.mono (Link_calls _ 3 3 L 2 0 lkE 1 _ hUs10) ?_
  rw [HL.out, lk3]
  rintro e v10' ⟨rfl, pb10'⟩
  have pc10 := Onto.to pb10 pb10'
  go_upto_region 6 with fail
  have pd10 : Onto v10' ((v10'.alloc (Obj.cells #[.int .i64 0, .int .i64 0, .int .i64 0, .int .i64 0, .int .i64 0, .int .i64 0, .int .i64 0, .int .i64 0] 26)).alloc (Obj.cells #[.int .i64 0, .int .i64 0, .int .i64 0, .int .i64 0, .int .i64 0] 24)) := ((Below.refl _ _).alloc (Nat.le_refl _) _).alloc (by simp) _
  have pe10 := Onto.to pc10 pd10
  have a0'n := cellB pe10 a0'; have a1'n := cellB pe10 a1'; have l0n := cellB pe10 l0; have l1n := cellB pe10 l1; have r0n := cellB pe10 r0; have r1n := cellB pe10 r1; have r2n := cellB pe10 r2; have r3n := cellB pe10 r3; have r4n := cellB pe10 r4; have r5n := cellB pe10 r5; have r6n := cellB pe10 r6; have r7n := cellB pe10 r7; have x0n := cellB pe10 x0; have x1n := cellB pe10 x1; have x2n := cellB pe10 x2; have x3n := cellB pe10 x3; have x4n := cellB pe10 x4; have y0n := cellB pe10 y0; have y1n := cellB pe10 y1; have y2n := cellB pe10 y2; have y3n := cellB pe10 y3; have y4n := cellB pe10 y4
  have hUsn := hUs.onto pe10; have h011 := Onto.to h010 pe10; have san := sa'.onto pe10
  clear a0' a1' l0 l1 r0 r1 r2 r3 r4 r5 r6 r7 x0 x1 x2 x3 x4 y0 y1 y2 y3 y4 hUs h010 sa'
  have a0' := a0'n; have a1' := a1'n; have l0 := l0n; have l1 := l1n; have r0 := r0n; have r1 := r1n; have r2 := r2n; have r3 := r3n; have r4 := r4n; have r5 := r5n; have r6 := r6n; have r7 := r7n; have x0 := x0n; have x1 := x1n; have x2 := x2n; have x3 := x3n; have x4 := x4n; have y0 := y0n; have y1 := y1n; have y2 := y2n; have y3 := y3n; have y4 := y4n; have hUs := hUsn; have sa' := san
  clear a0'n a1'n l0n l1n r0n r1n r2n r3n r4n r5n r6n r7n x0n x1n x2n x3n x4n y0n y1n y2n y3n y4n hUsn san pb10 pb10' pc10 pd10 pe10 hUs10
  change Code.wp _ _ _ _ ((v10'.alloc (Obj.cells #[.int .i64 0, .int .i64 0, .int .i64 0, .int .i64 0, .int .i64 0, .int .i64 0, .int .i64 0, .int .i64 0] 26)).alloc (Obj.cells #[.int .i64 0, .int .i64 0, .int .i64 0, .int .i64 0, .int .i64 0] 24))
  generalize ((v10'.alloc (Obj.cells #[.int .i64 0, .int .i64 0, .int .i64 0, .int .i64 0, .int .i64 0, .int .i64 0, .int .i64 0, .int .i64 0] 26)).alloc (Obj.cells #[.int .i64 0, .int .i64 0, .int .i64 0, .int .i64 0, .int .i64 0] 24)) = w11 at a0' a1' l0 l1 r0 r1 r2 r3 r4 r5 r6 r7 x0 x1 x2 x3 x4 y0 y1 y2 y3 y4 hUs h011 sa' ⊢
  generalize v10'.heap.size = s10 at *
  have pb11 : Onto w11 w11 := Onto.rfl' _
  have hUs11 := hUs
  go_wp2_with fail
  refine Calls.mono (Link_calls _ 3 3 L 0 1 zeroE 2 _ hUs11) ?_
  rw [HL.out, lk4]
  rintro e v11' ⟨rfl, pb11'⟩
  have pc11 := Onto.to pb11 pb11'
  go_upto_region 7 with fail
  have pd11 : Onto v11' ((v11'.alloc (Obj.cells #[.int .i64 0, .int .i64 0, .int .i64 0, .int .i64 0, .int .i64 0, .int .i64 0, .int .i64 0, .int .i64 0] 26)).alloc (Obj.cells #[.int .i64 0, .int .i64 0, .int .i64 0, .int .i64 0, .int .i64 0] 24)) := ((Below.refl _ _).alloc (Nat.le_refl _) _).alloc (by simp) _
  have pe11 := Onto.to pc11 pd11
  have a0'n := cellB pe11 a0'; have a1'n := cellB pe11 a1'; have l0n := cellB pe11 l0; have l1n := cellB pe11 l1; have r0n := cellB pe11 r0; have r1n := cellB pe11 r1; have r2n := cellB pe11 r2; have r3n := cellB pe11 r3; have r4n := cellB pe11 r4; have r5n := cellB pe11 r5; have r6n := cellB pe11 r6; have r7n := cellB pe11 r7; have x0n := cellB pe11 x0; have x1n := cellB pe11 x1; have x2n := cellB pe11 x2; have x3n := cellB pe11 x3; have x4n := cellB pe11 x4; have y0n := cellB pe11 y0; have y1n := cellB pe11 y1; have y2n := cellB pe11 y2; have y3n := cellB pe11 y3; have y4n := cellB pe11 y4
  have hUsn := hUs.onto pe11; have h012 := Onto.to h011 pe11; have san := sa'.onto pe11
  clear a0' a1' l0 l1 r0 r1 r2 r3 r4 r5 r6 r7 x0 x1 x2 x3 x4 y0 y1 y2 y3 y4 hUs h011 sa'
  have a0' := a0'n; have a1' := a1'n; have l0 := l0n; have l1 := l1n; have r0 := r0n; have r1 := r1n; have r2 := r2n; have r3 := r3n; have r4 := r4n; have r5 := r5n; have r6 := r6n; have r7 := r7n; have x0 := x0n; have x1 := x1n; have x2 := x2n; have x3 := x3n; have x4 := x4n; have y0 := y0n; have y1 := y1n; have y2 := y2n; have y3 := y3n; have y4 := y4n; have hUs := hUsn; have sa' := san
  clear a0'n a1'n l0n l1n r0n r1n r2n r3n r4n r5n r6n r7n x0n x1n x2n x3n x4n y0n y1n y2n y3n y4n hUsn san pb11 pb11' pc11 pd11 pe11 hUs11
  change Code.wp _ _ _ _ ((v11'.alloc (Obj.cells #[.int .i64 0, .int .i64 0, .int .i64 0, .int .i64 0, .int .i64 0, .int .i64 0, .int .i64 0, .int .i64 0] 26)).alloc (Obj.cells #[.int .i64 0, .int .i64 0, .int .i64 0, .int .i64 0, .int .i64 0] 24))
  generalize ((v11'.alloc (Obj.cells #[.int .i64 0, .int .i64 0, .int .i64 0, .int .i64 0, .int .i64 0, .int .i64 0, .int .i64 0, .int .i64 0] 26)).alloc (Obj.cells #[.int .i64 0, .int .i64 0, .int .i64 0, .int .i64 0, .int .i64 0] 24)) = w12 at a0' a1' l0 l1 r0 r1 r2 r3 r4 r5 r6 r7 x0 x1 x2 x3 x4 y0 y1 y2 y3 y4 hUs h012 sa' ⊢
  generalize v11'.heap.size = s11 at *
  go_wp2_with fail
  have pb12 : Onto w12 w12 := Onto.rfl' _
  have hU3 := hUs
  refine Calls.mono (Read_calls _ 3 3 L 0 _ hUs) ?_
  rw [HL.out, lk5]
  rintro e v12' ⟨rfl, pb12'⟩
  have pc12 := Onto.to pb12 pb12'
  go_upto_region 8 with fail
  have pd12 : Onto v12' (v12'.alloc (Obj.cells #[.int .i64 0, .int .i64 0, .int .i64 0, .int .i64 0, .int .i64 0] 24)) := (Below.refl _ _).alloc (Nat.le_refl _) _
  have pe12 := Onto.to pc12 pd12
  have a0'n := cellB pe12 a0'; have a1'n := cellB pe12 a1'; have l0n := cellB pe12 l0; have l1n := cellB pe12 l1; have r0n := cellB pe12 r0; have r1n := cellB pe12 r1; have r2n := cellB pe12 r2; have r3n := cellB pe12 r3; have r4n := cellB pe12 r4; have r5n := cellB pe12 r5; have r6n := cellB pe12 r6; have r7n := cellB pe12 r7; have x0n := cellB pe12 x0; have x1n := cellB pe12 x1; have x2n := cellB pe12 x2; have x3n := cellB pe12 x3; have x4n := cellB pe12 x4; have y0n := cellB pe12 y0; have y1n := cellB pe12 y1; have y2n := cellB pe12 y2; have y3n := cellB pe12 y3; have y4n := cellB pe12 y4
  have hUsn := hUs.onto pe12; have h013 := Onto.to h012 pe12; have san := sa'.onto pe12
  clear a0' a1' l0 l1 r0 r1 r2 r3 r4 r5 r6 r7 x0 x1 x2 x3 x4 y0 y1 y2 y3 y4 hUs h012 sa'
  have a0' := a0'n; have a1' := a1'n; have l0 := l0n; have l1 := l1n; have r0 := r0n; have r1 := r1n; have r2 := r2n; have r3 := r3n; have r4 := r4n; have r5 := r5n; have r6 := r6n; have r7 := r7n; have x0 := x0n; have x1 := x1n; have x2 := x2n; have x3 := x3n; have x4 := x4n; have y0 := y0n; have y1 := y1n; have y2 := y2n; have y3 := y3n; have y4 := y4n; have hUs := hUsn; have sa' := san
  clear a0'n a1'n l0n l1n r0n r1n r2n r3n r4n r5n r6n r7n x0n x1n x2n x3n x4n y0n y1n y2n y3n y4n hUsn san pb12 pb12' pc12 pd12 pe12 hU3
  change Code.wp _ _ _ _ (v12'.alloc (Obj.cells #[.int .i64 0, .int .i64 0, .int .i64 0, .int .i64 0, .int .i64 0] 24))
  generalize (v12'.alloc (Obj.cells #[.int .i64 0, .int .i64 0, .int .i64 0, .int .i64 0, .int .i64 0] 24)) = w13 at a0' a1' l0 l1 r0 r1 r2 r3 r4 r5 r6 r7 x0 x1 x2 x3 x4 y0 y1 y2 y3 y4 hUs h013 sa' ⊢
  generalize v12'.heap.size = s12 at *
  go_wp2_with fail
  have hU3 : Us (w13.alloc (Obj.cells #[.int .i64 1, .slice A1 60 c1, .int .i64 1, .slice A1 60 c1, .int .i64 1, .slice A1 60 c1] 34)) (some ⟨w13.heap.size, 0, none⟩) 3 [(⟨1, A1, 60, c1, lkU.cells⟩ : UV), ⟨1, A1, 60, c1, lkU.cells⟩, ⟨1, A1, 60, c1, lkU.cells⟩] := by
    refine ⟨Sl.block (k := 2) ([(⟨1, A1, 60, c1, lkU.cells⟩ : UV), ⟨1, A1, 60, c1, lkU.cells⟩, ⟨1, A1, 60, c1, lkU.cells⟩].map encU) (hNew rfl) (by simp [encU]) (by rfl), ?_, ?_⟩
    · intro v hv; simp at hv; subst hv; exact sa'.new _
    · intro v hv; simp at hv; subst hv; exact ⟨hc1, hcm1⟩
  have pb13 : Onto w13 (w13.alloc (Obj.cells #[.int .i64 1, .slice A1 60 c1, .int .i64 1, .slice A1 60 c1, .int .i64 1, .slice A1 60 c1] 34)) := (Below.refl _ _).alloc (Nat.le_refl _) _
  refine Calls.mono (Read_calls _ 3 3 [(⟨1, A1, 60, c1, lkU.cells⟩ : UV), ⟨1, A1, 60, c1, lkU.cells⟩, ⟨1, A1, 60, c1, lkU.cells⟩] 0 _ hU3) ?_
  rw [show unis [(⟨1, A1, 60, c1, lkU.cells⟩ : UV), ⟨1, A1, 60, c1, lkU.cells⟩, ⟨1, A1, 60, c1, lkU.cells⟩] = [lkU, lkU, lkU] from rfl, lk6]
  rintro e v13' ⟨rfl, pb13'⟩
  have pc13 := Onto.to pb13 pb13'
  go_upto_region 9 with fail
  have pd13 : Onto v13' (v13'.alloc (Obj.cells #[.int .i64 1, .int .i64 2, .int .i64 5, .int .i64 10, .int .i64 0] 24)) := (Below.refl _ _).alloc (Nat.le_refl _) _
  have pe13 := Onto.to pc13 pd13
  have z0 : (v13'.alloc (Obj.cells #[.int .i64 1, .int .i64 2, .int .i64 5, .int .i64 10, .int .i64 0] 24)).cell? ⟨v13'.heap.size, 0, none⟩ = some (.int .i64 1) := by simp [go_sem]
  have z1 : (v13'.alloc (Obj.cells #[.int .i64 1, .int .i64 2, .int .i64 5, .int .i64 10, .int .i64 0] 24)).cell? ⟨v13'.heap.size, 1, none⟩ = some (.int .i64 2) := by simp [go_sem]
  have z2 : (v13'.alloc (Obj.cells #[.int .i64 1, .int .i64 2, .int .i64 5, .int .i64 10, .int .i64 0] 24)).cell? ⟨v13'.heap.size, 2, none⟩ = some (.int .i64 5) := by simp [go_sem]
  have z3 : (v13'.alloc (Obj.cells #[.int .i64 1, .int .i64 2, .int .i64 5, .int .i64 10, .int .i64 0] 24)).cell? ⟨v13'.heap.size, 3, none⟩ = some (.int .i64 10) := by simp [go_sem]
  have z4 : (v13'.alloc (Obj.cells #[.int .i64 1, .int .i64 2, .int .i64 5, .int .i64 10, .int .i64 0] 24)).cell? ⟨v13'.heap.size, 4, none⟩ = some (.int .i64 0) := by simp [go_sem]
  have a0'n := cellB pe13 a0'; have a1'n := cellB pe13 a1'; have l0n := cellB pe13 l0; have l1n := cellB pe13 l1; have r0n := cellB pe13 r0; have r1n := cellB pe13 r1; have r2n := cellB pe13 r2; have r3n := cellB pe13 r3; have r4n := cellB pe13 r4; have r5n := cellB pe13 r5; have r6n := cellB pe13 r6; have r7n := cellB pe13 r7; have x0n := cellB pe13 x0; have x1n := cellB pe13 x1; have x2n := cellB pe13 x2; have x3n := cellB pe13 x3; have x4n := cellB pe13 x4; have y0n := cellB pe13 y0; have y1n := cellB pe13 y1; have y2n := cellB pe13 y2; have y3n := cellB pe13 y3; have y4n := cellB pe13 y4
  have hUsn := hUs.onto pe13; have h014 := Onto.to h013 pe13; have san := sa'.onto pe13
  clear a0' a1' l0 l1 r0 r1 r2 r3 r4 r5 r6 r7 x0 x1 x2 x3 x4 y0 y1 y2 y3 y4 hUs h013 sa'
  have a0' := a0'n; have a1' := a1'n; have l0 := l0n; have l1 := l1n; have r0 := r0n; have r1 := r1n; have r2 := r2n; have r3 := r3n; have r4 := r4n; have r5 := r5n; have r6 := r6n; have r7 := r7n; have x0 := x0n; have x1 := x1n; have x2 := x2n; have x3 := x3n; have x4 := x4n; have y0 := y0n; have y1 := y1n; have y2 := y2n; have y3 := y3n; have y4 := y4n; have hUs := hUsn; have sa' := san
  clear a0'n a1'n l0n l1n r0n r1n r2n r3n r4n r5n r6n r7n x0n x1n x2n x3n x4n y0n y1n y2n y3n y4n hUsn san pb13 pb13' pc13 pd13 pe13 hU3
  change Code.wp _ _ _ _ (v13'.alloc (Obj.cells #[.int .i64 1, .int .i64 2, .int .i64 5, .int .i64 10, .int .i64 0] 24))
  generalize (v13'.alloc (Obj.cells #[.int .i64 1, .int .i64 2, .int .i64 5, .int .i64 10, .int .i64 0] 24)) = w14 at a0' a1' l0 l1 r0 r1 r2 r3 r4 r5 r6 r7 x0 x1 x2 x3 x4 y0 y1 y2 y3 y4 z0 z1 z2 z3 z4 hUs h014 sa' ⊢
  generalize v13'.heap.size = s13 at *
  have hre : ∀ w, (binOp .eql 26 (.agg #[.int .i64 1, .int .i64 0, .int .i64 0, .int .i64 1, .int .i64 2, .int .i64 5, .int .i64 10, .int .i64 0]) (.agg #[.int .i64 1, .int .i64 0, .int .i64 0, .int .i64 1, .int .i64 2, .int .i64 5, .int .i64 10, .int .i64 0])).run Try.prog w = .ok (.bool true) w := fun w => by kernel_rfl
  have hen : ∀ w, (binOp .eql 24 (.agg #[.int .i64 1, .int .i64 2, .int .i64 5, .int .i64 10, .int .i64 0]) (.agg #[.int .i64 1, .int .i64 2, .int .i64 5, .int .i64 10, .int .i64 0])).run Try.prog w = .ok (.bool true) w := fun w => by kernel_rfl
  have k0 := onto_cell a0'; have k1 := onto_cell a1'; have k2 := onto_cell l0; have k3 := onto_cell l1; have k4 := onto_cell r0; have k5 := onto_cell r1; have k6 := onto_cell r2; have k7 := onto_cell r3; have k8 := onto_cell r4; have k9 := onto_cell r5; have k10 := onto_cell r6; have k11 := onto_cell r7; have k12 := onto_cell x0; have k13 := onto_cell x1; have k14 := onto_cell x2; have k15 := onto_cell x3; have k16 := onto_cell x4; have k17 := onto_cell y0; have k18 := onto_cell y1; have k19 := onto_cell y2; have k20 := onto_cell y3; have k21 := onto_cell y4; have k22 := onto_cell z0; have k23 := onto_cell z1; have k24 := onto_cell z2; have k25 := onto_cell z3; have k26 := onto_cell z4
  refine wp_region_quiet_tail (C := fun w' => ∃ x, w' = ontoW w14 x) 59 (by kernel_rfl) (by kernel_rfl) (by kernel_rfl) ⟨_, onto_of (Onto.draw (Onto.rfl' w14))⟩ ?_
  simp only [List.take_succ_cons, List.take_zero, List.drop_succ_cons, List.drop_zero]
  repeat (go_big_quiet_step ((first
    | (go_at_call 60; exact calls_onto' (u := .agg #[.int .i64 1, .int .i64 2, .int .i64 5, .int .i64 10, .int .i64 0]) (put_calls _ _ _ _) rfl)
    | (go_at_call 59; exact calls_onto' (u := .agg #[.int .i64 1, .int .i64 0, .int .i64 0, .int .i64 1, .int .i64 2, .int .i64 5, .int .i64 10, .int .i64 0]) (write_calls 0 lkE _) rfl)
    | (go_at_call 16; exact calls_onto' (u := .int .i64 0) (CCheck_calls _ 3 3 L _ (Us.onto hUs (onto_on _ _))) (by rw [HL.out, lk7])))))
  refine wpQuiet_nil ?_
  rintro w' ⟨wx, rfl⟩
  have hb15 := onto_on w14 wx
  have h15 := Onto.to h014 hb15
  have sa15 := S.onto sa' hb15
  have hUs15 := Us.onto hUs hb15
  have sb15 := hUs15.cells ⟨1, A2, 60, c2, newU.cells⟩ (by rw [HLL.out]; simp)
  generalize ontoW w14 wx = w15 at hb15 h15 sa15 sb15 ⊢
  clear k0 k1 k2 k3 k4 k5 k6 k7 k8 k9 k10 k11 k12 k13 k14 k15 k16 k17 k18 k19 k20 k21 k22 k23 k24 k25 k26 a0' a1' l0 l1 r0 r1 r2 r3 r4 r5 r6 r7 x0 x1 x2 x3 x4 y0 y1 y2 y3 y4 z0 z1 z2 z3 z4 hUs hUs15 h014 sa' hre hen
  go_wp2_with fail
  have hU3 : Us (w15.alloc (Obj.cells #[.int .i64 1, .slice A2 60 c2, .int .i64 1, .slice A1 60 c1, .int .i64 1, .slice A2 60 c2] 34)) (some ⟨w15.heap.size, 0, none⟩) 3 [(⟨1, A2, 60, c2, newU.cells⟩ : UV), ⟨1, A1, 60, c1, lkU.cells⟩, ⟨1, A2, 60, c2, newU.cells⟩] := by
    refine ⟨Sl.block (k := 2) ([(⟨1, A2, 60, c2, newU.cells⟩ : UV), ⟨1, A1, 60, c1, lkU.cells⟩, ⟨1, A2, 60, c2, newU.cells⟩].map encU) (hNew rfl) (by simp [encU]) (by rfl), ?_, ?_⟩
    · intro v hv; simp at hv; rcases hv with rfl | rfl | rfl
      · exact sb15.new _
      · exact sa15.new _
      · exact sb15.new _
    · intro v hv; simp at hv; rcases hv with rfl | rfl | rfl
      · exact ⟨hc2, hcm2⟩
      · exact ⟨hc1, hcm1⟩
      · exact ⟨hc2, hcm2⟩
  refine Calls.mono (CCheck_calls _ 3 3 [(⟨1, A2, 60, c2, newU.cells⟩ : UV), ⟨1, A1, 60, c1, lkU.cells⟩, ⟨1, A2, 60, c2, newU.cells⟩] _ hU3) ?_
  rw [show unis [(⟨1, A2, 60, c2, newU.cells⟩ : UV), ⟨1, A1, 60, c1, lkU.cells⟩, ⟨1, A2, 60, c2, newU.cells⟩] = [newU, lkU, newU] from rfl, lk8]
  rintro e v ⟨rfl, pv⟩
  have hend := Onto.to (Onto.new h15 (Obj.cells #[.int .i64 1, .slice A2 60 c2, .int .i64 1, .slice A1 60 c1, .int .i64 1, .slice A2 60 c2] 34)) pv
  clear hb15 h15 sa15 sb15 hU3 pv
  go_wp2_with fail
  go_ret
  exact ⟨rfl, hend⟩
end Go.Proofs.Ytbipmoehcmighaa
