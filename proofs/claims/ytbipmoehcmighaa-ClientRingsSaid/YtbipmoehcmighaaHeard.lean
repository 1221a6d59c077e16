/- The closed fact 'heard'; client.New. -/
import Derived.Test.YtbipmoehcmighaaLawCl
import Derived.Test.YtbipmoehcmighaaClient5
import Derived.Test.YtbipmoehcmighaaClient7
import Derived.Test.YtbipmoehcmighaaTail
import Derived.Deep.DeepCutAuto
namespace Go.Proofs.Ytbipmoehcmighaa
set_option linter.unusedSimpArgs false
set_option linter.unusedVariables false
open Go.RowKit

theorem S0 (w : World) (A : Option Addr) (k : Nat) : S w k A 0 ([] : List (List Value)) := ⟨rfl, by simp, fun h => absurd h (by omega)⟩
theorem SJ0 (w : World) (A : Option Addr) : S w 3 A 0 (Book.none.jobs.map encJ) := S0 w A 3
theorem SR0 (w : World) (A : Option Addr) : S w 3 A 0 (Book.none.rung.map encR) := S0 w A 3
def newCl : Cli := ⟨1, 0, zeroE, 0, 0, 0, Book.none⟩
theorem ClNew_calls (w : World) : Calls Try.prog 53 #[] w fun e w' => e = .returned (.agg #[.int .i64 1, .int .i64 0, .int .i64 0, .int .i64 0, .int .i64 0, .int .i64 0, .int .i64 0, .int .i64 0, .int .i64 0, .int .i64 0, .slice none 0 0, .slice none 0 0]) ∧ Onto w w' := by
  go_enter Try.func53, Try.ntmps53
  go_wp2_with fail
  refine bodyPost_ret (v := .agg #[.int .i64 1, .int .i64 0, .int .i64 0, .int .i64 0, .int .i64 0, .int .i64 0, .int .i64 0, .int .i64 0, .int .i64 0, .int .i64 0, .slice none 0 0, .slice none 0 0]) (by simp [results, Try.results53, go_sem]) rfl ?_
  exact ⟨rfl, by repeat (first | exact Below.refl _ _ | refine Onto.put ?_ (by simp) _ | refine Onto.new ?_ _)⟩
def pE : Entry := ⟨1, 2, 5, 10, 0⟩
/-- The client that writes ⟨1, 2, 5, 10, 0⟩ behind k units. -/
def haC (k : Nat) : Cli := if k < 3 then ⟨1, 2, ⟨1, 2, 5, 10, 0⟩, 7, k, 0, Book.none⟩ else newCl
theorem hd_want : wantCl ⟨1, 0, ⟨0, 0, 0, 0, 0⟩, 0, 0, 0, Book.none⟩ ⟨1, 2, 5, 10, 0⟩ = (⟨1, 1, ⟨1, 2, 5, 10, 0⟩, 0, 0, 0, Book.none⟩, 0) := by decide
theorem hd_place : placeCl ⟨1, 1, ⟨1, 2, 5, 10, 0⟩, 0, 0, 0, Book.none⟩ 7 = (⟨1, 2, ⟨1, 2, 5, 10, 0⟩, 7, 0, 0, Book.none⟩, 0) := by decide
theorem hd_heard0 : heardCl ⟨1, 2, ⟨1, 2, 5, 10, 0⟩, 7, 0, 0, Book.none⟩ ⟨0, 0, 0, 0, 0⟩ = (⟨1, 1, ⟨1, 2, 5, 10, 0⟩, 0, 0, 0, Book.none⟩, 0) := by decide
theorem hd_heard {k : Nat} (h : k < 3) : heardCl ⟨(haC k).epoch, (haC k).doing, (haC k).e, (haC k).at_, (haC k).link, (haC k).played, Book.none⟩ ⟨1, 2, 5, 10, 0⟩ = (haC (k + 1), 0) := by
  match k, h with
  | 0, _ => decide
  | 1, _ => decide
  | 2, _ => decide
theorem haC_b (k : Nat) : (haC k).b = Book.none := by unfold haC; split <;> rfl
theorem hd_fill : fillCl ⟨1, 0, ⟨0, 0, 0, 0, 0⟩, 0, 0, 0, Book.none⟩ 3 = (⟨1, 2, ⟨0, 0, 0, 0, 0⟩, 3, 0, 0, Book.none⟩, 0) := by decide
theorem hd_heard1 : heardCl ⟨1, 2, ⟨0, 0, 0, 0, 0⟩, 3, 0, 0, Book.none⟩ ⟨1, 2, 5, 10, 0⟩ = (⟨1, 2, ⟨1, 2, 5, 10, 0⟩, 3, 1, 0, Book.none⟩, 0) := by decide
theorem hd_check : checkCl ⟨1, 2, ⟨1, 2, 5, 10, 0⟩, 3, 1, 0, Book.none⟩ = 0 := by decide

set_option maxHeartbeats 8000000 in
set_option maxRecDepth 100000 in
theorem heard_calls (w : World) : Calls Try.prog 34 #[] w fun e w' => e = .returned (.bool true) ∧ Onto w w' := by
  go_enter Try.func34, Try.ntmps34
  go_wp2_with fail
  refine Calls.mono (ClNew_calls _) ?_
  rintro e w1 ⟨rfl, hon⟩
  go_wp2_with fail
  refine Calls.mono (put_calls _ _ _ _) ?_
  rintro e w2 ⟨rfl, hb⟩
  replace hon := Onto.to hon hb
  clear hb
  go_wp2_with fail
  refine Calls.mono (ClWant_calls 1 0 0 0 0 ⟨0, 0, 0, 0, 0⟩ ⟨1, 2, 5, 10, 0⟩ none none 0 0 0 0 Book.none _ (SJ0 _ _) (SR0 _ _)) ?_
  rw [hd_want]
  rintro e w3 ⟨A1, n1, k1, D1, m1, d1, rfl, s1, t1, hb, _, _, _, _⟩
  obtain rfl : 0 = n1 := by simpa [Book.none] using s1.len
  obtain rfl : 0 = m1 := by simpa [Book.none] using t1.len
  clear s1 t1
  replace hon := Onto.to hon hb
  clear hb
  go_upto_region 2 with fail
  have hcw : w.heap.size ≤ w3.heap.size := hon.size
  have hbx : Onto w3 (w3.alloc (Obj.cells #[.int .i64 1, .int .i64 1, .int .i64 1, .int .i64 2, .int .i64 5, .int .i64 10, .int .i64 0, .int .i64 0, .int .i64 0, .int .i64 0, .slice A1 0 k1, .slice D1 0 d1] 56)) := (Below.refl _ _).alloc (Nat.le_refl _) _
  replace hon := Onto.to hon hbx
  have c0 : (w3.alloc (Obj.cells #[.int .i64 1, .int .i64 1, .int .i64 1, .int .i64 2, .int .i64 5, .int .i64 10, .int .i64 0, .int .i64 0, .int .i64 0, .int .i64 0, .slice A1 0 k1, .slice D1 0 d1] 56)).cell? ⟨w3.heap.size, 0, none⟩ = some (.int .i64 1) := by simp [go_sem]
  have fc0 : (w3.alloc (Obj.cells #[.int .i64 1, .int .i64 1, .int .i64 1, .int .i64 2, .int .i64 5, .int .i64 10, .int .i64 0, .int .i64 0, .int .i64 0, .int .i64 0, .slice A1 0 k1, .slice D1 0 d1] 56)).frozen? ⟨w3.heap.size, 0, none⟩ = false := by simp [go_sem]
  have c1 : (w3.alloc (Obj.cells #[.int .i64 1, .int .i64 1, .int .i64 1, .int .i64 2, .int .i64 5, .int .i64 10, .int .i64 0, .int .i64 0, .int .i64 0, .int .i64 0, .slice A1 0 k1, .slice D1 0 d1] 56)).cell? ⟨w3.heap.size, 1, none⟩ = some (.int .i64 1) := by simp [go_sem]
  have fc1 : (w3.alloc (Obj.cells #[.int .i64 1, .int .i64 1, .int .i64 1, .int .i64 2, .int .i64 5, .int .i64 10, .int .i64 0, .int .i64 0, .int .i64 0, .int .i64 0, .slice A1 0 k1, .slice D1 0 d1] 56)).frozen? ⟨w3.heap.size, 1, none⟩ = false := by simp [go_sem]
  have c2 : (w3.alloc (Obj.cells #[.int .i64 1, .int .i64 1, .int .i64 1, .int .i64 2, .int .i64 5, .int .i64 10, .int .i64 0, .int .i64 0, .int .i64 0, .int .i64 0, .slice A1 0 k1, .slice D1 0 d1] 56)).cell? ⟨w3.heap.size, 2, none⟩ = some (.int .i64 1) := by simp [go_sem]
  have fc2 : (w3.alloc (Obj.cells #[.int .i64 1, .int .i64 1, .int .i64 1, .int .i64 2, .int .i64 5, .int .i64 10, .int .i64 0, .int .i64 0, .int .i64 0, .int .i64 0, .slice A1 0 k1, .slice D1 0 d1] 56)).frozen? ⟨w3.heap.size, 2, none⟩ = false := by simp [go_sem]
  have c3 : (w3.alloc (Obj.cells #[.int .i64 1, .int .i64 1, .int .i64 1, .int .i64 2, .int .i64 5, .int .i64 10, .int .i64 0, .int .i64 0, .int .i64 0, .int .i64 0, .slice A1 0 k1, .slice D1 0 d1] 56)).cell? ⟨w3.heap.size, 3, none⟩ = some (.int .i64 2) := by simp [go_sem]
  have fc3 : (w3.alloc (Obj.cells #[.int .i64 1, .int .i64 1, .int .i64 1, .int .i64 2, .int .i64 5, .int .i64 10, .int .i64 0, .int .i64 0, .int .i64 0, .int .i64 0, .slice A1 0 k1, .slice D1 0 d1] 56)).frozen? ⟨w3.heap.size, 3, none⟩ = false := by simp [go_sem]
  have c4 : (w3.alloc (Obj.cells #[.int .i64 1, .int .i64 1, .int .i64 1, .int .i64 2, .int .i64 5, .int .i64 10, .int .i64 0, .int .i64 0, .int .i64 0, .int .i64 0, .slice A1 0 k1, .slice D1 0 d1] 56)).cell? ⟨w3.heap.size, 4, none⟩ = some (.int .i64 5) := by simp [go_sem]
  have fc4 : (w3.alloc (Obj.cells #[.int .i64 1, .int .i64 1, .int .i64 1, .int .i64 2, .int .i64 5, .int .i64 10, .int .i64 0, .int .i64 0, .int .i64 0, .int .i64 0, .slice A1 0 k1, .slice D1 0 d1] 56)).frozen? ⟨w3.heap.size, 4, none⟩ = false := by simp [go_sem]
  have c5 : (w3.alloc (Obj.cells #[.int .i64 1, .int .i64 1, .int .i64 1, .int .i64 2, .int .i64 5, .int .i64 10, .int .i64 0, .int .i64 0, .int .i64 0, .int .i64 0, .slice A1 0 k1, .slice D1 0 d1] 56)).cell? ⟨w3.heap.size, 5, none⟩ = some (.int .i64 10) := by simp [go_sem]
  have fc5 : (w3.alloc (Obj.cells #[.int .i64 1, .int .i64 1, .int .i64 1, .int .i64 2, .int .i64 5, .int .i64 10, .int .i64 0, .int .i64 0, .int .i64 0, .int .i64 0, .slice A1 0 k1, .slice D1 0 d1] 56)).frozen? ⟨w3.heap.size, 5, none⟩ = false := by simp [go_sem]
  have c6 : (w3.alloc (Obj.cells #[.int .i64 1, .int .i64 1, .int .i64 1, .int .i64 2, .int .i64 5, .int .i64 10, .int .i64 0, .int .i64 0, .int .i64 0, .int .i64 0, .slice A1 0 k1, .slice D1 0 d1] 56)).cell? ⟨w3.heap.size, 6, none⟩ = some (.int .i64 0) := by simp [go_sem]
  have fc6 : (w3.alloc (Obj.cells #[.int .i64 1, .int .i64 1, .int .i64 1, .int .i64 2, .int .i64 5, .int .i64 10, .int .i64 0, .int .i64 0, .int .i64 0, .int .i64 0, .slice A1 0 k1, .slice D1 0 d1] 56)).frozen? ⟨w3.heap.size, 6, none⟩ = false := by simp [go_sem]
  have c7 : (w3.alloc (Obj.cells #[.int .i64 1, .int .i64 1, .int .i64 1, .int .i64 2, .int .i64 5, .int .i64 10, .int .i64 0, .int .i64 0, .int .i64 0, .int .i64 0, .slice A1 0 k1, .slice D1 0 d1] 56)).cell? ⟨w3.heap.size, 7, none⟩ = some (.int .i64 0) := by simp [go_sem]
  have fc7 : (w3.alloc (Obj.cells #[.int .i64 1, .int .i64 1, .int .i64 1, .int .i64 2, .int .i64 5, .int .i64 10, .int .i64 0, .int .i64 0, .int .i64 0, .int .i64 0, .slice A1 0 k1, .slice D1 0 d1] 56)).frozen? ⟨w3.heap.size, 7, none⟩ = false := by simp [go_sem]
  have c8 : (w3.alloc (Obj.cells #[.int .i64 1, .int .i64 1, .int .i64 1, .int .i64 2, .int .i64 5, .int .i64 10, .int .i64 0, .int .i64 0, .int .i64 0, .int .i64 0, .slice A1 0 k1, .slice D1 0 d1] 56)).cell? ⟨w3.heap.size, 8, none⟩ = some (.int .i64 0) := by simp [go_sem]
  have fc8 : (w3.alloc (Obj.cells #[.int .i64 1, .int .i64 1, .int .i64 1, .int .i64 2, .int .i64 5, .int .i64 10, .int .i64 0, .int .i64 0, .int .i64 0, .int .i64 0, .slice A1 0 k1, .slice D1 0 d1] 56)).frozen? ⟨w3.heap.size, 8, none⟩ = false := by simp [go_sem]
  have c9 : (w3.alloc (Obj.cells #[.int .i64 1, .int .i64 1, .int .i64 1, .int .i64 2, .int .i64 5, .int .i64 10, .int .i64 0, .int .i64 0, .int .i64 0, .int .i64 0, .slice A1 0 k1, .slice D1 0 d1] 56)).cell? ⟨w3.heap.size, 9, none⟩ = some (.int .i64 0) := by simp [go_sem]
  have fc9 : (w3.alloc (Obj.cells #[.int .i64 1, .int .i64 1, .int .i64 1, .int .i64 2, .int .i64 5, .int .i64 10, .int .i64 0, .int .i64 0, .int .i64 0, .int .i64 0, .slice A1 0 k1, .slice D1 0 d1] 56)).frozen? ⟨w3.heap.size, 9, none⟩ = false := by simp [go_sem]
  have c10 : (w3.alloc (Obj.cells #[.int .i64 1, .int .i64 1, .int .i64 1, .int .i64 2, .int .i64 5, .int .i64 10, .int .i64 0, .int .i64 0, .int .i64 0, .int .i64 0, .slice A1 0 k1, .slice D1 0 d1] 56)).cell? ⟨w3.heap.size, 10, none⟩ = some (.slice A1 0 k1) := by simp [go_sem]
  have fc10 : (w3.alloc (Obj.cells #[.int .i64 1, .int .i64 1, .int .i64 1, .int .i64 2, .int .i64 5, .int .i64 10, .int .i64 0, .int .i64 0, .int .i64 0, .int .i64 0, .slice A1 0 k1, .slice D1 0 d1] 56)).frozen? ⟨w3.heap.size, 10, none⟩ = false := by simp [go_sem]
  have c11 : (w3.alloc (Obj.cells #[.int .i64 1, .int .i64 1, .int .i64 1, .int .i64 2, .int .i64 5, .int .i64 10, .int .i64 0, .int .i64 0, .int .i64 0, .int .i64 0, .slice A1 0 k1, .slice D1 0 d1] 56)).cell? ⟨w3.heap.size, 11, none⟩ = some (.slice D1 0 d1) := by simp [go_sem]
  have fc11 : (w3.alloc (Obj.cells #[.int .i64 1, .int .i64 1, .int .i64 1, .int .i64 2, .int .i64 5, .int .i64 10, .int .i64 0, .int .i64 0, .int .i64 0, .int .i64 0, .slice A1 0 k1, .slice D1 0 d1] 56)).frozen? ⟨w3.heap.size, 11, none⟩ = false := by simp [go_sem]
  change Code.wp _ _ _ _ (w3.alloc (Obj.cells #[.int .i64 1, .int .i64 1, .int .i64 1, .int .i64 2, .int .i64 5, .int .i64 10, .int .i64 0, .int .i64 0, .int .i64 0, .int .i64 0, .slice A1 0 k1, .slice D1 0 d1] 56))
  clear hbx
  generalize (w3.alloc (Obj.cells #[.int .i64 1, .int .i64 1, .int .i64 1, .int .i64 2, .int .i64 5, .int .i64 10, .int .i64 0, .int .i64 0, .int .i64 0, .int .i64 0, .slice A1 0 k1, .slice D1 0 d1] 56)) = w4 at *
  generalize w3.heap.size = Bc at *
  go_wp2_with fail
  refine Calls.mono (ClPlace_calls 1 1 0 0 0 ⟨1, 2, 5, 10, 0⟩ A1 D1 0 k1 0 d1 Book.none 7 _ (SJ0 _ _) (SR0 _ _)) ?_
  rw [hd_place]
  rintro e w5 ⟨A2, n2, k2, D2, m2, d2, rfl, s2, t2, hb, _, _, _, _⟩
  obtain rfl : 0 = n2 := by simpa [Book.none] using s2.len
  obtain rfl : 0 = m2 := by simpa [Book.none] using t2.len
  clear s2 t2
  replace fc0 := frozB hb c0 fc0; replace c0 := cellB hb c0
  replace fc1 := frozB hb c1 fc1; replace c1 := cellB hb c1
  replace fc2 := frozB hb c2 fc2; replace c2 := cellB hb c2
  replace fc3 := frozB hb c3 fc3; replace c3 := cellB hb c3
  replace fc4 := frozB hb c4 fc4; replace c4 := cellB hb c4
  replace fc5 := frozB hb c5 fc5; replace c5 := cellB hb c5
  replace fc6 := frozB hb c6 fc6; replace c6 := cellB hb c6
  replace fc7 := frozB hb c7 fc7; replace c7 := cellB hb c7
  replace fc8 := frozB hb c8 fc8; replace c8 := cellB hb c8
  replace fc9 := frozB hb c9 fc9; replace c9 := cellB hb c9
  replace fc10 := frozB hb c10 fc10; replace c10 := cellB hb c10
  replace fc11 := frozB hb c11 fc11; replace c11 := cellB hb c11
  replace hon := Onto.to hon hb
  clear hb
  go_upto_region 3 with fail
  rw [show ((((((((((((w5.setCell ⟨Bc, 0, none⟩ (.int .i64 1)).setCell ⟨Bc, 1, none⟩ (.int .i64 2)).setCell ⟨Bc, 2, none⟩ (.int .i64 1)).setCell ⟨Bc, 3, none⟩ (.int .i64 2)).setCell ⟨Bc, 4, none⟩ (.int .i64 5)).setCell ⟨Bc, 5, none⟩ (.int .i64 10)).setCell ⟨Bc, 6, none⟩ (.int .i64 0)).setCell ⟨Bc, 7, none⟩ (.int .i64 7)).setCell ⟨Bc, 8, none⟩ (.int .i64 0)).setCell ⟨Bc, 9, none⟩ (.int .i64 0)).setCell ⟨Bc, 10, none⟩ (.slice A2 0 k2)).setCell ⟨Bc, 11, none⟩ (.slice D2 0 d2)) = (w5.setCells Bc 0 [.int .i64 1, .int .i64 2, .int .i64 1, .int .i64 2, .int .i64 5, .int .i64 10, .int .i64 0, .int .i64 7, .int .i64 0, .int .i64 0, .slice A2 0 k2, .slice D2 0 d2]) from rfl]
  have F0 : ∀ (j : Nat) vv, ([.int .i64 1, .int .i64 2, .int .i64 1, .int .i64 2, .int .i64 5, .int .i64 10, .int .i64 0, .int .i64 7, .int .i64 0, .int .i64 0, .slice A2 0 k2, .slice D2 0 d2] : List Value)[j]? = some vv → (w5.setCells Bc 0 [.int .i64 1, .int .i64 2, .int .i64 1, .int .i64 2, .int .i64 5, .int .i64 10, .int .i64 0, .int .i64 7, .int .i64 0, .int .i64 0, .slice A2 0 k2, .slice D2 0 d2]).cell? ⟨Bc, j, none⟩ = some vv := fun j vv hv => put_in (w := w5) (b := Bc) (vs := [.int .i64 1, .int .i64 2, .int .i64 1, .int .i64 2, .int .i64 5, .int .i64 10, .int .i64 0, .int .i64 7, .int .i64 0, .int .i64 0, .slice A2 0 k2, .slice D2 0 d2]) (there12 c0 c1 c2 c3 c4 c5 c6 c7 c8 c9 c10 c11) hv
  replace hon : Onto w (w5.setCells Bc 0 [.int .i64 1, .int .i64 2, .int .i64 1, .int .i64 2, .int .i64 5, .int .i64 10, .int .i64 0, .int .i64 7, .int .i64 0, .int .i64 0, .slice A2 0 k2, .slice D2 0 d2]) := put_onto (by omega) hon
  replace fc0 : (w5.setCells Bc 0 [.int .i64 1, .int .i64 2, .int .i64 1, .int .i64 2, .int .i64 5, .int .i64 10, .int .i64 0, .int .i64 7, .int .i64 0, .int .i64 0, .slice A2 0 k2, .slice D2 0 d2]).frozen? ⟨Bc, 0, none⟩ = false := (World.frozen?_setCells _ _ _ _ _).trans fc0
  replace fc1 : (w5.setCells Bc 0 [.int .i64 1, .int .i64 2, .int .i64 1, .int .i64 2, .int .i64 5, .int .i64 10, .int .i64 0, .int .i64 7, .int .i64 0, .int .i64 0, .slice A2 0 k2, .slice D2 0 d2]).frozen? ⟨Bc, 1, none⟩ = false := (World.frozen?_setCells _ _ _ _ _).trans fc1
  replace fc2 : (w5.setCells Bc 0 [.int .i64 1, .int .i64 2, .int .i64 1, .int .i64 2, .int .i64 5, .int .i64 10, .int .i64 0, .int .i64 7, .int .i64 0, .int .i64 0, .slice A2 0 k2, .slice D2 0 d2]).frozen? ⟨Bc, 2, none⟩ = false := (World.frozen?_setCells _ _ _ _ _).trans fc2
  replace fc3 : (w5.setCells Bc 0 [.int .i64 1, .int .i64 2, .int .i64 1, .int .i64 2, .int .i64 5, .int .i64 10, .int .i64 0, .int .i64 7, .int .i64 0, .int .i64 0, .slice A2 0 k2, .slice D2 0 d2]).frozen? ⟨Bc, 3, none⟩ = false := (World.frozen?_setCells _ _ _ _ _).trans fc3
  replace fc4 : (w5.setCells Bc 0 [.int .i64 1, .int .i64 2, .int .i64 1, .int .i64 2, .int .i64 5, .int .i64 10, .int .i64 0, .int .i64 7, .int .i64 0, .int .i64 0, .slice A2 0 k2, .slice D2 0 d2]).frozen? ⟨Bc, 4, none⟩ = false := (World.frozen?_setCells _ _ _ _ _).trans fc4
  replace fc5 : (w5.setCells Bc 0 [.int .i64 1, .int .i64 2, .int .i64 1, .int .i64 2, .int .i64 5, .int .i64 10, .int .i64 0, .int .i64 7, .int .i64 0, .int .i64 0, .slice A2 0 k2, .slice D2 0 d2]).frozen? ⟨Bc, 5, none⟩ = false := (World.frozen?_setCells _ _ _ _ _).trans fc5
  replace fc6 : (w5.setCells Bc 0 [.int .i64 1, .int .i64 2, .int .i64 1, .int .i64 2, .int .i64 5, .int .i64 10, .int .i64 0, .int .i64 7, .int .i64 0, .int .i64 0, .slice A2 0 k2, .slice D2 0 d2]).frozen? ⟨Bc, 6, none⟩ = false := (World.frozen?_setCells _ _ _ _ _).trans fc6
  replace fc7 : (w5.setCells Bc 0 [.int .i64 1, .int .i64 2, .int .i64 1, .int .i64 2, .int .i64 5, .int .i64 10, .int .i64 0, .int .i64 7, .int .i64 0, .int .i64 0, .slice A2 0 k2, .slice D2 0 d2]).frozen? ⟨Bc, 7, none⟩ = false := (World.frozen?_setCells _ _ _ _ _).trans fc7
  replace fc8 : (w5.setCells Bc 0 [.int .i64 1, .int .i64 2, .int .i64 1, .int .i64 2, .int .i64 5, .int .i64 10, .int .i64 0, .int .i64 7, .int .i64 0, .int .i64 0, .slice A2 0 k2, .slice D2 0 d2]).frozen? ⟨Bc, 8, none⟩ = false := (World.frozen?_setCells _ _ _ _ _).trans fc8
  replace fc9 : (w5.setCells Bc 0 [.int .i64 1, .int .i64 2, .int .i64 1, .int .i64 2, .int .i64 5, .int .i64 10, .int .i64 0, .int .i64 7, .int .i64 0, .int .i64 0, .slice A2 0 k2, .slice D2 0 d2]).frozen? ⟨Bc, 9, none⟩ = false := (World.frozen?_setCells _ _ _ _ _).trans fc9
  replace fc10 : (w5.setCells Bc 0 [.int .i64 1, .int .i64 2, .int .i64 1, .int .i64 2, .int .i64 5, .int .i64 10, .int .i64 0, .int .i64 7, .int .i64 0, .int .i64 0, .slice A2 0 k2, .slice D2 0 d2]).frozen? ⟨Bc, 10, none⟩ = false := (World.frozen?_setCells _ _ _ _ _).trans fc10
  replace fc11 : (w5.setCells Bc 0 [.int .i64 1, .int .i64 2, .int .i64 1, .int .i64 2, .int .i64 5, .int .i64 10, .int .i64 0, .int .i64 7, .int .i64 0, .int .i64 0, .slice A2 0 k2, .slice D2 0 d2]).frozen? ⟨Bc, 11, none⟩ = false := (World.frozen?_setCells _ _ _ _ _).trans fc11
  clear c0 c1 c2 c3 c4 c5 c6 c7 c8 c9 c10 c11
  generalize (w5.setCells Bc 0 [.int .i64 1, .int .i64 2, .int .i64 1, .int .i64 2, .int .i64 5, .int .i64 10, .int .i64 0, .int .i64 7, .int .i64 0, .int .i64 0, .slice A2 0 k2, .slice D2 0 d2]) = w6 at *
  have c0 := F0 0 _ rfl
  have c1 := F0 1 _ rfl
  have c2 := F0 2 _ rfl
  have c3 := F0 3 _ rfl
  have c4 := F0 4 _ rfl
  have c5 := F0 5 _ rfl
  have c6 := F0 6 _ rfl
  have c7 := F0 7 _ rfl
  have c8 := F0 8 _ rfl
  have c9 := F0 9 _ rfl
  have c10 := F0 10 _ rfl
  have c11 := F0 11 _ rfl
  clear F0
  go_wp2_with fail
  refine Calls.mono (ClHeard_calls 1 2 7 0 0 ⟨1, 2, 5, 10, 0⟩ ⟨0, 0, 0, 0, 0⟩ A2 D2 0 k2 0 d2 Book.none _ (SJ0 _ _) (SR0 _ _)) ?_
  rw [hd_heard0]
  rintro e w7 ⟨A3, n3, k3, D3, m3, d3, rfl, s3, t3, hb, _, _, _, _⟩
  obtain rfl : 0 = n3 := by simpa [Book.none] using s3.len
  obtain rfl : 0 = m3 := by simpa [Book.none] using t3.len
  clear s3 t3
  replace fc0 := frozB hb c0 fc0; replace c0 := cellB hb c0
  replace fc1 := frozB hb c1 fc1; replace c1 := cellB hb c1
  replace fc2 := frozB hb c2 fc2; replace c2 := cellB hb c2
  replace fc3 := frozB hb c3 fc3; replace c3 := cellB hb c3
  replace fc4 := frozB hb c4 fc4; replace c4 := cellB hb c4
  replace fc5 := frozB hb c5 fc5; replace c5 := cellB hb c5
  replace fc6 := frozB hb c6 fc6; replace c6 := cellB hb c6
  replace fc7 := frozB hb c7 fc7; replace c7 := cellB hb c7
  replace fc8 := frozB hb c8 fc8; replace c8 := cellB hb c8
  replace fc9 := frozB hb c9 fc9; replace c9 := cellB hb c9
  replace fc10 := frozB hb c10 fc10; replace c10 := cellB hb c10
  replace fc11 := frozB hb c11 fc11; replace c11 := cellB hb c11
  replace hon := Onto.to hon hb
  clear hb
  go_upto_region 4 with fail
  have hgw : w.heap.size ≤ w7.heap.size := hon.size
  have hcg : Bc < w7.heap.size := World.block_lt_of_cell? _ _ c0
  have hbx : Onto w7 (w7.alloc (Obj.cells #[.int .i64 1, .int .i64 1, .int .i64 1, .int .i64 2, .int .i64 5, .int .i64 10, .int .i64 0, .int .i64 0, .int .i64 0, .int .i64 0, .slice A3 0 k3, .slice D3 0 d3] 56)) := (Below.refl _ _).alloc (Nat.le_refl _) _
  replace fc0 := frozB hbx c0 fc0; replace c0 := cellB hbx c0
  replace fc1 := frozB hbx c1 fc1; replace c1 := cellB hbx c1
  replace fc2 := frozB hbx c2 fc2; replace c2 := cellB hbx c2
  replace fc3 := frozB hbx c3 fc3; replace c3 := cellB hbx c3
  replace fc4 := frozB hbx c4 fc4; replace c4 := cellB hbx c4
  replace fc5 := frozB hbx c5 fc5; replace c5 := cellB hbx c5
  replace fc6 := frozB hbx c6 fc6; replace c6 := cellB hbx c6
  replace fc7 := frozB hbx c7 fc7; replace c7 := cellB hbx c7
  replace fc8 := frozB hbx c8 fc8; replace c8 := cellB hbx c8
  replace fc9 := frozB hbx c9 fc9; replace c9 := cellB hbx c9
  replace fc10 := frozB hbx c10 fc10; replace c10 := cellB hbx c10
  replace fc11 := frozB hbx c11 fc11; replace c11 := cellB hbx c11
  replace hon := Onto.to hon hbx
  have g0 : (w7.alloc (Obj.cells #[.int .i64 1, .int .i64 1, .int .i64 1, .int .i64 2, .int .i64 5, .int .i64 10, .int .i64 0, .int .i64 0, .int .i64 0, .int .i64 0, .slice A3 0 k3, .slice D3 0 d3] 56)).cell? ⟨w7.heap.size, 0, none⟩ = some (.int .i64 1) := by simp [go_sem]
  have fg0 : (w7.alloc (Obj.cells #[.int .i64 1, .int .i64 1, .int .i64 1, .int .i64 2, .int .i64 5, .int .i64 10, .int .i64 0, .int .i64 0, .int .i64 0, .int .i64 0, .slice A3 0 k3, .slice D3 0 d3] 56)).frozen? ⟨w7.heap.size, 0, none⟩ = false := by simp [go_sem]
  have g1 : (w7.alloc (Obj.cells #[.int .i64 1, .int .i64 1, .int .i64 1, .int .i64 2, .int .i64 5, .int .i64 10, .int .i64 0, .int .i64 0, .int .i64 0, .int .i64 0, .slice A3 0 k3, .slice D3 0 d3] 56)).cell? ⟨w7.heap.size, 1, none⟩ = some (.int .i64 1) := by simp [go_sem]
  have fg1 : (w7.alloc (Obj.cells #[.int .i64 1, .int .i64 1, .int .i64 1, .int .i64 2, .int .i64 5, .int .i64 10, .int .i64 0, .int .i64 0, .int .i64 0, .int .i64 0, .slice A3 0 k3, .slice D3 0 d3] 56)).frozen? ⟨w7.heap.size, 1, none⟩ = false := by simp [go_sem]
  have g2 : (w7.alloc (Obj.cells #[.int .i64 1, .int .i64 1, .int .i64 1, .int .i64 2, .int .i64 5, .int .i64 10, .int .i64 0, .int .i64 0, .int .i64 0, .int .i64 0, .slice A3 0 k3, .slice D3 0 d3] 56)).cell? ⟨w7.heap.size, 2, none⟩ = some (.int .i64 1) := by simp [go_sem]
  have fg2 : (w7.alloc (Obj.cells #[.int .i64 1, .int .i64 1, .int .i64 1, .int .i64 2, .int .i64 5, .int .i64 10, .int .i64 0, .int .i64 0, .int .i64 0, .int .i64 0, .slice A3 0 k3, .slice D3 0 d3] 56)).frozen? ⟨w7.heap.size, 2, none⟩ = false := by simp [go_sem]
  have g3 : (w7.alloc (Obj.cells #[.int .i64 1, .int .i64 1, .int .i64 1, .int .i64 2, .int .i64 5, .int .i64 10, .int .i64 0, .int .i64 0, .int .i64 0, .int .i64 0, .slice A3 0 k3, .slice D3 0 d3] 56)).cell? ⟨w7.heap.size, 3, none⟩ = some (.int .i64 2) := by simp [go_sem]
  have fg3 : (w7.alloc (Obj.cells #[.int .i64 1, .int .i64 1, .int .i64 1, .int .i64 2, .int .i64 5, .int .i64 10, .int .i64 0, .int .i64 0, .int .i64 0, .int .i64 0, .slice A3 0 k3, .slice D3 0 d3] 56)).frozen? ⟨w7.heap.size, 3, none⟩ = false := by simp [go_sem]
  have g4 : (w7.alloc (Obj.cells #[.int .i64 1, .int .i64 1, .int .i64 1, .int .i64 2, .int .i64 5, .int .i64 10, .int .i64 0, .int .i64 0, .int .i64 0, .int .i64 0, .slice A3 0 k3, .slice D3 0 d3] 56)).cell? ⟨w7.heap.size, 4, none⟩ = some (.int .i64 5) := by simp [go_sem]
  have fg4 : (w7.alloc (Obj.cells #[.int .i64 1, .int .i64 1, .int .i64 1, .int .i64 2, .int .i64 5, .int .i64 10, .int .i64 0, .int .i64 0, .int .i64 0, .int .i64 0, .slice A3 0 k3, .slice D3 0 d3] 56)).frozen? ⟨w7.heap.size, 4, none⟩ = false := by simp [go_sem]
  have g5 : (w7.alloc (Obj.cells #[.int .i64 1, .int .i64 1, .int .i64 1, .int .i64 2, .int .i64 5, .int .i64 10, .int .i64 0, .int .i64 0, .int .i64 0, .int .i64 0, .slice A3 0 k3, .slice D3 0 d3] 56)).cell? ⟨w7.heap.size, 5, none⟩ = some (.int .i64 10) := by simp [go_sem]
  have fg5 : (w7.alloc (Obj.cells #[.int .i64 1, .int .i64 1, .int .i64 1, .int .i64 2, .int .i64 5, .int .i64 10, .int .i64 0, .int .i64 0, .int .i64 0, .int .i64 0, .slice A3 0 k3, .slice D3 0 d3] 56)).frozen? ⟨w7.heap.size, 5, none⟩ = false := by simp [go_sem]
  have g6 : (w7.alloc (Obj.cells #[.int .i64 1, .int .i64 1, .int .i64 1, .int .i64 2, .int .i64 5, .int .i64 10, .int .i64 0, .int .i64 0, .int .i64 0, .int .i64 0, .slice A3 0 k3, .slice D3 0 d3] 56)).cell? ⟨w7.heap.size, 6, none⟩ = some (.int .i64 0) := by simp [go_sem]
  have fg6 : (w7.alloc (Obj.cells #[.int .i64 1, .int .i64 1, .int .i64 1, .int .i64 2, .int .i64 5, .int .i64 10, .int .i64 0, .int .i64 0, .int .i64 0, .int .i64 0, .slice A3 0 k3, .slice D3 0 d3] 56)).frozen? ⟨w7.heap.size, 6, none⟩ = false := by simp [go_sem]
  have g7 : (w7.alloc (Obj.cells #[.int .i64 1, .int .i64 1, .int .i64 1, .int .i64 2, .int .i64 5, .int .i64 10, .int .i64 0, .int .i64 0, .int .i64 0, .int .i64 0, .slice A3 0 k3, .slice D3 0 d3] 56)).cell? ⟨w7.heap.size, 7, none⟩ = some (.int .i64 0) := by simp [go_sem]
  have fg7 : (w7.alloc (Obj.cells #[.int .i64 1, .int .i64 1, .int .i64 1, .int .i64 2, .int .i64 5, .int .i64 10, .int .i64 0, .int .i64 0, .int .i64 0, .int .i64 0, .slice A3 0 k3, .slice D3 0 d3] 56)).frozen? ⟨w7.heap.size, 7, none⟩ = false := by simp [go_sem]
  have g8 : (w7.alloc (Obj.cells #[.int .i64 1, .int .i64 1, .int .i64 1, .int .i64 2, .int .i64 5, .int .i64 10, .int .i64 0, .int .i64 0, .int .i64 0, .int .i64 0, .slice A3 0 k3, .slice D3 0 d3] 56)).cell? ⟨w7.heap.size, 8, none⟩ = some (.int .i64 0) := by simp [go_sem]
  have fg8 : (w7.alloc (Obj.cells #[.int .i64 1, .int .i64 1, .int .i64 1, .int .i64 2, .int .i64 5, .int .i64 10, .int .i64 0, .int .i64 0, .int .i64 0, .int .i64 0, .slice A3 0 k3, .slice D3 0 d3] 56)).frozen? ⟨w7.heap.size, 8, none⟩ = false := by simp [go_sem]
  have g9 : (w7.alloc (Obj.cells #[.int .i64 1, .int .i64 1, .int .i64 1, .int .i64 2, .int .i64 5, .int .i64 10, .int .i64 0, .int .i64 0, .int .i64 0, .int .i64 0, .slice A3 0 k3, .slice D3 0 d3] 56)).cell? ⟨w7.heap.size, 9, none⟩ = some (.int .i64 0) := by simp [go_sem]
  have fg9 : (w7.alloc (Obj.cells #[.int .i64 1, .int .i64 1, .int .i64 1, .int .i64 2, .int .i64 5, .int .i64 10, .int .i64 0, .int .i64 0, .int .i64 0, .int .i64 0, .slice A3 0 k3, .slice D3 0 d3] 56)).frozen? ⟨w7.heap.size, 9, none⟩ = false := by simp [go_sem]
  have g10 : (w7.alloc (Obj.cells #[.int .i64 1, .int .i64 1, .int .i64 1, .int .i64 2, .int .i64 5, .int .i64 10, .int .i64 0, .int .i64 0, .int .i64 0, .int .i64 0, .slice A3 0 k3, .slice D3 0 d3] 56)).cell? ⟨w7.heap.size, 10, none⟩ = some (.slice A3 0 k3) := by simp [go_sem]
  have fg10 : (w7.alloc (Obj.cells #[.int .i64 1, .int .i64 1, .int .i64 1, .int .i64 2, .int .i64 5, .int .i64 10, .int .i64 0, .int .i64 0, .int .i64 0, .int .i64 0, .slice A3 0 k3, .slice D3 0 d3] 56)).frozen? ⟨w7.heap.size, 10, none⟩ = false := by simp [go_sem]
  have g11 : (w7.alloc (Obj.cells #[.int .i64 1, .int .i64 1, .int .i64 1, .int .i64 2, .int .i64 5, .int .i64 10, .int .i64 0, .int .i64 0, .int .i64 0, .int .i64 0, .slice A3 0 k3, .slice D3 0 d3] 56)).cell? ⟨w7.heap.size, 11, none⟩ = some (.slice D3 0 d3) := by simp [go_sem]
  have fg11 : (w7.alloc (Obj.cells #[.int .i64 1, .int .i64 1, .int .i64 1, .int .i64 2, .int .i64 5, .int .i64 10, .int .i64 0, .int .i64 0, .int .i64 0, .int .i64 0, .slice A3 0 k3, .slice D3 0 d3] 56)).frozen? ⟨w7.heap.size, 11, none⟩ = false := by simp [go_sem]
  change Code.wp _ _ _ _ (w7.alloc (Obj.cells #[.int .i64 1, .int .i64 1, .int .i64 1, .int .i64 2, .int .i64 5, .int .i64 10, .int .i64 0, .int .i64 0, .int .i64 0, .int .i64 0, .slice A3 0 k3, .slice D3 0 d3] 56))
  clear hbx
  generalize (w7.alloc (Obj.cells #[.int .i64 1, .int .i64 1, .int .i64 1, .int .i64 2, .int .i64 5, .int .i64 10, .int .i64 0, .int .i64 0, .int .i64 0, .int .i64 0, .slice A3 0 k3, .slice D3 0 d3] 56)) = w8 at *
  generalize w7.heap.size = Bg at *
  go_wp2_with fail
  go_loopw [27] (fun s wr => ∃ (k : Nat) (A : Option Addr) (kk : Nat) (D : Option Addr) (dd : Nat), k ≤ 3 ∧ s = .int .i64 k ∧ wr.cell? ⟨Bc, 0, none⟩ = some (.int .i64 (haC k).epoch) ∧ wr.frozen? ⟨Bc, 0, none⟩ = false ∧ wr.cell? ⟨Bc, 1, none⟩ = some (.int .i64 (haC k).doing) ∧ wr.frozen? ⟨Bc, 1, none⟩ = false ∧ wr.cell? ⟨Bc, 2, none⟩ = some (.int .i64 (haC k).e.kind) ∧ wr.frozen? ⟨Bc, 2, none⟩ = false ∧ wr.cell? ⟨Bc, 3, none⟩ = some (.int .i64 (haC k).e.job) ∧ wr.frozen? ⟨Bc, 3, none⟩ = false ∧ wr.cell? ⟨Bc, 4, none⟩ = some (.int .i64 (haC k).e.every) ∧ wr.frozen? ⟨Bc, 4, none⟩ = false ∧ wr.cell? ⟨Bc, 5, none⟩ = some (.int .i64 (haC k).e.time) ∧ wr.frozen? ⟨Bc, 5, none⟩ = false ∧ wr.cell? ⟨Bc, 6, none⟩ = some (.int .i64 (haC k).e.client) ∧ wr.frozen? ⟨Bc, 6, none⟩ = false ∧ wr.cell? ⟨Bc, 7, none⟩ = some (.int .i64 (haC k).at_) ∧ wr.frozen? ⟨Bc, 7, none⟩ = false ∧ wr.cell? ⟨Bc, 8, none⟩ = some (.int .i64 (haC k).link) ∧ wr.frozen? ⟨Bc, 8, none⟩ = false ∧ wr.cell? ⟨Bc, 9, none⟩ = some (.int .i64 (haC k).played) ∧ wr.frozen? ⟨Bc, 9, none⟩ = false ∧ wr.cell? ⟨Bc, 10, none⟩ = some (.slice A 0 kk) ∧ wr.frozen? ⟨Bc, 10, none⟩ = false ∧ wr.cell? ⟨Bc, 11, none⟩ = some (.slice D 0 dd) ∧ wr.frozen? ⟨Bc, 11, none⟩ = false ∧ wr.cell? ⟨Bg, 0, none⟩ = some (.int .i64 1) ∧ wr.frozen? ⟨Bg, 0, none⟩ = false ∧ wr.cell? ⟨Bg, 1, none⟩ = some (.int .i64 1) ∧ wr.frozen? ⟨Bg, 1, none⟩ = false ∧ wr.cell? ⟨Bg, 2, none⟩ = some (.int .i64 1) ∧ wr.frozen? ⟨Bg, 2, none⟩ = false ∧ wr.cell? ⟨Bg, 3, none⟩ = some (.int .i64 2) ∧ wr.frozen? ⟨Bg, 3, none⟩ = false ∧ wr.cell? ⟨Bg, 4, none⟩ = some (.int .i64 5) ∧ wr.frozen? ⟨Bg, 4, none⟩ = false ∧ wr.cell? ⟨Bg, 5, none⟩ = some (.int .i64 10) ∧ wr.frozen? ⟨Bg, 5, none⟩ = false ∧ wr.cell? ⟨Bg, 6, none⟩ = some (.int .i64 0) ∧ wr.frozen? ⟨Bg, 6, none⟩ = false ∧ wr.cell? ⟨Bg, 7, none⟩ = some (.int .i64 0) ∧ wr.frozen? ⟨Bg, 7, none⟩ = false ∧ wr.cell? ⟨Bg, 8, none⟩ = some (.int .i64 0) ∧ wr.frozen? ⟨Bg, 8, none⟩ = false ∧ wr.cell? ⟨Bg, 9, none⟩ = some (.int .i64 0) ∧ wr.frozen? ⟨Bg, 9, none⟩ = false ∧ wr.cell? ⟨Bg, 10, none⟩ = some (.slice A3 0 k3) ∧ wr.frozen? ⟨Bg, 10, none⟩ = false ∧ wr.cell? ⟨Bg, 11, none⟩ = some (.slice D3 0 d3) ∧ wr.frozen? ⟨Bg, 11, none⟩ = false ∧ Onto w wr) (fun s _ => 3 - (intOf s).toNat)
  case atStart =>
    exact ⟨0, A2, k2, D2, d2, by omega, rfl, c0, fc0, c1, fc1, c2, fc2, c3, fc3, c4, fc4, c5, fc5, c6, fc6, c7, fc7, c8, fc8, c9, fc9, c10, fc10, c11, fc11, g0, fg0, g1, fg1, g2, fg2, g3, fg3, g4, fg4, g5, fg5, g6, fg6, g7, fg7, g8, fg8, g9, fg9, g10, fg10, g11, fg11, hon⟩
  case round =>
  clear c0 fc0 c1 fc1 c2 fc2 c3 fc3 c4 fc4 c5 fc5 c6 fc6 c7 fc7 c8 fc8 c9 fc9 c10 fc10 c11 fc11 g0 fg0 g1 fg1 g2 fg2 g3 fg3 g4 fg4 g5 fg5 g6 fg6 g7 fg7 g8 fg8 g9 fg9 g10 fg10 g11 fg11 hon
  obtain ⟨k, A, kk, D, dd, hk, rfl, c0, fc0, c1, fc1, c2, fc2, c3, fc3, c4, fc4, c5, fc5, c6, fc6, c7, fc7, c8, fc8, c9, fc9, c10, fc10, c11, fc11, g0, fg0, g1, fg1, g2, fg2, g3, fg3, g4, fg4, g5, fg5, g6, fg6, g7, fg7, g8, fg8, g9, fg9, g10, fg10, g11, fg11, hon⟩ := hrel
  by_cases hlt : k < 3
  · have hki : (k : Int) < 3 := by omega
    have HLT := Lib.hid hlt
    clear hlt hk
    go_upto_region 7 with fail
    go_region_law (first
      | (go_simp; go_at_call 60; refine Calls.mono (put_calls _ _ _ _) ?_; rintro e wp ⟨rfl, hbp⟩; have c0p := cellB hbp c0; have fc0p := frozB hbp c0 fc0; have g0p := cellB hbp g0; have fg0p := frozB hbp g0 fg0; have c1p := cellB hbp c1; have fc1p := frozB hbp c1 fc1; have g1p := cellB hbp g1; have fg1p := frozB hbp g1 fg1; have c2p := cellB hbp c2; have fc2p := frozB hbp c2 fc2; have g2p := cellB hbp g2; have fg2p := frozB hbp g2 fg2; have c3p := cellB hbp c3; have fc3p := frozB hbp c3 fc3; have g3p := cellB hbp g3; have fg3p := frozB hbp g3 fg3; have c4p := cellB hbp c4; have fc4p := frozB hbp c4 fc4; have g4p := cellB hbp g4; have fg4p := frozB hbp g4 fg4; have c5p := cellB hbp c5; have fc5p := frozB hbp c5 fc5; have g5p := cellB hbp g5; have fg5p := frozB hbp g5 fg5; have c6p := cellB hbp c6; have fc6p := frozB hbp c6 fc6; have g6p := cellB hbp g6; have fg6p := frozB hbp g6 fg6; have c7p := cellB hbp c7; have fc7p := frozB hbp c7 fc7; have g7p := cellB hbp g7; have fg7p := frozB hbp g7 fg7; have c8p := cellB hbp c8; have fc8p := frozB hbp c8 fc8; have g8p := cellB hbp g8; have fg8p := frozB hbp g8 fg8; have c9p := cellB hbp c9; have fc9p := frozB hbp c9 fc9; have g9p := cellB hbp g9; have fg9p := frozB hbp g9 fg9; have c10p := cellB hbp c10; have fc10p := frozB hbp c10 fc10; have g10p := cellB hbp g10; have fg10p := frozB hbp g10 fg10; have c11p := cellB hbp c11; have fc11p := frozB hbp c11 fc11; have g11p := cellB hbp g11; have fg11p := frozB hbp g11 fg11; have honp := Onto.to hon.draw hbp)
      | (go_simp; go_at_call 38; refine Calls.mono (ClHeard_calls (haC k).epoch (haC k).doing (haC k).at_ (haC k).link (haC k).played (haC k).e ⟨1, 2, 5, 10, 0⟩ A D 0 kk 0 dd Book.none _ (SJ0 _ _) (SR0 _ _)) ?_; rw [hd_heard HLT.out]; rintro e wq ⟨A5, n5, k5, D5, m5, d5, rfl, s5, t5, hbq, _, _, _, _⟩; obtain rfl : 0 = n5 := (by simpa [haC_b, Book.none] using s5.len); obtain rfl : 0 = m5 := (by simpa [haC_b, Book.none] using t5.len); clear s5 t5; have c0q := cellB hbq c0p; have fc0q := frozB hbq c0p fc0p; have g0q := cellB hbq g0p; have fg0q := frozB hbq g0p fg0p; have c1q := cellB hbq c1p; have fc1q := frozB hbq c1p fc1p; have g1q := cellB hbq g1p; have fg1q := frozB hbq g1p fg1p; have c2q := cellB hbq c2p; have fc2q := frozB hbq c2p fc2p; have g2q := cellB hbq g2p; have fg2q := frozB hbq g2p fg2p; have c3q := cellB hbq c3p; have fc3q := frozB hbq c3p fc3p; have g3q := cellB hbq g3p; have fg3q := frozB hbq g3p fg3p; have c4q := cellB hbq c4p; have fc4q := frozB hbq c4p fc4p; have g4q := cellB hbq g4p; have fg4q := frozB hbq g4p fg4p; have c5q := cellB hbq c5p; have fc5q := frozB hbq c5p fc5p; have g5q := cellB hbq g5p; have fg5q := frozB hbq g5p fg5p; have c6q := cellB hbq c6p; have fc6q := frozB hbq c6p fc6p; have g6q := cellB hbq g6p; have fg6q := frozB hbq g6p fg6p; have c7q := cellB hbq c7p; have fc7q := frozB hbq c7p fc7p; have g7q := cellB hbq g7p; have fg7q := frozB hbq g7p fg7p; have c8q := cellB hbq c8p; have fc8q := frozB hbq c8p fc8p; have g8q := cellB hbq g8p; have fg8q := frozB hbq g8p fg8p; have c9q := cellB hbq c9p; have fc9q := frozB hbq c9p fc9p; have g9q := cellB hbq g9p; have fg9q := frozB hbq g9p fg9p; have c10q := cellB hbq c10p; have fc10q := frozB hbq c10p fc10p; have g10q := cellB hbq g10p; have fg10q := frozB hbq g10p fg10p; have c11q := cellB hbq c11p; have fc11q := frozB hbq c11p fc11p; have g11q := cellB hbq g11p; have fg11q := frozB hbq g11p fg11p; have honq := Onto.to honp hbq))
    all_goals
      clear hbp hbq c0 fc0 c1 fc1 c2 fc2 c3 fc3 c4 fc4 c5 fc5 c6 fc6 c7 fc7 c8 fc8 c9 fc9 c10 fc10 c11 fc11 g0 fg0 g1 fg1 g2 fg2 g3 fg3 g4 fg4 g5 fg5 g6 fg6 g7 fg7 g8 fg8 g9 fg9 g10 fg10 g11 fg11 hon c0p fc0p c1p fc1p c2p fc2p c3p fc3p c4p fc4p c5p fc5p c6p fc6p c7p fc7p c8p fc8p c9p fc9p c10p fc10p c11p fc11p g0p fg0p g1p fg1p g2p fg2p g3p fg3p g4p fg4p g5p fg5p g6p fg6p g7p fg7p g8p fg8p g9p fg9p g10p fg10p g11p fg11p honp
      have c0 := c0q; clear c0q
      have fc0 := fc0q; clear fc0q
      have c1 := c1q; clear c1q
      have fc1 := fc1q; clear fc1q
      have c2 := c2q; clear c2q
      have fc2 := fc2q; clear fc2q
      have c3 := c3q; clear c3q
      have fc3 := fc3q; clear fc3q
      have c4 := c4q; clear c4q
      have fc4 := fc4q; clear fc4q
      have c5 := c5q; clear c5q
      have fc5 := fc5q; clear fc5q
      have c6 := c6q; clear c6q
      have fc6 := fc6q; clear fc6q
      have c7 := c7q; clear c7q
      have fc7 := fc7q; clear fc7q
      have c8 := c8q; clear c8q
      have fc8 := fc8q; clear fc8q
      have c9 := c9q; clear c9q
      have fc9 := fc9q; clear fc9q
      have c10 := c10q; clear c10q
      have fc10 := fc10q; clear fc10q
      have c11 := c11q; clear c11q
      have fc11 := fc11q; clear fc11q
      have g0 := g0q; clear g0q
      have fg0 := fg0q; clear fg0q
      have g1 := g1q; clear g1q
      have fg1 := fg1q; clear fg1q
      have g2 := g2q; clear g2q
      have fg2 := fg2q; clear fg2q
      have g3 := g3q; clear g3q
      have fg3 := fg3q; clear fg3q
      have g4 := g4q; clear g4q
      have fg4 := fg4q; clear fg4q
      have g5 := g5q; clear g5q
      have fg5 := fg5q; clear fg5q
      have g6 := g6q; clear g6q
      have fg6 := fg6q; clear fg6q
      have g7 := g7q; clear g7q
      have fg7 := fg7q; clear fg7q
      have g8 := g8q; clear g8q
      have fg8 := fg8q; clear fg8q
      have g9 := g9q; clear g9q
      have fg9 := fg9q; clear fg9q
      have g10 := g10q; clear g10q
      have fg10 := fg10q; clear fg10q
      have g11 := g11q; clear g11q
      have fg11 := fg11q; clear fg11q
      have hon := honq; clear honq
      rw [show ((((((((((((wq.setCell ⟨Bc, 0, none⟩ (.int .i64 (haC (k + 1)).epoch)).setCell ⟨Bc, 1, none⟩ (.int .i64 (haC (k + 1)).doing)).setCell ⟨Bc, 2, none⟩ (.int .i64 (haC (k + 1)).e.kind)).setCell ⟨Bc, 3, none⟩ (.int .i64 (haC (k + 1)).e.job)).setCell ⟨Bc, 4, none⟩ (.int .i64 (haC (k + 1)).e.every)).setCell ⟨Bc, 5, none⟩ (.int .i64 (haC (k + 1)).e.time)).setCell ⟨Bc, 6, none⟩ (.int .i64 (haC (k + 1)).e.client)).setCell ⟨Bc, 7, none⟩ (.int .i64 (haC (k + 1)).at_)).setCell ⟨Bc, 8, none⟩ (.int .i64 (haC (k + 1)).link)).setCell ⟨Bc, 9, none⟩ (.int .i64 (haC (k + 1)).played)).setCell ⟨Bc, 10, none⟩ (.slice A5 0 k5)).setCell ⟨Bc, 11, none⟩ (.slice D5 0 d5)) = (wq.setCells Bc 0 [.int .i64 (haC (k + 1)).epoch, .int .i64 (haC (k + 1)).doing, .int .i64 (haC (k + 1)).e.kind, .int .i64 (haC (k + 1)).e.job, .int .i64 (haC (k + 1)).e.every, .int .i64 (haC (k + 1)).e.time, .int .i64 (haC (k + 1)).e.client, .int .i64 (haC (k + 1)).at_, .int .i64 (haC (k + 1)).link, .int .i64 (haC (k + 1)).played, .slice A5 0 k5, .slice D5 0 d5]) from rfl]
      have F0 : ∀ (j : Nat) vv, ([.int .i64 (haC (k + 1)).epoch, .int .i64 (haC (k + 1)).doing, .int .i64 (haC (k + 1)).e.kind, .int .i64 (haC (k + 1)).e.job, .int .i64 (haC (k + 1)).e.every, .int .i64 (haC (k + 1)).e.time, .int .i64 (haC (k + 1)).e.client, .int .i64 (haC (k + 1)).at_, .int .i64 (haC (k + 1)).link, .int .i64 (haC (k + 1)).played, .slice A5 0 k5, .slice D5 0 d5] : List Value)[j]? = some vv → (wq.setCells Bc 0 [.int .i64 (haC (k + 1)).epoch, .int .i64 (haC (k + 1)).doing, .int .i64 (haC (k + 1)).e.kind, .int .i64 (haC (k + 1)).e.job, .int .i64 (haC (k + 1)).e.every, .int .i64 (haC (k + 1)).e.time, .int .i64 (haC (k + 1)).e.client, .int .i64 (haC (k + 1)).at_, .int .i64 (haC (k + 1)).link, .int .i64 (haC (k + 1)).played, .slice A5 0 k5, .slice D5 0 d5]).cell? ⟨Bc, j, none⟩ = some vv := fun j vv hv => put_in (w := wq) (b := Bc) (vs := [.int .i64 (haC (k + 1)).epoch, .int .i64 (haC (k + 1)).doing, .int .i64 (haC (k + 1)).e.kind, .int .i64 (haC (k + 1)).e.job, .int .i64 (haC (k + 1)).e.every, .int .i64 (haC (k + 1)).e.time, .int .i64 (haC (k + 1)).e.client, .int .i64 (haC (k + 1)).at_, .int .i64 (haC (k + 1)).link, .int .i64 (haC (k + 1)).played, .slice A5 0 k5, .slice D5 0 d5]) (there12 c0 c1 c2 c3 c4 c5 c6 c7 c8 c9 c10 c11) hv
      replace hon : Onto w (wq.setCells Bc 0 [.int .i64 (haC (k + 1)).epoch, .int .i64 (haC (k + 1)).doing, .int .i64 (haC (k + 1)).e.kind, .int .i64 (haC (k + 1)).e.job, .int .i64 (haC (k + 1)).e.every, .int .i64 (haC (k + 1)).e.time, .int .i64 (haC (k + 1)).e.client, .int .i64 (haC (k + 1)).at_, .int .i64 (haC (k + 1)).link, .int .i64 (haC (k + 1)).played, .slice A5 0 k5, .slice D5 0 d5]) := put_onto (by omega) hon
      replace fc0 : (wq.setCells Bc 0 [.int .i64 (haC (k + 1)).epoch, .int .i64 (haC (k + 1)).doing, .int .i64 (haC (k + 1)).e.kind, .int .i64 (haC (k + 1)).e.job, .int .i64 (haC (k + 1)).e.every, .int .i64 (haC (k + 1)).e.time, .int .i64 (haC (k + 1)).e.client, .int .i64 (haC (k + 1)).at_, .int .i64 (haC (k + 1)).link, .int .i64 (haC (k + 1)).played, .slice A5 0 k5, .slice D5 0 d5]).frozen? ⟨Bc, 0, none⟩ = false := (World.frozen?_setCells _ _ _ _ _).trans fc0
      replace fc1 : (wq.setCells Bc 0 [.int .i64 (haC (k + 1)).epoch, .int .i64 (haC (k + 1)).doing, .int .i64 (haC (k + 1)).e.kind, .int .i64 (haC (k + 1)).e.job, .int .i64 (haC (k + 1)).e.every, .int .i64 (haC (k + 1)).e.time, .int .i64 (haC (k + 1)).e.client, .int .i64 (haC (k + 1)).at_, .int .i64 (haC (k + 1)).link, .int .i64 (haC (k + 1)).played, .slice A5 0 k5, .slice D5 0 d5]).frozen? ⟨Bc, 1, none⟩ = false := (World.frozen?_setCells _ _ _ _ _).trans fc1
      replace fc2 : (wq.setCells Bc 0 [.int .i64 (haC (k + 1)).epoch, .int .i64 (haC (k + 1)).doing, .int .i64 (haC (k + 1)).e.kind, .int .i64 (haC (k + 1)).e.job, .int .i64 (haC (k + 1)).e.every, .int .i64 (haC (k + 1)).e.time, .int .i64 (haC (k + 1)).e.client, .int .i64 (haC (k + 1)).at_, .int .i64 (haC (k + 1)).link, .int .i64 (haC (k + 1)).played, .slice A5 0 k5, .slice D5 0 d5]).frozen? ⟨Bc, 2, none⟩ = false := (World.frozen?_setCells _ _ _ _ _).trans fc2
      replace fc3 : (wq.setCells Bc 0 [.int .i64 (haC (k + 1)).epoch, .int .i64 (haC (k + 1)).doing, .int .i64 (haC (k + 1)).e.kind, .int .i64 (haC (k + 1)).e.job, .int .i64 (haC (k + 1)).e.every, .int .i64 (haC (k + 1)).e.time, .int .i64 (haC (k + 1)).e.client, .int .i64 (haC (k + 1)).at_, .int .i64 (haC (k + 1)).link, .int .i64 (haC (k + 1)).played, .slice A5 0 k5, .slice D5 0 d5]).frozen? ⟨Bc, 3, none⟩ = false := (World.frozen?_setCells _ _ _ _ _).trans fc3
      replace fc4 : (wq.setCells Bc 0 [.int .i64 (haC (k + 1)).epoch, .int .i64 (haC (k + 1)).doing, .int .i64 (haC (k + 1)).e.kind, .int .i64 (haC (k + 1)).e.job, .int .i64 (haC (k + 1)).e.every, .int .i64 (haC (k + 1)).e.time, .int .i64 (haC (k + 1)).e.client, .int .i64 (haC (k + 1)).at_, .int .i64 (haC (k + 1)).link, .int .i64 (haC (k + 1)).played, .slice A5 0 k5, .slice D5 0 d5]).frozen? ⟨Bc, 4, none⟩ = false := (World.frozen?_setCells _ _ _ _ _).trans fc4
      replace fc5 : (wq.setCells Bc 0 [.int .i64 (haC (k + 1)).epoch, .int .i64 (haC (k + 1)).doing, .int .i64 (haC (k + 1)).e.kind, .int .i64 (haC (k + 1)).e.job, .int .i64 (haC (k + 1)).e.every, .int .i64 (haC (k + 1)).e.time, .int .i64 (haC (k + 1)).e.client, .int .i64 (haC (k + 1)).at_, .int .i64 (haC (k + 1)).link, .int .i64 (haC (k + 1)).played, .slice A5 0 k5, .slice D5 0 d5]).frozen? ⟨Bc, 5, none⟩ = false := (World.frozen?_setCells _ _ _ _ _).trans fc5
      replace fc6 : (wq.setCells Bc 0 [.int .i64 (haC (k + 1)).epoch, .int .i64 (haC (k + 1)).doing, .int .i64 (haC (k + 1)).e.kind, .int .i64 (haC (k + 1)).e.job, .int .i64 (haC (k + 1)).e.every, .int .i64 (haC (k + 1)).e.time, .int .i64 (haC (k + 1)).e.client, .int .i64 (haC (k + 1)).at_, .int .i64 (haC (k + 1)).link, .int .i64 (haC (k + 1)).played, .slice A5 0 k5, .slice D5 0 d5]).frozen? ⟨Bc, 6, none⟩ = false := (World.frozen?_setCells _ _ _ _ _).trans fc6
      replace fc7 : (wq.setCells Bc 0 [.int .i64 (haC (k + 1)).epoch, .int .i64 (haC (k + 1)).doing, .int .i64 (haC (k + 1)).e.kind, .int .i64 (haC (k + 1)).e.job, .int .i64 (haC (k + 1)).e.every, .int .i64 (haC (k + 1)).e.time, .int .i64 (haC (k + 1)).e.client, .int .i64 (haC (k + 1)).at_, .int .i64 (haC (k + 1)).link, .int .i64 (haC (k + 1)).played, .slice A5 0 k5, .slice D5 0 d5]).frozen? ⟨Bc, 7, none⟩ = false := (World.frozen?_setCells _ _ _ _ _).trans fc7
      replace fc8 : (wq.setCells Bc 0 [.int .i64 (haC (k + 1)).epoch, .int .i64 (haC (k + 1)).doing, .int .i64 (haC (k + 1)).e.kind, .int .i64 (haC (k + 1)).e.job, .int .i64 (haC (k + 1)).e.every, .int .i64 (haC (k + 1)).e.time, .int .i64 (haC (k + 1)).e.client, .int .i64 (haC (k + 1)).at_, .int .i64 (haC (k + 1)).link, .int .i64 (haC (k + 1)).played, .slice A5 0 k5, .slice D5 0 d5]).frozen? ⟨Bc, 8, none⟩ = false := (World.frozen?_setCells _ _ _ _ _).trans fc8
      replace fc9 : (wq.setCells Bc 0 [.int .i64 (haC (k + 1)).epoch, .int .i64 (haC (k + 1)).doing, .int .i64 (haC (k + 1)).e.kind, .int .i64 (haC (k + 1)).e.job, .int .i64 (haC (k + 1)).e.every, .int .i64 (haC (k + 1)).e.time, .int .i64 (haC (k + 1)).e.client, .int .i64 (haC (k + 1)).at_, .int .i64 (haC (k + 1)).link, .int .i64 (haC (k + 1)).played, .slice A5 0 k5, .slice D5 0 d5]).frozen? ⟨Bc, 9, none⟩ = false := (World.frozen?_setCells _ _ _ _ _).trans fc9
      replace fc10 : (wq.setCells Bc 0 [.int .i64 (haC (k + 1)).epoch, .int .i64 (haC (k + 1)).doing, .int .i64 (haC (k + 1)).e.kind, .int .i64 (haC (k + 1)).e.job, .int .i64 (haC (k + 1)).e.every, .int .i64 (haC (k + 1)).e.time, .int .i64 (haC (k + 1)).e.client, .int .i64 (haC (k + 1)).at_, .int .i64 (haC (k + 1)).link, .int .i64 (haC (k + 1)).played, .slice A5 0 k5, .slice D5 0 d5]).frozen? ⟨Bc, 10, none⟩ = false := (World.frozen?_setCells _ _ _ _ _).trans fc10
      replace fc11 : (wq.setCells Bc 0 [.int .i64 (haC (k + 1)).epoch, .int .i64 (haC (k + 1)).doing, .int .i64 (haC (k + 1)).e.kind, .int .i64 (haC (k + 1)).e.job, .int .i64 (haC (k + 1)).e.every, .int .i64 (haC (k + 1)).e.time, .int .i64 (haC (k + 1)).e.client, .int .i64 (haC (k + 1)).at_, .int .i64 (haC (k + 1)).link, .int .i64 (haC (k + 1)).played, .slice A5 0 k5, .slice D5 0 d5]).frozen? ⟨Bc, 11, none⟩ = false := (World.frozen?_setCells _ _ _ _ _).trans fc11
      replace fg0 : (wq.setCells Bc 0 [.int .i64 (haC (k + 1)).epoch, .int .i64 (haC (k + 1)).doing, .int .i64 (haC (k + 1)).e.kind, .int .i64 (haC (k + 1)).e.job, .int .i64 (haC (k + 1)).e.every, .int .i64 (haC (k + 1)).e.time, .int .i64 (haC (k + 1)).e.client, .int .i64 (haC (k + 1)).at_, .int .i64 (haC (k + 1)).link, .int .i64 (haC (k + 1)).played, .slice A5 0 k5, .slice D5 0 d5]).frozen? ⟨Bg, 0, none⟩ = false := (World.frozen?_setCells _ _ _ _ _).trans fg0
      replace g0 : (wq.setCells Bc 0 [.int .i64 (haC (k + 1)).epoch, .int .i64 (haC (k + 1)).doing, .int .i64 (haC (k + 1)).e.kind, .int .i64 (haC (k + 1)).e.job, .int .i64 (haC (k + 1)).e.every, .int .i64 (haC (k + 1)).e.time, .int .i64 (haC (k + 1)).e.client, .int .i64 (haC (k + 1)).at_, .int .i64 (haC (k + 1)).link, .int .i64 (haC (k + 1)).played, .slice A5 0 k5, .slice D5 0 d5]).cell? ⟨Bg, 0, none⟩ = some (.int .i64 1) := (put_out (by simp only; omega)).trans g0
      replace fg1 : (wq.setCells Bc 0 [.int .i64 (haC (k + 1)).epoch, .int .i64 (haC (k + 1)).doing, .int .i64 (haC (k + 1)).e.kind, .int .i64 (haC (k + 1)).e.job, .int .i64 (haC (k + 1)).e.every, .int .i64 (haC (k + 1)).e.time, .int .i64 (haC (k + 1)).e.client, .int .i64 (haC (k + 1)).at_, .int .i64 (haC (k + 1)).link, .int .i64 (haC (k + 1)).played, .slice A5 0 k5, .slice D5 0 d5]).frozen? ⟨Bg, 1, none⟩ = false := (World.frozen?_setCells _ _ _ _ _).trans fg1
      replace g1 : (wq.setCells Bc 0 [.int .i64 (haC (k + 1)).epoch, .int .i64 (haC (k + 1)).doing, .int .i64 (haC (k + 1)).e.kind, .int .i64 (haC (k + 1)).e.job, .int .i64 (haC (k + 1)).e.every, .int .i64 (haC (k + 1)).e.time, .int .i64 (haC (k + 1)).e.client, .int .i64 (haC (k + 1)).at_, .int .i64 (haC (k + 1)).link, .int .i64 (haC (k + 1)).played, .slice A5 0 k5, .slice D5 0 d5]).cell? ⟨Bg, 1, none⟩ = some (.int .i64 1) := (put_out (by simp only; omega)).trans g1
      replace fg2 : (wq.setCells Bc 0 [.int .i64 (haC (k + 1)).epoch, .int .i64 (haC (k + 1)).doing, .int .i64 (haC (k + 1)).e.kind, .int .i64 (haC (k + 1)).e.job, .int .i64 (haC (k + 1)).e.every, .int .i64 (haC (k + 1)).e.time, .int .i64 (haC (k + 1)).e.client, .int .i64 (haC (k + 1)).at_, .int .i64 (haC (k + 1)).link, .int .i64 (haC (k + 1)).played, .slice A5 0 k5, .slice D5 0 d5]).frozen? ⟨Bg, 2, none⟩ = false := (World.frozen?_setCells _ _ _ _ _).trans fg2
      replace g2 : (wq.setCells Bc 0 [.int .i64 (haC (k + 1)).epoch, .int .i64 (haC (k + 1)).doing, .int .i64 (haC (k + 1)).e.kind, .int .i64 (haC (k + 1)).e.job, .int .i64 (haC (k + 1)).e.every, .int .i64 (haC (k + 1)).e.time, .int .i64 (haC (k + 1)).e.client, .int .i64 (haC (k + 1)).at_, .int .i64 (haC (k + 1)).link, .int .i64 (haC (k + 1)).played, .slice A5 0 k5, .slice D5 0 d5]).cell? ⟨Bg, 2, none⟩ = some (.int .i64 1) := (put_out (by simp only; omega)).trans g2
      replace fg3 : (wq.setCells Bc 0 [.int .i64 (haC (k + 1)).epoch, .int .i64 (haC (k + 1)).doing, .int .i64 (haC (k + 1)).e.kind, .int .i64 (haC (k + 1)).e.job, .int .i64 (haC (k + 1)).e.every, .int .i64 (haC (k + 1)).e.time, .int .i64 (haC (k + 1)).e.client, .int .i64 (haC (k + 1)).at_, .int .i64 (haC (k + 1)).link, .int .i64 (haC (k + 1)).played, .slice A5 0 k5, .slice D5 0 d5]).frozen? ⟨Bg, 3, none⟩ = false := (World.frozen?_setCells _ _ _ _ _).trans fg3
      replace g3 : (wq.setCells Bc 0 [.int .i64 (haC (k + 1)).epoch, .int .i64 (haC (k + 1)).doing, .int .i64 (haC (k + 1)).e.kind, .int .i64 (haC (k + 1)).e.job, .int .i64 (haC (k + 1)).e.every, .int .i64 (haC (k + 1)).e.time, .int .i64 (haC (k + 1)).e.client, .int .i64 (haC (k + 1)).at_, .int .i64 (haC (k + 1)).link, .int .i64 (haC (k + 1)).played, .slice A5 0 k5, .slice D5 0 d5]).cell? ⟨Bg, 3, none⟩ = some (.int .i64 2) := (put_out (by simp only; omega)).trans g3
      replace fg4 : (wq.setCells Bc 0 [.int .i64 (haC (k + 1)).epoch, .int .i64 (haC (k + 1)).doing, .int .i64 (haC (k + 1)).e.kind, .int .i64 (haC (k + 1)).e.job, .int .i64 (haC (k + 1)).e.every, .int .i64 (haC (k + 1)).e.time, .int .i64 (haC (k + 1)).e.client, .int .i64 (haC (k + 1)).at_, .int .i64 (haC (k + 1)).link, .int .i64 (haC (k + 1)).played, .slice A5 0 k5, .slice D5 0 d5]).frozen? ⟨Bg, 4, none⟩ = false := (World.frozen?_setCells _ _ _ _ _).trans fg4
      replace g4 : (wq.setCells Bc 0 [.int .i64 (haC (k + 1)).epoch, .int .i64 (haC (k + 1)).doing, .int .i64 (haC (k + 1)).e.kind, .int .i64 (haC (k + 1)).e.job, .int .i64 (haC (k + 1)).e.every, .int .i64 (haC (k + 1)).e.time, .int .i64 (haC (k + 1)).e.client, .int .i64 (haC (k + 1)).at_, .int .i64 (haC (k + 1)).link, .int .i64 (haC (k + 1)).played, .slice A5 0 k5, .slice D5 0 d5]).cell? ⟨Bg, 4, none⟩ = some (.int .i64 5) := (put_out (by simp only; omega)).trans g4
      replace fg5 : (wq.setCells Bc 0 [.int .i64 (haC (k + 1)).epoch, .int .i64 (haC (k + 1)).doing, .int .i64 (haC (k + 1)).e.kind, .int .i64 (haC (k + 1)).e.job, .int .i64 (haC (k + 1)).e.every, .int .i64 (haC (k + 1)).e.time, .int .i64 (haC (k + 1)).e.client, .int .i64 (haC (k + 1)).at_, .int .i64 (haC (k + 1)).link, .int .i64 (haC (k + 1)).played, .slice A5 0 k5, .slice D5 0 d5]).frozen? ⟨Bg, 5, none⟩ = false := (World.frozen?_setCells _ _ _ _ _).trans fg5
      replace g5 : (wq.setCells Bc 0 [.int .i64 (haC (k + 1)).epoch, .int .i64 (haC (k + 1)).doing, .int .i64 (haC (k + 1)).e.kind, .int .i64 (haC (k + 1)).e.job, .int .i64 (haC (k + 1)).e.every, .int .i64 (haC (k + 1)).e.time, .int .i64 (haC (k + 1)).e.client, .int .i64 (haC (k + 1)).at_, .int .i64 (haC (k + 1)).link, .int .i64 (haC (k + 1)).played, .slice A5 0 k5, .slice D5 0 d5]).cell? ⟨Bg, 5, none⟩ = some (.int .i64 10) := (put_out (by simp only; omega)).trans g5
      replace fg6 : (wq.setCells Bc 0 [.int .i64 (haC (k + 1)).epoch, .int .i64 (haC (k + 1)).doing, .int .i64 (haC (k + 1)).e.kind, .int .i64 (haC (k + 1)).e.job, .int .i64 (haC (k + 1)).e.every, .int .i64 (haC (k + 1)).e.time, .int .i64 (haC (k + 1)).e.client, .int .i64 (haC (k + 1)).at_, .int .i64 (haC (k + 1)).link, .int .i64 (haC (k + 1)).played, .slice A5 0 k5, .slice D5 0 d5]).frozen? ⟨Bg, 6, none⟩ = false := (World.frozen?_setCells _ _ _ _ _).trans fg6
      replace g6 : (wq.setCells Bc 0 [.int .i64 (haC (k + 1)).epoch, .int .i64 (haC (k + 1)).doing, .int .i64 (haC (k + 1)).e.kind, .int .i64 (haC (k + 1)).e.job, .int .i64 (haC (k + 1)).e.every, .int .i64 (haC (k + 1)).e.time, .int .i64 (haC (k + 1)).e.client, .int .i64 (haC (k + 1)).at_, .int .i64 (haC (k + 1)).link, .int .i64 (haC (k + 1)).played, .slice A5 0 k5, .slice D5 0 d5]).cell? ⟨Bg, 6, none⟩ = some (.int .i64 0) := (put_out (by simp only; omega)).trans g6
      replace fg7 : (wq.setCells Bc 0 [.int .i64 (haC (k + 1)).epoch, .int .i64 (haC (k + 1)).doing, .int .i64 (haC (k + 1)).e.kind, .int .i64 (haC (k + 1)).e.job, .int .i64 (haC (k + 1)).e.every, .int .i64 (haC (k + 1)).e.time, .int .i64 (haC (k + 1)).e.client, .int .i64 (haC (k + 1)).at_, .int .i64 (haC (k + 1)).link, .int .i64 (haC (k + 1)).played, .slice A5 0 k5, .slice D5 0 d5]).frozen? ⟨Bg, 7, none⟩ = false := (World.frozen?_setCells _ _ _ _ _).trans fg7
      replace g7 : (wq.setCells Bc 0 [.int .i64 (haC (k + 1)).epoch, .int .i64 (haC (k + 1)).doing, .int .i64 (haC (k + 1)).e.kind, .int .i64 (haC (k + 1)).e.job, .int .i64 (haC (k + 1)).e.every, .int .i64 (haC (k + 1)).e.time, .int .i64 (haC (k + 1)).e.client, .int .i64 (haC (k + 1)).at_, .int .i64 (haC (k + 1)).link, .int .i64 (haC (k + 1)).played, .slice A5 0 k5, .slice D5 0 d5]).cell? ⟨Bg, 7, none⟩ = some (.int .i64 0) := (put_out (by simp only; omega)).trans g7
      replace fg8 : (wq.setCells Bc 0 [.int .i64 (haC (k + 1)).epoch, .int .i64 (haC (k + 1)).doing, .int .i64 (haC (k + 1)).e.kind, .int .i64 (haC (k + 1)).e.job, .int .i64 (haC (k + 1)).e.every, .int .i64 (haC (k + 1)).e.time, .int .i64 (haC (k + 1)).e.client, .int .i64 (haC (k + 1)).at_, .int .i64 (haC (k + 1)).link, .int .i64 (haC (k + 1)).played, .slice A5 0 k5, .slice D5 0 d5]).frozen? ⟨Bg, 8, none⟩ = false := (World.frozen?_setCells _ _ _ _ _).trans fg8
      replace g8 : (wq.setCells Bc 0 [.int .i64 (haC (k + 1)).epoch, .int .i64 (haC (k + 1)).doing, .int .i64 (haC (k + 1)).e.kind, .int .i64 (haC (k + 1)).e.job, .int .i64 (haC (k + 1)).e.every, .int .i64 (haC (k + 1)).e.time, .int .i64 (haC (k + 1)).e.client, .int .i64 (haC (k + 1)).at_, .int .i64 (haC (k + 1)).link, .int .i64 (haC (k + 1)).played, .slice A5 0 k5, .slice D5 0 d5]).cell? ⟨Bg, 8, none⟩ = some (.int .i64 0) := (put_out (by simp only; omega)).trans g8
      replace fg9 : (wq.setCells Bc 0 [.int .i64 (haC (k + 1)).epoch, .int .i64 (haC (k + 1)).doing, .int .i64 (haC (k + 1)).e.kind, .int .i64 (haC (k + 1)).e.job, .int .i64 (haC (k + 1)).e.every, .int .i64 (haC (k + 1)).e.time, .int .i64 (haC (k + 1)).e.client, .int .i64 (haC (k + 1)).at_, .int .i64 (haC (k + 1)).link, .int .i64 (haC (k + 1)).played, .slice A5 0 k5, .slice D5 0 d5]).frozen? ⟨Bg, 9, none⟩ = false := (World.frozen?_setCells _ _ _ _ _).trans fg9
      replace g9 : (wq.setCells Bc 0 [.int .i64 (haC (k + 1)).epoch, .int .i64 (haC (k + 1)).doing, .int .i64 (haC (k + 1)).e.kind, .int .i64 (haC (k + 1)).e.job, .int .i64 (haC (k + 1)).e.every, .int .i64 (haC (k + 1)).e.time, .int .i64 (haC (k + 1)).e.client, .int .i64 (haC (k + 1)).at_, .int .i64 (haC (k + 1)).link, .int .i64 (haC (k + 1)).played, .slice A5 0 k5, .slice D5 0 d5]).cell? ⟨Bg, 9, none⟩ = some (.int .i64 0) := (put_out (by simp only; omega)).trans g9
      replace fg10 : (wq.setCells Bc 0 [.int .i64 (haC (k + 1)).epoch, .int .i64 (haC (k + 1)).doing, .int .i64 (haC (k + 1)).e.kind, .int .i64 (haC (k + 1)).e.job, .int .i64 (haC (k + 1)).e.every, .int .i64 (haC (k + 1)).e.time, .int .i64 (haC (k + 1)).e.client, .int .i64 (haC (k + 1)).at_, .int .i64 (haC (k + 1)).link, .int .i64 (haC (k + 1)).played, .slice A5 0 k5, .slice D5 0 d5]).frozen? ⟨Bg, 10, none⟩ = false := (World.frozen?_setCells _ _ _ _ _).trans fg10
      replace g10 : (wq.setCells Bc 0 [.int .i64 (haC (k + 1)).epoch, .int .i64 (haC (k + 1)).doing, .int .i64 (haC (k + 1)).e.kind, .int .i64 (haC (k + 1)).e.job, .int .i64 (haC (k + 1)).e.every, .int .i64 (haC (k + 1)).e.time, .int .i64 (haC (k + 1)).e.client, .int .i64 (haC (k + 1)).at_, .int .i64 (haC (k + 1)).link, .int .i64 (haC (k + 1)).played, .slice A5 0 k5, .slice D5 0 d5]).cell? ⟨Bg, 10, none⟩ = some (.slice A3 0 k3) := (put_out (by simp only; omega)).trans g10
      replace fg11 : (wq.setCells Bc 0 [.int .i64 (haC (k + 1)).epoch, .int .i64 (haC (k + 1)).doing, .int .i64 (haC (k + 1)).e.kind, .int .i64 (haC (k + 1)).e.job, .int .i64 (haC (k + 1)).e.every, .int .i64 (haC (k + 1)).e.time, .int .i64 (haC (k + 1)).e.client, .int .i64 (haC (k + 1)).at_, .int .i64 (haC (k + 1)).link, .int .i64 (haC (k + 1)).played, .slice A5 0 k5, .slice D5 0 d5]).frozen? ⟨Bg, 11, none⟩ = false := (World.frozen?_setCells _ _ _ _ _).trans fg11
      replace g11 : (wq.setCells Bc 0 [.int .i64 (haC (k + 1)).epoch, .int .i64 (haC (k + 1)).doing, .int .i64 (haC (k + 1)).e.kind, .int .i64 (haC (k + 1)).e.job, .int .i64 (haC (k + 1)).e.every, .int .i64 (haC (k + 1)).e.time, .int .i64 (haC (k + 1)).e.client, .int .i64 (haC (k + 1)).at_, .int .i64 (haC (k + 1)).link, .int .i64 (haC (k + 1)).played, .slice A5 0 k5, .slice D5 0 d5]).cell? ⟨Bg, 11, none⟩ = some (.slice D3 0 d3) := (put_out (by simp only; omega)).trans g11
      clear c0 c1 c2 c3 c4 c5 c6 c7 c8 c9 c10 c11
      generalize (wq.setCells Bc 0 [.int .i64 (haC (k + 1)).epoch, .int .i64 (haC (k + 1)).doing, .int .i64 (haC (k + 1)).e.kind, .int .i64 (haC (k + 1)).e.job, .int .i64 (haC (k + 1)).e.every, .int .i64 (haC (k + 1)).e.time, .int .i64 (haC (k + 1)).e.client, .int .i64 (haC (k + 1)).at_, .int .i64 (haC (k + 1)).link, .int .i64 (haC (k + 1)).played, .slice A5 0 k5, .slice D5 0 d5]) = wr2 at *
      have c0 := F0 0 _ rfl
      have c1 := F0 1 _ rfl
      have c2 := F0 2 _ rfl
      have c3 := F0 3 _ rfl
      have c4 := F0 4 _ rfl
      have c5 := F0 5 _ rfl
      have c6 := F0 6 _ rfl
      have c7 := F0 7 _ rfl
      have c8 := F0 8 _ rfl
      have c9 := F0 9 _ rfl
      have c10 := F0 10 _ rfl
      have c11 := F0 11 _ rfl
      clear F0
      go_wp2_with fail
      go_roundw
      case measure => simp [intOf] <;> omega
      case rel =>
        have hk1 := HLT.out
        exact ⟨k + 1, A5, k5, D5, d5, by omega, by go_num, c0, fc0, c1, fc1, c2, fc2, c3, fc3, c4, fc4, c5, fc5, c6, fc6, c7, fc7, c8, fc8, c9, fc9, c10, fc10, c11, fc11, g0, fg0, g1, fg1, g2, fg2, g3, fg3, g4, fg4, g5, fg5, g6, fg6, g7, fg7, g8, fg8, g9, fg9, g10, fg10, g11, fg11, hon⟩
  · obtain rfl : k = 3 := by omega
    clear hlt hk
    replace c0 : wr.cell? ⟨Bc, 0, none⟩ = some (.int .i64 1) := c0
    replace c1 : wr.cell? ⟨Bc, 1, none⟩ = some (.int .i64 0) := c1
    replace c2 : wr.cell? ⟨Bc, 2, none⟩ = some (.int .i64 0) := c2
    replace c3 : wr.cell? ⟨Bc, 3, none⟩ = some (.int .i64 0) := c3
    replace c4 : wr.cell? ⟨Bc, 4, none⟩ = some (.int .i64 0) := c4
    replace c5 : wr.cell? ⟨Bc, 5, none⟩ = some (.int .i64 0) := c5
    replace c6 : wr.cell? ⟨Bc, 6, none⟩ = some (.int .i64 0) := c6
    replace c7 : wr.cell? ⟨Bc, 7, none⟩ = some (.int .i64 0) := c7
    replace c8 : wr.cell? ⟨Bc, 8, none⟩ = some (.int .i64 0) := c8
    replace c9 : wr.cell? ⟨Bc, 9, none⟩ = some (.int .i64 0) := c9
    replace c10 : wr.cell? ⟨Bc, 10, none⟩ = some (.slice A 0 kk) := c10
    replace c11 : wr.cell? ⟨Bc, 11, none⟩ = some (.slice D 0 dd) := c11
    go_wp2_with fail
    refine Calls.mono (ClNew_calls _) ?_
    rintro e w9 ⟨rfl, hb⟩
    replace fc0 := frozB hb c0 fc0; replace c0 := cellB hb c0
    replace fc1 := frozB hb c1 fc1; replace c1 := cellB hb c1
    replace fc2 := frozB hb c2 fc2; replace c2 := cellB hb c2
    replace fc3 := frozB hb c3 fc3; replace c3 := cellB hb c3
    replace fc4 := frozB hb c4 fc4; replace c4 := cellB hb c4
    replace fc5 := frozB hb c5 fc5; replace c5 := cellB hb c5
    replace fc6 := frozB hb c6 fc6; replace c6 := cellB hb c6
    replace fc7 := frozB hb c7 fc7; replace c7 := cellB hb c7
    replace fc8 := frozB hb c8 fc8; replace c8 := cellB hb c8
    replace fc9 := frozB hb c9 fc9; replace c9 := cellB hb c9
    replace fc10 := frozB hb c10 fc10; replace c10 := cellB hb c10
    replace fc11 := frozB hb c11 fc11; replace c11 := cellB hb c11
    replace fg0 := frozB hb g0 fg0; replace g0 := cellB hb g0
    replace fg1 := frozB hb g1 fg1; replace g1 := cellB hb g1
    replace fg2 := frozB hb g2 fg2; replace g2 := cellB hb g2
    replace fg3 := frozB hb g3 fg3; replace g3 := cellB hb g3
    replace fg4 := frozB hb g4 fg4; replace g4 := cellB hb g4
    replace fg5 := frozB hb g5 fg5; replace g5 := cellB hb g5
    replace fg6 := frozB hb g6 fg6; replace g6 := cellB hb g6
    replace fg7 := frozB hb g7 fg7; replace g7 := cellB hb g7
    replace fg8 := frozB hb g8 fg8; replace g8 := cellB hb g8
    replace fg9 := frozB hb g9 fg9; replace g9 := cellB hb g9
    replace fg10 := frozB hb g10 fg10; replace g10 := cellB hb g10
    replace fg11 := frozB hb g11 fg11; replace g11 := cellB hb g11
    replace hon := Onto.to hon hb
    clear hb
    go_wp2_with fail
    refine Calls.mono (ClFill_calls 1 0 0 0 0 ⟨0, 0, 0, 0, 0⟩ none none 0 0 0 0 Book.none 3 _ (SJ0 _ _) (SR0 _ _)) ?_
    rw [hd_fill]
    rintro e w10 ⟨A6, n6, k6, D6, m6, d6, rfl, s6, t6, hb, _, _, _, _⟩
    obtain rfl : 0 = n6 := by simpa [Book.none] using s6.len
    obtain rfl : 0 = m6 := by simpa [Book.none] using t6.len
    clear s6 t6
    replace fc0 := frozB hb c0 fc0; replace c0 := cellB hb c0
    replace fc1 := frozB hb c1 fc1; replace c1 := cellB hb c1
    replace fc2 := frozB hb c2 fc2; replace c2 := cellB hb c2
    replace fc3 := frozB hb c3 fc3; replace c3 := cellB hb c3
    replace fc4 := frozB hb c4 fc4; replace c4 := cellB hb c4
    replace fc5 := frozB hb c5 fc5; replace c5 := cellB hb c5
    replace fc6 := frozB hb c6 fc6; replace c6 := cellB hb c6
    replace fc7 := frozB hb c7 fc7; replace c7 := cellB hb c7
    replace fc8 := frozB hb c8 fc8; replace c8 := cellB hb c8
    replace fc9 := frozB hb c9 fc9; replace c9 := cellB hb c9
    replace fc10 := frozB hb c10 fc10; replace c10 := cellB hb c10
    replace fc11 := frozB hb c11 fc11; replace c11 := cellB hb c11
    replace fg0 := frozB hb g0 fg0; replace g0 := cellB hb g0
    replace fg1 := frozB hb g1 fg1; replace g1 := cellB hb g1
    replace fg2 := frozB hb g2 fg2; replace g2 := cellB hb g2
    replace fg3 := frozB hb g3 fg3; replace g3 := cellB hb g3
    replace fg4 := frozB hb g4 fg4; replace g4 := cellB hb g4
    replace fg5 := frozB hb g5 fg5; replace g5 := cellB hb g5
    replace fg6 := frozB hb g6 fg6; replace g6 := cellB hb g6
    replace fg7 := frozB hb g7 fg7; replace g7 := cellB hb g7
    replace fg8 := frozB hb g8 fg8; replace g8 := cellB hb g8
    replace fg9 := frozB hb g9 fg9; replace g9 := cellB hb g9
    replace fg10 := frozB hb g10 fg10; replace g10 := cellB hb g10
    replace fg11 := frozB hb g11 fg11; replace g11 := cellB hb g11
    replace hon := Onto.to hon hb
    clear hb
    go_upto_region 12 with fail
    have hxw : w.heap.size ≤ w10.heap.size := hon.size
    have hcx : Bc < w10.heap.size := World.block_lt_of_cell? _ _ c0
    have hgx : Bg < w10.heap.size := World.block_lt_of_cell? _ _ g0
    have hbx : Onto w10 (w10.alloc (Obj.cells #[.int .i64 1, .int .i64 2, .int .i64 0, .int .i64 0, .int .i64 0, .int .i64 0, .int .i64 0, .int .i64 3, .int .i64 0, .int .i64 0, .slice A6 0 k6, .slice D6 0 d6] 56)) := (Below.refl _ _).alloc (Nat.le_refl _) _
    replace fc0 := frozB hbx c0 fc0; replace c0 := cellB hbx c0
    replace fc1 := frozB hbx c1 fc1; replace c1 := cellB hbx c1
    replace fc2 := frozB hbx c2 fc2; replace c2 := cellB hbx c2
    replace fc3 := frozB hbx c3 fc3; replace c3 := cellB hbx c3
    replace fc4 := frozB hbx c4 fc4; replace c4 := cellB hbx c4
    replace fc5 := frozB hbx c5 fc5; replace c5 := cellB hbx c5
    replace fc6 := frozB hbx c6 fc6; replace c6 := cellB hbx c6
    replace fc7 := frozB hbx c7 fc7; replace c7 := cellB hbx c7
    replace fc8 := frozB hbx c8 fc8; replace c8 := cellB hbx c8
    replace fc9 := frozB hbx c9 fc9; replace c9 := cellB hbx c9
    replace fc10 := frozB hbx c10 fc10; replace c10 := cellB hbx c10
    replace fc11 := frozB hbx c11 fc11; replace c11 := cellB hbx c11
    replace fg0 := frozB hbx g0 fg0; replace g0 := cellB hbx g0
    replace fg1 := frozB hbx g1 fg1; replace g1 := cellB hbx g1
    replace fg2 := frozB hbx g2 fg2; replace g2 := cellB hbx g2
    replace fg3 := frozB hbx g3 fg3; replace g3 := cellB hbx g3
    replace fg4 := frozB hbx g4 fg4; replace g4 := cellB hbx g4
    replace fg5 := frozB hbx g5 fg5; replace g5 := cellB hbx g5
    replace fg6 := frozB hbx g6 fg6; replace g6 := cellB hbx g6
    replace fg7 := frozB hbx g7 fg7; replace g7 := cellB hbx g7
    replace fg8 := frozB hbx g8 fg8; replace g8 := cellB hbx g8
    replace fg9 := frozB hbx g9 fg9; replace g9 := cellB hbx g9
    replace fg10 := frozB hbx g10 fg10; replace g10 := cellB hbx g10
    replace fg11 := frozB hbx g11 fg11; replace g11 := cellB hbx g11
    replace hon := Onto.to hon hbx
    have x0 : (w10.alloc (Obj.cells #[.int .i64 1, .int .i64 2, .int .i64 0, .int .i64 0, .int .i64 0, .int .i64 0, .int .i64 0, .int .i64 3, .int .i64 0, .int .i64 0, .slice A6 0 k6, .slice D6 0 d6] 56)).cell? ⟨w10.heap.size, 0, none⟩ = some (.int .i64 1) := by simp [go_sem]
    have fx0 : (w10.alloc (Obj.cells #[.int .i64 1, .int .i64 2, .int .i64 0, .int .i64 0, .int .i64 0, .int .i64 0, .int .i64 0, .int .i64 3, .int .i64 0, .int .i64 0, .slice A6 0 k6, .slice D6 0 d6] 56)).frozen? ⟨w10.heap.size, 0, none⟩ = false := by simp [go_sem]
    have x1 : (w10.alloc (Obj.cells #[.int .i64 1, .int .i64 2, .int .i64 0, .int .i64 0, .int .i64 0, .int .i64 0, .int .i64 0, .int .i64 3, .int .i64 0, .int .i64 0, .slice A6 0 k6, .slice D6 0 d6] 56)).cell? ⟨w10.heap.size, 1, none⟩ = some (.int .i64 2) := by simp [go_sem]
    have fx1 : (w10.alloc (Obj.cells #[.int .i64 1, .int .i64 2, .int .i64 0, .int .i64 0, .int .i64 0, .int .i64 0, .int .i64 0, .int .i64 3, .int .i64 0, .int .i64 0, .slice A6 0 k6, .slice D6 0 d6] 56)).frozen? ⟨w10.heap.size, 1, none⟩ = false := by simp [go_sem]
    have x2 : (w10.alloc (Obj.cells #[.int .i64 1, .int .i64 2, .int .i64 0, .int .i64 0, .int .i64 0, .int .i64 0, .int .i64 0, .int .i64 3, .int .i64 0, .int .i64 0, .slice A6 0 k6, .slice D6 0 d6] 56)).cell? ⟨w10.heap.size, 2, none⟩ = some (.int .i64 0) := by simp [go_sem]
    have fx2 : (w10.alloc (Obj.cells #[.int .i64 1, .int .i64 2, .int .i64 0, .int .i64 0, .int .i64 0, .int .i64 0, .int .i64 0, .int .i64 3, .int .i64 0, .int .i64 0, .slice A6 0 k6, .slice D6 0 d6] 56)).frozen? ⟨w10.heap.size, 2, none⟩ = false := by simp [go_sem]
    have x3 : (w10.alloc (Obj.cells #[.int .i64 1, .int .i64 2, .int .i64 0, .int .i64 0, .int .i64 0, .int .i64 0, .int .i64 0, .int .i64 3, .int .i64 0, .int .i64 0, .slice A6 0 k6, .slice D6 0 d6] 56)).cell? ⟨w10.heap.size, 3, none⟩ = some (.int .i64 0) := by simp [go_sem]
    have fx3 : (w10.alloc (Obj.cells #[.int .i64 1, .int .i64 2, .int .i64 0, .int .i64 0, .int .i64 0, .int .i64 0, .int .i64 0, .int .i64 3, .int .i64 0, .int .i64 0, .slice A6 0 k6, .slice D6 0 d6] 56)).frozen? ⟨w10.heap.size, 3, none⟩ = false := by simp [go_sem]
    have x4 : (w10.alloc (Obj.cells #[.int .i64 1, .int .i64 2, .int .i64 0, .int .i64 0, .int .i64 0, .int .i64 0, .int .i64 0, .int .i64 3, .int .i64 0, .int .i64 0, .slice A6 0 k6, .slice D6 0 d6] 56)).cell? ⟨w10.heap.size, 4, none⟩ = some (.int .i64 0) := by simp [go_sem]
    have fx4 : (w10.alloc (Obj.cells #[.int .i64 1, .int .i64 2, .int .i64 0, .int .i64 0, .int .i64 0, .int .i64 0, .int .i64 0, .int .i64 3, .int .i64 0, .int .i64 0, .slice A6 0 k6, .slice D6 0 d6] 56)).frozen? ⟨w10.heap.size, 4, none⟩ = false := by simp [go_sem]
    have x5 : (w10.alloc (Obj.cells #[.int .i64 1, .int .i64 2, .int .i64 0, .int .i64 0, .int .i64 0, .int .i64 0, .int .i64 0, .int .i64 3, .int .i64 0, .int .i64 0, .slice A6 0 k6, .slice D6 0 d6] 56)).cell? ⟨w10.heap.size, 5, none⟩ = some (.int .i64 0) := by simp [go_sem]
    have fx5 : (w10.alloc (Obj.cells #[.int .i64 1, .int .i64 2, .int .i64 0, .int .i64 0, .int .i64 0, .int .i64 0, .int .i64 0, .int .i64 3, .int .i64 0, .int .i64 0, .slice A6 0 k6, .slice D6 0 d6] 56)).frozen? ⟨w10.heap.size, 5, none⟩ = false := by simp [go_sem]
    have x6 : (w10.alloc (Obj.cells #[.int .i64 1, .int .i64 2, .int .i64 0, .int .i64 0, .int .i64 0, .int .i64 0, .int .i64 0, .int .i64 3, .int .i64 0, .int .i64 0, .slice A6 0 k6, .slice D6 0 d6] 56)).cell? ⟨w10.heap.size, 6, none⟩ = some (.int .i64 0) := by simp [go_sem]
    have fx6 : (w10.alloc (Obj.cells #[.int .i64 1, .int .i64 2, .int .i64 0, .int .i64 0, .int .i64 0, .int .i64 0, .int .i64 0, .int .i64 3, .int .i64 0, .int .i64 0, .slice A6 0 k6, .slice D6 0 d6] 56)).frozen? ⟨w10.heap.size, 6, none⟩ = false := by simp [go_sem]
    have x7 : (w10.alloc (Obj.cells #[.int .i64 1, .int .i64 2, .int .i64 0, .int .i64 0, .int .i64 0, .int .i64 0, .int .i64 0, .int .i64 3, .int .i64 0, .int .i64 0, .slice A6 0 k6, .slice D6 0 d6] 56)).cell? ⟨w10.heap.size, 7, none⟩ = some (.int .i64 3) := by simp [go_sem]
    have fx7 : (w10.alloc (Obj.cells #[.int .i64 1, .int .i64 2, .int .i64 0, .int .i64 0, .int .i64 0, .int .i64 0, .int .i64 0, .int .i64 3, .int .i64 0, .int .i64 0, .slice A6 0 k6, .slice D6 0 d6] 56)).frozen? ⟨w10.heap.size, 7, none⟩ = false := by simp [go_sem]
    have x8 : (w10.alloc (Obj.cells #[.int .i64 1, .int .i64 2, .int .i64 0, .int .i64 0, .int .i64 0, .int .i64 0, .int .i64 0, .int .i64 3, .int .i64 0, .int .i64 0, .slice A6 0 k6, .slice D6 0 d6] 56)).cell? ⟨w10.heap.size, 8, none⟩ = some (.int .i64 0) := by simp [go_sem]
    have fx8 : (w10.alloc (Obj.cells #[.int .i64 1, .int .i64 2, .int .i64 0, .int .i64 0, .int .i64 0, .int .i64 0, .int .i64 0, .int .i64 3, .int .i64 0, .int .i64 0, .slice A6 0 k6, .slice D6 0 d6] 56)).frozen? ⟨w10.heap.size, 8, none⟩ = false := by simp [go_sem]
    have x9 : (w10.alloc (Obj.cells #[.int .i64 1, .int .i64 2, .int .i64 0, .int .i64 0, .int .i64 0, .int .i64 0, .int .i64 0, .int .i64 3, .int .i64 0, .int .i64 0, .slice A6 0 k6, .slice D6 0 d6] 56)).cell? ⟨w10.heap.size, 9, none⟩ = some (.int .i64 0) := by simp [go_sem]
    have fx9 : (w10.alloc (Obj.cells #[.int .i64 1, .int .i64 2, .int .i64 0, .int .i64 0, .int .i64 0, .int .i64 0, .int .i64 0, .int .i64 3, .int .i64 0, .int .i64 0, .slice A6 0 k6, .slice D6 0 d6] 56)).frozen? ⟨w10.heap.size, 9, none⟩ = false := by simp [go_sem]
    have x10 : (w10.alloc (Obj.cells #[.int .i64 1, .int .i64 2, .int .i64 0, .int .i64 0, .int .i64 0, .int .i64 0, .int .i64 0, .int .i64 3, .int .i64 0, .int .i64 0, .slice A6 0 k6, .slice D6 0 d6] 56)).cell? ⟨w10.heap.size, 10, none⟩ = some (.slice A6 0 k6) := by simp [go_sem]
    have fx10 : (w10.alloc (Obj.cells #[.int .i64 1, .int .i64 2, .int .i64 0, .int .i64 0, .int .i64 0, .int .i64 0, .int .i64 0, .int .i64 3, .int .i64 0, .int .i64 0, .slice A6 0 k6, .slice D6 0 d6] 56)).frozen? ⟨w10.heap.size, 10, none⟩ = false := by simp [go_sem]
    have x11 : (w10.alloc (Obj.cells #[.int .i64 1, .int .i64 2, .int .i64 0, .int .i64 0, .int .i64 0, .int .i64 0, .int .i64 0, .int .i64 3, .int .i64 0, .int .i64 0, .slice A6 0 k6, .slice D6 0 d6] 56)).cell? ⟨w10.heap.size, 11, none⟩ = some (.slice D6 0 d6) := by simp [go_sem]
    have fx11 : (w10.alloc (Obj.cells #[.int .i64 1, .int .i64 2, .int .i64 0, .int .i64 0, .int .i64 0, .int .i64 0, .int .i64 0, .int .i64 3, .int .i64 0, .int .i64 0, .slice A6 0 k6, .slice D6 0 d6] 56)).frozen? ⟨w10.heap.size, 11, none⟩ = false := by simp [go_sem]
    change Code.wp _ _ _ _ (w10.alloc (Obj.cells #[.int .i64 1, .int .i64 2, .int .i64 0, .int .i64 0, .int .i64 0, .int .i64 0, .int .i64 0, .int .i64 3, .int .i64 0, .int .i64 0, .slice A6 0 k6, .slice D6 0 d6] 56))
    clear hbx
    generalize (w10.alloc (Obj.cells #[.int .i64 1, .int .i64 2, .int .i64 0, .int .i64 0, .int .i64 0, .int .i64 0, .int .i64 0, .int .i64 3, .int .i64 0, .int .i64 0, .slice A6 0 k6, .slice D6 0 d6] 56)) = w11 at *
    generalize w10.heap.size = Bx at *
    go_region_law (first
      | (go_simp; go_at_call 60; refine Calls.mono (put_calls _ _ _ _) ?_; rintro e wp ⟨rfl, hbp⟩; have c0p := cellB hbp c0; have fc0p := frozB hbp c0 fc0; have c1p := cellB hbp c1; have fc1p := frozB hbp c1 fc1; have c2p := cellB hbp c2; have fc2p := frozB hbp c2 fc2; have c3p := cellB hbp c3; have fc3p := frozB hbp c3 fc3; have c4p := cellB hbp c4; have fc4p := frozB hbp c4 fc4; have c5p := cellB hbp c5; have fc5p := frozB hbp c5 fc5; have c6p := cellB hbp c6; have fc6p := frozB hbp c6 fc6; have c7p := cellB hbp c7; have fc7p := frozB hbp c7 fc7; have c8p := cellB hbp c8; have fc8p := frozB hbp c8 fc8; have c9p := cellB hbp c9; have fc9p := frozB hbp c9 fc9; have c10p := cellB hbp c10; have fc10p := frozB hbp c10 fc10; have c11p := cellB hbp c11; have fc11p := frozB hbp c11 fc11; have g0p := cellB hbp g0; have fg0p := frozB hbp g0 fg0; have g1p := cellB hbp g1; have fg1p := frozB hbp g1 fg1; have g2p := cellB hbp g2; have fg2p := frozB hbp g2 fg2; have g3p := cellB hbp g3; have fg3p := frozB hbp g3 fg3; have g4p := cellB hbp g4; have fg4p := frozB hbp g4 fg4; have g5p := cellB hbp g5; have fg5p := frozB hbp g5 fg5; have g6p := cellB hbp g6; have fg6p := frozB hbp g6 fg6; have g7p := cellB hbp g7; have fg7p := frozB hbp g7 fg7; have g8p := cellB hbp g8; have fg8p := frozB hbp g8 fg8; have g9p := cellB hbp g9; have fg9p := frozB hbp g9 fg9; have g10p := cellB hbp g10; have fg10p := frozB hbp g10 fg10; have g11p := cellB hbp g11; have fg11p := frozB hbp g11 fg11; have x0p := cellB hbp x0; have fx0p := frozB hbp x0 fx0; have x1p := cellB hbp x1; have fx1p := frozB hbp x1 fx1; have x2p := cellB hbp x2; have fx2p := frozB hbp x2 fx2; have x3p := cellB hbp x3; have fx3p := frozB hbp x3 fx3; have x4p := cellB hbp x4; have fx4p := frozB hbp x4 fx4; have x5p := cellB hbp x5; have fx5p := frozB hbp x5 fx5; have x6p := cellB hbp x6; have fx6p := frozB hbp x6 fx6; have x7p := cellB hbp x7; have fx7p := frozB hbp x7 fx7; have x8p := cellB hbp x8; have fx8p := frozB hbp x8 fx8; have x9p := cellB hbp x9; have fx9p := frozB hbp x9 fx9; have x10p := cellB hbp x10; have fx10p := frozB hbp x10 fx10; have x11p := cellB hbp x11; have fx11p := frozB hbp x11 fx11; have honp := Onto.to hon.draw hbp)
      | (go_simp; go_at_call 38; refine Calls.mono (ClHeard_calls 1 2 3 0 0 ⟨0, 0, 0, 0, 0⟩ ⟨1, 2, 5, 10, 0⟩ A6 D6 0 k6 0 d6 Book.none _ (SJ0 _ _) (SR0 _ _)) ?_; rw [hd_heard1]; rintro e wq ⟨A5, n5, k5, D5, m5, d5, rfl, s5, t5, hbq, _, _, _, _⟩; obtain rfl : 0 = n5 := (by simpa [Book.none] using s5.len); obtain rfl : 0 = m5 := (by simpa [Book.none] using t5.len); clear s5 t5; have c0q := cellB hbq c0p; have fc0q := frozB hbq c0p fc0p; have c1q := cellB hbq c1p; have fc1q := frozB hbq c1p fc1p; have c2q := cellB hbq c2p; have fc2q := frozB hbq c2p fc2p; have c3q := cellB hbq c3p; have fc3q := frozB hbq c3p fc3p; have c4q := cellB hbq c4p; have fc4q := frozB hbq c4p fc4p; have c5q := cellB hbq c5p; have fc5q := frozB hbq c5p fc5p; have c6q := cellB hbq c6p; have fc6q := frozB hbq c6p fc6p; have c7q := cellB hbq c7p; have fc7q := frozB hbq c7p fc7p; have c8q := cellB hbq c8p; have fc8q := frozB hbq c8p fc8p; have c9q := cellB hbq c9p; have fc9q := frozB hbq c9p fc9p; have c10q := cellB hbq c10p; have fc10q := frozB hbq c10p fc10p; have c11q := cellB hbq c11p; have fc11q := frozB hbq c11p fc11p; have g0q := cellB hbq g0p; have fg0q := frozB hbq g0p fg0p; have g1q := cellB hbq g1p; have fg1q := frozB hbq g1p fg1p; have g2q := cellB hbq g2p; have fg2q := frozB hbq g2p fg2p; have g3q := cellB hbq g3p; have fg3q := frozB hbq g3p fg3p; have g4q := cellB hbq g4p; have fg4q := frozB hbq g4p fg4p; have g5q := cellB hbq g5p; have fg5q := frozB hbq g5p fg5p; have g6q := cellB hbq g6p; have fg6q := frozB hbq g6p fg6p; have g7q := cellB hbq g7p; have fg7q := frozB hbq g7p fg7p; have g8q := cellB hbq g8p; have fg8q := frozB hbq g8p fg8p; have g9q := cellB hbq g9p; have fg9q := frozB hbq g9p fg9p; have g10q := cellB hbq g10p; have fg10q := frozB hbq g10p fg10p; have g11q := cellB hbq g11p; have fg11q := frozB hbq g11p fg11p; have x0q := cellB hbq x0p; have fx0q := frozB hbq x0p fx0p; have x1q := cellB hbq x1p; have fx1q := frozB hbq x1p fx1p; have x2q := cellB hbq x2p; have fx2q := frozB hbq x2p fx2p; have x3q := cellB hbq x3p; have fx3q := frozB hbq x3p fx3p; have x4q := cellB hbq x4p; have fx4q := frozB hbq x4p fx4p; have x5q := cellB hbq x5p; have fx5q := frozB hbq x5p fx5p; have x6q := cellB hbq x6p; have fx6q := frozB hbq x6p fx6p; have x7q := cellB hbq x7p; have fx7q := frozB hbq x7p fx7p; have x8q := cellB hbq x8p; have fx8q := frozB hbq x8p fx8p; have x9q := cellB hbq x9p; have fx9q := frozB hbq x9p fx9p; have x10q := cellB hbq x10p; have fx10q := frozB hbq x10p fx10p; have x11q := cellB hbq x11p; have fx11q := frozB hbq x11p fx11p; have honq := Onto.to honp hbq))
    all_goals
      clear hbp hbq c0 fc0 c1 fc1 c2 fc2 c3 fc3 c4 fc4 c5 fc5 c6 fc6 c7 fc7 c8 fc8 c9 fc9 c10 fc10 c11 fc11 g0 fg0 g1 fg1 g2 fg2 g3 fg3 g4 fg4 g5 fg5 g6 fg6 g7 fg7 g8 fg8 g9 fg9 g10 fg10 g11 fg11 x0 fx0 x1 fx1 x2 fx2 x3 fx3 x4 fx4 x5 fx5 x6 fx6 x7 fx7 x8 fx8 x9 fx9 x10 fx10 x11 fx11 hon c0p fc0p c1p fc1p c2p fc2p c3p fc3p c4p fc4p c5p fc5p c6p fc6p c7p fc7p c8p fc8p c9p fc9p c10p fc10p c11p fc11p g0p fg0p g1p fg1p g2p fg2p g3p fg3p g4p fg4p g5p fg5p g6p fg6p g7p fg7p g8p fg8p g9p fg9p g10p fg10p g11p fg11p x0p fx0p x1p fx1p x2p fx2p x3p fx3p x4p fx4p x5p fx5p x6p fx6p x7p fx7p x8p fx8p x9p fx9p x10p fx10p x11p fx11p honp
      have c0 := c0q; clear c0q
      have fc0 := fc0q; clear fc0q
      have c1 := c1q; clear c1q
      have fc1 := fc1q; clear fc1q
      have c2 := c2q; clear c2q
      have fc2 := fc2q; clear fc2q
      have c3 := c3q; clear c3q
      have fc3 := fc3q; clear fc3q
      have c4 := c4q; clear c4q
      have fc4 := fc4q; clear fc4q
      have c5 := c5q; clear c5q
      have fc5 := fc5q; clear fc5q
      have c6 := c6q; clear c6q
      have fc6 := fc6q; clear fc6q
      have c7 := c7q; clear c7q
      have fc7 := fc7q; clear fc7q
      have c8 := c8q; clear c8q
      have fc8 := fc8q; clear fc8q
      have c9 := c9q; clear c9q
      have fc9 := fc9q; clear fc9q
      have c10 := c10q; clear c10q
      have fc10 := fc10q; clear fc10q
      have c11 := c11q; clear c11q
      have fc11 := fc11q; clear fc11q
      have g0 := g0q; clear g0q
      have fg0 := fg0q; clear fg0q
      have g1 := g1q; clear g1q
      have fg1 := fg1q; clear fg1q
      have g2 := g2q; clear g2q
      have fg2 := fg2q; clear fg2q
      have g3 := g3q; clear g3q
      have fg3 := fg3q; clear fg3q
      have g4 := g4q; clear g4q
      have fg4 := fg4q; clear fg4q
      have g5 := g5q; clear g5q
      have fg5 := fg5q; clear fg5q
      have g6 := g6q; clear g6q
      have fg6 := fg6q; clear fg6q
      have g7 := g7q; clear g7q
      have fg7 := fg7q; clear fg7q
      have g8 := g8q; clear g8q
      have fg8 := fg8q; clear fg8q
      have g9 := g9q; clear g9q
      have fg9 := fg9q; clear fg9q
      have g10 := g10q; clear g10q
      have fg10 := fg10q; clear fg10q
      have g11 := g11q; clear g11q
      have fg11 := fg11q; clear fg11q
      have x0 := x0q; clear x0q
      have fx0 := fx0q; clear fx0q
      have x1 := x1q; clear x1q
      have fx1 := fx1q; clear fx1q
      have x2 := x2q; clear x2q
      have fx2 := fx2q; clear fx2q
      have x3 := x3q; clear x3q
      have fx3 := fx3q; clear fx3q
      have x4 := x4q; clear x4q
      have fx4 := fx4q; clear fx4q
      have x5 := x5q; clear x5q
      have fx5 := fx5q; clear fx5q
      have x6 := x6q; clear x6q
      have fx6 := fx6q; clear fx6q
      have x7 := x7q; clear x7q
      have fx7 := fx7q; clear fx7q
      have x8 := x8q; clear x8q
      have fx8 := fx8q; clear fx8q
      have x9 := x9q; clear x9q
      have fx9 := fx9q; clear fx9q
      have x10 := x10q; clear x10q
      have fx10 := fx10q; clear fx10q
      have x11 := x11q; clear x11q
      have fx11 := fx11q; clear fx11q
      have hon := honq; clear honq
      rw [show ((((((((((((wq.setCell ⟨Bx, 0, none⟩ (.int .i64 1)).setCell ⟨Bx, 1, none⟩ (.int .i64 2)).setCell ⟨Bx, 2, none⟩ (.int .i64 1)).setCell ⟨Bx, 3, none⟩ (.int .i64 2)).setCell ⟨Bx, 4, none⟩ (.int .i64 5)).setCell ⟨Bx, 5, none⟩ (.int .i64 10)).setCell ⟨Bx, 6, none⟩ (.int .i64 0)).setCell ⟨Bx, 7, none⟩ (.int .i64 3)).setCell ⟨Bx, 8, none⟩ (.int .i64 1)).setCell ⟨Bx, 9, none⟩ (.int .i64 0)).setCell ⟨Bx, 10, none⟩ (.slice A5 0 k5)).setCell ⟨Bx, 11, none⟩ (.slice D5 0 d5)) = (wq.setCells Bx 0 [.int .i64 1, .int .i64 2, .int .i64 1, .int .i64 2, .int .i64 5, .int .i64 10, .int .i64 0, .int .i64 3, .int .i64 1, .int .i64 0, .slice A5 0 k5, .slice D5 0 d5]) from rfl]
      have F0 : ∀ (j : Nat) vv, ([.int .i64 1, .int .i64 2, .int .i64 1, .int .i64 2, .int .i64 5, .int .i64 10, .int .i64 0, .int .i64 3, .int .i64 1, .int .i64 0, .slice A5 0 k5, .slice D5 0 d5] : List Value)[j]? = some vv → (wq.setCells Bx 0 [.int .i64 1, .int .i64 2, .int .i64 1, .int .i64 2, .int .i64 5, .int .i64 10, .int .i64 0, .int .i64 3, .int .i64 1, .int .i64 0, .slice A5 0 k5, .slice D5 0 d5]).cell? ⟨Bx, j, none⟩ = some vv := fun j vv hv => put_in (w := wq) (b := Bx) (vs := [.int .i64 1, .int .i64 2, .int .i64 1, .int .i64 2, .int .i64 5, .int .i64 10, .int .i64 0, .int .i64 3, .int .i64 1, .int .i64 0, .slice A5 0 k5, .slice D5 0 d5]) (there12 x0 x1 x2 x3 x4 x5 x6 x7 x8 x9 x10 x11) hv
      replace hon : Onto w (wq.setCells Bx 0 [.int .i64 1, .int .i64 2, .int .i64 1, .int .i64 2, .int .i64 5, .int .i64 10, .int .i64 0, .int .i64 3, .int .i64 1, .int .i64 0, .slice A5 0 k5, .slice D5 0 d5]) := put_onto (by omega) hon
      replace fc0 : (wq.setCells Bx 0 [.int .i64 1, .int .i64 2, .int .i64 1, .int .i64 2, .int .i64 5, .int .i64 10, .int .i64 0, .int .i64 3, .int .i64 1, .int .i64 0, .slice A5 0 k5, .slice D5 0 d5]).frozen? ⟨Bc, 0, none⟩ = false := (World.frozen?_setCells _ _ _ _ _).trans fc0
      replace c0 : (wq.setCells Bx 0 [.int .i64 1, .int .i64 2, .int .i64 1, .int .i64 2, .int .i64 5, .int .i64 10, .int .i64 0, .int .i64 3, .int .i64 1, .int .i64 0, .slice A5 0 k5, .slice D5 0 d5]).cell? ⟨Bc, 0, none⟩ = some (.int .i64 1) := (put_out (by simp only; omega)).trans c0
      replace fc1 : (wq.setCells Bx 0 [.int .i64 1, .int .i64 2, .int .i64 1, .int .i64 2, .int .i64 5, .int .i64 10, .int .i64 0, .int .i64 3, .int .i64 1, .int .i64 0, .slice A5 0 k5, .slice D5 0 d5]).frozen? ⟨Bc, 1, none⟩ = false := (World.frozen?_setCells _ _ _ _ _).trans fc1
      replace c1 : (wq.setCells Bx 0 [.int .i64 1, .int .i64 2, .int .i64 1, .int .i64 2, .int .i64 5, .int .i64 10, .int .i64 0, .int .i64 3, .int .i64 1, .int .i64 0, .slice A5 0 k5, .slice D5 0 d5]).cell? ⟨Bc, 1, none⟩ = some (.int .i64 0) := (put_out (by simp only; omega)).trans c1
      replace fc2 : (wq.setCells Bx 0 [.int .i64 1, .int .i64 2, .int .i64 1, .int .i64 2, .int .i64 5, .int .i64 10, .int .i64 0, .int .i64 3, .int .i64 1, .int .i64 0, .slice A5 0 k5, .slice D5 0 d5]).frozen? ⟨Bc, 2, none⟩ = false := (World.frozen?_setCells _ _ _ _ _).trans fc2
      replace c2 : (wq.setCells Bx 0 [.int .i64 1, .int .i64 2, .int .i64 1, .int .i64 2, .int .i64 5, .int .i64 10, .int .i64 0, .int .i64 3, .int .i64 1, .int .i64 0, .slice A5 0 k5, .slice D5 0 d5]).cell? ⟨Bc, 2, none⟩ = some (.int .i64 0) := (put_out (by simp only; omega)).trans c2
      replace fc3 : (wq.setCells Bx 0 [.int .i64 1, .int .i64 2, .int .i64 1, .int .i64 2, .int .i64 5, .int .i64 10, .int .i64 0, .int .i64 3, .int .i64 1, .int .i64 0, .slice A5 0 k5, .slice D5 0 d5]).frozen? ⟨Bc, 3, none⟩ = false := (World.frozen?_setCells _ _ _ _ _).trans fc3
      replace c3 : (wq.setCells Bx 0 [.int .i64 1, .int .i64 2, .int .i64 1, .int .i64 2, .int .i64 5, .int .i64 10, .int .i64 0, .int .i64 3, .int .i64 1, .int .i64 0, .slice A5 0 k5, .slice D5 0 d5]).cell? ⟨Bc, 3, none⟩ = some (.int .i64 0) := (put_out (by simp only; omega)).trans c3
      replace fc4 : (wq.setCells Bx 0 [.int .i64 1, .int .i64 2, .int .i64 1, .int .i64 2, .int .i64 5, .int .i64 10, .int .i64 0, .int .i64 3, .int .i64 1, .int .i64 0, .slice A5 0 k5, .slice D5 0 d5]).frozen? ⟨Bc, 4, none⟩ = false := (World.frozen?_setCells _ _ _ _ _).trans fc4
      replace c4 : (wq.setCells Bx 0 [.int .i64 1, .int .i64 2, .int .i64 1, .int .i64 2, .int .i64 5, .int .i64 10, .int .i64 0, .int .i64 3, .int .i64 1, .int .i64 0, .slice A5 0 k5, .slice D5 0 d5]).cell? ⟨Bc, 4, none⟩ = some (.int .i64 0) := (put_out (by simp only; omega)).trans c4
      replace fc5 : (wq.setCells Bx 0 [.int .i64 1, .int .i64 2, .int .i64 1, .int .i64 2, .int .i64 5, .int .i64 10, .int .i64 0, .int .i64 3, .int .i64 1, .int .i64 0, .slice A5 0 k5, .slice D5 0 d5]).frozen? ⟨Bc, 5, none⟩ = false := (World.frozen?_setCells _ _ _ _ _).trans fc5
      replace c5 : (wq.setCells Bx 0 [.int .i64 1, .int .i64 2, .int .i64 1, .int .i64 2, .int .i64 5, .int .i64 10, .int .i64 0, .int .i64 3, .int .i64 1, .int .i64 0, .slice A5 0 k5, .slice D5 0 d5]).cell? ⟨Bc, 5, none⟩ = some (.int .i64 0) := (put_out (by simp only; omega)).trans c5
      replace fc6 : (wq.setCells Bx 0 [.int .i64 1, .int .i64 2, .int .i64 1, .int .i64 2, .int .i64 5, .int .i64 10, .int .i64 0, .int .i64 3, .int .i64 1, .int .i64 0, .slice A5 0 k5, .slice D5 0 d5]).frozen? ⟨Bc, 6, none⟩ = false := (World.frozen?_setCells _ _ _ _ _).trans fc6
      replace c6 : (wq.setCells Bx 0 [.int .i64 1, .int .i64 2, .int .i64 1, .int .i64 2, .int .i64 5, .int .i64 10, .int .i64 0, .int .i64 3, .int .i64 1, .int .i64 0, .slice A5 0 k5, .slice D5 0 d5]).cell? ⟨Bc, 6, none⟩ = some (.int .i64 0) := (put_out (by simp only; omega)).trans c6
      replace fc7 : (wq.setCells Bx 0 [.int .i64 1, .int .i64 2, .int .i64 1, .int .i64 2, .int .i64 5, .int .i64 10, .int .i64 0, .int .i64 3, .int .i64 1, .int .i64 0, .slice A5 0 k5, .slice D5 0 d5]).frozen? ⟨Bc, 7, none⟩ = false := (World.frozen?_setCells _ _ _ _ _).trans fc7
      replace c7 : (wq.setCells Bx 0 [.int .i64 1, .int .i64 2, .int .i64 1, .int .i64 2, .int .i64 5, .int .i64 10, .int .i64 0, .int .i64 3, .int .i64 1, .int .i64 0, .slice A5 0 k5, .slice D5 0 d5]).cell? ⟨Bc, 7, none⟩ = some (.int .i64 0) := (put_out (by simp only; omega)).trans c7
      replace fc8 : (wq.setCells Bx 0 [.int .i64 1, .int .i64 2, .int .i64 1, .int .i64 2, .int .i64 5, .int .i64 10, .int .i64 0, .int .i64 3, .int .i64 1, .int .i64 0, .slice A5 0 k5, .slice D5 0 d5]).frozen? ⟨Bc, 8, none⟩ = false := (World.frozen?_setCells _ _ _ _ _).trans fc8
      replace c8 : (wq.setCells Bx 0 [.int .i64 1, .int .i64 2, .int .i64 1, .int .i64 2, .int .i64 5, .int .i64 10, .int .i64 0, .int .i64 3, .int .i64 1, .int .i64 0, .slice A5 0 k5, .slice D5 0 d5]).cell? ⟨Bc, 8, none⟩ = some (.int .i64 0) := (put_out (by simp only; omega)).trans c8
      replace fc9 : (wq.setCells Bx 0 [.int .i64 1, .int .i64 2, .int .i64 1, .int .i64 2, .int .i64 5, .int .i64 10, .int .i64 0, .int .i64 3, .int .i64 1, .int .i64 0, .slice A5 0 k5, .slice D5 0 d5]).frozen? ⟨Bc, 9, none⟩ = false := (World.frozen?_setCells _ _ _ _ _).trans fc9
      replace c9 : (wq.setCells Bx 0 [.int .i64 1, .int .i64 2, .int .i64 1, .int .i64 2, .int .i64 5, .int .i64 10, .int .i64 0, .int .i64 3, .int .i64 1, .int .i64 0, .slice A5 0 k5, .slice D5 0 d5]).cell? ⟨Bc, 9, none⟩ = some (.int .i64 0) := (put_out (by simp only; omega)).trans c9
      replace fc10 : (wq.setCells Bx 0 [.int .i64 1, .int .i64 2, .int .i64 1, .int .i64 2, .int .i64 5, .int .i64 10, .int .i64 0, .int .i64 3, .int .i64 1, .int .i64 0, .slice A5 0 k5, .slice D5 0 d5]).frozen? ⟨Bc, 10, none⟩ = false := (World.frozen?_setCells _ _ _ _ _).trans fc10
      replace c10 : (wq.setCells Bx 0 [.int .i64 1, .int .i64 2, .int .i64 1, .int .i64 2, .int .i64 5, .int .i64 10, .int .i64 0, .int .i64 3, .int .i64 1, .int .i64 0, .slice A5 0 k5, .slice D5 0 d5]).cell? ⟨Bc, 10, none⟩ = some (.slice A 0 kk) := (put_out (by simp only; omega)).trans c10
      replace fc11 : (wq.setCells Bx 0 [.int .i64 1, .int .i64 2, .int .i64 1, .int .i64 2, .int .i64 5, .int .i64 10, .int .i64 0, .int .i64 3, .int .i64 1, .int .i64 0, .slice A5 0 k5, .slice D5 0 d5]).frozen? ⟨Bc, 11, none⟩ = false := (World.frozen?_setCells _ _ _ _ _).trans fc11
      replace c11 : (wq.setCells Bx 0 [.int .i64 1, .int .i64 2, .int .i64 1, .int .i64 2, .int .i64 5, .int .i64 10, .int .i64 0, .int .i64 3, .int .i64 1, .int .i64 0, .slice A5 0 k5, .slice D5 0 d5]).cell? ⟨Bc, 11, none⟩ = some (.slice D 0 dd) := (put_out (by simp only; omega)).trans c11
      replace fg0 : (wq.setCells Bx 0 [.int .i64 1, .int .i64 2, .int .i64 1, .int .i64 2, .int .i64 5, .int .i64 10, .int .i64 0, .int .i64 3, .int .i64 1, .int .i64 0, .slice A5 0 k5, .slice D5 0 d5]).frozen? ⟨Bg, 0, none⟩ = false := (World.frozen?_setCells _ _ _ _ _).trans fg0
      replace g0 : (wq.setCells Bx 0 [.int .i64 1, .int .i64 2, .int .i64 1, .int .i64 2, .int .i64 5, .int .i64 10, .int .i64 0, .int .i64 3, .int .i64 1, .int .i64 0, .slice A5 0 k5, .slice D5 0 d5]).cell? ⟨Bg, 0, none⟩ = some (.int .i64 1) := (put_out (by simp only; omega)).trans g0
      replace fg1 : (wq.setCells Bx 0 [.int .i64 1, .int .i64 2, .int .i64 1, .int .i64 2, .int .i64 5, .int .i64 10, .int .i64 0, .int .i64 3, .int .i64 1, .int .i64 0, .slice A5 0 k5, .slice D5 0 d5]).frozen? ⟨Bg, 1, none⟩ = false := (World.frozen?_setCells _ _ _ _ _).trans fg1
      replace g1 : (wq.setCells Bx 0 [.int .i64 1, .int .i64 2, .int .i64 1, .int .i64 2, .int .i64 5, .int .i64 10, .int .i64 0, .int .i64 3, .int .i64 1, .int .i64 0, .slice A5 0 k5, .slice D5 0 d5]).cell? ⟨Bg, 1, none⟩ = some (.int .i64 1) := (put_out (by simp only; omega)).trans g1
      replace fg2 : (wq.setCells Bx 0 [.int .i64 1, .int .i64 2, .int .i64 1, .int .i64 2, .int .i64 5, .int .i64 10, .int .i64 0, .int .i64 3, .int .i64 1, .int .i64 0, .slice A5 0 k5, .slice D5 0 d5]).frozen? ⟨Bg, 2, none⟩ = false := (World.frozen?_setCells _ _ _ _ _).trans fg2
      replace g2 : (wq.setCells Bx 0 [.int .i64 1, .int .i64 2, .int .i64 1, .int .i64 2, .int .i64 5, .int .i64 10, .int .i64 0, .int .i64 3, .int .i64 1, .int .i64 0, .slice A5 0 k5, .slice D5 0 d5]).cell? ⟨Bg, 2, none⟩ = some (.int .i64 1) := (put_out (by simp only; omega)).trans g2
      replace fg3 : (wq.setCells Bx 0 [.int .i64 1, .int .i64 2, .int .i64 1, .int .i64 2, .int .i64 5, .int .i64 10, .int .i64 0, .int .i64 3, .int .i64 1, .int .i64 0, .slice A5 0 k5, .slice D5 0 d5]).frozen? ⟨Bg, 3, none⟩ = false := (World.frozen?_setCells _ _ _ _ _).trans fg3
      replace g3 : (wq.setCells Bx 0 [.int .i64 1, .int .i64 2, .int .i64 1, .int .i64 2, .int .i64 5, .int .i64 10, .int .i64 0, .int .i64 3, .int .i64 1, .int .i64 0, .slice A5 0 k5, .slice D5 0 d5]).cell? ⟨Bg, 3, none⟩ = some (.int .i64 2) := (put_out (by simp only; omega)).trans g3
      replace fg4 : (wq.setCells Bx 0 [.int .i64 1, .int .i64 2, .int .i64 1, .int .i64 2, .int .i64 5, .int .i64 10, .int .i64 0, .int .i64 3, .int .i64 1, .int .i64 0, .slice A5 0 k5, .slice D5 0 d5]).frozen? ⟨Bg, 4, none⟩ = false := (World.frozen?_setCells _ _ _ _ _).trans fg4
      replace g4 : (wq.setCells Bx 0 [.int .i64 1, .int .i64 2, .int .i64 1, .int .i64 2, .int .i64 5, .int .i64 10, .int .i64 0, .int .i64 3, .int .i64 1, .int .i64 0, .slice A5 0 k5, .slice D5 0 d5]).cell? ⟨Bg, 4, none⟩ = some (.int .i64 5) := (put_out (by simp only; omega)).trans g4
      replace fg5 : (wq.setCells Bx 0 [.int .i64 1, .int .i64 2, .int .i64 1, .int .i64 2, .int .i64 5, .int .i64 10, .int .i64 0, .int .i64 3, .int .i64 1, .int .i64 0, .slice A5 0 k5, .slice D5 0 d5]).frozen? ⟨Bg, 5, none⟩ = false := (World.frozen?_setCells _ _ _ _ _).trans fg5
      replace g5 : (wq.setCells Bx 0 [.int .i64 1, .int .i64 2, .int .i64 1, .int .i64 2, .int .i64 5, .int .i64 10, .int .i64 0, .int .i64 3, .int .i64 1, .int .i64 0, .slice A5 0 k5, .slice D5 0 d5]).cell? ⟨Bg, 5, none⟩ = some (.int .i64 10) := (put_out (by simp only; omega)).trans g5
      replace fg6 : (wq.setCells Bx 0 [.int .i64 1, .int .i64 2, .int .i64 1, .int .i64 2, .int .i64 5, .int .i64 10, .int .i64 0, .int .i64 3, .int .i64 1, .int .i64 0, .slice A5 0 k5, .slice D5 0 d5]).frozen? ⟨Bg, 6, none⟩ = false := (World.frozen?_setCells _ _ _ _ _).trans fg6
      replace g6 : (wq.setCells Bx 0 [.int .i64 1, .int .i64 2, .int .i64 1, .int .i64 2, .int .i64 5, .int .i64 10, .int .i64 0, .int .i64 3, .int .i64 1, .int .i64 0, .slice A5 0 k5, .slice D5 0 d5]).cell? ⟨Bg, 6, none⟩ = some (.int .i64 0) := (put_out (by simp only; omega)).trans g6
      replace fg7 : (wq.setCells Bx 0 [.int .i64 1, .int .i64 2, .int .i64 1, .int .i64 2, .int .i64 5, .int .i64 10, .int .i64 0, .int .i64 3, .int .i64 1, .int .i64 0, .slice A5 0 k5, .slice D5 0 d5]).frozen? ⟨Bg, 7, none⟩ = false := (World.frozen?_setCells _ _ _ _ _).trans fg7
      replace g7 : (wq.setCells Bx 0 [.int .i64 1, .int .i64 2, .int .i64 1, .int .i64 2, .int .i64 5, .int .i64 10, .int .i64 0, .int .i64 3, .int .i64 1, .int .i64 0, .slice A5 0 k5, .slice D5 0 d5]).cell? ⟨Bg, 7, none⟩ = some (.int .i64 0) := (put_out (by simp only; omega)).trans g7
      replace fg8 : (wq.setCells Bx 0 [.int .i64 1, .int .i64 2, .int .i64 1, .int .i64 2, .int .i64 5, .int .i64 10, .int .i64 0, .int .i64 3, .int .i64 1, .int .i64 0, .slice A5 0 k5, .slice D5 0 d5]).frozen? ⟨Bg, 8, none⟩ = false := (World.frozen?_setCells _ _ _ _ _).trans fg8
      replace g8 : (wq.setCells Bx 0 [.int .i64 1, .int .i64 2, .int .i64 1, .int .i64 2, .int .i64 5, .int .i64 10, .int .i64 0, .int .i64 3, .int .i64 1, .int .i64 0, .slice A5 0 k5, .slice D5 0 d5]).cell? ⟨Bg, 8, none⟩ = some (.int .i64 0) := (put_out (by simp only; omega)).trans g8
      replace fg9 : (wq.setCells Bx 0 [.int .i64 1, .int .i64 2, .int .i64 1, .int .i64 2, .int .i64 5, .int .i64 10, .int .i64 0, .int .i64 3, .int .i64 1, .int .i64 0, .slice A5 0 k5, .slice D5 0 d5]).frozen? ⟨Bg, 9, none⟩ = false := (World.frozen?_setCells _ _ _ _ _).trans fg9
      replace g9 : (wq.setCells Bx 0 [.int .i64 1, .int .i64 2, .int .i64 1, .int .i64 2, .int .i64 5, .int .i64 10, .int .i64 0, .int .i64 3, .int .i64 1, .int .i64 0, .slice A5 0 k5, .slice D5 0 d5]).cell? ⟨Bg, 9, none⟩ = some (.int .i64 0) := (put_out (by simp only; omega)).trans g9
      replace fg10 : (wq.setCells Bx 0 [.int .i64 1, .int .i64 2, .int .i64 1, .int .i64 2, .int .i64 5, .int .i64 10, .int .i64 0, .int .i64 3, .int .i64 1, .int .i64 0, .slice A5 0 k5, .slice D5 0 d5]).frozen? ⟨Bg, 10, none⟩ = false := (World.frozen?_setCells _ _ _ _ _).trans fg10
      replace g10 : (wq.setCells Bx 0 [.int .i64 1, .int .i64 2, .int .i64 1, .int .i64 2, .int .i64 5, .int .i64 10, .int .i64 0, .int .i64 3, .int .i64 1, .int .i64 0, .slice A5 0 k5, .slice D5 0 d5]).cell? ⟨Bg, 10, none⟩ = some (.slice A3 0 k3) := (put_out (by simp only; omega)).trans g10
      replace fg11 : (wq.setCells Bx 0 [.int .i64 1, .int .i64 2, .int .i64 1, .int .i64 2, .int .i64 5, .int .i64 10, .int .i64 0, .int .i64 3, .int .i64 1, .int .i64 0, .slice A5 0 k5, .slice D5 0 d5]).frozen? ⟨Bg, 11, none⟩ = false := (World.frozen?_setCells _ _ _ _ _).trans fg11
      replace g11 : (wq.setCells Bx 0 [.int .i64 1, .int .i64 2, .int .i64 1, .int .i64 2, .int .i64 5, .int .i64 10, .int .i64 0, .int .i64 3, .int .i64 1, .int .i64 0, .slice A5 0 k5, .slice D5 0 d5]).cell? ⟨Bg, 11, none⟩ = some (.slice D3 0 d3) := (put_out (by simp only; omega)).trans g11
      replace fx0 : (wq.setCells Bx 0 [.int .i64 1, .int .i64 2, .int .i64 1, .int .i64 2, .int .i64 5, .int .i64 10, .int .i64 0, .int .i64 3, .int .i64 1, .int .i64 0, .slice A5 0 k5, .slice D5 0 d5]).frozen? ⟨Bx, 0, none⟩ = false := (World.frozen?_setCells _ _ _ _ _).trans fx0
      replace fx1 : (wq.setCells Bx 0 [.int .i64 1, .int .i64 2, .int .i64 1, .int .i64 2, .int .i64 5, .int .i64 10, .int .i64 0, .int .i64 3, .int .i64 1, .int .i64 0, .slice A5 0 k5, .slice D5 0 d5]).frozen? ⟨Bx, 1, none⟩ = false := (World.frozen?_setCells _ _ _ _ _).trans fx1
      replace fx2 : (wq.setCells Bx 0 [.int .i64 1, .int .i64 2, .int .i64 1, .int .i64 2, .int .i64 5, .int .i64 10, .int .i64 0, .int .i64 3, .int .i64 1, .int .i64 0, .slice A5 0 k5, .slice D5 0 d5]).frozen? ⟨Bx, 2, none⟩ = false := (World.frozen?_setCells _ _ _ _ _).trans fx2
      replace fx3 : (wq.setCells Bx 0 [.int .i64 1, .int .i64 2, .int .i64 1, .int .i64 2, .int .i64 5, .int .i64 10, .int .i64 0, .int .i64 3, .int .i64 1, .int .i64 0, .slice A5 0 k5, .slice D5 0 d5]).frozen? ⟨Bx, 3, none⟩ = false := (World.frozen?_setCells _ _ _ _ _).trans fx3
      replace fx4 : (wq.setCells Bx 0 [.int .i64 1, .int .i64 2, .int .i64 1, .int .i64 2, .int .i64 5, .int .i64 10, .int .i64 0, .int .i64 3, .int .i64 1, .int .i64 0, .slice A5 0 k5, .slice D5 0 d5]).frozen? ⟨Bx, 4, none⟩ = false := (World.frozen?_setCells _ _ _ _ _).trans fx4
      replace fx5 : (wq.setCells Bx 0 [.int .i64 1, .int .i64 2, .int .i64 1, .int .i64 2, .int .i64 5, .int .i64 10, .int .i64 0, .int .i64 3, .int .i64 1, .int .i64 0, .slice A5 0 k5, .slice D5 0 d5]).frozen? ⟨Bx, 5, none⟩ = false := (World.frozen?_setCells _ _ _ _ _).trans fx5
      replace fx6 : (wq.setCells Bx 0 [.int .i64 1, .int .i64 2, .int .i64 1, .int .i64 2, .int .i64 5, .int .i64 10, .int .i64 0, .int .i64 3, .int .i64 1, .int .i64 0, .slice A5 0 k5, .slice D5 0 d5]).frozen? ⟨Bx, 6, none⟩ = false := (World.frozen?_setCells _ _ _ _ _).trans fx6
      replace fx7 : (wq.setCells Bx 0 [.int .i64 1, .int .i64 2, .int .i64 1, .int .i64 2, .int .i64 5, .int .i64 10, .int .i64 0, .int .i64 3, .int .i64 1, .int .i64 0, .slice A5 0 k5, .slice D5 0 d5]).frozen? ⟨Bx, 7, none⟩ = false := (World.frozen?_setCells _ _ _ _ _).trans fx7
      replace fx8 : (wq.setCells Bx 0 [.int .i64 1, .int .i64 2, .int .i64 1, .int .i64 2, .int .i64 5, .int .i64 10, .int .i64 0, .int .i64 3, .int .i64 1, .int .i64 0, .slice A5 0 k5, .slice D5 0 d5]).frozen? ⟨Bx, 8, none⟩ = false := (World.frozen?_setCells _ _ _ _ _).trans fx8
      replace fx9 : (wq.setCells Bx 0 [.int .i64 1, .int .i64 2, .int .i64 1, .int .i64 2, .int .i64 5, .int .i64 10, .int .i64 0, .int .i64 3, .int .i64 1, .int .i64 0, .slice A5 0 k5, .slice D5 0 d5]).frozen? ⟨Bx, 9, none⟩ = false := (World.frozen?_setCells _ _ _ _ _).trans fx9
      replace fx10 : (wq.setCells Bx 0 [.int .i64 1, .int .i64 2, .int .i64 1, .int .i64 2, .int .i64 5, .int .i64 10, .int .i64 0, .int .i64 3, .int .i64 1, .int .i64 0, .slice A5 0 k5, .slice D5 0 d5]).frozen? ⟨Bx, 10, none⟩ = false := (World.frozen?_setCells _ _ _ _ _).trans fx10
      replace fx11 : (wq.setCells Bx 0 [.int .i64 1, .int .i64 2, .int .i64 1, .int .i64 2, .int .i64 5, .int .i64 10, .int .i64 0, .int .i64 3, .int .i64 1, .int .i64 0, .slice A5 0 k5, .slice D5 0 d5]).frozen? ⟨Bx, 11, none⟩ = false := (World.frozen?_setCells _ _ _ _ _).trans fx11
      clear x0 x1 x2 x3 x4 x5 x6 x7 x8 x9 x10 x11
      generalize (wq.setCells Bx 0 [.int .i64 1, .int .i64 2, .int .i64 1, .int .i64 2, .int .i64 5, .int .i64 10, .int .i64 0, .int .i64 3, .int .i64 1, .int .i64 0, .slice A5 0 k5, .slice D5 0 d5]) = w12 at *
      have x0 := F0 0 _ rfl
      have x1 := F0 1 _ rfl
      have x2 := F0 2 _ rfl
      have x3 := F0 3 _ rfl
      have x4 := F0 4 _ rfl
      have x5 := F0 5 _ rfl
      have x6 := F0 6 _ rfl
      have x7 := F0 7 _ rfl
      have x8 := F0 8 _ rfl
      have x9 := F0 9 _ rfl
      have x10 := F0 10 _ rfl
      have x11 := F0 11 _ rfl
      clear F0
      have hen : ∀ w, (binOp .eql 24 (.agg #[.int .i64 1, .int .i64 2, .int .i64 5, .int .i64 10, .int .i64 0]) (.agg #[.int .i64 1, .int .i64 2, .int .i64 5, .int .i64 10, .int .i64 0])).run Try.prog w = .ok (.bool true) w := fun w => by kernel_rfl
      go_simp
      go_upto_region 13 with fail
      have oc0 := onto_cell c0; have oc1 := onto_cell c1; have oc2 := onto_cell c2; have oc3 := onto_cell c3; have oc4 := onto_cell c4; have oc5 := onto_cell c5; have oc6 := onto_cell c6; have oc7 := onto_cell c7; have oc8 := onto_cell c8; have oc9 := onto_cell c9; have oc10 := onto_cell c10; have oc11 := onto_cell c11; have og0 := onto_cell g0; have og1 := onto_cell g1; have og2 := onto_cell g2; have og3 := onto_cell g3; have og4 := onto_cell g4; have og5 := onto_cell g5; have og6 := onto_cell g6; have og7 := onto_cell g7; have og8 := onto_cell g8; have og9 := onto_cell g9; have og10 := onto_cell g10; have og11 := onto_cell g11; have ox0 := onto_cell x0; have ox1 := onto_cell x1; have ox2 := onto_cell x2; have ox3 := onto_cell x3; have ox4 := onto_cell x4; have ox5 := onto_cell x5; have ox6 := onto_cell x6; have ox7 := onto_cell x7; have ox8 := onto_cell x8; have ox9 := onto_cell x9; have ox10 := onto_cell x10; have ox11 := onto_cell x11
      clear c0 fc0 c1 fc1 c2 fc2 c3 fc3 c4 fc4 c5 fc5 c6 fc6 c7 fc7 c8 fc8 c9 fc9 c10 fc10 c11 fc11 g0 fg0 g1 fg1 g2 fg2 g3 fg3 g4 fg4 g5 fg5 g6 fg6 g7 fg7 g8 fg8 g9 fg9 g10 fg10 g11 fg11 x0 fx0 x1 fx1 x2 fx2 x3 fx3 x4 fx4 x5 fx5 x6 fx6 x7 fx7 x8 fx8 x9 fx9 x10 fx10 x11 fx11
      refine wp_region_onto (by kernel_rfl) (by kernel_rfl) ?_
      repeat (go_big_quiet_step ((first
        | (go_at_call 60; exact calls_onto' (u := .agg #[.int .i64 1, .int .i64 2, .int .i64 5, .int .i64 10, .int .i64 0]) (put_calls _ _ _ _) rfl)
        | (go_at_call 35; exact calls_onto' (u := .int .i64 0) (ClCheck_calls 1 2 3 1 0 ⟨1, 2, 5, 10, 0⟩ A5 D5 0 k5 0 d5 Book.none _ (SJ0 _ _) (SR0 _ _)) (by rw [hd_check])))))
      refine wpQuiet_nil ?_
      intro w9 hb9
      replace hon := Onto.to hon hb9
      clear oc0 oc1 oc2 oc3 oc4 oc5 oc6 oc7 oc8 oc9 oc10 oc11 og0 og1 og2 og3 og4 og5 og6 og7 og8 og9 og10 og11 ox0 ox1 ox2 ox3 ox4 ox5 ox6 ox7 ox8 ox9 ox10 ox11 hb9 hen
      go_wp2_with fail
      go_ret
      exact ⟨rfl, hon⟩
end Go.Proofs.Ytbipmoehcmighaa
