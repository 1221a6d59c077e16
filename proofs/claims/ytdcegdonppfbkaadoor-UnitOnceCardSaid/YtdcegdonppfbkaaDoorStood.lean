/- The closed fact 'stood'. -/
import Derived.Test.YtdcegdonppfbkaaDoorURep
import Derived.Test.YtdcegdonppfbkaaDoorUSame
import Derived.Test.YtdcegdonppfbkaaDoorTail
import Derived.Deep.DeepCutAuto
namespace Go.Proofs.YtdcegdonppfbkaaDoor
set_option linter.unusedSimpArgs false
set_option linter.unusedVariables false
open Go.RowKit

theorem writeS_calls (k : Int) (x : Entry) (w : World) :
    Calls Tryd.prog 78 #[.int .i64 k, entV x] w fun e w' => e = .returned (recV ⟨1, k, 0, x⟩) ∧ Onto w w' := by
  go_enter Tryd.func78, Tryd.ntmps78
  go_wp2
  refine bodyPost_ret (v := recV ⟨1, k, 0, x⟩) (by simp [results, Tryd.results78, go_sem]) rfl ⟨rfl, ?_⟩
  repeat (first | exact Below.refl _ _ | refine Below.alloc ?_ (by simp <;> omega) _ | refine Below.setCell ?_ (by simp) _)
def stX : Entry := ⟨1, 2, 5, 10, 0⟩
def stU : Uni := ⟨3, (List.replicate 60 blank).set 4 stX⟩
def stL : List Rec := [⟨1, 4, 0, stX⟩, ⟨2, 0, 3, zeroE⟩]
theorem st_eq : unitL stL = (stU, 0) := by kernel_rfl
theorem st_f : nextU stU ⟨1, 4, 0, zeroE⟩ = (⟨0, []⟩, 6) := by kernel_rfl
theorem st_g : nextU stU ⟨2, 0, 3, zeroE⟩ = (⟨0, []⟩, 8) := by kernel_rfl
theorem st_tail : tailF stU.cells = 5 := by kernel_rfl
theorem st_tail0 : tailF newU.cells = 0 := by kernel_rfl
theorem st_check : checkU stU.ep stU.cells = 0 := by kernel_rfl
theorem st_at : stU.cells[4]? = some stX := by kernel_rfl

set_option maxHeartbeats 4000000 in
set_option maxRecDepth 100000 in
theorem stood_calls (w : World) : Calls Tryd.prog 48 #[] w fun e w' => e = .returned (.bool true) ∧ Onto w w' := by
  go_enter Tryd.func48, Tryd.ntmps48
  go_wp2_with fail
  refine Calls.mono (put_calls _ _ _ _) ?_
  rintro e w1 ⟨rfl, o1⟩
  go_wp2_with fail
  refine Calls.mono (writeS_calls 4 stX _) ?_
  rintro e w2 ⟨rfl, b2⟩
  replace o1 := Onto.to o1 b2
  clear b2
  go_wp2_with fail
  refine Calls.mono (UReplay_calls (some ⟨w2.heap.size, 0, none⟩) 2 2 stL _ (Sl.block (stL.map encQ) (hNew rfl) (by simp [stL, encQ]) (by rfl))) ?_
  rw [st_eq]
  rintro e w3 ⟨A1, n1, c1, rfl, s1, b3, _⟩
  have o3 := Onto.to (Onto.new o1 _) b3
  have hn1 := s1.len
  simp [stU] at hn1
  subst hn1
  clear o1 b3
  go_upto_region 2 with fail
  have u0 : (w3.alloc (Obj.cells #[.int .i64 3, .slice A1 60 c1] 71)).cell? ⟨w3.heap.size, 0, none⟩ = some (.int .i64 3) := by simp [go_sem, stU]
  have u1 : (w3.alloc (Obj.cells #[.int .i64 3, .slice A1 60 c1] 71)).cell? ⟨w3.heap.size, 1, none⟩ = some (.slice A1 60 c1) := by simp [go_sem]
  replace s1 := S.new s1 (Obj.cells #[.int .i64 3, .slice A1 60 c1] 71)
  replace o3 := Onto.new o3 (Obj.cells #[.int .i64 3, .slice A1 60 c1] 71)
  change Code.wp _ _ _ _ (w3.alloc (Obj.cells #[.int .i64 3, .slice A1 60 c1] 71))
  generalize (w3.alloc (Obj.cells #[.int .i64 3, .slice A1 60 c1] 71)) = w4 at *
  generalize w3.heap.size = zb at *
  go_cut [3, 4] (fun s3 s4 wx => ∃ pp, s3 = .pointer (some ⟨pp, 0, none⟩) ∧ s4 = .int .i64 6 ∧ Onto w4 wx)
  case first =>
    go_region_held3 (fun w' => w'.cell? ⟨zb, 0, none⟩ = some (.int .i64 3) ∧ w'.cell? ⟨zb, 1, none⟩ = some (.slice A1 60 c1))
      (first | with_reducible exact ⟨u0, u1⟩ | with_reducible exact ⟨cellB (by with_reducible (repeat (first | exact Onto.rfl' _ | exact hbV | exact hbW | refine Onto.draw ?_ | refine Onto.new ?_ _ | refine Onto.put ?_ (by simp <;> omega) _))) u0, cellB (by with_reducible (repeat (first | exact Onto.rfl' _ | exact hbV | exact hbW | refine Onto.draw ?_ | refine Onto.new ?_ _ | refine Onto.put ?_ (by simp <;> omega) _))) u1⟩)
      (first
        | (go_at_call 78; refine Calls.mono (writeS_calls 4 zeroE _) ?_; rintro e wN ⟨rfl, hbN⟩; have hbW : Onto w4 wN := Onto.to (by with_reducible (repeat (first | exact Onto.rfl' _ | exact hbV | exact hbW | refine Onto.draw ?_ | refine Onto.new ?_ _ | refine Onto.put ?_ (by simp <;> omega) _))) hbN; have hsW := hbW.size; first | (have za0 : wN.cell? ⟨w4.heap.size, 0, none⟩ = some (.int .i64 0) := ?_; rotate_left 1; (focus (refine cellB hbN ?_; simp [go_sem]; done)); have za1 : wN.cell? ⟨w4.heap.size, 1, none⟩ = some (.slice none 0 0) := cellB hbN (by simp [go_sem]); have fza0 : wN.frozen? ⟨w4.heap.size, 0, none⟩ = false := frozB hbN (v := .int .i64 0) (by simp [go_sem]) (by simp [go_sem]); have fza1 : wN.frozen? ⟨w4.heap.size, 1, none⟩ = false := frozB hbN (v := .slice none 0 0) (by simp [go_sem]) (by simp [go_sem])) | skip)
        | (go_at_call 50; refine Calls.mono (UNext_calls 3 A1 60 c1 stU.cells 1 4 0 zeroE _ (by with_reducible exact S.onto s1 (by with_reducible (repeat (first | exact Onto.rfl' _ | exact hbV | exact hbW | refine Onto.draw ?_ | refine Onto.new ?_ _ | refine Onto.put ?_ (by simp <;> omega) _))))) ?_; rw [show nextU ⟨3, stU.cells⟩ ⟨1, 4, 0, zeroE⟩ = (⟨0, []⟩, 6) from st_f]; rintro e wM ⟨A5, n5, c5, rfl, _, hbM, _, _, _⟩; have hbV : Onto w4 wM := Onto.to (by with_reducible (repeat (first | exact Onto.rfl' _ | exact hbV | exact hbW | refine Onto.draw ?_ | refine Onto.new ?_ _ | refine Onto.put ?_ (by simp <;> omega) _))) hbM; have hsV := hbV.size; first | (have zm0 : wM.cell? ⟨w4.heap.size, 0, none⟩ = some (.int .i64 0) := cellB hbM za0; have zm1 : wM.cell? ⟨w4.heap.size, 1, none⟩ = some (.slice none 0 0) := cellB hbM za1; have fzm0 := frozB hbM za0 fza0; have fzm1 := frozB hbM za1 fza1) | (have zn0 : wM.cell? ⟨wN.heap.size, 0, none⟩ = some (.int .i64 0) := ?_; rotate_left 1; (focus (refine cellB hbM ?_; simp [go_sem]; done)); have zn1 : wM.cell? ⟨wN.heap.size, 1, none⟩ = some (.slice none 0 0) := cellB hbM (by simp [go_sem]); have fzn0 : wM.frozen? ⟨wN.heap.size, 0, none⟩ = false := frozB hbM (v := .int .i64 0) (by simp [go_sem]) (by simp [go_sem]); have fzn1 : wM.frozen? ⟨wN.heap.size, 1, none⟩ = false := frozB hbM (v := .slice none 0 0) (by simp [go_sem]) (by simp [go_sem])) | skip))
    all_goals
      go_wp2_with fail
      go_meet
      exact ⟨_, rfl, rfl, (by with_reducible (repeat (first | exact Onto.rfl' _ | exact hbV | exact hbW | refine Onto.draw ?_ | refine Onto.new ?_ _ | refine Onto.put ?_ (by simp <;> omega) _)))⟩
  case rest =>
    obtain ⟨pp, rfl, rfl, hbx⟩ := hcut
    replace u0 := cellB hbx u0; replace u1 := cellB hbx u1
    replace s1 := S.onto s1 hbx; replace o3 := Onto.to o3 hbx
    clear hbx
    go_wp2_with fail
    refine Calls.mono (UNext_calls 3 A1 60 c1 stU.cells 2 0 3 zeroE _ s1) ?_
    rw [show nextU ⟨3, stU.cells⟩ ⟨2, 0, 3, zeroE⟩ = (⟨0, []⟩, 8) from st_g]
    rintro e w6 ⟨A5, n5, c5, rfl, _, b6, _, _, _⟩
    replace u0 := cellB b6 u0; replace u1 := cellB b6 u1
    replace s1 := S.onto s1 b6; replace o3 := Onto.to o3 b6
    clear b6
    go_upto_region 4 with fail
    have hO : Onto w6 (w6.alloc (Obj.cells #[.int .i64 0, .slice A5 n5 c5] 71)) := (Onto.rfl' _).new _
    replace u0 := cellB hO u0; replace u1 := cellB hO u1
    replace s1 := S.onto s1 hO; replace o3 := Onto.to o3 hO
    clear hO
    change Code.wp _ _ _ _ (w6.alloc (Obj.cells #[.int .i64 0, .slice A5 n5 c5] 71))
    generalize (w6.alloc (Obj.cells #[.int .i64 0, .slice A5 n5 c5] 71)) = w7 at *
    obtain ⟨bu, offu, x, hA, hbu, hx, x0, x1, x2, x3, x4⟩ := Sl.atE s1 (i := 4) (by omega)
    obtain rfl : stX = x := Option.some.inj (st_at.symm.trans hx)
    subst hA
    simp only [stX] at x0 x1 x2 x3 x4
    have ou0 := onto_cell u0; have ou1 := onto_cell u1; have ox0 := onto_cell x0; have ox1 := onto_cell x1; have ox2 := onto_cell x2; have ox3 := onto_cell x3; have ox4 := onto_cell x4
    have hen : ∀ w, (binOp .eql 23 (.agg #[.int .i64 1, .int .i64 2, .int .i64 5, .int .i64 10, .int .i64 0]) (.agg #[.int .i64 1, .int .i64 2, .int .i64 5, .int .i64 10, .int .i64 0])).run Tryd.prog w = .ok (.bool true) w := fun w => by kernel_rfl
    refine wp_region_quiet_tail (C := fun w' => ∃ X, w' = ontoW w7 X) 29 (by kernel_rfl) (by kernel_rfl) (by kernel_rfl) ⟨_, onto_of (Onto.draw (Onto.rfl' w7))⟩ ?_
    simp only [List.take_succ_cons, List.take_zero, List.drop_succ_cons, List.drop_zero]
    repeat (go_big_quiet_step ((first
      | (go_at_call 55; exact calls_onto' (u := .agg #[.int .i64 1, .int .i64 2, .int .i64 5, .int .i64 10, .int .i64 0]) (put_calls _ _ _ _) rfl)
      | (go_at_call 79; exact calls_onto' (u := .int .i64 5) (UTail_calls 3 _ 60 c1 stU.cells _ (S.onto s1 (onto_on _ _)) (by omega)) (by rw [st_tail]; rfl)))))
    refine wpQuiet_nil ?_
    rintro w' ⟨X, rfl⟩
    have hO := onto_on w7 X
    clear ou0 ou1 ox0 ox1 ox2 ox3 ox4 x0 x1 x2 x3 x4
    replace u0 := cellB hO u0; replace u1 := cellB hO u1
    replace s1 := S.onto s1 hO; replace o3 := Onto.to o3 hO
    generalize ontoW w7 X = w8 at *
    clear hO
    go_wp2_with fail
    refine Calls.mono (UNew_calls _) ?_
    rintro e w9 ⟨A9, c9, rfl, s9, b9, _, _⟩
    replace u0 := cellB b9 u0; replace u1 := cellB b9 u1
    replace s1 := S.onto s1 b9; replace o3 := Onto.to o3 b9
    clear b9
    go_wp2_with fail
    refine Calls.mono (UTail_calls 1 A9 60 c9 newU.cells _ s9 (by omega)) ?_
    rw [st_tail0]
    rintro e w10 ⟨rfl, b10⟩
    replace u0 := cellB b10 u0; replace u1 := cellB b10 u1
    replace s1 := S.onto s1 b10; replace o3 := Onto.to o3 b10
    clear b10 s9
    go_wp2_with fail
    refine Calls.mono (UCheck_calls 3 _ 60 c1 stU.cells _ s1) ?_
    rw [show checkU 3 stU.cells = 0 from st_check]
    rintro e w11 ⟨rfl, b11⟩
    replace o3 := Onto.to o3 b11
    clear b11 s1 u0 u1
    go_wp2_with fail
    go_ret
    exact ⟨ret_bool (by simp), o3⟩
end Go.Proofs.YtdcegdonppfbkaaDoor
