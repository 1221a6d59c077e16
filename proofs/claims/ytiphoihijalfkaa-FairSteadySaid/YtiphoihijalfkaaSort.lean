/- insertion sort at jobs. -/
import Derived.Test.YtiphoihijalfkaaMut
namespace Go.Proofs.Ytiphoihijalfkaa
set_option linter.unusedSimpArgs false
set_option linter.unusedVariables false
open Go.RowKit

set_option maxHeartbeats 2000000 in
set_option maxRecDepth 100000 in
theorem isort_calls (A : Option Addr) (n c base : Nat) (l : List Job) (g : FuncId) (lb : Array Value) (cf : Job → Job → Int) (w : World) (h : M w base 3 A n (l.map encJ)) (hn : n ≤ 12)
    (eg : ∀ args w, (callFunc g args).run Try.prog w = .ok (.enter g args) w)
    (hp : ∀ (x y : Job) (w' : World), x ∈ l → y ∈ l → Calls Try.prog g (#[.agg #[.int .i64 x.id, .int .i64 x.every, .int .i64 x.next], .agg #[.int .i64 y.id, .int .i64 y.every, .int .i64 y.next]] ++ lb) w' fun e w'' => e = .returned (.int .i64 (cf x y)) ∧ Onto w' w'') :
    Calls Try.prog 69 #[.slice A n c, .int .i64 0, .int .i64 n, .func (.func g) #[] lb] w fun e w' => e = .returned (.tuple #[]) ∧
      M w' base 3 A n ((isort (fun x y => decide (cf x y < 0)) l).map encJ) ∧ w.grownBy w' (A.map (·.block)) := by
  have hl : l.length = n := by have := h.1.len; simpa using this
  have hp' := Lib.hid hp
  have HL := Lib.hid hl
  clear hp hl
  go_enter Try.func69, Try.ntmps69
  go_wp2_with fail
  go_loopw [8, 9] (fun s s9 wr => ∃ i : Nat, 1 ≤ i ∧ (i ≤ n ∨ i = 1) ∧ s = .int .i64 i ∧ M wr base 3 A n ((isort (fun x y => decide (cf x y < 0)) (l.take i) ++ l.drop i).map encJ) ∧ w.grownBy wr (A.map (·.block))) (fun s _ _ => n - (intOf s).toNat)
  case atStart =>
    refine ⟨1, by omega, by omega, rfl, ?_, World.grownBy.refl _ _⟩
    have e : isort (fun x y => decide (cf x y < 0)) (l.take 1) ++ l.drop 1 = l := by
      cases l with
      | nil => rfl
      | cons x l => simp [isort, insR, posR]
    rw [e]
    exact h
  case round =>
    obtain ⟨i, hi1, hin, rfl, hM, hg⟩ := hrel
    by_cases hlt : i < n
    · obtain ⟨wo, rfl⟩ : ∃ wo : World, wo = wr := ⟨_, rfl⟩
      have hil : i < l.length := by have := HL.out; omega
      have hx : l[i]? = some l[i] := List.getElem?_eq_getElem hil
      obtain ⟨S, hS⟩ : ∃ S, S = isort (fun x y => decide (cf x y < 0)) (l.take i) := ⟨_, rfl⟩
      obtain ⟨x, hxx⟩ : ∃ x, x = l[i] := ⟨_, rfl⟩
      rw [← hxx] at hx
      have hSl : S.length = i := by rw [hS, isort_length, List.length_take, HL.out]; omega
      rw [← hS] at hM
      have hst : S ++ l.drop i = carried S x (l.drop (i + 1)) i := by
        unfold carried
        rw [← hSl, List.take_length, List.drop_length, hSl, hxx, List.drop_eq_getElem_cons (by have := HL.out; omega)]
        simp
      rw [hst] at hM
      have HX := Lib.hid hx; have HS := Lib.hid hS; have HSl := Lib.hid hSl
      clear hx hS hSl hst hxx h
      go_wp2_with fail
      go_loopw [9] (fun s wr => ∃ j : Nat, j ≤ i ∧ s = .int .i64 j ∧ M wr base 3 A n ((carried S x (l.drop (i + 1)) j).map encJ) ∧ wo.grownBy wr (A.map (·.block)) ∧ Hid (∀ y ∈ S.drop j, decide (cf x y < 0) = true)) (fun s _ => (intOf s).toNat)
      case atStart => exact ⟨i, by omega, rfl, hM, World.grownBy.refl _ _, by show ∀ y ∈ _, _; rw [List.drop_eq_nil_of_le (by rw [HSl.out]; omega)]; simp⟩
      case round =>
        clear hM
        obtain ⟨j, hj, rfl, hM, hg', HJ⟩ := hrel
        by_cases h0 : 0 < j
        · obtain ⟨j, rfl⟩ : ∃ j', j = j' + 1 := ⟨j - 1, by omega⟩
          obtain ⟨b, off, x', rfl, hb, hx', c0, c1, c2⟩ := hM.1.atJ (i := j + 1) (by omega)
          obtain rfl : x = x' := by rw [carried_at (by rw [HSl.out]; omega)] at hx'; injection hx'
          obtain ⟨y, hy⟩ : ∃ y, S[j]? = some y := ⟨_, List.getElem?_eq_getElem (show j < S.length by rw [HSl.out]; omega)⟩
          obtain ⟨b', off', y', hA', hb', hy', d0, d1, d2⟩ := hM.1.atJ (i := j) (by omega)
          injection hA' with hA'; injection hA' with e1 e2 _
          subst e1; subst e2
          obtain rfl : y = y' := by have e := carried_below (x := x) (rest := l.drop (i + 1)) (j := j + 1) (by rw [HSl.out]; omega) (by omega) hy; rw [Nat.add_sub_cancel] at e; rw [e] at hy'; injection hy'
          have HY := Lib.hid hy
          have HXm := Lib.hid (List.mem_of_getElem? HX.out)
          have HYm : Hid (y ∈ l) := List.mem_of_mem_take ((isort_perm _ _).mem_iff.1 (by rw [← HS.out]; exact List.mem_of_getElem? hy))
          clear hx' hy' hy
          have hjn : (j : Int) < (n : Int) := by omega
          have hjn1 : (j : Int) + 1 < (n : Int) := by omega
          have hj1 : (0 : Int) < (j : Int) + 1 := by omega
          have k0 := onto_cell c0; have k1 := onto_cell c1; have k2 := onto_cell c2; have l0 := onto_cell d0; have l1 := onto_cell d1; have l2 := onto_cell d2
          cases hc : decide (cf x y < 0) with
          | true =>
            go_wp2_with fail
            refine wp_region_onto (by kernel_rfl) (by kernel_rfl) ?_
            repeat (go_big_quiet_step (exact calls_onto (hp'.out x y _ HXm.out HYm.out)))
            refine wpQuiet_nil ?_
            intro w1 hb1
            have z0 := cellB hb1 c0; have z1 := cellB hb1 c1; have z2 := cellB hb1 c2; have y0 := cellB hb1 d0; have y1 := cellB hb1 d1; have y2 := cellB hb1 d2
            have hM1 := hM.onto hb1
            have hU : Unf w1 b := by obtain ⟨b', off', e, _, hU⟩ := hM1.2 (by omega); injection e with e; injection e with e1 e2 _; subst e1; exact hU
            have fz := hU.frozen
            clear k0 k1 k2 l0 l1 l2 c0 c1 c2 d0 d1 d2 hb hb'
            go_wp2_with fail
            go_region
            have hnl : (carried S x (l.drop (i + 1)) (j + 1)).length = n := by have := hM.1.len; simpa using this
            have hM2 := ((hM1.putJ (i := j + 1) (by omega) y).putJ (i := j) (by omega) x).draw
            have e := carried_swap (x := x) (rest := l.drop (i + 1)) (j := j + 1) (by rw [HSl.out]; omega) (by omega) HY.out
            rw [Nat.add_sub_cancel] at e
            rw [e] at hM2
            clear e
            have hg2 := gb_draw (gb_put (gb_put (gb_put (gb_put (gb_put (gb_put (gb_onto hg' hb1) (p := ⟨b, off + (j + 1) * 3, none⟩) rfl (.int .i64 y.id)) (p := ⟨b, off + (j + 1) * 3 + 1, none⟩) rfl (.int .i64 y.every)) (p := ⟨b, off + (j + 1) * 3 + 2, none⟩) rfl (.int .i64 y.next)) (p := ⟨b, off + j * 3, none⟩) rfl (.int .i64 x.id)) (p := ⟨b, off + j * 3 + 1, none⟩) rfl (.int .i64 x.every)) (p := ⟨b, off + j * 3 + 2, none⟩) rfl (.int .i64 x.next))
            have HC := Lib.hid hc
            clear hM hM1 hnl hU fz z0 z1 z2 y0 y1 y2 hb1 hg' hc
            go_wp2_with fail
            go_roundw
            case measure => simp [intOf] <;> omega
            case rel =>
              refine ⟨j, by omega, by first | rfl | go_num, hM2, hg2, fun y' hy' => ?_⟩
              obtain ⟨hjl, rfl⟩ := List.getElem?_eq_some_iff.1 HY.out
              rw [List.drop_eq_getElem_cons hjl] at hy'
              rcases List.mem_cons.1 hy' with rfl | hy'
              · exact HC.out
              · exact HJ.out y' hy'
          | false =>
            have HC := Lib.hid hc
            have hfin : S.take (j + 1) ++ [x] ++ S.drop (j + 1) = isort (fun x y => decide (cf x y < 0)) (l.take (i + 1)) := by
              rw [isort_take HX.out, ← HS.out]
              unfold insR
              rw [posR_eq (j := j + 1) (by rw [HSl.out]; omega) HJ.out (fun y' _ hy' => by
                rw [Nat.add_sub_cancel, HY.out] at hy'
                injection hy' with hy'
                subst hy'
                exact hc)]
            have HF := Lib.hid hfin
            clear hfin
            go_wp2_with fail
            refine wp_region_onto (by kernel_rfl) (by kernel_rfl) ?_
            repeat (go_big_quiet_step (exact calls_onto (hp'.out x y _ HXm.out HYm.out)))
            refine wpQuiet_nil ?_
            intro w1 hb1
            have hM1 := hM.onto hb1
            unfold carried at hM1
            rw [HF.out] at hM1
            have hg2 := gb_trans hg (gb_onto hg' hb1)
            clear hM hc c0 c1 c2 d0 d1 d2 k0 k1 k2 l0 l1 l2 hb hb' hg' hb1
            go_wp2_with fail
            go_roundw
            case measure => simp [intOf]; omega
            case rel => exact ⟨i + 1, by omega, by omega, by go_num, hM1, hg2⟩
        · obtain rfl : j = 0 := by omega
          have hfin : S.take 0 ++ [x] ++ S.drop 0 = isort (fun x y => decide (cf x y < 0)) (l.take (i + 1)) := by
            rw [isort_take HX.out, ← HS.out]
            unfold insR
            rw [posR_eq (j := 0) (by omega) HJ.out (fun y' h _ => by omega)]
          have HF := Lib.hid hfin
          clear hfin
          go_wp2_with fail
          go_quiet (fail)
          have hM1 := hM.draws nq
          unfold carried at hM1
          rw [HF.out] at hM1
          have hg2 := gb_trans hg (gb_draws hg' nq)
          clear hM hg'
          go_wp2_with fail
          go_roundw
          case measure => simp [intOf]; omega
          case rel => exact ⟨i + 1, by omega, by omega, by go_num, hM1, hg2⟩
    · have hfin : isort (fun x y => decide (cf x y < 0)) (l.take i) ++ l.drop i = isort (fun x y => decide (cf x y < 0)) l := by
        rw [List.take_of_length_le (by rw [HL.out]; omega), List.drop_eq_nil_of_le (by rw [HL.out]; omega), List.append_nil]
      rw [hfin] at hM
      clear hfin h
      go_wp2_with fail
      go_end0
      exact ⟨rfl, hM, hg⟩
end Go.Proofs.Ytiphoihijalfkaa
