/- The law DueSays. No condition. -/
import Derived.Test.YtiphoihijalfkaaCounted
import Derived.Test.YtiphoihijalfkaaRBook
import Derived.Test.YtiphoihijalfkaaRNext
import Derived.Test.YtiphoihijalfkaaRDue
import Derived.Test.YtiphoihijalfkaaReadB
import Derived.Test.YtiphoihijalfkaaFrame
namespace Go.Proofs.Ytiphoihijalfkaa
set_option linter.unusedSimpArgs false
set_option linter.unusedVariables false
open Go.RowKit Go.ChangeShapes Go.WideShapes Go.ChangeAt

theorem checkD_ofB {b : Book} {t : Int} (hg : GoodB b) (h0 : 0 ≤ t) (h1 : t ≤ 100000) : checkD b t = 0 := by
  unfold checkD
  rw [if_neg (by simp [checkB_iff.2 hg]), if_neg (by omega)]
set_option maxHeartbeats 8000000 in
set_option maxRecDepth 100000 in
theorem DueSays_walk (A A' : Option Addr) (n c m d : Nat) (b : Book) (t : Int) (w : World) (h : S w 3 A n (b.jobs.map encJ)) (h' : S w 3 A' m (b.rung.map encR)) (_ : n ≤ c) (_ : m ≤ d) :
    Calls Try.prog 13 #[.agg #[.slice A n c, .slice A' m d], .int .i64 t] w fun e w' => e = .returned (.bool true) ∧ Below w.heap.size w w' := by
  obtain ⟨qD, hqD⟩ : ∃ q, q = checkD b t := ⟨_, rfl⟩
  obtain ⟨qB, hqB⟩ : ∃ q, q = checkB b := ⟨_, rfl⟩
  obtain ⟨L, hL⟩ : ∃ L, L = if checkD b t = 0 then dueL b.jobs t else [] := ⟨_, rfl⟩
  obtain ⟨N, hN⟩ : ∃ N, N = if checkD b t = 0 then countL b.jobs t else 0 := ⟨_, rfl⟩
  obtain ⟨W, hW⟩ : ∃ W, W = if checkB b = 0 then whenL (-1) b.jobs else 0 := ⟨_, rfl⟩
  have HD := Lib.hid hqD; have HB := Lib.hid hqB; have HL := Lib.hid hL; have HN := Lib.hid hN; have HW := Lib.hid hW
  clear hqD hqB hL hN hW
  go_enter Try.func13, Try.ntmps13
  go_wp2_with fail
  refine Calls.mono (Due_calls A A' n c m d b t _ (h.new _) (h'.new _)) ?_
  rw [← HL.out, ← HD.out]
  rintro e w1 ⟨A1, n1, c1, rfl, hs, hb1, _, hnc1, hcm1⟩
  have q0 : w1.cell? ⟨w.heap.size, 0, none⟩ = some (.slice A n c) := cellB hb1 (by simp [go_sem])
  have q1 : w1.cell? ⟨w.heap.size, 1, none⟩ = some (.slice A' m d) := cellB hb1 (by simp [go_sem])
  have h0 : Onto w w1 := ((Below.refl _ _).alloc (Nat.le_refl _) _).trans (hb1.mono (by simp))
  have g := h.onto h0; have gr := h'.onto h0
  clear hb1 h h'
  go_wp2_with fail
  refine Calls.mono (Count_calls A A' n c m d b t _ g gr) ?_
  rw [← HN.out, ← HD.out]
  rintro e w2 ⟨rfl, hb2⟩
  have q0' := cellB hb2 q0; have q1' := cellB hb2 q1; have g' := g.onto hb2; have gr' := gr.onto hb2; have h0' := Onto.to h0 hb2; have hs' := hs.onto hb2
  clear q0 q1 g gr h0 hb2 hs
  have q0 := q0'; have q1 := q1'; have g := g'; have gr := gr'; have h0 := h0'; have hs := hs'
  clear q0' q1' g' gr' h0' hs'
  go_wp2_with fail
  refine Calls.mono (When_calls A A' n c m d b _ g gr) ?_
  rw [← HW.out, ← HB.out]
  rintro e w3 ⟨rfl, hb3⟩
  have q0' := cellB hb3 q0; have q1' := cellB hb3 q1; have g' := g.onto hb3; have gr' := gr.onto hb3; have h0' := Onto.to h0 hb3; have hs' := hs.onto hb3
  clear q0 q1 g gr h0 hb3 hs
  have q0 := q0'; have q1 := q1'; have g := g'; have gr := gr'; have h0 := h0'; have hs := hs'
  clear q0' q1' g' gr' h0' hs'
  go_wp2_with fail
  refine Calls.mono (RBCheck_calls A A' n c m d b.jobs b.rung _ g gr) ?_
  rw [show checkB ⟨b.jobs, b.rung⟩ = qB from HB.out.symm]
  rintro e w4 ⟨rfl, hb4⟩
  have q0' := cellB hb4 q0; have q1' := cellB hb4 q1; have g' := g.onto hb4; have gr' := gr.onto hb4; have h0' := Onto.to h0 hb4; have hs' := hs.onto hb4
  clear q0 q1 g gr h0 hb4 hs
  have q0 := q0'; have q1 := q1'; have g := g'; have gr := gr'; have h0 := h0'; have hs := hs'
  clear q0' q1' g' gr' h0' hs'
  go_wp2_with fail
  refine Calls.mono (counted_calls _) ?_
  rintro e w5 ⟨rfl, hb5⟩
  have q0' := cellB hb5 q0; have q1' := cellB hb5 q1; have g' := g.onto hb5; have gr' := gr.onto hb5; have h0' := Onto.to h0 hb5; have hs' := hs.onto hb5
  clear q0 q1 g gr h0 hb5 hs
  have q0 := q0'; have q1 := q1'; have g := g'; have gr := gr'; have h0 := h0'; have hs := hs'
  clear q0' q1' g' gr' h0' hs'
  have hz5 := World.block_lt_of_cell? _ _ q0
  simp only at hz5
  have hln : L.length = n1 := by have := hs.len; simpa using this
  have hqq : (qB != qB) = false := by simp
  have hWW : (W != W) = false := by simp
  by_cases hb0 : qB = 0
  · have hg := checkB_iff.1 (HB.out.symm.trans hb0)
    have hn6 : n ≤ 6 := by have := hg.nj; have := g.len; simp only [List.length_map] at this; omega
    have hpos : ∀ x ∈ b.jobs, 0 ≤ x.next := fun x hx => by have := hg.ok x hx; unfold badJ at this; omega
    have HPOS := Lib.hid hpos; have HG := Lib.hid hg
    have hW2 : whenL (-1) b.jobs = W := by rw [HW.out, if_pos (HB.out.symm.trans hb0)]
    have HW2 := Lib.hid hW2
    clear hpos hg hW2
    subst hb0
    by_cases htr : 0 ≤ t ∧ t ≤ 100000
    · have hD0 : checkD b t = 0 := checkD_ofB HG.out htr.1 htr.2
      have hqd : qD = 0 := HD.out.trans hD0
      subst hqd
      have HD0 := Lib.hid hD0
      have hL2 : dueL b.jobs t = L := by rw [HL.out, if_pos hD0]
      have hN2 : countL b.jobs t = N := by rw [HN.out, if_pos hD0]
      have HL2 := Lib.hid hL2; have HN2 := Lib.hid hN2
      clear hL2 hN2 hD0
      obtain ⟨ht0, ht1⟩ := htr
      have hd1 : decide (t < 0) = false := by simp; omega
      have hd2 : decide (100000 < t) = false := by simp; omega
      go_wp2_with fail
      refine Calls.mono (RNext_calls A A' n c m d b _ g (by omega) HPOS.out) ?_
      rw [HW2.out]
      rintro e w6 ⟨rfl, hb6⟩
      have q0' := cellB hb6 q0; have q1' := cellB hb6 q1; have g' := g.onto hb6; have gr' := gr.onto hb6; have h0' := Onto.to h0 hb6; have hs' := hs.onto hb6
      clear q0 q1 g gr h0 hb6 hs
      have q0 := q0'; have q1 := q1'; have g := g'; have gr := gr'; have h0 := h0'; have hs := hs'
      clear q0' q1' g' gr' h0' hs'
      go_wp2_with fail
      refine Calls.mono (RDue_calls A A' n c m d b t _ g hn6 HG.out.ok HG.out.ord) ?_
      rw [HL2.out]
      rintro e w7 ⟨A2, n2, c2, rfl, hs2, hb7, hnc2⟩
      have q0' := cellB hb7 q0; have q1' := cellB hb7 q1; have g' := g.onto hb7; have gr' := gr.onto hb7; have h0' := Onto.to h0 hb7; have hs' := hs.onto hb7
      clear q0 q1 g gr h0 hb7 hs
      have q0 := q0'; have q1 := q1'; have g := g'; have gr := gr'; have h0 := h0'; have hs := hs'
      clear q0' q1' g' gr' h0' hs'
      go_wp2_with fail
      refine Calls.mono (EqualJ_calls A1 A2 n1 n2 c1 c2 _ L L _ hs hs2 (by have := hcm1; unfold maxLen at this; omega)) ?_
      rintro e w8 ⟨rfl, q8, rfl⟩
      rw [decide_eq_true rfl]
      have g8 := g.draws q8; have gr8 := gr.draws q8; have h8 := Onto.draws h0 q8
      go_wp2_with fail
      refine Calls.mono (RCount_calls A A' n c m d b t _ g8 hn6 HG.out.ok ht0 ht1) ?_
      rw [HN2.out]
      rintro e w9 ⟨rfl, hb9⟩
      have h9 := Onto.to h8 hb9
      clear hb9 h8 g8 gr8 q0 q1 g gr hs hs2 h0
      go_wp2_with fail
      go_ret
      exact ⟨ret_bool (by simp), h9⟩
    · have hD3 : checkD b t = 3 := by
        unfold checkD
        rw [if_neg (by simp [checkB_iff.2 HG.out]), if_pos (by omega)]
      have hqd : qD = 3 := HD.out.trans hD3
      have hL0 : L = [] := by rw [HL.out, if_neg (by rw [hD3]; decide)]
      have hN0 : N = 0 := by rw [HN.out, if_neg (by rw [hD3]; decide)]
      subst hqd; subst hL0; subst hN0
      have hn0 : 0 = n1 := by simpa using hln
      subst hn0
      clear hD3 hln
      by_cases htn : t < 0
      all_goals
        first
        | (have hd1 : decide (t < 0) = true := by simpa using htn)
        | (have hd1 : decide (t < 0) = false := (by simpa using htn); have hd2 : decide (100000 < t) = true := (by simp; omega); have hd3 : (100000 : Int) < t := (by omega))
        go_wp2_with fail
        refine Calls.mono (RNext_calls A A' n c m d b _ g (by omega) HPOS.out) ?_
        rw [HW2.out]
        rintro e w6 ⟨rfl, hb6⟩
        have h6 := Onto.to h0 hb6
        clear hb6 q0 q1 g gr hs h0
        go_wp2_with fail
        go_ret
        exact ⟨rfl, h6⟩
  · have hqe : (qB == 0) = false := by simpa using hb0
    have hqn : (qB != 0) = true := by simpa using hb0
    have hDB : checkD b t = checkB b := by unfold checkD; rw [if_pos (by rw [← HB.out]; exact hb0)]
    have hqd : qD = qB := HD.out.trans (hDB.trans HB.out.symm)
    have hne : checkD b t ≠ 0 := by rw [hDB, ← HB.out]; exact hb0
    have hL0 : L = [] := by rw [HL.out, if_neg hne]
    have hN0 : N = 0 := by rw [HN.out, if_neg hne]
    have hW0 : W = 0 := by rw [HW.out, if_neg (by rw [← HB.out]; exact hb0)]
    subst hqd; subst hL0; subst hN0; subst hW0
    have hn0 : 0 = n1 := by simpa using hln
    subst hn0
    clear hDB hne hln q0 q1 g gr hs
    go_wp2_with fail
    go_ret
    exact ⟨ret_bool (by simp), h0⟩
end Go.Proofs.Ytiphoihijalfkaa
