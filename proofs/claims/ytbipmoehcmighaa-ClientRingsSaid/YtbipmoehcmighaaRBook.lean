/- The document's CheckBook. -/
import Derived.Test.YtbipmoehcmighaaREnt
import Derived.Test.YtbipmoehcmighaaSee
import Derived.Test.YtbipmoehcmighaaBook
namespace Go.Proofs.Ytbipmoehcmighaa
set_option linter.unusedSimpArgs false
set_option linter.unusedVariables false
open Go.RowKit

set_option maxHeartbeats 4000000 in
set_option maxRecDepth 100000 in
theorem RBCheck_calls (A A' : Option Addr) (n c m d : Nat) (jobs : List Job) (rung : List Rung) (w : World) (h : S w 3 A n (jobs.map encJ)) (h' : S w 3 A' m (rung.map encR)) :
    Calls Try.prog 80 #[.agg #[.slice A n c, .slice A' m d]] w fun e w' => e = .returned (.int .i64 (checkB ⟨jobs, rung⟩)) ∧ Onto w w' := by
  have hn := h.len; have hm := h'.len
  simp only [List.length_map] at hn hm
  obtain ⟨r, hr⟩ : ∃ r, r = checkB ⟨jobs, rung⟩ := ⟨_, rfl⟩
  rw [← hr]
  unfold checkB at hr
  have h01 : Onto w (w.alloc (Obj.cells #[.slice A n c, .slice A' m d] 54)) := (Below.refl _ _).alloc (Nat.le_refl _) _
  by_cases hbig : 6 < n ∨ 60 < m
  · rw [if_pos (by simp only; omega)] at hr
    subst hr
    clear h h' hn hm
    by_cases h6 : 6 < n
    all_goals
      go_enter Try.func80, Try.ntmps80
      go_wp2_with fail
      any_goals
        go_ret
        exact ⟨rfl, by first | exact h01 | exact Onto.draws h01 _⟩
    all_goals (exfalso; omega)
  · rw [if_neg (by simp only; omega)] at hr
    dsimp only at hr
    have hn6 : n ≤ 6 := by omega
    have hm6 : m ≤ 60 := by omega
    have hd1 : decide (6 < n) = false := by simp; omega
    have hd2 : decide (60 < m) = false := by simp; omega
    have HS := Lib.hid hr; have HN := Lib.hid hn; have HM := Lib.hid hm
    clear hr hbig hn hm
    have q1 : (w.alloc (Obj.cells #[.slice A n c, .slice A' m d] 54)).cell? ⟨w.heap.size, 1, none⟩ = some (.slice A' m d) := by simp [go_sem]
    have h1 := h.new (Obj.cells #[.slice A n c, .slice A' m d] 54)
    have h1' := h'.new (Obj.cells #[.slice A n c, .slice A' m d] 54)
    go_enter Try.func80, Try.ntmps80
    go_wp2_with fail
    go_loopw [3, 21] (fun s3 s wr => ∃ (k : Nat) (la : Int), k ≤ n ∧ s = .int .i64 k ∧ s3 = .int .i64 la ∧ Onto (w.alloc (Obj.cells #[.slice A n c, .slice A' m d] 54)) wr ∧ Hid (checkJs (-1) jobs = checkJs la (jobs.drop k))) (fun _ s _ => n - (intOf s).toNat)
    case atStart => exact ⟨0, -1, by omega, rfl, rfl, Below.refl _ _, by simp [Hid]⟩
    case round =>
      obtain ⟨k, la, hk, rfl, rfl, hbr, HJ⟩ := hrel
      by_cases hlt : k < n
      · obtain ⟨b, off, x, rfl, hb, hx, e0, e1, e2⟩ := (S.onto h1 hbr).atJ hlt
        have HX := Lib.hid hx
        have hal : Onto wr (wr.alloc (Obj.cells #[.int .i64 x.id, .int .i64 x.every, .int .i64 x.next] 73)) := (Below.refl _ _).alloc (Nat.le_refl _) _
        clear hx
        by_cases hb1 : ¬ (0 ≤ x.id ∧ x.id ≤ 5)
        · have i1 : (decide (0 ≤ x.id) && decide (x.id ≤ 5)) = false := by simp; omega
          have i2 : (0 : Int) = 0 := rfl; have i3 : (0 : Int) = 0 := rfl
          have hbj : badJ x := by unfold badJ; omega
          have hfin : (3 : Int) = r := by rw [HS.out, HJ.out, checkJs_at HX.out, if_pos hbj]; simp
          have HF := Lib.hid hfin
          clear hfin hbj
          go_wp2_with (go_at_call 64; refine Calls.mono (in_calls _ _ _ _) ?_; rintro e w' ⟨rfl, rfl⟩; first | rw [i1] | rw [i2] | rw [i3])
          go_ret
          exact ⟨ret_int HF.out, Onto.to h01 (Onto.to hbr hal)⟩
        · have i1 : (decide (0 ≤ x.id) && decide (x.id ≤ 5)) = true := by simp; omega
          by_cases hb2 : ¬ (1 ≤ x.every ∧ x.every ≤ 100)
          · have i2 : (decide (1 ≤ x.every) && decide (x.every ≤ 100)) = false := by simp; omega
            have i3 : (0 : Int) = 0 := rfl
            have hbj : badJ x := by unfold badJ; omega
            have hfin : (3 : Int) = r := by rw [HS.out, HJ.out, checkJs_at HX.out, if_pos hbj]; simp
            have HF := Lib.hid hfin
            clear hfin hbj
            go_wp2_with (go_at_call 64; refine Calls.mono (in_calls _ _ _ _) ?_; rintro e w' ⟨rfl, rfl⟩; first | rw [i1] | rw [i2] | rw [i3])
            go_ret
            exact ⟨ret_int HF.out, Onto.to h01 (Onto.to hbr hal)⟩
          · have i2 : (decide (1 ≤ x.every) && decide (x.every ≤ 100)) = true := by simp; omega
            by_cases hb3 : ¬ (0 ≤ x.next ∧ x.next ≤ 100100)
            · have i3 : (decide (0 ≤ x.next) && decide (x.next ≤ 100100)) = false := by simp; omega
              have hbj : badJ x := by unfold badJ; omega
              have hfin : (3 : Int) = r := by rw [HS.out, HJ.out, checkJs_at HX.out, if_pos hbj]; simp
              have HF := Lib.hid hfin
              clear hfin hbj
              go_wp2_with (go_at_call 64; refine Calls.mono (in_calls _ _ _ _) ?_; rintro e w' ⟨rfl, rfl⟩; first | rw [i1] | rw [i2] | rw [i3])
              go_ret
              exact ⟨ret_int HF.out, Onto.to h01 (Onto.to hbr hal)⟩
            · have i3 : (decide (0 ≤ x.next) && decide (x.next ≤ 100100)) = true := by simp; omega
              have hbj : ¬ badJ x := by unfold badJ; omega
              by_cases hle : x.id ≤ la
              · have hfin : (6 : Int) = r := by rw [HS.out, HJ.out, checkJs_at HX.out, if_neg hbj, if_pos hle]; simp
                have HF := Lib.hid hfin
                clear hfin hbj
                go_wp2_with (go_at_call 64; refine Calls.mono (in_calls _ _ _ _) ?_; rintro e w' ⟨rfl, rfl⟩; first | rw [i1] | rw [i2] | rw [i3])
                go_ret
                exact ⟨ret_int HF.out, Onto.to h01 (Onto.to hbr hal)⟩
              · have hd : decide (x.id ≤ la) = false := by simpa using hle
                have HST := Lib.hid (show checkJs la (jobs.drop k) = checkJs x.id (jobs.drop (k + 1)) by rw [checkJs_at HX.out, if_neg hbj, if_neg hle])
                clear hbj
                go_wp2_with (go_at_call 64; refine Calls.mono (in_calls _ _ _ _) ?_; rintro e w' ⟨rfl, rfl⟩; first | rw [i1] | rw [i2] | rw [i3])
                go_roundw
                case measure => simp [intOf] <;> omega
                case rel => exact ⟨k + 1, x.id, by omega, by go_num, rfl, Onto.to hbr hal, by show _ = _; rw [HJ.out, HST.out]⟩
      · obtain rfl : k = n := by omega
        have q2 := cellB hbr q1
        have hz2 := World.block_lt_of_cell? _ _ q2
        simp only at hz2
        have hj : r = checkRs rung := by
          have h0 : checkJs (-1) jobs = 0 := by rw [HJ.out, List.drop_eq_nil_of_le (by rw [HN.out]; omega)]; rfl
          rw [HS.out, h0]; rfl
        have HK := Lib.hid hj
        clear hj HJ HS
        go_wp2_with fail
        go_loopw [51] (fun s ws => ∃ j : Nat, j ≤ m ∧ s = .int .i64 j ∧ Onto (w.alloc (Obj.cells #[.slice A k c, .slice A' m d] 54)) ws ∧ Hid (checkRs rung = checkRs (rung.drop j))) (fun s _ => m - (intOf s).toNat)
        case atStart => exact ⟨0, by omega, rfl, hbr, by simp [Hid]⟩
        case round =>
          obtain ⟨j, hj, rfl, hbs, HR2⟩ := hrel
          by_cases hlt' : j < m
          · obtain ⟨b, off, x, rfl, hb, hx, e0, e1, e2⟩ := (S.onto h1' hbs).atR hlt'
            have HX := Lib.hid hx
            have hal : Onto wr (wr.alloc (Obj.cells #[.int .i64 x.job, .int .i64 x.time, .int .i64 x.client] 95)) := (Below.refl _ _).alloc (Nat.le_refl _) _
            clear hx hlt q2 hz2 hbr
            by_cases hb1 : ¬ (0 ≤ x.job ∧ x.job ≤ 5)
            · have i1 : (decide (0 ≤ x.job) && decide (x.job ≤ 5)) = false := by simp; omega
              have i2 : (0 : Int) = 0 := rfl; have i3 : (0 : Int) = 0 := rfl
              have hbr2 : badR x := by unfold badR; omega
              have hfin : (3 : Int) = r := by rw [HK.out, HR2.out, checkRs_bad HX.out hbr2]
              have HF := Lib.hid hfin
              clear hfin hbr2
              go_wp2_with (go_at_call 64; refine Calls.mono (in_calls _ _ _ _) ?_; rintro e w' ⟨rfl, rfl⟩; first | rw [i1] | rw [i2] | rw [i3])
              go_ret
              exact ⟨ret_int HF.out, Onto.to h01 (Onto.to hbs hal)⟩
            · have i1 : (decide (0 ≤ x.job) && decide (x.job ≤ 5)) = true := by simp; omega
              by_cases hb2 : ¬ (0 ≤ x.time ∧ x.time ≤ 100000)
              · have i2 : (decide (0 ≤ x.time) && decide (x.time ≤ 100000)) = false := by simp; omega
                have i3 : (0 : Int) = 0 := rfl
                have hbr2 : badR x := by unfold badR; omega
                have hfin : (3 : Int) = r := by rw [HK.out, HR2.out, checkRs_bad HX.out hbr2]
                have HF := Lib.hid hfin
                clear hfin hbr2
                go_wp2_with (go_at_call 64; refine Calls.mono (in_calls _ _ _ _) ?_; rintro e w' ⟨rfl, rfl⟩; first | rw [i1] | rw [i2] | rw [i3])
                go_ret
                exact ⟨ret_int HF.out, Onto.to h01 (Onto.to hbs hal)⟩
              · have i2 : (decide (0 ≤ x.time) && decide (x.time ≤ 100000)) = true := by simp; omega
                by_cases hb3 : ¬ (0 ≤ x.client ∧ x.client ≤ 2)
                · have i3 : (decide (0 ≤ x.client) && decide (x.client ≤ 2)) = false := by simp; omega
                  have hbr2 : badR x := by unfold badR; omega
                  have hfin : (3 : Int) = r := by rw [HK.out, HR2.out, checkRs_bad HX.out hbr2]
                  have HF := Lib.hid hfin
                  clear hfin hbr2
                  go_wp2_with (go_at_call 64; refine Calls.mono (in_calls _ _ _ _) ?_; rintro e w' ⟨rfl, rfl⟩; first | rw [i1] | rw [i2] | rw [i3])
                  go_ret
                  exact ⟨ret_int HF.out, Onto.to h01 (Onto.to hbs hal)⟩
                · have i3 : (decide (0 ≤ x.client) && decide (x.client ≤ 2)) = true := by simp; omega
                  have hbr2 : ¬ badR x := by unfold badR; omega
                  have HST := Lib.hid (checkRs_good HX.out hbr2)
                  clear hbr2
                  go_wp2_with (go_at_call 64; refine Calls.mono (in_calls _ _ _ _) ?_; rintro e w' ⟨rfl, rfl⟩; first | rw [i1] | rw [i2] | rw [i3])
                  go_roundw
                  case measure => simp [intOf] <;> omega
                  case rel => exact ⟨j + 1, by omega, by go_num, Onto.to hbs hal, by show _ = _; rw [HR2.out, HST.out]⟩
          · obtain rfl : j = m := by omega
            have hfin : (0 : Int) = r := by rw [HK.out, HR2.out, List.drop_eq_nil_of_le (by rw [HM.out]; omega)]; rfl
            have HF := Lib.hid hfin
            clear hfin
            go_wp2_with fail
            go_ret
            exact ⟨ret_int HF.out, Onto.to h01 hbs⟩
end Go.Proofs.Ytbipmoehcmighaa
