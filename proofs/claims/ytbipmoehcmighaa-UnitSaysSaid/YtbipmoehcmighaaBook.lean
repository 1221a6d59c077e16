/- book.Check, book.Copy, book.Find, book.Same. -/
import Derived.Test.YtbipmoehcmighaaProg
import Derived.Test.YtbipmoehcmighaaSpec
import Derived.Test.YtbipmoehcmighaaEnt
import Derived.Test.YtbipmoehcmighaaEq1
import Derived.Test.YtbipmoehcmighaaClone1
namespace Go.Proofs.Ytbipmoehcmighaa
set_option linter.unusedSimpArgs false
set_option linter.unusedVariables false
open Go.RowKit

def badJ (x : Job) : Prop := x.id < 0 ∨ 6 ≤ x.id ∨ x.every < 1 ∨ 100 < x.every ∨ x.next < 0 ∨ 100100 < x.next
instance (x : Job) : Decidable (badJ x) := by unfold badJ; infer_instance
def badR (r : Rung) : Prop := r.job < 0 ∨ 6 ≤ r.job ∨ r.time < 0 ∨ 100000 < r.time ∨ r.client < 0 ∨ 3 ≤ r.client
theorem checkRs_at {l : List Rung} {k : Nat} {x : Rung} (hx : l[k]? = some x) : checkRs (l.drop k) = if (x.job < 0 ∨ 6 ≤ x.job ∨ x.time < 0 ∨ 100000 < x.time ∨ x.client < 0 ∨ 3 ≤ x.client) then 3 else checkRs (l.drop (k + 1)) := by
  obtain ⟨hk, rfl⟩ := List.getElem?_eq_some_iff.1 hx
  rw [List.drop_eq_getElem_cons hk]
  rfl
theorem checkRs_bad {l : List Rung} {k : Nat} {x : Rung} (hx : l[k]? = some x) (hb : badR x) : checkRs (l.drop k) = 3 := by rw [checkRs_at hx]; exact if_pos hb
theorem checkRs_good {l : List Rung} {k : Nat} {x : Rung} (hx : l[k]? = some x) (hb : ¬ badR x) : checkRs (l.drop k) = checkRs (l.drop (k + 1)) := by rw [checkRs_at hx]; exact if_neg hb
theorem checkJs_at {last : Int} {l : List Job} {k : Nat} {x : Job} (hx : l[k]? = some x) : checkJs last (l.drop k) =
    if badJ x then 3 else if x.id ≤ last then 6 else checkJs x.id (l.drop (k + 1)) := by
  obtain ⟨hk, rfl⟩ := List.getElem?_eq_some_iff.1 hx
  rw [List.drop_eq_getElem_cons hk]
  simp only [checkJs, badJ]
/-- The ID ahead of place k. -/
def aheadJ (l : List Job) (k : Nat) : Int := match k with | 0 => -1 | k + 1 => ((l[k]?).map (·.id)).getD 0

set_option maxHeartbeats 2000000 in
theorem BCheck_calls (A A' : Option Addr) (n c m d B : Nat) (jobs : List Job) (rung : List Rung) (w : World) (h : Sl w B 3 A n (jobs.map encJ)) (h' : Sl w B 3 A' m (rung.map encR)) (hB : B ≤ w.heap.size) :
    Calls Try.prog 71 #[.agg #[.slice A n c, .slice A' m d]] w fun e w' => e = .returned (.int .i64 (checkB ⟨jobs, rung⟩)) ∧ Below w.heap.size w w' := by
  have hn := h.len; have hm := h'.len
  simp at hn hm
  by_cases hbig : 6 < n ∨ 60 < m
  · have hs : checkB ⟨jobs, rung⟩ = 2 := by
      unfold checkB
      rw [if_pos (by simp only; omega)]
    have HS := Lib.hid hs
    have HB := Lib.hid hbig
    clear hbig hs hn hm h h'
    by_cases h6 : 6 < n
    all_goals
      go_enter Try.func71, Try.ntmps71
      go_wp2_with fail
      any_goals
        go_ret
        exact ⟨ret_int HS.out.symm, (Below.refl _ _).alloc (Nat.le_refl _) _⟩
    have := HB.out
    exfalso
    omega
  · have hn6 : n ≤ 6 := by omega
    have hm6 : m ≤ 60 := by omega
    have hs : checkB ⟨jobs, rung⟩ = if checkJs (-1) jobs = 0 then checkRs rung else checkJs (-1) jobs := by
      unfold checkB
      rw [if_neg (by simp only; omega)]
    have HS := Lib.hid hs
    clear hbig hs hn hm
    go_enter Try.func71, Try.ntmps71
    go_wp2
    go_loopw [20] (fun s wr => ∃ k : Nat, k ≤ n ∧ s = .int .i64 k ∧ Below (w.heap.size + 1) (w.alloc (Obj.cells #[.slice A n c, .slice A' m d] 54)) wr ∧ Hid (checkJs (-1) jobs = checkJs (aheadJ jobs k) (jobs.drop k))) (fun s _ => n - (intOf s).toNat)
    case atStart => exact ⟨0, by omega, rfl, Below.refl _ _, by simp [Hid, aheadJ]⟩
    case round =>
      obtain ⟨k, hk, rfl, hbel, HJ⟩ := hrel
      have c0 : wr.cell? ⟨w.heap.size, 0, none⟩ = some (.slice A n c) := (hbel.cell (p := ⟨w.heap.size, 0, none⟩) (by simp)).trans (by simp)
      have c1 : wr.cell? ⟨w.heap.size, 1, none⟩ = some (.slice A' m d) := (hbel.cell (p := ⟨w.heap.size, 1, none⟩) (by simp)).trans (by simp)
      by_cases hlt : k < n
      · have hr := (h.keep (w' := w.alloc (Obj.cells #[.slice A n c, .slice A' m d] 54)) fun p hp => World.cell?_alloc_lt w _ p (by omega)).below (hbel.mono (by omega))
        obtain ⟨b, off, x, rfl, hb, hx, e0, e1, e2⟩ := hr.atJ hlt
        have p0 : 0 < k → ∃ y, jobs[k - 1]? = some y ∧ wr.cell? ⟨b, off + (k - 1) * 3, none⟩ = some (.int .i64 y.id) := by
          intro hp
          obtain ⟨b', off', y, e', _, hy, e0', _, _⟩ := hr.atJ (i := k - 1) (by omega)
          injection e' with e'; injection e' with e1 e2 _; subst e1; subst e2
          exact ⟨y, hy, e0'⟩
        have HX := Lib.hid hx
        clear h h' hx hr
        have hb0 : Below w.heap.size w wr := ((Below.refl _ _).alloc (Nat.le_refl _) _).trans (hbel.mono (by omega))
        have hz : w.heap.size < wr.heap.size := by have := hbel.size; simp at this; omega
        have hzb : b < wr.heap.size := by omega
        go_wp2_with fail
        any_goals
          go_ret
          have hbj : badJ x := by unfold badJ; omega
          refine ⟨ret_int (by rw [HS.out, HJ.out, checkJs_at HX.out, if_pos hbj]; simp), ?_⟩
          repeat (first | exact hb0 | refine Below.alloc ?_ (by have := hb0.size; simp <;> omega) _)
        have hgood : ¬ badJ x := by unfold badJ; omega
        have HG := Lib.hid hgood
        clear hgood
        rcases Nat.eq_zero_or_pos k with rfl | hpos
        · clear p0
          go_quiet (fail)
          go_wp2
          go_roundw
          case measure => simp [intOf]; omega
          case rel =>
            refine ⟨1, by omega, rfl, ?_, ?_⟩
            · repeat (first | exact hbel | refine below_drewN ?_ _ | refine Below.setCell ?_ (by simp <;> omega) _ | refine Below.alloc ?_ (by have := hbel.size; simp at this; simp <;> omega) _)
            · show _ = _
              have h0 : ¬ x.id ≤ -1 := by have := HG.out; unfold badJ at this; omega
              rw [HJ.out, checkJs_at HX.out, if_neg HG.out, if_neg (show ¬ x.id ≤ aheadJ jobs 0 from h0)]
              simp [aheadJ, HX.out]
        · obtain ⟨y, hy, ey⟩ := p0 hpos
          have HY := Lib.hid hy
          have hpos' : (0 : Int) < (k : Int) := by omega
          clear hy p0
          have ha : aheadJ jobs k = y.id := by
            obtain ⟨k', rfl⟩ : ∃ k', k = k' + 1 := ⟨k - 1, by omega⟩
            have := HY.out
            simp only [Nat.add_sub_cancel] at this
            simp [aheadJ, this]
          have HA := Lib.hid ha
          clear ha
          go_quiet (fail)
          go_wp2
          · go_ret
            have hle : x.id ≤ y.id := by assumption
            refine ⟨ret_int (by rw [HS.out, HJ.out, checkJs_at HX.out, if_neg HG.out, HA.out, if_pos hle]; simp), ?_⟩
            repeat (first | exact hb0 | refine below_drewN ?_ _ | refine Below.alloc ?_ (by have := hb0.size; simp <;> omega) _)
          · have hlt' : y.id < x.id := by assumption
            go_roundw
            case measure => simp [intOf]; omega
            case rel =>
              refine ⟨k + 1, by omega, by go_num, ?_, ?_⟩
              · repeat (first | exact hbel | refine below_drewN ?_ _ | refine Below.alloc ?_ (by have := hbel.size; simp at this; simp <;> omega) _)
              · show _ = _
                rw [HJ.out, checkJs_at HX.out, if_neg HG.out, HA.out, if_neg (by omega)]
                simp [aheadJ, HX.out]
      · obtain rfl : k = n := by omega
        have hj : checkB ⟨jobs, rung⟩ = checkRs rung := by
          have h0 : checkJs (-1) jobs = 0 := by
            rw [HJ.out, List.drop_eq_nil_of_le (by have := h.len; simp at this; omega)]
            rfl
          rw [HS.out, h0]; rfl
        have HK := Lib.hid hj
        clear hj HJ HS
        have hz0 : w.heap.size < wr.heap.size := by have := hbel.size; simp at this; omega
        go_wp2
        go_loopw [71] (fun s ws => ∃ j : Nat, j ≤ m ∧ s = .int .i64 j ∧ Below (w.heap.size + 1) (w.alloc (Obj.cells #[.slice A k c, .slice A' m d] 54)) ws ∧ Hid (checkRs rung = checkRs (rung.drop j))) (fun s _ => m - (intOf s).toNat)
        case atStart => exact ⟨0, by omega, rfl, hbel, by simp [Hid]⟩
        case round =>
          obtain ⟨j, hj, rfl, hbel', HR⟩ := hrel
          clear c0 c1 hz0
          by_cases hlt' : j < m
          · obtain ⟨b, off, x, rfl, hb, hx, e0, e1, e2⟩ := ((h'.keep (w' := w.alloc (Obj.cells #[.slice A k c, .slice A' m d] 54)) fun p hp => World.cell?_alloc_lt w _ p (by omega)).below (hbel'.mono (by omega))).atR hlt'
            have HX := Lib.hid hx
            clear h h' hx hlt
            have hb0 : Below w.heap.size w wr := ((Below.refl _ _).alloc (Nat.le_refl _) _).trans (hbel'.mono (by omega))
            have hz : w.heap.size < wr.heap.size := by have := hbel'.size; simp at this; omega
            go_wp2_with fail
            any_goals
              go_ret
              have hbr : badR x := by unfold badR; omega
              refine ⟨ret_int (by rw [HK.out, HR.out, checkRs_bad HX.out hbr]), ?_⟩
              repeat (first | exact hb0 | refine Below.alloc ?_ (by have := hb0.size; simp <;> omega) _)
            have hgr : ¬ badR x := by unfold badR; omega
            go_roundw
            case measure => simp [intOf]; omega
            case rel =>
              refine ⟨j + 1, by omega, by go_num, ?_, ?_⟩
              · repeat (first | exact hbel' | refine Below.alloc ?_ (by have := hbel'.size; simp at this; simp <;> omega) _)
              · show _ = _
                rw [HR.out, checkRs_good HX.out hgr]
          · obtain rfl : j = m := by omega
            have hb0 : Below w.heap.size w wr := ((Below.refl _ _).alloc (Nat.le_refl _) _).trans (hbel'.mono (by omega))
            have hfin : checkB ⟨jobs, rung⟩ = 0 := by
              rw [HK.out, HR.out, List.drop_eq_nil_of_le (by have := h'.len; simp at this; omega)]
              rfl
            have HF := Lib.hid hfin
            clear h h' hfin
            go_wp2
            go_ret
            exact ⟨ret_int HF.out.symm, hb0⟩
end Go.Proofs.Ytbipmoehcmighaa
