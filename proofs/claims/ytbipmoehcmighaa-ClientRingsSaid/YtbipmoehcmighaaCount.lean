/- due.Count. -/
import Derived.Test.YtbipmoehcmighaaDue
namespace Go.Proofs.Ytbipmoehcmighaa
set_option linter.unusedSimpArgs false
set_option linter.unusedVariables false
open Go.RowKit

theorem div_num {j : Job} {t : Int} (hj : ¬ badJ j) (h1 : 0 ≤ t) (h2 : t ≤ 100000) (h3 : j.next ≤ t) : IntKind.i64.wrap ((t - j.next).tdiv j.every) = (t - j.next) / j.every ∧ 0 ≤ (t - j.next) / j.every ∧ (t - j.next) / j.every ≤ 100000 := by
  unfold badJ at hj
  have e : (t - j.next).tdiv j.every = (t - j.next) / j.every := Int.tdiv_eq_ediv_of_nonneg (by omega)
  have h4 : (t - j.next) / j.every ≤ (t - j.next) := Int.ediv_le_self _ (by omega)
  have h5 : 0 ≤ (t - j.next) / j.every := Int.ediv_nonneg (by omega) (by omega)
  rw [e, IntKind.wrap_i64]
  omega
set_option maxHeartbeats 4000000 in
set_option maxRecDepth 100000 in
theorem Count_calls (A A' : Option Addr) (n c m d : Nat) (b : Book) (t : Int) (w : World) (h : S w 3 A n (b.jobs.map encJ)) (h' : S w 3 A' m (b.rung.map encR)) :
    Calls Try.prog 57 #[.agg #[.slice A n c, .slice A' m d], .int .i64 t] w fun e w' => e = .returned (.tuple #[.int .i64 (if checkD b t = 0 then countL b.jobs t else 0), .int .i64 (checkD b t)]) ∧ Onto w w' := by
  obtain ⟨r, hr⟩ : ∃ r, r = checkD b t := ⟨_, rfl⟩
  rw [← hr]
  have HR := Lib.hid hr
  by_cases h0 : r = 0
  · obtain ⟨hg, ht0, ht1⟩ := checkD_good (h0 ▸ hr.symm)
    have hl : b.jobs.length = n := by have := h.len; simpa using this
    have hn6 : n ≤ 6 := by have := hg.nj; omega
    subst h0
    rw [if_pos rfl]
    have HL := Lib.hid hl
    obtain ⟨fin, hfin⟩ : ∃ fin, fin = countL b.jobs t := ⟨_, rfl⟩
    rw [← hfin]
    have HF := Lib.hid hfin
    clear hr hl hfin
    go_enter Try.func57, Try.ntmps57
    go_wp2_with fail
    refine Calls.mono (dcheck_calls A A' n c m d b t _ (h.new _) (h'.new _)) ?_
    rintro e w1 ⟨rfl, hb1⟩
    rw [← HR.out]
    have q0 : w1.cell? ⟨w.heap.size, 0, none⟩ = some (.slice A n c) := cellB hb1 (by simp [go_sem])
    have h01 : Onto w w1 := ((Below.refl _ _).alloc (Nat.le_refl _) _).trans (hb1.mono (by simp))
    have z0 : w.heap.size < w1.heap.size := World.block_lt_of_cell? _ _ q0
    have hS := h.onto h01
    clear hb1 h h'
    go_wp2_with fail
    go_loopw [7, 19] (fun s7 s wr => ∃ k : Nat, ∃ a : Int, k ≤ n ∧ s = .int .i64 k ∧ s7 = .int .i64 a ∧ 0 ≤ a ∧ a ≤ k * 100001 ∧ Onto w1 wr ∧ Hid (a = countL (b.jobs.take k) t)) (fun _ s _ => n - (intOf s).toNat)
    case atStart => exact ⟨0, 0, Nat.zero_le _, rfl, rfl, by omega, by omega, Below.refl _ _, rfl⟩
    case round =>
      obtain ⟨k, a, hk, rfl, rfl, ha0, ha1, hbr, HA⟩ := hrel
      by_cases hlt : k < n
      · obtain ⟨bb, off, x, rfl, hb, hx, c0, c1, c2⟩ := (hS.onto hbr).atJ hlt
        have hbx := hg.ok x (List.mem_of_getElem? hx)
        have hct := countL_take hx t
        rw [← HA.out] at hct
        have hbd := cntJ_bd hbx ht1
        have HX := Lib.hid hx; have HC := Lib.hid hct; have HB := Lib.hid hbx
        clear hx hct
        have hal : Onto wr (wr.alloc (Obj.cells #[.int .i64 x.id, .int .i64 x.every, .int .i64 x.next] 73)) := (Below.refl _ _).alloc (Nat.le_refl _) _
        by_cases hle : x.next ≤ t
        · obtain ⟨hd, hd0, hd1⟩ := div_num hbx ht0 ht1 hle
          have hcn : cntJ t x = (t - x.next) / x.every + 1 := by unfold cntJ; rw [if_pos hle]
          have HCN := Lib.hid hcn
          unfold badJ at hbx
          have hx0 : 0 ≤ x.next := by omega
          have hx1 : x.next ≤ 100100 := by omega
          have hx2 : 1 ≤ x.every := by omega
          have hx3 : x.every ≤ 100 := by omega
          have hte : ¬ x.every = 0 := by omega
          have HD := Lib.hid hd
          clear hcn hbx hd hbd
          go_wp2_with fail
          go_roundw
          case measure => simp [intOf] <;> omega
          case rel => exact ⟨k + 1, a + ((t - x.next) / x.every + 1), by omega, by go_num, by first | rfl | (simp [HD.out]; done) | (go_num), by omega, by omega, Onto.to hbr hal, by show _ = _; rw [HC.out, HCN.out]⟩
        · have hcn : cntJ t x = 0 := by unfold cntJ; rw [if_neg hle]
          have HCN := Lib.hid hcn
          have hd : decide (x.next ≤ t) = false := by simpa using hle
          clear hcn hle hbx hbd
          go_wp2_with fail
          go_roundw
          case measure => simp [intOf] <;> omega
          case rel => exact ⟨k + 1, a, by omega, by go_num, rfl, by omega, by omega, Onto.to hbr hal, by show _ = _; rw [HC.out, HCN.out]; omega⟩
      · obtain rfl : k = n := by omega
        have hfin : a = fin := by rw [HA.out, HF.out, List.take_of_length_le (by rw [HL.out]; omega)]
        have HFin := Lib.hid hfin
        clear hfin
        go_wp2_with fail
        go_ret2
        refine ⟨?_, Onto.to h01 hbr⟩
        show Ending.returned (.tuple #[.int .i64 a, .int .i64 0]) = _
        rw [HFin.out]
  · rw [if_neg h0]
    have hr0 : (r != 0) = true := by simpa using h0
    clear h0 hr
    go_enter Try.func57, Try.ntmps57
    go_wp2_with fail
    refine Calls.mono (dcheck_calls A A' n c m d b t _ (h.new _) (h'.new _)) ?_
    rintro e w1 ⟨rfl, hb1⟩
    rw [← HR.out]
    have h01 : Onto w w1 := ((Below.refl _ _).alloc (Nat.le_refl _) _).trans (hb1.mono (by simp))
    clear h h' hb1
    go_wp2_with fail
    go_ret2
    exact ⟨rfl, h01⟩
end Go.Proofs.Ytbipmoehcmighaa
