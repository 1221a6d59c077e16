/- disk.lines. -/
import Derived.Test.YtdcegdonppfbkaaDoorNote
import Derived.Test.YtdcegdonppfbkaaDoorRec
import Derived.Test.YtdcegdonppfbkaaDoorRowsB
import Derived.Test.YtdcegdonppfbkaaDoorDisk
namespace Go.Proofs.YtdcegdonppfbkaaDoor
set_option linter.unusedSimpArgs false
set_option linter.unusedVariables false
open Go.RowKit

theorem cut_nl (s : List UInt8) : (∃ t r, s = t ++ 10 :: r ∧ (10 : UInt8) ∉ t ∧ Lib.cut s [10] = (t, r, true)) ∨ ((10 : UInt8) ∉ s ∧ Lib.cut s [10] = (s, [], false)) := by
  rw [cut_one]
  by_cases h : (10 : UInt8) ∈ s
  · obtain ⟨t, r, e, ht⟩ := List.eq_append_cons_of_mem h
    refine .inl ⟨t, r, e, ht, ?_⟩
    rw [if_pos h, e, cutc_append ht]
    simp [joinc_cutc]
  · exact .inr ⟨h, by rw [if_neg h]⟩
theorem infoQ : (Tryd.prog.info? 35).map (fun i => (i.zero, i.size, i.bytes)) = some (some (.agg #[.int .i64 0, .int .i64 0, .int .i64 0, .int .i64 0, .int .i64 0, .int .i64 0, .int .i64 0, .int .i64 0]), 8, 64) := by kernel_rfl
theorem encQ_one (l : List Rec) : ∀ r ∈ l.map encQ, ∀ u ∈ r, u.oneCell' = true := by
  intro r hr u hu
  obtain ⟨x, _, rfl⟩ := List.mem_map.1 hr
  simp [encQ] at hu
  rcases hu with rfl | rfl | rfl | rfl | rfl | rfl | rfl | rfl <;> rfl
theorem Sl.oneQ {w : World} {t : TypeId} (x : Rec) : Sl (w.alloc (Obj.cells #[.int .i64 x.kind, .int .i64 x.at_, .int .i64 x.epoch, .int .i64 x.e.kind, .int .i64 x.e.job, .int .i64 x.e.every, .int .i64 x.e.time, .int .i64 x.e.client] t)) (w.heap.size + 1) 8 (some ⟨w.heap.size, 0, none⟩) 1 [encQ x] := by
  have := Sl.block (k := 8) (w := w.alloc (Obj.cells #[.int .i64 x.kind, .int .i64 x.at_, .int .i64 x.epoch, .int .i64 x.e.kind, .int .i64 x.e.job, .int .i64 x.e.every, .int .i64 x.e.time, .int .i64 x.e.client] t)) [encQ x] (hNew rfl) (by simp [encQ]) (by rfl)
  simpa using this

set_option maxHeartbeats 4000000 in
set_option maxRecDepth 100000 in
theorem Lines_calls (s : List UInt8) (most : Nat) (hs : s.length ≤ 60000) (hm : most ≤ 200) (w : World) (E : Env w) :
    Calls Tryd.prog 74 #[str s, .int .i64 most] w fun e w' => ∃ A n c, e = .returned (.tuple #[.slice A n c, .int .i64 (linesK s most).2.1, .int .i64 (linesK s most).2.2]) ∧ Own w' w.heap.size 35 8 (.slice A n c) n ((linesK s most).1.map encQ) ∧ Onto w w' := by
  obtain ⟨L, hL⟩ : ∃ L, L = linesK s most := ⟨_, rfl⟩
  rw [← hL]
  have hL0 : L = linesP parseR most [] 0 (cutc 10 s) := hL
  have HL0 := Lib.hid hL0
  clear hL hL0
  go_enter Tryd.func74, Tryd.ntmps74
  go_wp2_with fail
  go_loopg [0, 7] s.length (fun g s0 s7 wr => ∃ (rest : List UInt8) (acc : List Rec) (k c : Nat) (A : Option Addr), s0 = str rest ∧ s7 = .slice A acc.length c ∧ rest.length ≤ g ∧ k + rest.length = s.length ∧ acc.length ≤ most ∧ acc.length ≤ c ∧ Hid (L = linesP parseR most acc k (cutc 10 rest)) ∧ Hid (Own wr w.heap.size 35 8 (.slice A acc.length c) acc.length (acc.map encQ)) ∧ Onto w wr)
  case atStart => exact ⟨s, [], 0, 0, none, rfl, rfl, by omega, by omega, by simp, by simp, HL0, Own.nil _ _ _ _, Onto.rfl' w⟩
  case round =>
    obtain ⟨rest, acc, k, c, A, rfl, rfl, hg, hk, hnm, hnc, HL, HO, on⟩ := hrel
    have hw1 : wrap64 ((s.length : Int) - (rest.length : Int)) = (k : Int) := by unfold wrap64; omega
    by_cases h0 : rest = []
    · subst h0
      have hl : L = (acc, k, 0) := by rw [HL.out, show cutc 10 [] = [[]] from rfl, linesP_one, if_pos rfl]
      have hks : (s.length : Int) = (k : Int) := by simp at hk; omega
      have ON := Lib.hid on; have HLL := Lib.hid hl
      clear on hl
      go_wp2_with fail
      refine bodyPost_ret (v := .tuple #[.slice A acc.length c, .int .i64 (k : Int), .int .i64 0]) (by simp [results, Tryd.results74, go_sem] <;> first | omega | (refine ⟨by omega, ?_⟩; omega)) rfl ⟨A, acc.length, c, by rw [HLL.out], by rw [HLL.out]; exact HO.out, ON.out⟩
    · have hq1 : (rest == []) = false := by simp [h0]
      have hq2 : (rest != []) = true := by simp [h0]
      have hrl : rest.length ≤ 60000 := by omega
      have H0 := Lib.hid h0
      clear h0
      go_wp2_with fail
      refine Calls.mono (Cut_calls rest [10] (by omega) _ (E.onto on)) ?_
      rcases cut_nl rest with ⟨t, r, hr, ht, hcut⟩ | ⟨hno, hcut⟩
      · rw [hcut]
        have hrl2 : rest.length = t.length + 1 + r.length := by rw [hr]; simp; omega
        have hl : L = if (parseR t).2 ≠ 0 then (acc, k, (parseR t).2) else if most ≤ acc.length then (acc, k, 2) else linesP parseR most (acc ++ [(parseR t).1]) (k + t.length + 1) (cutc 10 r) := by
          rw [HL.out, hr, cutc_append ht, linesP_cons (cutc_ne _ _)]
        have HLL := Lib.hid hl
        clear hl hr ht hcut HL
        rintro e w1 ⟨rfl, b⟩
        replace on := on.to b
        have HO1 := Lib.hid (HO.out.below b)
        clear HO b
        obtain ⟨x, hx⟩ : ∃ x, x = (parseR t).1 := ⟨_, rfl⟩
        obtain ⟨g2, hg2⟩ : ∃ x, x = (parseR t).2 := ⟨_, rfl⟩
        go_wp2_with fail
        refine Calls.mono (NParse_calls t _ (E.onto on) (by omega)) ?_
        rw [← hg2, ← hx] at HLL
        rintro e w2 ⟨rfl, b⟩
        rw [← hx, ← hg2]
        clear hx hg2
        replace on := on.to b
        have HO2 := Lib.hid (HO1.out.below b)
        clear HO1 b
        go_upto_region 8 with fail
        have ob := (Onto.rfl' w2).new (Obj.cells #[.int .i64 x.kind, .int .i64 x.at_, .int .i64 x.epoch, .int .i64 x.e.kind, .int .i64 x.e.job, .int .i64 x.e.every, .int .i64 x.e.time, .int .i64 x.e.client] 35)
        have BE : Bx (w2.alloc (Obj.cells #[.int .i64 x.kind, .int .i64 x.at_, .int .i64 x.epoch, .int .i64 x.e.kind, .int .i64 x.e.job, .int .i64 x.e.every, .int .i64 x.e.time, .int .i64 x.e.client] 35)) w2.heap.size [.int .i64 x.kind, .int .i64 x.at_, .int .i64 x.epoch, .int .i64 x.e.kind, .int .i64 x.e.job, .int .i64 x.e.every, .int .i64 x.e.time, .int .i64 x.e.client] := Bx.made _ _ _
        replace on := on.to ob
        have HO3 := Lib.hid (HO2.out.below ob)
        clear HO2 ob
        generalize (w2.alloc (Obj.cells #[.int .i64 x.kind, .int .i64 x.at_, .int .i64 x.epoch, .int .i64 x.e.kind, .int .i64 x.e.job, .int .i64 x.e.every, .int .i64 x.e.time, .int .i64 x.e.client] 35)) = w3 at *
        generalize w2.heap.size = z2 at *
        have x0 := BE.at_ 0 rfl; have x1 := BE.at_ 1 rfl; have x2 := BE.at_ 2 rfl; have x3 := BE.at_ 3 rfl; have x4 := BE.at_ 4 rfl; have x5 := BE.at_ 5 rfl; have x6 := BE.at_ 6 rfl; have x7 := BE.at_ 7 rfl
        clear BE
        have ON := Lib.hid on
        clear on
        by_cases hg0 : g2 = 0
        · by_cases hmn : most ≤ acc.length
          · have hmm : (acc.length : Int) = (most : Int) := by omega
            have hl : L = (acc, k, 2) := by rw [HLL.out, if_neg (by simp [hg0]), if_pos hmn]
            have HF := Lib.hid hl
            clear hl HLL
            subst hg0
            go_wp2_with fail
            refine bodyPost_ret (v := .tuple #[.slice A acc.length c, .int .i64 (k : Int), .int .i64 2]) (by simp [results, Tryd.results74, go_sem] <;> first | omega | (refine ⟨by omega, ?_⟩; omega)) rfl ⟨A, acc.length, c, by rw [HF.out], by rw [HF.out]; exact HO3.out, ON.out⟩
          · have hmm : ¬ (acc.length : Int) = (most : Int) := by omega
            have hl : L = linesP parseR most (acc ++ [x]) (k + t.length + 1) (cutc 10 r) := by rw [HLL.out, if_neg (by simp [hg0]), if_neg hmn]
            have HF := Lib.hid hl
            clear hl HLL
            subst hg0
            obtain ⟨i0, hi0, hzz0, hzz1, hzz2⟩ := info_parts infoQ
            have HI0 := Lib.hid hi0; have HZ0 := Lib.hid hzz0; have HZ1 := Lib.hid hzz1; have HZ2 := Lib.hid hzz2
            clear hi0 hzz0 hzz1 hzz2
            have HNEW := Lib.hid (Sl.oneQ (w := w3) (t := 35) x)
            have hal : Onto w3 (w3.alloc (Obj.cells #[.int .i64 x.kind, .int .i64 x.at_, .int .i64 x.epoch, .int .i64 x.e.kind, .int .i64 x.e.job, .int .i64 x.e.every, .int .i64 x.e.time, .int .i64 x.e.client] 35)) := (Onto.rfl' w3).new _
            have HAL := Lib.hid hal
            clear hal
            go_wp2_with (at_builtin; refine wpList_append_sl _ rfl _ _ 50 rfl w.heap.size 35 i0 _ 8 64 Tryd.underlying50 HI0.out HZ0.out HZ1.out HZ2.out rfl (by decide) (.slice A acc.length c) acc.length (acc.map encQ) rfl (HO3.out.below HAL.out) _ (some ⟨w3.heap.size, 0, none⟩) 1 1 [encQ x] rfl HNEW.out (by simpa using encQ_one [x]) (by unfold maxLen; omega) (by omega) (ON.out.to HAL.out).size ?_)
            intro v8 w8 own8 grow8 hv8
            obtain ⟨A8, c8, rfl, hc8, _⟩ := own8.slice
            have hB8 : Onto w w8 := below_grown (ON.out.to HAL.out) (ON.out.to HAL.out).size grow8 (fun g hg => by have := (HO3.out.1.lt g hg).1; omega)
            have HO8 := Lib.hid own8
            clear grow8 hv8 own8 HO3 HNEW HAL x0 x1 x2 x3 x4 x5 x6 x7
            go_wp2_with fail
            go_roundg r.length
            case measure => omega
            case rel =>
              refine ⟨r, acc ++ [x], k + t.length + 1, c8, A8, rfl, by simp, Nat.le_refl _, by omega, by simp; omega, ?_, HF, ?_, hB8⟩
              · have := HO8.out.le_cap; simp; omega
              · refine Lib.hid ?_
                rw [List.map_append, List.length_append]
                exact HO8.out
        · have hgb : (g2 == 0) = false := by simp [hg0]
          have hgn : (g2 != 0) = true := by simp [hg0]
          have hl : L = (acc, k, g2) := by rw [HLL.out, if_pos hg0]
          have HF := Lib.hid hl
          clear hl HLL hg0
          go_wp2_with fail
          refine bodyPost_ret (v := .tuple #[.slice A acc.length c, .int .i64 (k : Int), .int .i64 g2]) (by simp [results, Tryd.results74, go_sem] <;> first | omega | (refine ⟨by omega, ?_⟩; omega)) rfl ⟨A, acc.length, c, by rw [HF.out], by rw [HF.out]; exact HO3.out, ON.out⟩
      · rw [hcut]
        have hl : L = (acc, k, 9) := by rw [HL.out, cutc_self hno, linesP_one, if_neg H0.out]
        have HF := Lib.hid hl
        clear hl hcut hno HL
        rintro e w1 ⟨rfl, b⟩
        replace on := on.to b
        have HO1 := Lib.hid (HO.out.below b)
        clear HO b
        have ON := Lib.hid on
        clear on
        go_wp2_with fail
        refine bodyPost_ret (v := .tuple #[.slice A acc.length c, .int .i64 (k : Int), .int .i64 9]) (by simp [results, Tryd.results74, go_sem] <;> first | omega | (refine ⟨by omega, ?_⟩; omega)) rfl ⟨A, acc.length, c, by rw [HF.out], by rw [HF.out]; exact HO1.out, ON.out⟩
end Go.Proofs.YtdcegdonppfbkaaDoor
