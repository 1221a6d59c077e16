/- The law FairBook's walk. -/
import Derived.Test.YtiphoihijalfkaaLawF
import Derived.Test.YtiphoihijalfkaaLived
import Derived.Test.YtiphoihijalfkaaLives2
import Derived.Test.YtiphoihijalfkaaReplay
import Derived.Test.YtiphoihijalfkaaSee
namespace Go.Proofs.Ytiphoihijalfkaa
set_option linter.unusedSimpArgs false
set_option linter.unusedVariables false
open Go.RowKit

set_option maxHeartbeats 4000000 in
set_option maxRecDepth 100000 in
theorem FairBook_bad (A : Option Addr) (n c : Nat) (l : List Entry) (w : World) (h : S w 5 A n (l.map encE)) (h0 : (livesL l).2 ≠ 0) :
    Calls Try.prog 9 #[.slice A n c] w fun e w' => e = .returned (.bool true) ∧ Onto w w' := by
  obtain ⟨q, hq⟩ : ∃ q, q = (livesL l).2 := ⟨_, rfl⟩
  have hq2 : (replay l).2 = q := by rw [hq]; exact (lives_replay l).1.symm
  have hd : (q != 0) = true := by rw [hq]; simpa using h0
  have HQ := Lib.hid hq; have HQ2 := Lib.hid hq2
  clear hq hq2 h0
  go_enter Try.func9, Try.ntmps9
  go_wp2_with fail
  refine Calls.mono (Lives_calls A n c l _ h) ?_
  rw [← HQ.out]
  rintro e w1 ⟨A1, n1, c1, rfl, _, o1, _, _, _⟩
  go_wp2_with fail
  refine Calls.mono (Replay_calls A n c _ l _ (h.onto o1) (Nat.le_refl _)) ?_
  rw [HQ2.out]
  rintro e w2 ⟨A2, n2, c2, A3, n3, c3, rfl, _, _, b2, _, _, _, _⟩
  have o2 := (Onto.to o1 b2).new (Obj.cells #[.slice A2 n2 c2, .slice A3 n3 c3] 38)
  clear o1 b2
  go_wp2_with fail
  refine Calls.mono (lived_calls _) ?_
  rintro e w3 ⟨rfl, b3⟩
  have o3 := Onto.to o2 b3
  clear o2 b3
  go_wp2_with fail
  refine Calls.mono (lived_calls _) ?_
  rintro e w4 ⟨rfl, b4⟩
  have o4 := Onto.to o3 b4
  clear o3 b4
  go_wp2_with fail
  go_ret
  exact ⟨ret_bool (by simp), o4⟩

set_option maxHeartbeats 4000000 in
set_option maxRecDepth 100000 in
theorem FairBook_good (A : Option Addr) (n c : Nat) (l : List Entry) (w : World) (h : S w 5 A n (l.map encE)) (h0 : (livesL l).2 = 0) :
    Calls Try.prog 9 #[.slice A n c] w fun e w' => e = .returned (.bool true) ∧ Onto w w' := by
  obtain ⟨m, hm⟩ : ∃ m, m = (livesL l).1 := ⟨_, rfl⟩
  obtain ⟨b, hb⟩ : ∃ b, b = (replay l).1 := ⟨_, rfl⟩
  have hq2 : (replay l).2 = 0 := (lives_replay l).1.symm.trans h0
  obtain ⟨z, hfb⟩ := (lives_replay l).2 h0
  rw [← hm, ← hb] at hfb
  have HL : Hid (livesL l = (m, 0)) := Lib.hid (by rw [hm, ← h0])
  have HR : Hid (replay l = (b, 0)) := Lib.hid (by rw [hb, ← hq2])
  have HF := Lib.hid hfb
  have hnj := hfb.good.nj
  clear hm hb hq2 hfb h0
  go_enter Try.func9, Try.ntmps9
  go_wp2_with fail
  refine Calls.mono (Lives_calls A n c l _ h) ?_
  rw [HL.out]
  rintro e w1 ⟨A1, n1, c1, rfl, s1, o1, _, hc1, hm1⟩
  go_wp2_with fail
  refine Calls.mono (Replay_calls A n c _ l _ (h.onto o1) (Nat.le_refl _)) ?_
  rw [HR.out]
  rintro e w2 ⟨A2, n2, c2, A3, n3, c3, rfl, t2, t3, b2, _, _, hc2, hc3⟩
  replace s1 : S w2 5 A1 n1 (m.map encL) := S.onto s1 b2
  have o2 := Onto.to o1 b2
  clear o1 b2 h
  go_upto_region 3 with fail
  have p0 : (w2.alloc (Obj.cells #[.slice A2 n2 c2, .slice A3 n3 c3] 38)).cell? ⟨w2.heap.size, 0, none⟩ = some (.slice A2 n2 c2) := by simp [go_sem]
  have p1 : (w2.alloc (Obj.cells #[.slice A2 n2 c2, .slice A3 n3 c3] 38)).cell? ⟨w2.heap.size, 1, none⟩ = some (.slice A3 n3 c3) := by simp [go_sem]
  have o3 := o2.new (Obj.cells #[.slice A2 n2 c2, .slice A3 n3 c3] 38)
  replace s1 := s1.new (Obj.cells #[.slice A2 n2 c2, .slice A3 n3 c3] 38)
  have s2 := S.new t2 (Obj.cells #[.slice A2 n2 c2, .slice A3 n3 c3] 38)
  have s3 := S.new t3 (Obj.cells #[.slice A2 n2 c2, .slice A3 n3 c3] 38)
  clear t2 t3 o2
  change Code.wp _ _ _ _ (w2.alloc (Obj.cells #[.slice A2 n2 c2, .slice A3 n3 c3] 38))
  generalize (w2.alloc (Obj.cells #[.slice A2 n2 c2, .slice A3 n3 c3] 38)) = w3 at *
  generalize w2.heap.size = bb at *
  go_wp2_with fail
  refine Calls.mono (lived_calls _) ?_
  rintro e w4 ⟨rfl, b4⟩
  replace o3 := Onto.to o3 b4
  replace s1 := s1.onto b4; replace s2 := s2.onto b4; replace s3 := s3.onto b4
  replace p0 := cellB b4 p0; replace p1 := cellB b4 p1
  clear b4
  have hl1 : m.length = n1 := by have := s1.len; simpa using this
  have hl2 : b.jobs.length = n2 := by have := s2.len; simpa using this
  have hl3 : b.rung.length = n3 := by have := s3.len; simpa using this
  have HL1 := Lib.hid hl1; have HL2 := Lib.hid hl2; have HL3 := Lib.hid hl3
  have hn2 : n2 ≤ 6 := by omega
  have hn1 : n1 ≤ maxLen := by omega
  unfold maxLen at hn1
  clear hl1 hl2 hl3 hm1 hc1 hnj
  go_wp2_with fail
  go_loopw [7, 8, 38] (fun s7 s8 s wr => ∃ k : Nat, k ≤ n1 ∧ s7 = .int .i64 (sumL (m.take k)) ∧ s8 = .int .i64 (liveL (m.take k)).length ∧ s = .int .i64 k ∧ Onto w4 wr) (fun _ _ s _ => n1 - (intOf s).toNat)
  case atStart => exact ⟨0, Nat.zero_le _, rfl, rfl, rfl, Onto.rfl' _⟩
  case round =>
    obtain ⟨k, hk, rfl, rfl, rfl, hbr⟩ := hrel
    by_cases hlt : k < n1
    · obtain ⟨bl, off, x, rfl, hbl, hx, d0, d1, d2, d3, d4⟩ := (s1.onto hbr).atL hlt
      have HX := Lib.hid hx
      have hsm := HF.out.sums k
      have hsx := HF.out.bl.each x (List.mem_of_getElem? hx)
      have hle := liveL_take_le m k
      have hlo := HF.out.bl.lo; have hhi := HF.out.bl.hi
      obtain ⟨sm, hsmq⟩ : ∃ q, q = sumL (m.take k) := ⟨_, rfl⟩
      obtain ⟨lv, hlvq⟩ : ∃ q, q = (liveL (m.take k)).length := ⟨_, rfl⟩
      simp only at hsm
      rw [← hsmq] at hsm ⊢
      rw [← hlvq] at hle ⊢
      have HSM := Lib.hid hsmq; have HLV := Lib.hid hlvq
      have hw1 : IntKind.i64.wrap (sm + x.rung) = sm + x.rung := by rw [IntKind.wrap_i64]; omega
      have hw2 : IntKind.i64.wrap ((lv : Int) + 1) = (lv : Int) + 1 := by rw [IntKind.wrap_i64]; omega
      have hmb : 0 ≤ x.every * x.rung ∧ x.every * x.rung ≤ 6000 := by
        refine ⟨Int.mul_nonneg hsx.1 hsx.2.2.2.2.1, ?_⟩
        have h1 := Int.mul_le_mul hsx.2.1 (show x.rung ≤ 60 by omega) hsx.2.2.2.2.1 (by omega)
        omega
      have hw3 : IntKind.i64.wrap (x.every * x.rung) = x.every * x.rung := by rw [IntKind.wrap_i64]; omega
      have hw4 : IntKind.i64.wrap (x.frm + x.every * x.rung) = x.frm + x.every * x.rung := by rw [IntKind.wrap_i64]; omega
      clear hsmq hlvq hx hsx hlo hhi hmb
      have hwr := hbr.size
      go_upto_region 11 with fail
      have f0 : (wr.alloc (Obj.cells #[.int .i64 x.job, .int .i64 x.every, .int .i64 x.frm, .int .i64 x.rung, .bool x.over] 33)).cell? ⟨wr.heap.size, 0, none⟩ = some (.int .i64 x.job) := by simp [go_sem]
      have f1 : (wr.alloc (Obj.cells #[.int .i64 x.job, .int .i64 x.every, .int .i64 x.frm, .int .i64 x.rung, .bool x.over] 33)).cell? ⟨wr.heap.size, 1, none⟩ = some (.int .i64 x.every) := by simp [go_sem]
      have f2 : (wr.alloc (Obj.cells #[.int .i64 x.job, .int .i64 x.every, .int .i64 x.frm, .int .i64 x.rung, .bool x.over] 33)).cell? ⟨wr.heap.size, 2, none⟩ = some (.int .i64 x.frm) := by simp [go_sem]
      have f3 : (wr.alloc (Obj.cells #[.int .i64 x.job, .int .i64 x.every, .int .i64 x.frm, .int .i64 x.rung, .bool x.over] 33)).cell? ⟨wr.heap.size, 3, none⟩ = some (.int .i64 x.rung) := by simp [go_sem]
      have f4 : (wr.alloc (Obj.cells #[.int .i64 x.job, .int .i64 x.every, .int .i64 x.frm, .int .i64 x.rung, .bool x.over] 33)).cell? ⟨wr.heap.size, 4, none⟩ = some (.bool x.over) := by simp [go_sem]
      have hb1 : Onto w4 (wr.alloc (Obj.cells #[.int .i64 x.job, .int .i64 x.every, .int .i64 x.frm, .int .i64 x.rung, .bool x.over] 33)) := hbr.new _
      clear d0 d1 d2 d3 d4 hbl hbr
      change Code.wp _ _ _ _ (wr.alloc (Obj.cells #[.int .i64 x.job, .int .i64 x.every, .int .i64 x.frm, .int .i64 x.rung, .bool x.over] 33))
      generalize (wr.alloc (Obj.cells #[.int .i64 x.job, .int .i64 x.every, .int .i64 x.frm, .int .i64 x.rung, .bool x.over] 33)) = w5 at *
      generalize wr.heap.size = be at *
      have t2 := s2.onto hb1; have q0 := cellB hb1 p0; have q1 := cellB hb1 p1
      cases ho : x.over with
      | true =>
        have HO := Lib.hid ho
        rw [ho] at f4
        clear ho
        go_wp2_with fail
        go_roundw
        case measure => simp [intOf] <;> omega
        case rel => exact ⟨k + 1, by omega, by rw [sum_take HX.out, ← HSM.out], by rw [live_skip HX.out HO.out, ← HLV.out], by go_num, hb1⟩
      | false =>
        obtain ⟨i, hi, hrow⟩ := HF.out.row HX.out ho
        have HO := Lib.hid ho; have HI := Lib.hid hi
        rw [ho] at f4
        clear ho hi
        have hin : i < n2 := by have := HL2.out; have := (List.getElem?_eq_some_iff.1 hrow).1; omega
        go_wp2_with fail
        refine Calls.mono (Find_calls A2 A3 n2 c2 n3 c3 _ x.job b.jobs b.rung _ t2 (Nat.le_refl _) (by omega)) ?_
        rw [show findB ⟨b.jobs, b.rung⟩ x.job = (i : Int) from HI.out]
        rintro e w6 ⟨rfl, b6⟩
        replace t2 := S.onto t2 b6
        obtain ⟨bj, offj, y, hA2, hbj, hy, g0, g1, g2⟩ := t2.atJ hin
        obtain rfl : rowL x = y := by rw [hy] at hrow; exact (Option.some.inj hrow).symm
        subst hA2
        replace f0 := cellB b6 f0; replace f1 := cellB b6 f1; replace f2 := cellB b6 f2; replace f3 := cellB b6 f3; replace q0 := cellB b6 q0; replace q1 := cellB b6 q1
        have hb2 := Onto.to hb1 b6
        clear hb1 b6 hy hrow f4
        have hd1 : decide ((i : Int) < 0) = false := by simp
        have hi0 : (0 : Int) ≤ (i : Int) := by omega
        have hin' : (i : Int) < (n2 : Int) := by omega
        simp only [rowL] at g0 g1 g2
        go_upto_region 15 with fail
        have of1 := onto_cell f1; have of2 := onto_cell f2; have of3 := onto_cell f3; have oq0 := onto_cell q0; have og1 := onto_cell g1; have og2 := onto_cell g2
        refine wp_region_onto (by kernel_rfl) (by kernel_rfl) ?_
        repeat (go_big_quiet_step (fail))
        refine wpQuiet_nil ?_
        intro w7 hb7
        have hb3 := Onto.to hb2 hb7
        clear of1 of2 of3 oq0 og1 og2 hb7 hb2
        go_wp2_with fail
        go_roundw
        case measure => simp [intOf] <;> omega
        case rel => exact ⟨k + 1, by omega, by rw [sum_take HX.out, ← HSM.out], by rw [live_take HX.out HO.out, ← HLV.out]; rfl, by go_num, hb3⟩
    · have hkn : k = n1 := by omega
      subst hkn
      have e1 : sumL (m.take k) = n3 := by
        rw [List.take_of_length_le (by have := HL1.out; omega)]
        exact HF.out.sum.trans (HF.out.rung.trans (by rw [HL3.out]))
      have e2 : (liveL (m.take k)).length = n2 := by
        rw [List.take_of_length_le (by have := HL1.out; omega)]
        exact HF.out.len.trans HL2.out
      rw [e1, e2]
      replace p0 := cellB hbr p0; replace p1 := cellB hbr p1
      have hb3 := Onto.to o3 hbr
      clear e1 e2 s1 s2 s3
      go_wp2_with fail
      go_ret
      exact ⟨ret_bool (by simp), hb3⟩

theorem FairBook_calls (A : Option Addr) (n c : Nat) (l : List Entry) (w : World) (h : S w 5 A n (l.map encE)) :
    Calls Try.prog 9 #[.slice A n c] w fun e w' => e = .returned (.bool true) ∧ Onto w w' := by
  by_cases h0 : (livesL l).2 = 0
  · exact FairBook_good A n c l w h h0
  · exact FairBook_bad A n c l w h h0
end Go.Proofs.Ytiphoihijalfkaa
