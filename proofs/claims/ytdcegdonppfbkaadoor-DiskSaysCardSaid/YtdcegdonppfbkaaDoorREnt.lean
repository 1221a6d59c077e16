/- The document's in and CheckEntry. -/
import Derived.Test.YtdcegdonppfbkaaDoorCont
import Derived.Test.YtdcegdonppfbkaaDoorEnt
namespace Go.Proofs.YtdcegdonppfbkaaDoor
set_option linter.unusedSimpArgs false
set_option linter.unusedVariables false
open Go.RowKit

theorem in_calls (n a b : Int) (w : World) :
    Calls Tryd.prog 58 #[.int .i64 n, .int .i64 a, .int .i64 b] w fun e w' => e = .returned (.bool (decide (a ≤ n) && decide (n ≤ b))) ∧ w = w' := by
  go_enter Tryd.func58, Tryd.ntmps58
  by_cases h : a ≤ n
  · go_wp2
    go_ret
    exact ⟨by simp [h], rfl⟩
  · have h' : decide (a ≤ n) = false := by simpa using h
    go_wp2
    go_ret
    exact ⟨by simp [h], rfl⟩
theorem CE1_calls (s : ByteArray) (c : UInt8) (n : Int) (q : Nat) (w : World) (hq : w.cell? ⟨q, 0, none⟩ = some (.string s)) :
    Calls Tryd.prog 59 #[.string ⟨#[c]⟩, .int .i64 n, .pointer (some ⟨q, 0, none⟩)] w fun e w' => e = .returned (.bool ((n != 0) && !(decide (0 ≤ Lib.indexByte s.data.toList c)))) ∧ w = w' := by
  go_enter Tryd.func59, Tryd.ntmps59
  by_cases h : n = 0
  · have h' : (n != 0) = false := by simp [h]
    go_wp2_with fail
    go_ret
    exact ⟨by simp [h], rfl⟩
  · have h' : (n != 0) = true := by simpa using h
    go_wp2_with fail
    refine Calls.mono (strContains_calls _ _ _) ?_
    rintro e w' ⟨rfl, rfl⟩
    go_wp2_with fail
    go_ret
    exact ⟨by simp [h], rfl⟩

theorem ix0_106 : decide (0 ≤ Lib.indexByte [] 106) = false := by kernel_rfl
theorem ix0_101 : decide (0 ≤ Lib.indexByte [] 101) = false := by kernel_rfl
theorem ix0_116 : decide (0 ≤ Lib.indexByte [] 116) = false := by kernel_rfl
theorem ix0_99 : decide (0 ≤ Lib.indexByte [] 99) = false := by kernel_rfl
theorem ix1_106 : decide (0 ≤ Lib.indexByte [106, 101, 116] 106) = true := by kernel_rfl
theorem ix1_101 : decide (0 ≤ Lib.indexByte [106, 101, 116] 101) = true := by kernel_rfl
theorem ix1_116 : decide (0 ≤ Lib.indexByte [106, 101, 116] 116) = true := by kernel_rfl
theorem ix1_99 : decide (0 ≤ Lib.indexByte [106, 101, 116] 99) = false := by kernel_rfl
theorem ix2_106 : decide (0 ≤ Lib.indexByte [106] 106) = true := by kernel_rfl
theorem ix2_101 : decide (0 ≤ Lib.indexByte [106] 101) = false := by kernel_rfl
theorem ix2_116 : decide (0 ≤ Lib.indexByte [106] 116) = false := by kernel_rfl
theorem ix2_99 : decide (0 ≤ Lib.indexByte [106] 99) = false := by kernel_rfl
theorem ix3_106 : decide (0 ≤ Lib.indexByte [106, 116, 99] 106) = true := by kernel_rfl
theorem ix3_101 : decide (0 ≤ Lib.indexByte [106, 116, 99] 101) = false := by kernel_rfl
theorem ix3_116 : decide (0 ≤ Lib.indexByte [106, 116, 99] 116) = true := by kernel_rfl
theorem ix3_99 : decide (0 ≤ Lib.indexByte [106, 116, 99] 99) = true := by kernel_rfl
set_option maxHeartbeats 8000000 in
set_option maxRecDepth 100000 in
theorem RCE_calls (k j v t c : Int) (w : World) :
    Calls Tryd.prog 15 #[.agg #[.int .i64 k, .int .i64 j, .int .i64 v, .int .i64 t, .int .i64 c]] w fun e w' => e = .returned (.int .i64 (checkE ⟨k, j, v, t, c⟩)) ∧ Below w.heap.size w w' := by
  obtain ⟨r, hr⟩ : ∃ r, r = checkE ⟨k, j, v, t, c⟩ := ⟨_, rfl⟩
  rw [← hr]
  have HR := Lib.hid hr
  clear hr
  by_cases hk : 0 ≤ k ∧ k ≤ 3
  · by_cases hrange : 0 ≤ j ∧ j ≤ 5 ∧ 0 ≤ v ∧ v ≤ 100 ∧ 0 ≤ t ∧ t ≤ 100000 ∧ 0 ≤ c ∧ c ≤ 2
    · have hin : (decide (0 ≤ k) && decide (k ≤ 3)) = true ∧ (decide (0 ≤ j) && decide (j ≤ 5)) = true ∧ (decide (0 ≤ v) && decide (v ≤ 100)) = true ∧ (decide (0 ≤ t) && decide (t ≤ 100000)) = true ∧ (decide (0 ≤ c) && decide (c ≤ 2)) = true := by simp; omega
      obtain ⟨i1, i2, i3, i4, i5⟩ := hin
      have hk' : k = 0 ∨ k = 1 ∨ k = 2 ∨ k = 3 := by omega
      have HN := Lib.hid hrange
      clear hk hrange
      rcases hk' with rfl | rfl | rfl | rfl
      · clear i1
        go_enter Tryd.func15, Tryd.ntmps15
        go_wp2_with (first
          | (go_at_call 58; refine Calls.mono (in_calls _ _ _ _) ?_; rintro e w' ⟨rfl, rfl⟩; first | rw [i2] | rw [i3] | rw [i4] | rw [i5] | skip))
        have hq : (((w.alloc (Obj.cells #[.int .i64 0, .int .i64 j, .int .i64 v, .int .i64 t, .int .i64 c] 23)).alloc (Obj.cells #[.string ⟨#[]⟩, .string ⟨#[106, 101, 116]⟩, .string ⟨#[106]⟩, .string ⟨#[106, 116, 99]⟩] 9)).alloc (Obj.cells #[.string ⟨#[]⟩] 9)).cell? ⟨w.heap.size + 1 + 1, 0, none⟩ = some (.string ⟨#[]⟩) := by simp [go_sem]
        have b0 : (((w.alloc (Obj.cells #[.int .i64 0, .int .i64 j, .int .i64 v, .int .i64 t, .int .i64 c] 23)).alloc (Obj.cells #[.string ⟨#[]⟩, .string ⟨#[106, 101, 116]⟩, .string ⟨#[106]⟩, .string ⟨#[106, 116, 99]⟩] 9)).alloc (Obj.cells #[.string ⟨#[]⟩] 9)).cell? ⟨w.heap.size, 0, none⟩ = some (.int .i64 0) := by simp [go_sem]
        have b1 : (((w.alloc (Obj.cells #[.int .i64 0, .int .i64 j, .int .i64 v, .int .i64 t, .int .i64 c] 23)).alloc (Obj.cells #[.string ⟨#[]⟩, .string ⟨#[106, 101, 116]⟩, .string ⟨#[106]⟩, .string ⟨#[106, 116, 99]⟩] 9)).alloc (Obj.cells #[.string ⟨#[]⟩] 9)).cell? ⟨w.heap.size, 1, none⟩ = some (.int .i64 j) := by simp [go_sem]
        have b2 : (((w.alloc (Obj.cells #[.int .i64 0, .int .i64 j, .int .i64 v, .int .i64 t, .int .i64 c] 23)).alloc (Obj.cells #[.string ⟨#[]⟩, .string ⟨#[106, 101, 116]⟩, .string ⟨#[106]⟩, .string ⟨#[106, 116, 99]⟩] 9)).alloc (Obj.cells #[.string ⟨#[]⟩] 9)).cell? ⟨w.heap.size, 2, none⟩ = some (.int .i64 v) := by simp [go_sem]
        have b3 : (((w.alloc (Obj.cells #[.int .i64 0, .int .i64 j, .int .i64 v, .int .i64 t, .int .i64 c] 23)).alloc (Obj.cells #[.string ⟨#[]⟩, .string ⟨#[106, 101, 116]⟩, .string ⟨#[106]⟩, .string ⟨#[106, 116, 99]⟩] 9)).alloc (Obj.cells #[.string ⟨#[]⟩] 9)).cell? ⟨w.heap.size, 3, none⟩ = some (.int .i64 t) := by simp [go_sem]
        have b4 : (((w.alloc (Obj.cells #[.int .i64 0, .int .i64 j, .int .i64 v, .int .i64 t, .int .i64 c] 23)).alloc (Obj.cells #[.string ⟨#[]⟩, .string ⟨#[106, 101, 116]⟩, .string ⟨#[106]⟩, .string ⟨#[106, 116, 99]⟩] 9)).alloc (Obj.cells #[.string ⟨#[]⟩] 9)).cell? ⟨w.heap.size, 4, none⟩ = some (.int .i64 c) := by simp [go_sem]
        have hb : Below w.heap.size w (((w.alloc (Obj.cells #[.int .i64 0, .int .i64 j, .int .i64 v, .int .i64 t, .int .i64 c] 23)).alloc (Obj.cells #[.string ⟨#[]⟩, .string ⟨#[106, 101, 116]⟩, .string ⟨#[106]⟩, .string ⟨#[106, 116, 99]⟩] 9)).alloc (Obj.cells #[.string ⟨#[]⟩] 9)) := (((Below.refl _ _).alloc (Nat.le_refl _) _).alloc (by simp) _).alloc (by simp; omega) _
        change Calls _ _ _ (((w.alloc (Obj.cells #[.int .i64 0, .int .i64 j, .int .i64 v, .int .i64 t, .int .i64 c] 23)).alloc (Obj.cells #[.string ⟨#[]⟩, .string ⟨#[106, 101, 116]⟩, .string ⟨#[106]⟩, .string ⟨#[106, 116, 99]⟩] 9)).alloc (Obj.cells #[.string ⟨#[]⟩] 9)) _
        generalize (((w.alloc (Obj.cells #[.int .i64 0, .int .i64 j, .int .i64 v, .int .i64 t, .int .i64 c] 23)).alloc (Obj.cells #[.string ⟨#[]⟩, .string ⟨#[106, 101, 116]⟩, .string ⟨#[106]⟩, .string ⟨#[106, 116, 99]⟩] 9)).alloc (Obj.cells #[.string ⟨#[]⟩] 9)) = w3 at hq b0 b1 b2 b3 b4 hb ⊢
        clear i2 i3 i4 i5
        go_wp2_with (first
          | (go_at_call 59; refine Calls.mono (CE1_calls _ _ _ _ _ hq) ?_; rintro e w' ⟨rfl, rfl⟩; simp only [List.toList_toArray, ix0_106, ix0_101, ix0_116, ix0_99, Bool.not_true, Bool.not_false, Bool.and_false, Bool.and_true]))
        all_goals
          go_ret
          refine ⟨ret_int ?_, hb⟩
          rw [HR.out]
          have hN := HN.out
          clear HR HN hq b0 b1 b2 b3 b4 hb
          (try simp only [beq_iff_eq, beq_eq_false_iff_ne, bne_iff_ne, bne_eq_false_iff_eq, ne_eq, Bool.or_eq_true, Bool.or_eq_false_iff, Bool.and_eq_true, Bool.and_eq_false_iff] at *)
          unfold checkE
          dsimp only
          (repeat' split) <;> first | omega | trace_state
      · clear i1
        go_enter Tryd.func15, Tryd.ntmps15
        go_wp2_with (first
          | (go_at_call 58; refine Calls.mono (in_calls _ _ _ _) ?_; rintro e w' ⟨rfl, rfl⟩; first | rw [i2] | rw [i3] | rw [i4] | rw [i5] | skip))
        have hq : (((w.alloc (Obj.cells #[.int .i64 1, .int .i64 j, .int .i64 v, .int .i64 t, .int .i64 c] 23)).alloc (Obj.cells #[.string ⟨#[]⟩, .string ⟨#[106, 101, 116]⟩, .string ⟨#[106]⟩, .string ⟨#[106, 116, 99]⟩] 9)).alloc (Obj.cells #[.string ⟨#[106, 101, 116]⟩] 9)).cell? ⟨w.heap.size + 1 + 1, 0, none⟩ = some (.string ⟨#[106, 101, 116]⟩) := by simp [go_sem]
        have b0 : (((w.alloc (Obj.cells #[.int .i64 1, .int .i64 j, .int .i64 v, .int .i64 t, .int .i64 c] 23)).alloc (Obj.cells #[.string ⟨#[]⟩, .string ⟨#[106, 101, 116]⟩, .string ⟨#[106]⟩, .string ⟨#[106, 116, 99]⟩] 9)).alloc (Obj.cells #[.string ⟨#[106, 101, 116]⟩] 9)).cell? ⟨w.heap.size, 0, none⟩ = some (.int .i64 1) := by simp [go_sem]
        have b1 : (((w.alloc (Obj.cells #[.int .i64 1, .int .i64 j, .int .i64 v, .int .i64 t, .int .i64 c] 23)).alloc (Obj.cells #[.string ⟨#[]⟩, .string ⟨#[106, 101, 116]⟩, .string ⟨#[106]⟩, .string ⟨#[106, 116, 99]⟩] 9)).alloc (Obj.cells #[.string ⟨#[106, 101, 116]⟩] 9)).cell? ⟨w.heap.size, 1, none⟩ = some (.int .i64 j) := by simp [go_sem]
        have b2 : (((w.alloc (Obj.cells #[.int .i64 1, .int .i64 j, .int .i64 v, .int .i64 t, .int .i64 c] 23)).alloc (Obj.cells #[.string ⟨#[]⟩, .string ⟨#[106, 101, 116]⟩, .string ⟨#[106]⟩, .string ⟨#[106, 116, 99]⟩] 9)).alloc (Obj.cells #[.string ⟨#[106, 101, 116]⟩] 9)).cell? ⟨w.heap.size, 2, none⟩ = some (.int .i64 v) := by simp [go_sem]
        have b3 : (((w.alloc (Obj.cells #[.int .i64 1, .int .i64 j, .int .i64 v, .int .i64 t, .int .i64 c] 23)).alloc (Obj.cells #[.string ⟨#[]⟩, .string ⟨#[106, 101, 116]⟩, .string ⟨#[106]⟩, .string ⟨#[106, 116, 99]⟩] 9)).alloc (Obj.cells #[.string ⟨#[106, 101, 116]⟩] 9)).cell? ⟨w.heap.size, 3, none⟩ = some (.int .i64 t) := by simp [go_sem]
        have b4 : (((w.alloc (Obj.cells #[.int .i64 1, .int .i64 j, .int .i64 v, .int .i64 t, .int .i64 c] 23)).alloc (Obj.cells #[.string ⟨#[]⟩, .string ⟨#[106, 101, 116]⟩, .string ⟨#[106]⟩, .string ⟨#[106, 116, 99]⟩] 9)).alloc (Obj.cells #[.string ⟨#[106, 101, 116]⟩] 9)).cell? ⟨w.heap.size, 4, none⟩ = some (.int .i64 c) := by simp [go_sem]
        have hb : Below w.heap.size w (((w.alloc (Obj.cells #[.int .i64 1, .int .i64 j, .int .i64 v, .int .i64 t, .int .i64 c] 23)).alloc (Obj.cells #[.string ⟨#[]⟩, .string ⟨#[106, 101, 116]⟩, .string ⟨#[106]⟩, .string ⟨#[106, 116, 99]⟩] 9)).alloc (Obj.cells #[.string ⟨#[106, 101, 116]⟩] 9)) := (((Below.refl _ _).alloc (Nat.le_refl _) _).alloc (by simp) _).alloc (by simp; omega) _
        change Calls _ _ _ (((w.alloc (Obj.cells #[.int .i64 1, .int .i64 j, .int .i64 v, .int .i64 t, .int .i64 c] 23)).alloc (Obj.cells #[.string ⟨#[]⟩, .string ⟨#[106, 101, 116]⟩, .string ⟨#[106]⟩, .string ⟨#[106, 116, 99]⟩] 9)).alloc (Obj.cells #[.string ⟨#[106, 101, 116]⟩] 9)) _
        generalize (((w.alloc (Obj.cells #[.int .i64 1, .int .i64 j, .int .i64 v, .int .i64 t, .int .i64 c] 23)).alloc (Obj.cells #[.string ⟨#[]⟩, .string ⟨#[106, 101, 116]⟩, .string ⟨#[106]⟩, .string ⟨#[106, 116, 99]⟩] 9)).alloc (Obj.cells #[.string ⟨#[106, 101, 116]⟩] 9)) = w3 at hq b0 b1 b2 b3 b4 hb ⊢
        clear i2 i3 i4 i5
        go_wp2_with (first
          | (go_at_call 59; refine Calls.mono (CE1_calls _ _ _ _ _ hq) ?_; rintro e w' ⟨rfl, rfl⟩; simp only [List.toList_toArray, ix1_106, ix1_101, ix1_116, ix1_99, Bool.not_true, Bool.not_false, Bool.and_false, Bool.and_true]))
        all_goals
          go_ret
          refine ⟨ret_int ?_, hb⟩
          rw [HR.out]
          have hN := HN.out
          clear HR HN hq b0 b1 b2 b3 b4 hb
          (try simp only [beq_iff_eq, beq_eq_false_iff_ne, bne_iff_ne, bne_eq_false_iff_eq, ne_eq, Bool.or_eq_true, Bool.or_eq_false_iff, Bool.and_eq_true, Bool.and_eq_false_iff] at *)
          unfold checkE
          dsimp only
          (repeat' split) <;> first | omega | trace_state
      · clear i1
        go_enter Tryd.func15, Tryd.ntmps15
        go_wp2_with (first
          | (go_at_call 58; refine Calls.mono (in_calls _ _ _ _) ?_; rintro e w' ⟨rfl, rfl⟩; first | rw [i2] | rw [i3] | rw [i4] | rw [i5] | skip))
        have hq : (((w.alloc (Obj.cells #[.int .i64 2, .int .i64 j, .int .i64 v, .int .i64 t, .int .i64 c] 23)).alloc (Obj.cells #[.string ⟨#[]⟩, .string ⟨#[106, 101, 116]⟩, .string ⟨#[106]⟩, .string ⟨#[106, 116, 99]⟩] 9)).alloc (Obj.cells #[.string ⟨#[106]⟩] 9)).cell? ⟨w.heap.size + 1 + 1, 0, none⟩ = some (.string ⟨#[106]⟩) := by simp [go_sem]
        have b0 : (((w.alloc (Obj.cells #[.int .i64 2, .int .i64 j, .int .i64 v, .int .i64 t, .int .i64 c] 23)).alloc (Obj.cells #[.string ⟨#[]⟩, .string ⟨#[106, 101, 116]⟩, .string ⟨#[106]⟩, .string ⟨#[106, 116, 99]⟩] 9)).alloc (Obj.cells #[.string ⟨#[106]⟩] 9)).cell? ⟨w.heap.size, 0, none⟩ = some (.int .i64 2) := by simp [go_sem]
        have b1 : (((w.alloc (Obj.cells #[.int .i64 2, .int .i64 j, .int .i64 v, .int .i64 t, .int .i64 c] 23)).alloc (Obj.cells #[.string ⟨#[]⟩, .string ⟨#[106, 101, 116]⟩, .string ⟨#[106]⟩, .string ⟨#[106, 116, 99]⟩] 9)).alloc (Obj.cells #[.string ⟨#[106]⟩] 9)).cell? ⟨w.heap.size, 1, none⟩ = some (.int .i64 j) := by simp [go_sem]
        have b2 : (((w.alloc (Obj.cells #[.int .i64 2, .int .i64 j, .int .i64 v, .int .i64 t, .int .i64 c] 23)).alloc (Obj.cells #[.string ⟨#[]⟩, .string ⟨#[106, 101, 116]⟩, .string ⟨#[106]⟩, .string ⟨#[106, 116, 99]⟩] 9)).alloc (Obj.cells #[.string ⟨#[106]⟩] 9)).cell? ⟨w.heap.size, 2, none⟩ = some (.int .i64 v) := by simp [go_sem]
        have b3 : (((w.alloc (Obj.cells #[.int .i64 2, .int .i64 j, .int .i64 v, .int .i64 t, .int .i64 c] 23)).alloc (Obj.cells #[.string ⟨#[]⟩, .string ⟨#[106, 101, 116]⟩, .string ⟨#[106]⟩, .string ⟨#[106, 116, 99]⟩] 9)).alloc (Obj.cells #[.string ⟨#[106]⟩] 9)).cell? ⟨w.heap.size, 3, none⟩ = some (.int .i64 t) := by simp [go_sem]
        have b4 : (((w.alloc (Obj.cells #[.int .i64 2, .int .i64 j, .int .i64 v, .int .i64 t, .int .i64 c] 23)).alloc (Obj.cells #[.string ⟨#[]⟩, .string ⟨#[106, 101, 116]⟩, .string ⟨#[106]⟩, .string ⟨#[106, 116, 99]⟩] 9)).alloc (Obj.cells #[.string ⟨#[106]⟩] 9)).cell? ⟨w.heap.size, 4, none⟩ = some (.int .i64 c) := by simp [go_sem]
        have hb : Below w.heap.size w (((w.alloc (Obj.cells #[.int .i64 2, .int .i64 j, .int .i64 v, .int .i64 t, .int .i64 c] 23)).alloc (Obj.cells #[.string ⟨#[]⟩, .string ⟨#[106, 101, 116]⟩, .string ⟨#[106]⟩, .string ⟨#[106, 116, 99]⟩] 9)).alloc (Obj.cells #[.string ⟨#[106]⟩] 9)) := (((Below.refl _ _).alloc (Nat.le_refl _) _).alloc (by simp) _).alloc (by simp; omega) _
        change Calls _ _ _ (((w.alloc (Obj.cells #[.int .i64 2, .int .i64 j, .int .i64 v, .int .i64 t, .int .i64 c] 23)).alloc (Obj.cells #[.string ⟨#[]⟩, .string ⟨#[106, 101, 116]⟩, .string ⟨#[106]⟩, .string ⟨#[106, 116, 99]⟩] 9)).alloc (Obj.cells #[.string ⟨#[106]⟩] 9)) _
        generalize (((w.alloc (Obj.cells #[.int .i64 2, .int .i64 j, .int .i64 v, .int .i64 t, .int .i64 c] 23)).alloc (Obj.cells #[.string ⟨#[]⟩, .string ⟨#[106, 101, 116]⟩, .string ⟨#[106]⟩, .string ⟨#[106, 116, 99]⟩] 9)).alloc (Obj.cells #[.string ⟨#[106]⟩] 9)) = w3 at hq b0 b1 b2 b3 b4 hb ⊢
        clear i2 i3 i4 i5
        go_wp2_with (first
          | (go_at_call 59; refine Calls.mono (CE1_calls _ _ _ _ _ hq) ?_; rintro e w' ⟨rfl, rfl⟩; simp only [List.toList_toArray, ix2_106, ix2_101, ix2_116, ix2_99, Bool.not_true, Bool.not_false, Bool.and_false, Bool.and_true]))
        all_goals
          go_ret
          refine ⟨ret_int ?_, hb⟩
          rw [HR.out]
          have hN := HN.out
          clear HR HN hq b0 b1 b2 b3 b4 hb
          (try simp only [beq_iff_eq, beq_eq_false_iff_ne, bne_iff_ne, bne_eq_false_iff_eq, ne_eq, Bool.or_eq_true, Bool.or_eq_false_iff, Bool.and_eq_true, Bool.and_eq_false_iff] at *)
          unfold checkE
          dsimp only
          (repeat' split) <;> first | omega | trace_state
      · clear i1
        go_enter Tryd.func15, Tryd.ntmps15
        go_wp2_with (first
          | (go_at_call 58; refine Calls.mono (in_calls _ _ _ _) ?_; rintro e w' ⟨rfl, rfl⟩; first | rw [i2] | rw [i3] | rw [i4] | rw [i5] | skip))
        have hq : (((w.alloc (Obj.cells #[.int .i64 3, .int .i64 j, .int .i64 v, .int .i64 t, .int .i64 c] 23)).alloc (Obj.cells #[.string ⟨#[]⟩, .string ⟨#[106, 101, 116]⟩, .string ⟨#[106]⟩, .string ⟨#[106, 116, 99]⟩] 9)).alloc (Obj.cells #[.string ⟨#[106, 116, 99]⟩] 9)).cell? ⟨w.heap.size + 1 + 1, 0, none⟩ = some (.string ⟨#[106, 116, 99]⟩) := by simp [go_sem]
        have b0 : (((w.alloc (Obj.cells #[.int .i64 3, .int .i64 j, .int .i64 v, .int .i64 t, .int .i64 c] 23)).alloc (Obj.cells #[.string ⟨#[]⟩, .string ⟨#[106, 101, 116]⟩, .string ⟨#[106]⟩, .string ⟨#[106, 116, 99]⟩] 9)).alloc (Obj.cells #[.string ⟨#[106, 116, 99]⟩] 9)).cell? ⟨w.heap.size, 0, none⟩ = some (.int .i64 3) := by simp [go_sem]
        have b1 : (((w.alloc (Obj.cells #[.int .i64 3, .int .i64 j, .int .i64 v, .int .i64 t, .int .i64 c] 23)).alloc (Obj.cells #[.string ⟨#[]⟩, .string ⟨#[106, 101, 116]⟩, .string ⟨#[106]⟩, .string ⟨#[106, 116, 99]⟩] 9)).alloc (Obj.cells #[.string ⟨#[106, 116, 99]⟩] 9)).cell? ⟨w.heap.size, 1, none⟩ = some (.int .i64 j) := by simp [go_sem]
        have b2 : (((w.alloc (Obj.cells #[.int .i64 3, .int .i64 j, .int .i64 v, .int .i64 t, .int .i64 c] 23)).alloc (Obj.cells #[.string ⟨#[]⟩, .string ⟨#[106, 101, 116]⟩, .string ⟨#[106]⟩, .string ⟨#[106, 116, 99]⟩] 9)).alloc (Obj.cells #[.string ⟨#[106, 116, 99]⟩] 9)).cell? ⟨w.heap.size, 2, none⟩ = some (.int .i64 v) := by simp [go_sem]
        have b3 : (((w.alloc (Obj.cells #[.int .i64 3, .int .i64 j, .int .i64 v, .int .i64 t, .int .i64 c] 23)).alloc (Obj.cells #[.string ⟨#[]⟩, .string ⟨#[106, 101, 116]⟩, .string ⟨#[106]⟩, .string ⟨#[106, 116, 99]⟩] 9)).alloc (Obj.cells #[.string ⟨#[106, 116, 99]⟩] 9)).cell? ⟨w.heap.size, 3, none⟩ = some (.int .i64 t) := by simp [go_sem]
        have b4 : (((w.alloc (Obj.cells #[.int .i64 3, .int .i64 j, .int .i64 v, .int .i64 t, .int .i64 c] 23)).alloc (Obj.cells #[.string ⟨#[]⟩, .string ⟨#[106, 101, 116]⟩, .string ⟨#[106]⟩, .string ⟨#[106, 116, 99]⟩] 9)).alloc (Obj.cells #[.string ⟨#[106, 116, 99]⟩] 9)).cell? ⟨w.heap.size, 4, none⟩ = some (.int .i64 c) := by simp [go_sem]
        have hb : Below w.heap.size w (((w.alloc (Obj.cells #[.int .i64 3, .int .i64 j, .int .i64 v, .int .i64 t, .int .i64 c] 23)).alloc (Obj.cells #[.string ⟨#[]⟩, .string ⟨#[106, 101, 116]⟩, .string ⟨#[106]⟩, .string ⟨#[106, 116, 99]⟩] 9)).alloc (Obj.cells #[.string ⟨#[106, 116, 99]⟩] 9)) := (((Below.refl _ _).alloc (Nat.le_refl _) _).alloc (by simp) _).alloc (by simp; omega) _
        change Calls _ _ _ (((w.alloc (Obj.cells #[.int .i64 3, .int .i64 j, .int .i64 v, .int .i64 t, .int .i64 c] 23)).alloc (Obj.cells #[.string ⟨#[]⟩, .string ⟨#[106, 101, 116]⟩, .string ⟨#[106]⟩, .string ⟨#[106, 116, 99]⟩] 9)).alloc (Obj.cells #[.string ⟨#[106, 116, 99]⟩] 9)) _
        generalize (((w.alloc (Obj.cells #[.int .i64 3, .int .i64 j, .int .i64 v, .int .i64 t, .int .i64 c] 23)).alloc (Obj.cells #[.string ⟨#[]⟩, .string ⟨#[106, 101, 116]⟩, .string ⟨#[106]⟩, .string ⟨#[106, 116, 99]⟩] 9)).alloc (Obj.cells #[.string ⟨#[106, 116, 99]⟩] 9)) = w3 at hq b0 b1 b2 b3 b4 hb ⊢
        clear i2 i3 i4 i5
        go_wp2_with (first
          | (go_at_call 59; refine Calls.mono (CE1_calls _ _ _ _ _ hq) ?_; rintro e w' ⟨rfl, rfl⟩; simp only [List.toList_toArray, ix3_106, ix3_101, ix3_116, ix3_99, Bool.not_true, Bool.not_false, Bool.and_false, Bool.and_true]))
        all_goals
          go_ret
          refine ⟨ret_int ?_, hb⟩
          rw [HR.out]
          have hN := HN.out
          clear HR HN hq b0 b1 b2 b3 b4 hb
          (try simp only [beq_iff_eq, beq_eq_false_iff_ne, bne_iff_ne, bne_eq_false_iff_eq, ne_eq, Bool.or_eq_true, Bool.or_eq_false_iff, Bool.and_eq_true, Bool.and_eq_false_iff] at *)
          unfold checkE
          dsimp only
          (repeat' split) <;> first | omega | trace_state
    · have i1 : (decide (0 ≤ k) && decide (k ≤ 3)) = true := by simp; omega
      have HK := Lib.hid hk; have HN := Lib.hid hrange
      clear hk hrange
      go_enter Tryd.func15, Tryd.ntmps15
      go_wp2_with (first
        | (go_at_call 58; refine Calls.mono (in_calls _ _ _ _) ?_; rintro e w' ⟨rfl, rfl⟩; first | rw [i1] | skip)
        | (go_at_call 59; exfalso; have hN := HN.out; clear HN; (try simp only [Bool.not_eq_true', Bool.not_eq_false', Bool.and_eq_true, Bool.and_eq_false_iff, decide_eq_true_eq, decide_eq_false_iff_not] at *); omega))
      all_goals
        first
        | (exfalso; have hN := HN.out; clear HN; (try simp only [Bool.not_eq_true', Bool.not_eq_false', Bool.and_eq_true, Bool.and_eq_false_iff, decide_eq_true_eq, decide_eq_false_iff_not] at *); omega)
        | (go_ret; refine ⟨ret_int ?_, (Below.refl _ _).alloc (Nat.le_refl _) _⟩; rw [HR.out]; have hK := HK.out; have hN := HN.out; clear HR HK HN; (try simp only [Bool.not_eq_true', Bool.not_eq_false', Bool.and_eq_true, Bool.and_eq_false_iff, decide_eq_true_eq, decide_eq_false_iff_not] at *); unfold checkE; dsimp only; (repeat' split) <;> omega)
        | trace_state
  · have i1 : (decide (0 ≤ k) && decide (k ≤ 3)) = false := by simp; omega
    go_enter Tryd.func15, Tryd.ntmps15
    go_wp2_with (first
      | (go_at_call 58; refine Calls.mono (in_calls _ _ _ _) ?_; rintro e w' ⟨rfl, rfl⟩; rw [i1]))
    go_ret
    refine ⟨ret_int ?_, (Below.refl _ _).alloc (Nat.le_refl _) _⟩
    rw [HR.out]
    unfold checkE
    dsimp only
    rw [if_pos (by omega)]
end Go.Proofs.YtdcegdonppfbkaaDoor
