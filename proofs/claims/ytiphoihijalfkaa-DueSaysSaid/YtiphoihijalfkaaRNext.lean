/- The document's NextOf, CountTo. -/
import Derived.Test.YtiphoihijalfkaaSpecD
import Derived.Test.YtiphoihijalfkaaSee
namespace Go.Proofs.Ytiphoihijalfkaa
set_option linter.unusedSimpArgs false
set_option linter.unusedVariables false
open Go.RowKit

theorem whenL_low : ∀ {l : List Job} {a : Int}, -1 ≤ a → (∀ x ∈ l, 0 ≤ x.next) → -1 ≤ whenL a l
  | [], a, h, _ => h
  | j :: l, a, h, hl => by
    simp only [whenL]
    have h0 := hl j (by simp)
    split
    · exact whenL_low (by omega) (fun x hx => hl x (by simp [hx]))
    · exact whenL_low h (fun x hx => hl x (by simp [hx]))
set_option maxHeartbeats 4000000 in
set_option maxRecDepth 100000 in
theorem RNext_calls (A A' : Option Addr) (n c m d : Nat) (b : Book) (w : World) (h : S w 3 A n (b.jobs.map encJ)) (hn : n ≤ 1000000) (hpos : ∀ x ∈ b.jobs, 0 ≤ x.next) :
    Calls Try.prog 37 #[.agg #[.slice A n c, .slice A' m d]] w fun e w' => e = .returned (.int .i64 (whenL (-1) b.jobs)) ∧ Onto w w' := by
  have hl : b.jobs.length = n := by have := h.len; simpa using this
  have HL := Lib.hid hl
  obtain ⟨fin, hfin⟩ : ∃ fin, fin = whenL (-1) b.jobs := ⟨_, rfl⟩
  rw [← hfin]
  have HF := Lib.hid hfin; have HP := Lib.hid hpos
  have h01 : Onto w (w.alloc (Obj.cells #[.slice A n c, .slice A' m d] 38)) := (Below.refl _ _).alloc (Nat.le_refl _) _
  clear hfin hl hpos
  go_enter Try.func37, Try.ntmps37
  go_wp2_with fail
  go_loopw [3, 9] (fun s3 s wr => ∃ k : Nat, ∃ a : Int, k ≤ n ∧ s = .int .i64 k ∧ s3 = .int .i64 a ∧ Onto w wr ∧ Hid (a = whenL (-1) (b.jobs.take k))) (fun _ s _ => n - (intOf s).toNat)
  case atStart => exact ⟨0, -1, Nat.zero_le _, rfl, rfl, h01, rfl⟩
  case round =>
    obtain ⟨k, a, hk, rfl, rfl, hbr, HA⟩ := hrel
    by_cases hlt : k < n
    · obtain ⟨bb, off, x, rfl, hb, hx, c0, c1, c2⟩ := (h.onto hbr).atJ hlt
      have hct := whenL_take hx (-1)
      rw [← HA.out] at hct
      have hlow : -1 ≤ a := by rw [HA.out]; exact whenL_low (by omega) (fun y hy => HP.out y (List.mem_of_mem_take hy))
      have HC := Lib.hid hct
      clear hx hct
      have hal : Onto wr (wr.alloc (Obj.cells #[.int .i64 x.id, .int .i64 x.every, .int .i64 x.next] 46)) := (Below.refl _ _).alloc (Nat.le_refl _) _
      by_cases ha : a = -1
      · have hd : (a == -1) = true := by simp [ha]
        have HAA := Lib.hid ha
        clear ha
        go_wp2_with fail
        go_roundw
        case measure => simp [intOf] <;> omega
        case rel => exact ⟨k + 1, x.next, by omega, by go_num, rfl, Onto.to hbr hal, by show _ = _; rw [HC.out, if_pos (by have := HAA.out; omega)]⟩
      · have hd : (a == -1) = false := by simpa using ha
        by_cases hnx : x.next < a
        · have hd2 : decide (x.next < a) = true := by simpa using hnx
          go_wp2_with fail
          go_roundw
          case measure => simp [intOf] <;> omega
          case rel => exact ⟨k + 1, x.next, by omega, by go_num, rfl, Onto.to hbr hal, by show _ = _; rw [HC.out, if_pos (by omega)]⟩
        · have hd2 : decide (x.next < a) = false := by simpa using hnx
          go_wp2_with fail
          go_roundw
          case measure => simp [intOf] <;> omega
          case rel => exact ⟨k + 1, a, by omega, by go_num, rfl, Onto.to hbr hal, by show _ = _; rw [HC.out, if_neg (by omega)]⟩
    · obtain rfl : k = n := by omega
      have hfin : a = fin := by rw [HA.out, HF.out, List.take_of_length_le (by rw [HL.out]; omega)]
      have HFin := Lib.hid hfin
      clear hfin
      go_wp2_with fail
      go_ret
      exact ⟨ret_int HFin.out, hbr⟩

/-- How often a job rings up to a time: the first time behind it. -/
theorem cnt_exit {x : Job} {t u : Int} {i : Nat} (hx : ¬ badJ x) (hu : u = x.next + x.every * i) (hlast : 0 < i → u - x.every ≤ t) (hut : t < u) : cntJ t x = i := by
  unfold badJ at hx
  unfold cntJ
  rcases Nat.eq_zero_or_pos i with h0 | h0
  · subst h0
    rw [if_neg (by simp at hu; omega)]
    rfl
  · have h1 := hlast h0
    obtain ⟨i', rfl⟩ : ∃ i', i = i' + 1 := ⟨i - 1, by omega⟩
    have e : x.every * ((i' + 1 : Nat) : Int) = x.every * i' + x.every := by rw [Int.natCast_add, Int.mul_add]; simp
    rw [e] at hu
    have h2 : 0 ≤ x.every * (i' : Int) := Int.mul_nonneg (by omega) (by omega)
    rw [if_pos (by omega)]
    have h3 : (t - x.next) / x.every = i' := by
      have e2 : t - x.next = (t - x.next - x.every * i') + x.every * i' := by omega
      rw [e2, Int.add_mul_ediv_left _ _ (by omega), Int.ediv_eq_zero_of_lt (by omega) (by omega)]
      omega
    rw [h3]
    omega
set_option maxHeartbeats 4000000 in
set_option maxRecDepth 100000 in
theorem RCount_calls (A A' : Option Addr) (n c m d : Nat) (b : Book) (t : Int) (w : World) (h : S w 3 A n (b.jobs.map encJ)) (hn : n ≤ 6) (hok : ∀ x ∈ b.jobs, ¬ badJ x) (ht0 : 0 ≤ t) (ht1 : t ≤ 100000) :
    Calls Try.prog 39 #[.agg #[.slice A n c, .slice A' m d], .int .i64 t] w fun e w' => e = .returned (.int .i64 (countL b.jobs t)) ∧ Onto w w' := by
  have hl : b.jobs.length = n := by have := h.len; simpa using this
  have HL := Lib.hid hl
  obtain ⟨fin, hfin⟩ : ∃ fin, fin = countL b.jobs t := ⟨_, rfl⟩
  rw [← hfin]
  have HF := Lib.hid hfin; have HP := Lib.hid hok
  have h01 : Onto w (w.alloc (Obj.cells #[.slice A n c, .slice A' m d] 38)) := (Below.refl _ _).alloc (Nat.le_refl _) _
  clear hfin hl hok
  go_enter Try.func39, Try.ntmps39
  go_wp2_with fail
  go_loopw [5, 12] (fun s5 s wr => ∃ k : Nat, ∃ a : Int, k ≤ n ∧ s = .int .i64 k ∧ s5 = .int .i64 a ∧ 0 ≤ a ∧ a ≤ k * 100001 ∧ Onto w wr ∧ Hid (a = countL (b.jobs.take k) t)) (fun _ s _ => n - (intOf s).toNat)
  case atStart => exact ⟨0, 0, Nat.zero_le _, rfl, rfl, by omega, by omega, h01, rfl⟩
  case round =>
    obtain ⟨k, a, hk, rfl, rfl, ha0, ha1, hbr, HA⟩ := hrel
    by_cases hlt : k < n
    · obtain ⟨bb, off, x, rfl, hb, hx, c0, c1, c2⟩ := (h.onto hbr).atJ hlt
      have hbx := HP.out x (List.mem_of_getElem? hx)
      have hct := countL_take hx t
      rw [← HA.out] at hct
      have hbd := cntJ_bd hbx ht1
      have HC := Lib.hid hct; have HB := Lib.hid hbx
      have hx1 : 1 ≤ x.every ∧ x.every ≤ 100 ∧ 0 ≤ x.next ∧ x.next ≤ 100100 := by unfold badJ at hbx; omega
      obtain ⟨x1, x2, x3, x4⟩ := hx1
      clear hx hct hbx
      have hal : Onto wr (wr.alloc (Obj.cells #[.int .i64 x.id, .int .i64 x.every, .int .i64 x.next] 46)) := (Below.refl _ _).alloc (Nat.le_refl _) _
      have e1 : (wr.alloc (Obj.cells #[.int .i64 x.id, .int .i64 x.every, .int .i64 x.next] 46)).cell? ⟨wr.heap.size, 1, none⟩ = some (.int .i64 x.every) := by simp [go_sem]
      have hz : wr.heap.size < (wr.alloc (Obj.cells #[.int .i64 x.id, .int .i64 x.every, .int .i64 x.next] 46)).heap.size := by simp
      go_upto_region 5 with fail
      have e2 : (wr.alloc (Obj.cells #[.int .i64 x.id, .int .i64 x.every, .int .i64 x.next] 46)).cell? ⟨wr.heap.size, 2, none⟩ = some (.int .i64 x.next) := by simp [go_sem]
      generalize wr.alloc (Obj.cells #[.int .i64 x.id, .int .i64 x.every, .int .i64 x.next] 46) = wA at *
      go_wp2_with fail
      go_loopw [5, 8] (fun s5 s8 ws => ∃ (i : Nat) (u cn : Int), s8 = .int .i64 u ∧ s5 = .int .i64 cn ∧ Hid (cn = a + i) ∧ (i : Int) ≤ u ∧ 0 ≤ u ∧ u ≤ 100200 ∧ cn ≤ 1000000 ∧ Onto wA ws ∧ Hid (u = x.next + x.every * i) ∧ Hid (0 < i → u - x.every ≤ t)) (fun _ s8 _ => (100201 - (intOf s8)).toNat)
      case atStart => exact ⟨0, x.next, a, rfl, rfl, by show _ = _; simp, by omega, by omega, by omega, by omega, Below.refl _ _, by show _ = _; simp, fun h0 => absurd h0 (by omega)⟩
      case round =>
        obtain ⟨i, u, cn, rfl, rfl, HCN, hiu, hu0, hu1, hcb, hbs, HU, HLst⟩ := hrel
        have e1' := cellB hbs e1
        have hz' := World.block_lt_of_cell? _ _ e1'
        simp only at hz'
        have hcb2 : 0 ≤ cn ∧ cn ≤ 800000 := by have := HCN.out; omega
        obtain ⟨hcb3, hcb4⟩ := hcb2
        by_cases hut : u ≤ t
        · have hd : decide (u ≤ t) = true := by simpa using hut
          have hw1 : IntKind.i64.wrap (u + x.every) = u + x.every := by rw [IntKind.wrap_i64]; omega
          have hw2 : IntKind.i64.wrap (cn + 1) = cn + 1 := by rw [IntKind.wrap_i64]; omega
          go_wp2_with fail
          go_roundw
          case measure => simp [intOf] <;> omega
          case rel =>
            refine ⟨i + 1, u + x.every, cn + 1, rfl, rfl, by show _ = _; rw [HCN.out]; omega, by omega, by omega, by omega, by omega, hbs, ?_, fun _ => by omega⟩
            show _ = _
            rw [HU.out, Int.natCast_add, Int.mul_add]
            simp
            omega
        · have hd : decide (u ≤ t) = false := by simpa using hut
          have hcj := cnt_exit HB.out HU.out HLst.out (by omega)
          have HCJ := Lib.hid hcj
          clear hcj
          go_wp2_with fail
          go_roundw
          case measure => simp [intOf] <;> omega
          case rel => exact ⟨k + 1, cn, by omega, by go_num, rfl, by omega, by have := HCJ.out; have := HCN.out; omega, Onto.to hbr (Onto.to hal hbs), by show _ = _; rw [HC.out, HCJ.out, HCN.out]⟩
    · obtain rfl : k = n := by omega
      have hfin : a = fin := by rw [HA.out, HF.out, List.take_of_length_le (by rw [HL.out]; omega)]
      have HFin := Lib.hid hfin
      clear hfin
      go_wp2_with fail
      go_ret
      exact ⟨ret_int HFin.out, hbr⟩
end Go.Proofs.Ytiphoihijalfkaa
