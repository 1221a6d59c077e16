/- Rows of bytes: slices.Equal; as strings. -/
import Derived.Test.YtdcegdonppfbkaaDoorStr
import Derived.Test.YtdcegdonppfbkaaDoorSee
import Derived.Laws.BytesArg
import Derived.Lib.AppendStr
namespace Go.Proofs.YtdcegdonppfbkaaDoor
set_option linter.unusedSimpArgs false
set_option linter.unusedVariables false
open Go.RowKit

def encB (b : UInt8) : List Value := [.int .u8 b.toNat]
theorem encB_one (l : List UInt8) : ∀ r ∈ l.map encB, ∀ u ∈ r, u.oneCell' = true := by
  intro r hr u hu
  obtain ⟨x, _, rfl⟩ := List.mem_map.1 hr
  simp [encB] at hu
  rcases hu with rfl <;> rfl
theorem Sl.atB {w : World} {B n : Nat} {A : Option Addr} {l : List UInt8} (h : Sl w B 1 A n (l.map encB)) {i : Nat} (hi : i < n) : ∃ b off x, A = some ⟨b, off, none⟩ ∧ b < B ∧ l[i]? = some x ∧ w.cell? ⟨b, off + i, none⟩ = some (.int .u8 x.toNat) := by
  obtain ⟨b, off, x, e, hb, hx, hc⟩ := h.at_ hi
  exact ⟨b, off, x, e, hb, hx, by simpa using hc 0 _ rfl⟩
theorem strOf (l : List UInt8) : strOfNums (l.map fun b => (b.toNat : Int)) = ⟨l.toArray⟩ := by
  unfold strOfNums
  simp only [List.map_map]
  rw [show ((fun n : Int => UInt8.ofNat n.toNat) ∘ fun b : UInt8 => (b.toNat : Int)) = id from by funext b; simp, List.map_id]
/-- A row of bytes as a string. -/
theorem conv_bytes {w : World} {B n c : Nat} {A : Option Addr} {l : List UInt8} (h : Sl w B 1 A n (l.map encB)) : (convert 51 9 (.slice A n c)).run Tryd.prog w = .ok (str l) w := by
  have hl : l.length = n := by have := h.1; simpa using this
  rcases Nat.eq_zero_or_pos n with h0 | h0
  · subst h0
    have hl0 : l = [] := List.eq_nil_of_length_eq_zero hl
    subst hl0
    cases A with
    | none => exact run_convert_bytes_nil w 51 5 Tryd.underlying51 Tryd.underlying5 0 c 9 Tryd.underlying9
    | some a =>
      rw [run_convert_bytes_string w 51 9 5 _ 0 c Tryd.underlying51 Tryd.underlying5 Tryd.underlying9, run_bytesToString w a 0 c [] (by simpa using run_loadCells_list (P := Tryd.prog) w a [] (by simp))]
      rfl
  · obtain ⟨b, off, e, _, hc⟩ := h.2.2 h0
    subst e
    have := run_convert_bytes_arg (P := Tryd.prog) w 51 5 Tryd.underlying51 Tryd.underlying5 b off n c (l.map fun b => (b.toNat : Int)) (by simp [hl]) (fun i hi => by
      have hi' : i < l.length := by omega
      have := hc i 0 (encB l[i]) (.int .u8 l[i].toNat) (by simp [List.getElem?_eq_getElem hi']) rfl
      simpa [List.getD, List.getElem?_eq_getElem hi'] using this) 9 Tryd.underlying9
    rw [this, strOf]
set_option maxHeartbeats 1000000 in
theorem EqualB_calls (A A' : Option Addr) (n m c d B : Nat) (l l' : List UInt8) (w : World) (h : Sl w B 1 A n (l.map encB)) (h' : Sl w B 1 A' m (l'.map encB)) (hn : n ≤ 9223372036854775807) :
    Calls Tryd.prog 76 #[.slice A n c, .slice A' m d] w fun e w' => e = .returned (.bool (decide (l = l'))) ∧ ∃ q, w' = w.drewN q := by
  by_cases hnm : n = m
  · subst hnm
    go_enter Tryd.func76, Tryd.ntmps76
    go_wp2
    go_loopg [13] n (fun g s13 wr => ∃ kk q : Nat, kk ≤ n ∧ n - kk ≤ g ∧ s13 = .int .i64 kk ∧ wr = w.drewN q ∧ Hid (∀ j, j < kk → l[j]? = l'[j]?))
    case atStart => exact ⟨0, 0, Nat.zero_le _, by omega, rfl, rfl, fun j hj => absurd hj (Nat.not_lt_zero _)⟩
    case round =>
      obtain ⟨kk, q, hkk, hg, rfl, rfl, H⟩ := hrel
      by_cases hlt : kk < n
      · obtain ⟨b, off, x, rfl, hb, hx, c0⟩ := h.atB hlt
        obtain ⟨b', off', x', rfl, hb', hx', d0⟩ := h'.atB hlt
        have HX := Lib.hid hx; have HX' := Lib.hid hx'; clear hx hx'
        clear h h'
        go_wp2_with fail
        go_quiet (fail)
        go_wp2
        · go_ret
          refine ⟨?_, q + nq, by simp⟩
          have hd : l ≠ l' := by
            rintro rfl
            have := HX.out.symm.trans HX'.out
            simp at this; subst this; simp_all
          simp [hd]
        · go_roundg (n - (kk + 1))
          case measure => omega
          case rel =>
            refine ⟨kk + 1, q + nq, by omega, by omega, by go_num, by simp, ?_⟩
            intro j hj
            by_cases e : j = kk
            · subst e
              rw [HX.out, HX'.out]; congr 1; simp_all; refine UInt8.toNat_inj.1 ?_; omega
            · exact H.out j (by omega)
      · have : kk = n := by omega
        subst this
        have hl := h.len; have hl' := h'.len
        simp at hl hl'
        have he : l = l' := list_eq_of (by omega) (fun j hj => H.out j (by omega))
        clear h h' hl hl'
        go_wp2
        go_ret
        refine ⟨by simp [he], q, rfl⟩
  · have hnm' : ¬ (n : Int) = (m : Int) := by omega
    have hd : l ≠ l' := by
      rintro rfl
      exact hnm (h.len.symm.trans h'.len)
    clear h h'
    go_enter Tryd.func76, Tryd.ntmps76
    go_wp2
    go_ret
    exact ⟨by simp [hd], 0, rfl⟩
end Go.Proofs.YtdcegdonppfbkaaDoor
