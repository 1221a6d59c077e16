/- chain.Check. -/
import Derived.Test.YtbipmoehcmighaaSpecC
import Derived.Test.YtbipmoehcmighaaUnit
namespace Go.Proofs.Ytbipmoehcmighaa
set_option linter.unusedSimpArgs false
set_option linter.unusedVariables false
open Go.RowKit

/-- A unit, and where its cells lie. -/
structure UV where
  ep : Int
  A : Option Addr
  n : Nat
  c : Nat
  cells : List Entry
def UV.u (v : UV) : Uni := ⟨v.ep, v.cells⟩
def encU (v : UV) : List Value := [.int .i64 v.ep, .slice v.A v.n v.c]
abbrev unis (l : List UV) : List Uni := l.map UV.u
/-- The slice reads as the units. -/
structure Us (w : World) (A : Option Addr) (n : Nat) (l : List UV) : Prop where
  rows : S w 2 A n (l.map encU)
  cells : ∀ v ∈ l, S w 5 v.A v.n (v.cells.map encE)
  caps : ∀ v ∈ l, v.n ≤ v.c ∧ v.c ≤ maxLen
theorem Us.onto {w w' : World} {A : Option Addr} {n : Nat} {l : List UV} (h : Us w A n l) (hb : Onto w w') : Us w' A n l := ⟨h.rows.onto hb, fun v hv => (h.cells v hv).onto hb, h.caps⟩
theorem Us.new {w : World} {A : Option Addr} {n : Nat} {l : List UV} (h : Us w A n l) (o : Obj) : Us (w.alloc o) A n l := h.onto ((Below.refl _ _).alloc (Nat.le_refl _) _)
theorem Us.len {w : World} {A : Option Addr} {n : Nat} {l : List UV} (h : Us w A n l) : l.length = n := by have := h.rows.len; simpa using this
theorem Us.atU {w : World} {A : Option Addr} {n : Nat} {l : List UV} (h : Us w A n l) {i : Nat} (hi : i < n) : ∃ b off v, A = some ⟨b, off, none⟩ ∧ b < w.heap.size ∧ l[i]? = some v ∧
    w.cell? ⟨b, off + i * 2, none⟩ = some (.int .i64 v.ep) ∧ w.cell? ⟨b, off + i * 2 + 1, none⟩ = some (.slice v.A v.n v.c) ∧ S w 5 v.A v.n (v.cells.map encE) ∧ v.cells.length = v.n := by
  obtain ⟨b, off, x, e, hb, hx, hc⟩ := h.rows.at_ hi
  have hs := h.cells x (List.mem_of_getElem? hx)
  exact ⟨b, off, x, e, hb, hx, hc 0 _ rfl, hc 1 _ rfl, hs, by have := hs.len; simpa using this⟩
theorem unis_at {l : List UV} {i : Nat} {v : UV} (h : l[i]? = some v) : (unis l)[i]? = some v.u := by simp [unis, h]

set_option maxHeartbeats 4000000 in
set_option maxRecDepth 100000 in
theorem CCheck_calls (A : Option Addr) (n c : Nat) (l : List UV) (w : World) (h : Us w A n l) :
    Calls Try.prog 16 #[.slice A n c] w fun e w' => e = .returned (.int .i64 (checkC (unis l))) ∧ Onto w w' := by
  have hl := h.len
  obtain ⟨r, hr⟩ : ∃ r, r = checkC (unis l) := ⟨_, rfl⟩
  rw [← hr]
  unfold checkC at hr
  by_cases h3 : n = 3
  · subst h3
    rw [if_neg (by simp [hl])] at hr
    have HR := Lib.hid hr; have HL := Lib.hid hl
    clear hr hl
    go_enter Try.func16, Try.ntmps16
    have hne := neqE
    go_wp2_with fail
    go_loopw [13] (fun s wr => ∃ k : Nat, k ≤ 3 ∧ s = .int .i64 k ∧ Onto w wr ∧ Hid (r = chainL (aheadU (unis l) k) ((unis l).drop k)) ∧ Hid (∀ j v, j < k → l[j]? = some v → v.n = 60)) (fun s _ => 3 - (intOf s).toNat)
    case atStart => exact ⟨0, by omega, rfl, Below.refl _ _, by show _ = _; rw [HR.out]; rfl, fun j v hj => absurd hj (Nat.not_lt_zero _)⟩
    case round =>
      obtain ⟨i, hi, rfl, hbr, HK, HN⟩ := hrel
      by_cases hlt : i < 3
      · obtain ⟨b, off, u, rfl, hb, hu, e0, e1, hs, hul⟩ := (h.onto hbr).atU hlt
        have p0 : 0 < i → ∃ v, l[i - 1]? = some v ∧ wr.cell? ⟨b, off + (i - 1) * 2 + 1, none⟩ = some (.slice v.A v.n v.c) ∧ S wr 5 v.A v.n (v.cells.map encE) ∧ v.n = 60 := by
          intro hp
          obtain ⟨b', off', v, e', _, hv, _, e1', hs', _⟩ := (h.onto hbr).atU (i := i - 1) (by omega)
          injection e' with e'; injection e' with e1 e2 _; subst e1; subst e2
          exact ⟨v, hv, e1', hs', HN.out _ v (by omega) hv⟩
        have HU := Lib.hid (unis_at hu); have HU0 := Lib.hid hu
        have hk := HK.out
        rw [chainL_at HU.out] at hk
        have HKK := Lib.hid hk
        have hal : Onto wr (wr.alloc (Obj.cells #[.int .i64 u.ep, .slice u.A u.n u.c] 34)) := (Below.refl _ _).alloc (Nat.le_refl _) _
        clear hk hu
        go_wp2_with fail
        refine Calls.mono (UCheck_calls u.ep u.A u.n u.c u.cells _ (hs.new _)) ?_
        rintro e w1 ⟨rfl, hb1⟩
        obtain ⟨q, hq⟩ : ∃ q, q = checkU u.ep u.cells := ⟨_, rfl⟩
        rw [← hq]
        have hk := HKK.out
        rw [show checkU u.u.ep u.u.cells = q from hq.symm] at hk
        have HKQ := Lib.hid hk
        have HQ := Lib.hid hq
        have q0 : w1.cell? ⟨wr.heap.size, 1, none⟩ = some (.slice u.A u.n u.c) := cellB hb1 (by simp [go_sem])
        have h01 := (Onto.to hbr hal).to hb1
        have h11 := hal.to hb1
        clear hk hq HKK
        by_cases hq0 : q = 0
        · subst hq0
          have hg := checkU_iff.1 HQ.out.symm
          have hun : u.n = 60 := by rw [← hul]; exact hg.len
          have hk := HKQ.out
          rw [if_neg (by simp)] at hk
          rcases Nat.eq_zero_or_pos i with rfl | hpos
          · clear p0
            have HK1 := Lib.hid hk
            clear hk HKQ
            go_wp2_with fail
            go_roundw
            case measure => simp [intOf] <;> omega
            case rel =>
              refine ⟨1, by omega, rfl, h01, ?_, ?_⟩
              · show _ = _
                rw [HK1.out]
                simp [aheadU, HU.out]
              · show ∀ j v, _
                intro j v hj hv
                obtain rfl : j = 0 := by omega
                rw [HU0.out] at hv
                injection hv with hv
                rw [← hv]; exact hun
          · obtain ⟨v, hv, ev, hsv, hv60⟩ := p0 hpos
            have ha : aheadU (unis l) i = some v.u := by
              obtain ⟨i', rfl⟩ : ∃ i', i = i' + 1 := ⟨i - 1, by omega⟩
              simp only [Nat.add_sub_cancel] at hv
              exact unis_at hv
            rw [ha] at hk
            dsimp only at hk
            have HK1 := Lib.hid hk; have HV := Lib.hid hv
            have ev1 := cellB h11 ev
            have hsv1 := hsv.onto h11; have hs1 := hs.onto h11
            have hzb : b < w1.heap.size := by have := h11.size; omega
            clear hk HKQ p0 ha hv ev hsv hs e0 e1
            have hi0 : ¬ ((i : Int) = 0) := by omega
            have hi1 : ((i : Int) == 0) = false := by simp; omega
            rw [hun] at hs1 q0 ⊢
            rw [hv60] at hsv1 ev1
            go_wp2_with fail
            go_loopw [28] (fun s ws => ∃ k : Nat, k ≤ 60 ∧ s = .int .i64 k ∧ Onto w1 ws ∧ Hid (∀ j, j < k → (cellAt u.cells j).kind = 4 ∨ cellAt v.cells j = cellAt u.cells j)) (fun s _ => 60 - (intOf s).toNat)
            case atStart => exact ⟨0, by omega, rfl, Below.refl _ _, fun j hj => absurd hj (Nat.not_lt_zero _)⟩
            case round =>
              obtain ⟨k, hk, rfl, hbs, HJ⟩ := hrel
              by_cases hkl : k < 60
              · obtain ⟨b1, off1, x, hA1, hz1, hx, c0, c1, c2, c3, c4⟩ := (hs1.onto hbs).atE hkl
                obtain ⟨b2, off2, y, hA2, hz2, hy, d0, d1, d2, d3, d4⟩ := (hsv1.onto hbs).atE hkl
                have ev2 := cellB hbs ev1
                have hz3 := World.block_lt_of_cell? _ _ ev2
                simp only at hz3
                rw [hA2] at ev2
                rw [hA1]
                have HX := Lib.hid (cellAt_eq hx); have HY := Lib.hid (cellAt_eq hy)
                have hpos' : (0 : Int) < (i : Int) := by omega
                have hal2 : Onto wr (wr.alloc (Obj.cells #[.int .i64 x.kind, .int .i64 x.job, .int .i64 x.every, .int .i64 x.time, .int .i64 x.client] 24)) := (Below.refl _ _).alloc (Nat.le_refl _) _
                have hkk : (k : Int) < 60 := by omega
                clear hx hy ev1 q0 hA1 hA2
                by_cases h4 : x.kind = 4
                · have hd : (x.kind != 4) = false := by simp [h4]
                  have HH := Lib.hid h4
                  clear h4
                  go_wp2_with fail
                  go_quiet (fail)
                  go_wp2_with fail
                  go_roundw
                  case measure => simp [intOf] <;> omega
                  case rel =>
                    refine ⟨k + 1, by omega, by go_num, Onto.to hbs (Onto.draws hal2 _), ?_⟩
                    show ∀ j, _
                    intro j hj
                    by_cases hjk : j = k
                    · subst hjk; rw [HX.out]; exact .inl HH.out
                    · exact HJ.out j (by omega)
                · have hd : (x.kind != 4) = true := by simpa using h4
                  by_cases hxy : y = x
                  · have hd2 : (!(y.kind == x.kind && y.job == x.job && y.every == x.every && y.time == x.time && y.client == x.client)) = false := by simp [hxy]
                    have HH := Lib.hid hxy
                    clear h4 hxy
                    go_wp2_with fail
                    go_quiet (fail)
                    go_wp2_with fail
                    go_roundw
                    case measure => simp [intOf] <;> omega
                    case rel =>
                      refine ⟨k + 1, by omega, by go_num, Onto.to hbs (Onto.draws hal2 _), ?_⟩
                      show ∀ j, _
                      intro j hj
                      by_cases hjk : j = k
                      · subst hjk; rw [HX.out, HY.out]; exact .inr HH.out
                      · exact HJ.out j (by omega)
                  · have hd2 : (!(y.kind == x.kind && y.job == x.job && y.every == x.every && y.time == x.time && y.client == x.client)) = true := by
                      rw [entry_eq_iff] at hxy
                      simp only [Bool.not_eq_true', Bool.and_eq_false_iff, beq_eq_false_iff_ne]
                      omega
                    have hfin : (4 : Int) = r := by
                      rw [HK1.out, if_neg (fun hf => ?_)]
                      have := hf k hkl
                      rw [show cellAt u.u.cells k = x from HX.out, show cellAt v.u.cells k = y from HY.out] at this
                      rcases this with e | e
                      · exact h4 e
                      · exact hxy e
                    have HF := Lib.hid hfin
                    clear h4 hxy hfin
                    go_wp2_with fail
                    go_quiet (fail)
                    go_wp2_with fail
                    go_ret
                    exact ⟨ret_int HF.out, Onto.to h01 (Onto.to hbs (Onto.draws hal2 _))⟩
              · obtain rfl : k = 60 := by omega
                have hfit : fitC v.u.cells u.u.cells := HJ.out
                have hk := HK1.out
                rw [if_pos hfit] at hk
                have HK2 := Lib.hid hk
                clear hk hfit
                go_wp2_with fail
                go_roundw
                case measure => simp [intOf] <;> omega
                case rel =>
                  refine ⟨i + 1, by omega, by go_num, Onto.to h01 hbs, ?_, ?_⟩
                  · show _ = _
                    rw [HK2.out]
                    simp [aheadU, HU.out]
                  · show ∀ j v, _
                    intro j v' hj hv'
                    by_cases hji : j = i
                    · subst hji
                      rw [HU0.out] at hv'
                      injection hv' with hv'
                      rw [← hv']; exact hun
                    · exact HN.out j v' (by omega) hv'
        · have hq1 : (q != 0) = true := by simpa using hq0
          have hfin : q = r := by rw [HKQ.out, if_pos hq0]
          have HF := Lib.hid hfin
          clear hfin
          go_wp2_with fail
          go_ret
          exact ⟨ret_int HF.out, h01⟩
      · obtain rfl : i = 3 := by omega
        have hfin : (0 : Int) = r := by rw [HK.out, List.drop_eq_nil_of_le (by simp [HL.out])]; rfl
        have HF := Lib.hid hfin
        clear hfin
        go_wp2_with fail
        go_ret
        exact ⟨ret_int HF.out, hbr⟩
  · rw [if_pos (by simp [hl]; omega)] at hr
    subst hr
    have hnn : ((n : Int) != 3) = true := by simp; omega
    have hnn' : ¬ ((n : Int) = 3) := by omega
    clear h hl h3
    go_enter Try.func16, Try.ntmps16
    go_wp2_with fail
    go_ret
    exact ⟨rfl, Below.refl _ _⟩
end Go.Proofs.Ytbipmoehcmighaa
