/- The document's linesOf. -/
import Derived.Test.YtdcegdonppfbkaaDoorRNote
import Derived.Test.YtdcegdonppfbkaaDoorLines
namespace Go.Proofs.YtdcegdonppfbkaaDoor
set_option linter.unusedSimpArgs false
set_option linter.unusedVariables false
open Go.RowKit

theorem withc_at {c : UInt8} : ∀ {l : List (List UInt8)} {k : Nat} {p : List UInt8}, l[k]? = some p → (withc c l)[k]? = some (if k + 1 = l.length then p else p ++ [c])
  | [], k, p, h => by simp at h
  | [t], 0, p, h => by simp at h; subst h; simp [withc]
  | [t], k + 1, p, h => by simp at h
  | t :: u :: r, 0, p, h => by simp at h; subst h; simp [withc]
  | t :: u :: r, k + 1, p, h => by
    have h' : (u :: r)[k]? = some p := by simpa using h
    have := withc_at (c := c) h'
    rw [withc, List.getElem?_cons_succ, this]
    simp only [List.length_cons, Nat.add_right_cancel_iff]
theorem S.atP {w : World} {A : Option Addr} {n : Nat} {l : List (List UInt8)} (h : S w 1 A n ((withc 10 l).map encS)) {i : Nat} (hi : i < l.length) (hn : n = l.length) : ∃ b off p, A = some ⟨b, off, none⟩ ∧ b < w.heap.size ∧ l[i]? = some p ∧ w.cell? ⟨b, off + i, none⟩ = some (str (if i + 1 = l.length then p else p ++ [10])) := by
  obtain ⟨b, off, x, e, hb, hx, hc⟩ := S.atS h (i := i) (by omega)
  have hp : l[i]? = some l[i] := List.getElem?_eq_getElem hi
  rw [withc_at hp] at hx
  injection hx with hx
  exact ⟨b, off, l[i], e, hb, hp, hx ▸ hc⟩
theorem suffix_yes (p : List UInt8) : Lib.hasSuffix (p ++ [10]) [10] = true := by
  unfold Lib.hasSuffix
  rw [List.isSuffixOf_iff_suffix]
  exact ⟨p, rfl⟩
theorem suffix_no {p : List UInt8} (h : (10 : UInt8) ∉ p) : Lib.hasSuffix p [10] = false := by
  cases hs : Lib.hasSuffix p [10] with
  | false => rfl
  | true =>
    unfold Lib.hasSuffix at hs
    rw [List.isSuffixOf_iff_suffix] at hs
    obtain ⟨t, ht⟩ := hs
    exact absurd (by rw [← ht]; simp) h
theorem HasSuffix_on (s p : List UInt8) (hs : s.length ≤ 9223372036854775807) (w : World) : Calls Tryd.prog 93 #[str s, str p] w fun e w' => e = .returned (.bool (Lib.hasSuffix s p)) ∧ Onto w w' :=
  (HasSuffix_calls s p hs w).mono fun e w' ⟨he, hw⟩ => ⟨he, hw ▸ Onto.rfl' w⟩
set_option maxHeartbeats 8000000 in
set_option maxRecDepth 100000 in
theorem RLines_calls (s : List UInt8) (most : Nat) (hs : s.length ≤ 30000) (hm : most ≤ 200) (w : World) (E : Env w) :
    Calls Tryd.prog 77 #[str s, .int .i64 most] w fun e w' => ∃ A n c, e = .returned (.tuple #[.slice A n c, .int .i64 (linesK s most).2.1, .int .i64 (linesK s most).2.2]) ∧ Own w' w.heap.size 35 8 (.slice A n c) n ((linesK s most).1.map encQ) ∧ Onto w w' := by
  obtain ⟨L, hL⟩ : ∃ L, L = linesK s most := ⟨_, rfl⟩
  rw [← hL]
  have hL0 : L = linesP parseR most [] 0 (cutc 10 s) := hL
  have HL0 := Lib.hid hL0
  clear hL hL0
  have hne := cutc_ne 10 s
  have hmem : ∀ p ∈ cutc 10 s, (10 : UInt8) ∉ p ∧ p.length ≤ 30000 := fun p hp => ⟨cutc_mem hp, Nat.le_trans (cutc_le hp) hs⟩
  have hN : (cutc 10 s).length ≤ 30001 := by rw [cutc_len]; have := List.count_le_length (a := (10 : UInt8)) (l := s); omega
  have hN0 : 0 < (cutc 10 s).length := List.length_pos_iff.2 hne
  obtain ⟨ts, hts⟩ : ∃ ts, ts = cutc 10 s := ⟨_, rfl⟩
  go_enter Tryd.func77, Tryd.ntmps77
  go_wp2_with fail
  refine Calls.mono (SplitAfter_calls 10 s (by omega) _ E) ?_
  rw [← hts] at HL0 hmem hN hN0 ⊢
  rintro e w1 ⟨T, rfl, sT, on⟩
  have HMEM := Lib.hid hmem
  have E1 := E.onto on
  have HSZ := Lib.hid on.size
  have HS := Lib.hid hs
  clear hmem hne hts hs
  generalize hNN : ts.length = N at *
  have hT : ∀ {wr : World}, Onto w1 wr → S wr 1 T N ((withc 10 ts).map encS) := fun b => sT.onto b
  go_wp2_with fail
  go_loopg [7, 8, 16] N (fun g sl s8 si wr => ∃ (kk : Nat) (acc : List Rec) (k c : Nat) (A : Option Addr), kk < N ∧ N - kk ≤ g ∧ si = .int .i64 kk ∧ sl = .slice A acc.length c ∧ s8 = .int .i64 (k : Int) ∧ k ≤ 30001 * (kk + 1) ∧ acc.length ≤ most ∧ acc.length ≤ c ∧ Hid (L = linesP parseR most acc k (ts.drop kk)) ∧ Hid (Own wr w1.heap.size 35 8 (.slice A acc.length c) acc.length (acc.map encQ)) ∧ Onto w1 wr)
  case atStart => exact ⟨0, [], 0, 0, none, hN0, by omega, rfl, rfl, rfl, by omega, by simp, by simp, by rw [List.drop_zero]; exact HL0, Own.nil _ _ _ _, Onto.rfl' _⟩
  case round =>
    obtain ⟨kk, acc, k, c, A, hkk, hg, rfl, rfl, rfl, hk3, ham, hac, HL, HO, on1⟩ := hrel
    obtain ⟨bb, off, p, rfl, hb, hp, e0⟩ := S.atP (hT on1) (i := kk) (by omega) hNN.symm
    have hdr : ts.drop kk = p :: ts.drop (kk + 1) := by
      obtain ⟨h2, rfl⟩ := List.getElem?_eq_some_iff.1 hp
      exact List.drop_eq_getElem_cons h2
    obtain ⟨hno, hpl⟩ := HMEM.out p (List.mem_of_getElem? hp)
    have hl := HL.out
    rw [hdr] at hl
    rw [hNN] at e0
    by_cases hlast : kk + 1 = N
    · rw [if_pos hlast] at e0
      have hnil : ts.drop (kk + 1) = [] := List.drop_eq_nil_of_le (by omega)
      rw [hnil, linesP_one] at hl
      have hon := Lib.hid (on.to on1)
      clear hp hdr hnil hT HL HMEM
      by_cases hp0 : p = []
      · rw [if_pos hp0] at hl
        subst hp0
        have HF := Lib.hid hl

        clear hl hno hpl
        go_wp2_with fail
        refine bodyPost_ret (v := .tuple #[.slice A acc.length c, .int .i64 (k : Int), .int .i64 0]) (by simp [results, Tryd.results77, go_sem]) rfl ⟨A, acc.length, c, by rw [HF.out], by rw [HF.out]; exact HO.out.lower HSZ.out, hon.out⟩
      · rw [if_neg hp0] at hl
        have hq1 : (p == []) = false := by simp [hp0]
        have HF := Lib.hid hl

        have hpos : 1 ≤ p.length := by
          have : p.length ≠ 0 := fun h => hp0 (List.eq_nil_of_length_eq_zero h)
          omega
        have hsf := suffix_no hno
        clear hl hno hp0
        go_wp2_with fail
        refine Calls.mono (HasSuffix_on p [10] (by omega) _) ?_
        rw [hsf]
        rintro e w2 ⟨rfl, b⟩
        have hon2 := Lib.hid (hon.out.to b)
        have HO2 := Lib.hid (HO.out.below b)
        clear b e0 hsf
        go_wp2_with fail
        refine bodyPost_ret (v := .tuple #[.slice A acc.length c, .int .i64 (k : Int), .int .i64 9]) (by simp [results, Tryd.results77, go_sem]) rfl ⟨A, acc.length, c, by rw [HF.out], by rw [HF.out]; exact HO2.out.lower HSZ.out, hon2.out⟩
    · rw [if_neg hlast] at e0
      have hrest : ts.drop (kk + 1) ≠ [] := fun h => by have := congrArg List.length h; rw [List.length_drop] at this; simp at this; omega
      rw [linesP_cons hrest] at hl
      have hpar : parseR p = readR p := by unfold parseR; rw [if_neg (by omega)]
      obtain ⟨x, hx⟩ : ∃ x, x = (parseR p).1 := ⟨_, rfl⟩
      obtain ⟨g2, hg2⟩ : ∃ g, g = (parseR p).2 := ⟨_, rfl⟩
      rw [← hx, ← hg2] at hl
      obtain ⟨t, ht⟩ : ∃ t, t = p ++ [10] := ⟨_, rfl⟩
      rw [← ht] at e0
      have htl : t.length = p.length + 1 := by rw [ht]; simp
      have hq1 : (t == []) = false := by rw [beq_eq_false_iff_ne]; intro h; rw [h] at htl; simp at htl
      have sl : ∀ w, (Instr.slice 9 (str t) none (some (.int .i64 ((t.length : Int) - 1))) none).run Tryd.prog w = .ok (str p) w := fun w => by
        rw [show ((t.length : Int) - 1) = ((p.length : Nat) : Int) by omega]
        have := cutTo t p.length (by omega) w
        rw [this, ht, List.take_left]
      have ht1 : (1 : Int) ≤ (t.length : Int) := by omega
      have ht2 : t.length ≤ 30001 := by omega
      have HX := Lib.hid hx; have HG := Lib.hid hg2; have HPAR := Lib.hid hpar; have HLL := Lib.hid hl; have HT := Lib.hid ht
      have HTL := Lib.hid htl
      clear hx hg2 hpar hl ht hp hdr hrest HL hno htl
      have hsf : Lib.hasSuffix t [10] = true := by rw [HT.out]; exact suffix_yes p
      go_wp2_with fail
      refine Calls.mono (HasSuffix_on t [10] (by omega) _) ?_
      rw [hsf]
      rintro e w2 ⟨rfl, b⟩
      replace on1 := on1.to b
      have HO2 := Lib.hid (HO.out.below b)
      clear b e0 hsf
      go_wp2_with fail
      refine Calls.mono (RRRead_calls p _ (E1.onto on1) hpl) ?_
      rw [show readR p = parseR p from HPAR.out.symm]
      unfold RnPost
      rw [show (parseR p).1 = x from HX.out.symm, show (parseR p).2 = g2 from HG.out.symm]
      rintro e w3 ⟨rfl, b⟩
      replace on1 := on1.to b
      have HO3 := Lib.hid (HO2.out.below b)
      clear b sl HO2 
      go_upto_region 10 with fail
      have ob := (Onto.rfl' w3).new (Obj.cells #[.int .i64 x.kind, .int .i64 x.at_, .int .i64 x.epoch, .int .i64 x.e.kind, .int .i64 x.e.job, .int .i64 x.e.every, .int .i64 x.e.time, .int .i64 x.e.client] 35)
      have BE : Bx (w3.alloc (Obj.cells #[.int .i64 x.kind, .int .i64 x.at_, .int .i64 x.epoch, .int .i64 x.e.kind, .int .i64 x.e.job, .int .i64 x.e.every, .int .i64 x.e.time, .int .i64 x.e.client] 35)) w3.heap.size [.int .i64 x.kind, .int .i64 x.at_, .int .i64 x.epoch, .int .i64 x.e.kind, .int .i64 x.e.job, .int .i64 x.e.every, .int .i64 x.e.time, .int .i64 x.e.client] := Bx.made _ _ _
      replace on1 := on1.to ob
      have HO4 := Lib.hid (HO3.out.below ob)
      clear HO3 ob
      try change Code.wp _ _ _ _ (w3.alloc (Obj.cells #[.int .i64 x.kind, .int .i64 x.at_, .int .i64 x.epoch, .int .i64 x.e.kind, .int .i64 x.e.job, .int .i64 x.e.every, .int .i64 x.e.time, .int .i64 x.e.client] 35))
      generalize (w3.alloc (Obj.cells #[.int .i64 x.kind, .int .i64 x.at_, .int .i64 x.epoch, .int .i64 x.e.kind, .int .i64 x.e.job, .int .i64 x.e.every, .int .i64 x.e.time, .int .i64 x.e.client] 35)) = w4 at *
      generalize w3.heap.size = z3 at *
      have x0 := BE.at_ 0 rfl; have x1 := BE.at_ 1 rfl; have x2 := BE.at_ 2 rfl; have x3 := BE.at_ 3 rfl; have x4 := BE.at_ 4 rfl; have x5 := BE.at_ 5 rfl; have x6 := BE.at_ 6 rfl; have x7 := BE.at_ 7 rfl
      by_cases hg0 : g2 = 0
      · by_cases hmn : most ≤ acc.length
        · have hmm : (most : Int) ≤ (acc.length : Int) := by omega
          have hl : L = (acc, k, 2) := by rw [HLL.out, if_neg (by simp [hg0]), if_pos hmn]
          have HF := Lib.hid hl

          have hon := Lib.hid (on.to on1)
          subst hg0
          clear hl HLL on1
          go_wp2_with fail
          refine bodyPost_ret (v := .tuple #[.slice A acc.length c, .int .i64 (k : Int), .int .i64 2]) (by simp [results, Tryd.results77, go_sem]) rfl ⟨A, acc.length, c, by rw [HF.out], by rw [HF.out]; exact HO4.out.lower HSZ.out, hon.out⟩
        · have hmm : ¬ (most : Int) ≤ (acc.length : Int) := by omega
          have hl : L = linesP parseR most (acc ++ [x]) (k + p.length + 1) (ts.drop (kk + 1)) := by rw [HLL.out, if_neg (by simp [hg0]), if_neg hmn]
          have HF := Lib.hid hl
          clear hl HLL
          subst hg0
          obtain ⟨i0, hi0, hzz0, hzz1, hzz2⟩ := info_parts infoQ
          have HI0 := Lib.hid hi0; have HZ0 := Lib.hid hzz0; have HZ1 := Lib.hid hzz1; have HZ2 := Lib.hid hzz2
          clear hi0 hzz0 hzz1 hzz2
          have HNEW := Lib.hid (Sl.oneQ (w := w4) (t := 35) x)
          have HAL := Lib.hid ((Onto.rfl' w4).new (Obj.cells #[.int .i64 x.kind, .int .i64 x.at_, .int .i64 x.epoch, .int .i64 x.e.kind, .int .i64 x.e.job, .int .i64 x.e.every, .int .i64 x.e.time, .int .i64 x.e.client] 35))
          have ON := Lib.hid on1
          have hs4 : w1.heap.size ≤ w4.heap.size := on1.size
          clear on1
          go_wp2_with (at_builtin; refine wpList_append_sl _ rfl (.tmp 49) (.tmp 51) 50 rfl w1.heap.size 35 i0 _ 8 64 Tryd.underlying50 HI0.out HZ0.out HZ1.out HZ2.out rfl (by decide) (.slice A acc.length c) acc.length (acc.map encQ) rfl (HO4.out.below HAL.out) (w4.heap.size + 1) (some ⟨w4.heap.size, 0, none⟩) 1 1 [encQ x] rfl HNEW.out (by simp [encQ, Value.oneCell']) (by unfold maxLen; omega) (by omega) (by simp; omega) ?_)
          intro v8 w8 own8 grow8 hv8
          obtain ⟨A8, c8, rfl, hc8, _⟩ := own8.slice
          have hB8 : Onto w1 w8 := below_grown (ON.out.to HAL.out) (ON.out.to HAL.out).size grow8 (fun g hg => by have := (HO4.out.1.lt g hg).1; omega)
          have HO8 := Lib.hid own8
          clear grow8 hv8 own8 HO4 HNEW HAL x0 x1 x2 x3 x4 x5 x6 x7
          go_wp2_with fail
          go_roundg (N - (kk + 1))
          case measure => omega
          case rel =>
            refine ⟨kk + 1, acc ++ [x], k + p.length + 1, c8, A8, by omega, Nat.le_refl _, by go_num, by simp, by rw [HTL.out]; go_num, by omega, by simp; omega, ?_, HF, ?_, hB8⟩
            · have := HO8.out.le_cap; simp; omega
            · refine Lib.hid ?_
              rw [List.map_append, List.length_append]
              exact HO8.out
      · have hgb : (g2 == 0) = false := by simp [hg0]
        have hgn : (g2 != 0) = true := by simp [hg0]
        have hl : L = (acc, k, g2) := by rw [HLL.out, if_pos hg0]
        have HF := Lib.hid hl

        have hon := Lib.hid (on.to on1)
        clear hl HLL hg0 on1
        go_wp2_with fail
        refine bodyPost_ret (v := .tuple #[.slice A acc.length c, .int .i64 (k : Int), .int .i64 g2]) (by simp [results, Tryd.results77, go_sem]) rfl ⟨A, acc.length, c, by rw [HF.out], by rw [HF.out]; exact HO4.out.lower HSZ.out, hon.out⟩
end Go.Proofs.YtdcegdonppfbkaaDoor
