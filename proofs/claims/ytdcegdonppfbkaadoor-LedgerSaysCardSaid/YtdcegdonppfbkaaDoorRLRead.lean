/- The document's LedgerRead. -/
import Derived.Test.YtdcegdonppfbkaaDoorRERead
import Derived.Test.YtdcegdonppfbkaaDoorRNote
import Derived.Test.YtdcegdonppfbkaaDoorCloneE
import Derived.Test.YtdcegdonppfbkaaDoorNew
import Derived.Test.YtdcegdonppfbkaaDoorRLines
namespace Go.Proofs.YtdcegdonppfbkaaDoor
set_option linter.unusedSimpArgs false
set_option linter.unusedVariables false
open Go.RowKit

theorem last_yes (p : List UInt8) (w : World) : (Instr.index 9 (str (p ++ [10])) (.int .i64 ((p.length : Nat) : Int))).run Tryd.prog w = .ok (.int .u8 10) w := by
  rw [run_index_string w _ _ .i64 _ Tryd.underlying9, dif_pos ⟨by omega, by rw [str_size]; simp; omega⟩]
  have : ((⟨(p ++ [10]).toArray⟩ : ByteArray)[((p.length : Nat) : Int).toNat]'(by rw [str_size]; simp)) = 10 := by
    show ((p ++ [10]).toArray)[((p.length : Nat) : Int).toNat]'_ = 10
    simp
  rw [this]; rfl
theorem last_no {p : List UInt8} (h : (10 : UInt8) ∉ p) (h1 : 1 ≤ p.length) : ∃ b : UInt8, (∀ w, (Instr.index 9 (str p) (.int .i64 ((p.length : Int) - 1))).run Tryd.prog w = .ok (.int .u8 ((b.toNat : Nat) : Int)) w) ∧ ((b.toNat : Nat) : Int) ≠ 10 := by
  refine ⟨p[p.length - 1], fun w => ?_, fun e => ?_⟩
  · rw [show ((p.length : Int) - 1) = ((p.length - 1 : Nat) : Int) by omega]
    rw [run_index_string w _ _ .i64 _ Tryd.underlying9, dif_pos ⟨by omega, by rw [str_size]; omega⟩]
    have : ((⟨p.toArray⟩ : ByteArray)[((p.length - 1 : Nat) : Int).toNat]'(by rw [str_size]; omega)) = p[p.length - 1] := by
      show (p.toArray)[((p.length - 1 : Nat) : Int).toNat]'_ = _
      simp
    rw [this]
  · have h2 : p[p.length - 1] = 10 := UInt8.toNat_inj.1 (by simpa using (by omega : p[p.length - 1].toNat = 10))
    exact h (h2 ▸ List.getElem_mem _)
set_option maxHeartbeats 8000000 in
set_option maxRecDepth 100000 in
theorem RLedRead_calls (s : List UInt8) (hs : s.length ≤ 30000) (w : World) (E : Env w) :
    Calls Tryd.prog 26 #[str s] w fun e w' => ∃ A n c, e = .returned (.tuple #[.slice A n c, .int .i64 (readL s).2]) ∧ S w' 5 A n ((readL s).1.map encE) ∧ n ≤ 100 ∧ Onto w w' := by
  obtain ⟨most, hmost⟩ : ∃ most : Nat, most = 60 := ⟨_, rfl⟩
  have hm : most ≤ 200 := by omega
  obtain ⟨M, hM⟩ : ∃ M, M = readL s := ⟨_, rfl⟩
  rw [← hM]
  obtain ⟨L, hL⟩ : ∃ L, L = linesP parseE most [] 0 (cutc 10 s) := ⟨_, rfl⟩
  have hML : M = if L.2.2 ≠ 0 then ([], L.2.2) else (L.1, 0) := by rw [hM, hL, hmost]; rfl
  have hL0 : L = linesP parseE most [] 0 (cutc 10 s) := hL
  have HML := Lib.hid hML
  have hm6 : (most : Int) = 60 := by omega
  clear hM hML hmost
  have HL0 := Lib.hid hL0
  clear hL hL0
  have hne := cutc_ne 10 s
  have hmem : ∀ p ∈ cutc 10 s, (10 : UInt8) ∉ p ∧ p.length ≤ 30000 := fun p hp => ⟨cutc_mem hp, Nat.le_trans (cutc_le hp) hs⟩
  have hN : (cutc 10 s).length ≤ 30001 := by rw [cutc_len]; have := List.count_le_length (a := (10 : UInt8)) (l := s); omega
  have hN0 : 0 < (cutc 10 s).length := List.length_pos_iff.2 hne
  obtain ⟨ts, hts⟩ : ∃ ts, ts = cutc 10 s := ⟨_, rfl⟩
  go_enter Tryd.func26, Tryd.ntmps26
  go_wp2_with fail
  refine Calls.mono (SplitAfter_calls 10 s (by omega) _ E) ?_
  rw [← hts] at HL0 hmem hN hN0 ⊢
  rintro e w1 ⟨T, rfl, sT, on⟩
  have HMEM := Lib.hid hmem
  have E1 := E.onto on
  have HSZ := Lib.hid on.size
  have HS := Lib.hid hs
  clear hmem hne hts hs
  generalize hNN : ts.length = N at *
  have hT : ∀ {wr : World}, Onto w1 wr → S wr 1 T N ((withc 10 ts).map encS) := fun b => sT.onto b
  go_wp2_with fail
  go_loopg [4, 12] N (fun g sl si wr => ∃ (kk : Nat) (acc : List Entry) (k c : Nat) (A : Option Addr), kk < N ∧ N - kk ≤ g ∧ si = .int .i64 kk ∧ sl = .slice A acc.length c ∧ acc.length ≤ most ∧ acc.length ≤ c ∧ Hid (L = linesP parseE most acc k (ts.drop kk)) ∧ Hid (Own wr w1.heap.size 23 5 (.slice A acc.length c) acc.length (acc.map encE)) ∧ Onto w1 wr)
  case atStart => exact ⟨0, [], 0, 0, none, hN0, by omega, rfl, rfl, by simp, by simp, by rw [List.drop_zero]; exact HL0, Own.nil _ _ _ _, Onto.rfl' _⟩
  case round =>
    obtain ⟨kk, acc, k, c, A, hkk, hg, rfl, rfl, ham, hac, HL, HO, on1⟩ := hrel
    obtain ⟨bb, off, p, rfl, hb, hp, e0⟩ := S.atP (hT on1) (i := kk) (by omega) hNN.symm
    have hdr : ts.drop kk = p :: ts.drop (kk + 1) := by
      obtain ⟨h2, rfl⟩ := List.getElem?_eq_some_iff.1 hp
      exact List.drop_eq_getElem_cons h2
    obtain ⟨hno, hpl⟩ := HMEM.out p (List.mem_of_getElem? hp)
    have hl := HL.out
    rw [hdr] at hl
    rw [hNN] at e0
    by_cases hlast : kk + 1 = N
    · rw [if_pos hlast] at e0
      have hnil : ts.drop (kk + 1) = [] := List.drop_eq_nil_of_le (by omega)
      rw [hnil, linesP_one] at hl
      have hon := Lib.hid (on.to on1)
      clear hp hdr hnil hT HL HMEM
      by_cases hp0 : p = []
      · rw [if_pos hp0] at hl
        subst hp0
        have hm2 : M = (acc, 0) := by rw [HML.out, hl]; rfl
        have HF := Lib.hid hm2
        clear hl hno hpl hm2
        go_wp2_with fail
        refine bodyPost_ret (v := .tuple #[.slice A acc.length c, .int .i64 0]) (by simp [results, Tryd.results26, go_sem]) rfl ⟨A, acc.length, c, by rw [HF.out], by rw [HF.out]; exact HO.out.sl, by omega, hon.out⟩
      · rw [if_neg hp0] at hl
        have hq1 : (p == []) = false := by simp [hp0]
        have hm2 : M = ([], 9) := by rw [HML.out, hl]; rfl
        have HF := Lib.hid hm2
        have hpos : 1 ≤ p.length := by
          have : p.length ≠ 0 := fun h => hp0 (List.eq_nil_of_length_eq_zero h)
          omega
        obtain ⟨b, hix, hb10⟩ := last_no hno hpos
        have hb11 : (((b.toNat : Nat) : Int) == 10) = false := by rw [beq_eq_false_iff_ne]; exact hb10
        have hb12 : (((b.toNat : Nat) : Int) != 10) = true := by rw [bne_iff_ne]; exact hb10
        clear hl hno hp0 hb10 hm2
        go_wp2_with fail
        refine bodyPost_ret (v := .tuple #[.slice none 0 0, .int .i64 9]) (by simp [results, Tryd.results26, go_sem]) rfl ⟨none, 0, 0, by rw [HF.out], by rw [HF.out]; exact Sl.nil, by omega, hon.out⟩
    · rw [if_neg hlast] at e0
      have hrest : ts.drop (kk + 1) ≠ [] := fun h => by have := congrArg List.length h; rw [List.length_drop] at this; simp at this; omega
      rw [linesP_cons hrest] at hl
      have hpar : parseE p = readWs (cutc 32 p) := by unfold parseE; rw [if_neg (by omega)]
      obtain ⟨x, hx⟩ : ∃ x, x = (parseE p).1 := ⟨_, rfl⟩
      obtain ⟨g2, hg2⟩ : ∃ g, g = (parseE p).2 := ⟨_, rfl⟩
      rw [← hx, ← hg2] at hl
      obtain ⟨t, ht⟩ : ∃ t, t = p ++ [10] := ⟨_, rfl⟩
      rw [← ht] at e0
      have htl : t.length = p.length + 1 := by rw [ht]; simp
      have hq1 : (t == []) = false := by rw [beq_eq_false_iff_ne]; intro h; rw [h] at htl; simp at htl
      have sl : ∀ w, (Instr.slice 9 (str t) none (some (.int .i64 ((t.length : Int) - 1))) none).run Tryd.prog w = .ok (str p) w := fun w => by
        rw [show ((t.length : Int) - 1) = ((p.length : Nat) : Int) by omega]
        have := cutTo t p.length (by omega) w
        rw [this, ht, List.take_left]
      have ht1 : (1 : Int) ≤ (t.length : Int) := by omega
      have ht2 : t.length ≤ 30001 := by omega
      have HX := Lib.hid hx; have HG := Lib.hid hg2; have HPAR := Lib.hid hpar; have HLL := Lib.hid hl; have HT := Lib.hid ht
      have HTL := Lib.hid htl
      clear hx hg2 hpar hl ht hp hdr hrest HL hno htl
      have hix : ∀ w, (Instr.index 9 (str t) (.int .i64 ((t.length : Int) - 1))).run Tryd.prog w = .ok (.int .u8 10) w := fun w => by
        rw [show ((t.length : Int) - 1) = ((p.length : Nat) : Int) by have := HTL.out; omega, HT.out]
        exact last_yes p w
      have HO2 := HO
      clear HO
      go_wp2_with fail
      refine Calls.mono (ERead_calls p _ (E1.onto on1) hpl) ?_
      rw [show readWs (cutc 32 p) = parseE p from HPAR.out.symm]
      unfold EnPost
      rw [show (parseE p).1 = x from HX.out.symm, show (parseE p).2 = g2 from HG.out.symm]
      rintro e w3 ⟨rfl, b⟩
      replace on1 := on1.to b
      have HO3 := Lib.hid (HO2.out.below b)
      clear b sl HO2 e0 hix
      go_upto_region 9 with fail
      have ob := (Onto.rfl' w3).new (Obj.cells #[.int .i64 x.kind, .int .i64 x.job, .int .i64 x.every, .int .i64 x.time, .int .i64 x.client] 23)
      have BE : Bx (w3.alloc (Obj.cells #[.int .i64 x.kind, .int .i64 x.job, .int .i64 x.every, .int .i64 x.time, .int .i64 x.client] 23)) w3.heap.size [.int .i64 x.kind, .int .i64 x.job, .int .i64 x.every, .int .i64 x.time, .int .i64 x.client] := Bx.made _ _ _
      replace on1 := on1.to ob
      have HO4 := Lib.hid (HO3.out.below ob)
      clear HO3 ob
      try change Code.wp _ _ _ _ (w3.alloc (Obj.cells #[.int .i64 x.kind, .int .i64 x.job, .int .i64 x.every, .int .i64 x.time, .int .i64 x.client] 23))
      generalize (w3.alloc (Obj.cells #[.int .i64 x.kind, .int .i64 x.job, .int .i64 x.every, .int .i64 x.time, .int .i64 x.client] 23)) = w4 at *
      generalize w3.heap.size = z3 at *
      have x0 := BE.at_ 0 rfl; have x1 := BE.at_ 1 rfl; have x2 := BE.at_ 2 rfl; have x3 := BE.at_ 3 rfl; have x4 := BE.at_ 4 rfl
      by_cases hg0 : g2 = 0
      · by_cases hmn : most ≤ acc.length
        · have hmm : (acc.length : Int) = 60 := by omega
          have hl : L = (acc, k, 2) := by rw [HLL.out, if_neg (by simp [hg0]), if_pos hmn]
          have hm2 : M = ([], 2) := by rw [HML.out, hl]; rfl
          have HF := Lib.hid hm2
          have hon := Lib.hid (on.to on1)
          subst hg0
          clear hl HLL on1 hm2
          go_wp2_with fail
          refine bodyPost_ret (v := .tuple #[.slice none 0 0, .int .i64 2]) (by simp [results, Tryd.results26, go_sem]) rfl ⟨none, 0, 0, by rw [HF.out], by rw [HF.out]; exact Sl.nil, by omega, hon.out⟩
        · have hmm : ¬ (acc.length : Int) = 60 := by omega
          have hl : L = linesP parseE most (acc ++ [x]) (k + p.length + 1) (ts.drop (kk + 1)) := by rw [HLL.out, if_neg (by simp [hg0]), if_neg hmn]
          have HF := Lib.hid hl
          clear hl HLL
          subst hg0
          obtain ⟨i0, hi0, hzz0, hzz1, hzz2⟩ := info_parts infoE
          have HI0 := Lib.hid hi0; have HZ0 := Lib.hid hzz0; have HZ1 := Lib.hid hzz1; have HZ2 := Lib.hid hzz2
          clear hi0 hzz0 hzz1 hzz2
          have HNEW := Lib.hid (Sl.one (w := w4) (t := 23) x)
          have HAL := Lib.hid ((Onto.rfl' w4).new (Obj.cells #[.int .i64 x.kind, .int .i64 x.job, .int .i64 x.every, .int .i64 x.time, .int .i64 x.client] 23))
          have ON := Lib.hid on1
          have hs4 : w1.heap.size ≤ w4.heap.size := on1.size
          clear on1
          go_wp2_with (at_builtin; refine wpList_append_sl _ rfl (.tmp 43) (.tmp 45) 40 rfl w1.heap.size 23 i0 _ 5 40 Tryd.underlying40 HI0.out HZ0.out HZ1.out HZ2.out rfl (by decide) (.slice A acc.length c) acc.length (acc.map encE) rfl (HO4.out.below HAL.out) (w4.heap.size + 1) (some ⟨w4.heap.size, 0, none⟩) 1 1 [encE x] rfl HNEW.out (by simp [encE, Value.oneCell']) (by unfold maxLen; omega) (by omega) (by simp; omega) ?_)
          intro v8 w8 own8 grow8 hv8
          obtain ⟨A8, c8, rfl, hc8, _⟩ := own8.slice
          have hB8 : Onto w1 w8 := below_grown (ON.out.to HAL.out) (ON.out.to HAL.out).size grow8 (fun g hg => by have := (HO4.out.1.lt g hg).1; omega)
          have HO8 := Lib.hid own8
          clear grow8 hv8 own8 HO4 HNEW HAL x0 x1 x2 x3 x4
          go_wp2_with fail
          go_roundg (N - (kk + 1))
          case measure => omega
          case rel =>
            refine ⟨kk + 1, acc ++ [x], k + p.length + 1, c8, A8, by omega, Nat.le_refl _, by go_num, by simp, by simp; omega, ?_, HF, ?_, hB8⟩
            · have := HO8.out.le_cap; simp; omega
            · refine Lib.hid ?_
              rw [List.map_append, List.length_append]
              exact HO8.out
      · have hgb : (g2 == 0) = false := by simp [hg0]
        have hgn : (g2 != 0) = true := by simp [hg0]
        have hl : L = (acc, k, g2) := by rw [HLL.out, if_pos hg0]
        have hm2 : M = ([], g2) := by rw [HML.out, hl]; exact if_pos hg0
        have HF := Lib.hid hm2
        have hon := Lib.hid (on.to on1)
        clear hl HLL hg0 on1 hm2
        go_wp2_with fail
        refine bodyPost_ret (v := .tuple #[.slice none 0 0, .int .i64 g2]) (by simp [results, Tryd.results26, go_sem]) rfl ⟨none, 0, 0, by rw [HF.out], by rw [HF.out]; exact Sl.nil, by omega, hon.out⟩
end Go.Proofs.YtdcegdonppfbkaaDoor
