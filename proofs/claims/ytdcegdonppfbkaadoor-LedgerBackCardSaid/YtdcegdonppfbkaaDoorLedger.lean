/- ledger.Print, ledger.Parse, the document's LedgerText. -/
import Derived.Test.YtdcegdonppfbkaaDoorBuilder
import Derived.Test.YtdcegdonppfbkaaDoorREText
import Derived.Test.YtdcegdonppfbkaaDoorREnt
import Derived.Test.YtdcegdonppfbkaaDoorCloneE
import Derived.Test.YtdcegdonppfbkaaDoorNew
import Derived.Test.YtdcegdonppfbkaaDoorLines
namespace Go.Proofs.YtdcegdonppfbkaaDoor
set_option linter.unusedSimpArgs false
set_option linter.unusedVariables false
open Go.RowKit

theorem errL_at {l : List Entry} {k : Nat} {x : Entry} (hx : l[k]? = some x) : errL (l.drop k) = if checkE x ≠ 0 then checkE x else errL (l.drop (k + 1)) := by
  obtain ⟨hk, rfl⟩ := List.getElem?_eq_some_iff.1 hx
  rw [List.drop_eq_getElem_cons hk]; rfl
theorem text_snoc {l : List Entry} {k : Nat} {x : Entry} (hx : l[k]? = some x) : textP textE (l.take (k + 1)) = textP textE (l.take k) ++ (textE x ++ [10]) := by
  obtain ⟨hk, rfl⟩ := List.getElem?_eq_some_iff.1 hx
  rw [List.take_succ_eq_append_getElem hk, textP_snoc, List.append_assoc]
theorem okE_snoc {l : List Entry} {k : Nat} {x : Entry} (hx : l[k]? = some x) (h : ∀ y ∈ l.take k, checkE y = 0) (hc : checkE x = 0) : ∀ y ∈ l.take (k + 1), checkE y = 0 := by
  obtain ⟨hk, rfl⟩ := List.getElem?_eq_some_iff.1 hx
  rw [List.take_succ_eq_append_getElem hk]
  intro y hy
  rcases List.mem_append.1 hy with hy | hy
  · exact h y hy
  · rw [List.mem_singleton.1 hy]; exact hc
theorem printE_ok' {x : Entry} (h : checkE x = 0) : printE x = (textE x, 0) := by unfold printE; rw [if_neg (by simp [h])]
theorem printE_bad {x : Entry} (h : checkE x ≠ 0) : printE x = ([], checkE x) := by unfold printE; rw [if_pos h]
set_option maxHeartbeats 4000000 in
set_option maxRecDepth 100000 in
theorem LPrint_calls (A : Option Addr) (n c : Nat) (l : List Entry) (w : World) (E : Env w) (h : S w 5 A n (l.map encE)) (hnm : n ≤ 9223372036854775807) :
    Calls Tryd.prog 22 #[.slice A n c] w fun e w' => e = .returned (.tuple #[str (printL l).1, .int .i64 (printL l).2]) ∧ Onto w w' := by
  have hl : l.length = n := by have := h.len; simpa using this
  obtain ⟨r, hr⟩ : ∃ r, r = printL l := ⟨_, rfl⟩
  rw [← hr]
  unfold printL at hr
  rw [hl] at hr
  by_cases hbig : 60 < n
  · rw [if_pos hbig] at hr
    subst hr
    have hb : (60 : Int) < (n : Int) := by omega
    clear hl h
    go_enter Tryd.func22, Tryd.ntmps22
    go_wp2_with fail
    refine bodyPost_ret (v := .tuple #[str [], .int .i64 2]) (by simp [results, Tryd.results22, go_sem]) rfl ⟨rfl, Onto.rfl' _⟩
  · rw [if_neg hbig] at hr
    have hb : ¬ (60 : Int) < (n : Int) := by omega
    have hn60 : n ≤ 60 := by omega
    have HR := Lib.hid hr; have HL := Lib.hid hl
    clear hr hl hbig hnm
    go_enter Tryd.func22, Tryd.ntmps22
    go_upto_region 4 with fail
    have on := (Onto.rfl' w).new (Obj.cells #[.pointer none, .slice none 0 0] 102)
    have IB := IsB.new w
    try change Code.wp _ _ _ _ (w.alloc (Obj.cells #[.pointer none, .slice none 0 0] 102))
    generalize (w.alloc (Obj.cells #[.pointer none, .slice none 0 0] 102)) = w1 at *
    obtain ⟨z, hz⟩ : ∃ z, z = w.heap.size := ⟨_, rfl⟩
    rw [← hz] at IB ⊢
    have hzw : z ≤ w.heap.size := by omega
    have hwz : w.heap.size ≤ z := by omega
    clear hz
    go_wp2_with fail
    go_loopg [14] n (fun g si wr => ∃ kk : Nat, kk ≤ n ∧ n - kk ≤ g ∧ si = .int .i64 kk ∧ Hid (errL l = errL (l.drop kk)) ∧ Hid (∀ x ∈ l.take kk, checkE x = 0) ∧ Hid (IsB z z (textP textE (l.take kk)) wr) ∧ Onto w wr)
    case atStart => exact ⟨0, by omega, by omega, rfl, Lib.hid rfl, Lib.hid (by simp), Lib.hid IB, on⟩
    case round =>
      clear IB on
      obtain ⟨kk, hkk, hg, rfl, HE, HOK, HI, on⟩ := hrel
      by_cases hlt : kk < n
      · obtain ⟨b, off, x, rfl, hb', hx, e0, e1, e2, e3, e4⟩ := (h.onto on).atE hlt
        have hen := HE.out
        rw [errL_at hx] at hen
        have HEN := Lib.hid hen; have HX := Lib.hid hx
        clear hen hx
        go_upto_region 7 with fail
        have ob := (Onto.rfl' wr).new (Obj.cells #[.int .i64 x.kind, .int .i64 x.job, .int .i64 x.every, .int .i64 x.time, .int .i64 x.client] 23)
        have BE : Bx (wr.alloc (Obj.cells #[.int .i64 x.kind, .int .i64 x.job, .int .i64 x.every, .int .i64 x.time, .int .i64 x.client] 23)) wr.heap.size [.int .i64 x.kind, .int .i64 x.job, .int .i64 x.every, .int .i64 x.time, .int .i64 x.client] := Bx.made _ _ _
        replace on := on.to ob
        replace HI := Lib.hid (IsB.below HI.out ob)
        clear ob
        try change Code.wp _ _ _ _ (wr.alloc (Obj.cells #[.int .i64 x.kind, .int .i64 x.job, .int .i64 x.every, .int .i64 x.time, .int .i64 x.client] 23))
        generalize (wr.alloc (Obj.cells #[.int .i64 x.kind, .int .i64 x.job, .int .i64 x.every, .int .i64 x.time, .int .i64 x.client] 23)) = w2 at *
        generalize wr.heap.size = zw2 at *
        clear e0 e1 e2 e3 e4
        have x0 := BE.at_ 0 rfl; have x1 := BE.at_ 1 rfl; have x2 := BE.at_ 2 rfl; have x3 := BE.at_ 3 rfl; have x4 := BE.at_ 4 rfl
        obtain ⟨q, hq⟩ : ∃ q, q = checkE x := ⟨_, rfl⟩
        go_wp2_with fail
        refine Calls.mono (EPrint_calls x _ (E.onto on)) ?_
        by_cases hq0 : q = 0
        · have hc : checkE x = 0 := by omega
          rw [printE_ok' hc]
          rintro e w3 ⟨rfl, b⟩
          replace on := on.to b; replace HI := Lib.hid (IsB.below HI.out b)
          have hen := HEN.out
          rw [if_neg (by simp [hc])] at hen
          have HEN2 := Lib.hid hen
          have hok := okE_snoc HX.out HOK.out hc
          have HOK2 := Lib.hid hok
          have htl := textE_len hc
          have htk := textL_len HOK.out
          have hlk : (l.take kk).length ≤ 60 := by rw [List.length_take]; omega
          have hsn := text_snoc HX.out
          obtain ⟨T, hT⟩ : ∃ T, T = textE x := ⟨_, rfl⟩
          obtain ⟨T1, hT1⟩ : ∃ T, T = textE x ++ [10] := ⟨_, rfl⟩
          have s1 : ∀ w, (Op.stringOp .add ⟨T.toArray⟩ ⟨#[10]⟩).run Tryd.prog w = .ok (str T1) w := fun w => by rw [hT, hT1]; exact run_string_add_lists w (textE x) [10] (by omega) (by simp)
          rw [← hT1] at hsn
          have hl1 : T1.length ≤ 100 := by rw [hT1, List.length_append]; simp; omega
          rw [← hT]
          have HSN := Lib.hid hsn
          have hsz := on.size
          clear x0 x1 x2 x3 x4 b hen hok hsn HEN HOK HE BE hc hq hT hT1 htl
          dsimp only
          go_wp2_with fail
          refine Calls.mono (WriteString_calls z z (textP textE (l.take kk)) T1 _ HI.out (by omega) (by omega)) ?_
          rintro e w4 ⟨rfl, ib, b⟩
          replace on := Below.trans on (b.mono hwz)
          rw [← HSN.out] at ib
          have HI4 := Lib.hid ib
          clear ib b s1 HI htk hlk
          go_wp2_with fail
          go_roundg (n - (kk + 1))
          case measure => omega
          case rel => exact ⟨kk + 1, by omega, Nat.le_refl _, by go_num, HEN2, HOK2, HI4, on⟩
        · have hc : checkE x ≠ 0 := by omega
          rw [printE_bad hc, ← hq]
          rintro e w3 ⟨rfl, b⟩
          replace on := on.to b
          have hen := HEN.out
          rw [if_pos hc, ← hq] at hen
          have hrr : r = ([], q) := by rw [HR.out, hen, if_pos hq0]
          have hq1 : (q == 0) = false := by simp [hq0]
          have hq2 : (q != 0) = true := by simp [hq0]
          have HRR := Lib.hid hrr
          clear x0 x1 x2 x3 x4 b hen hrr hq0 hc hq HEN HOK HE HI BE
          dsimp only
          go_wp2_with fail
          refine bodyPost_ret (v := .tuple #[str [], .int .i64 q]) (by simp [results, Tryd.results22, go_sem]) rfl ⟨by rw [HRR.out], on⟩
      · obtain rfl : kk = n := by omega
        have hen := HE.out
        rw [List.drop_eq_nil_of_le (by rw [HL.out]; omega)] at hen
        have hrr : r = (textP textE l, 0) := by rw [HR.out, if_neg (by rw [hen]; simp [errL])]
        have hti : l.take kk = l := List.take_of_length_le (by rw [HL.out]; omega)
        have hib := HI.out
        rw [hti] at hib
        obtain ⟨T, hT⟩ : ∃ T, T = textP textE l := ⟨_, rfl⟩
        rw [← hT] at hib hrr
        have HRR := Lib.hid hrr; have HIB := Lib.hid hib
        have hsz := on.size
        clear hen hrr hti hib HE HOK HI hT hlt
        go_wp2_with fail
        refine Calls.mono (BString_calls z z T _ HIB.out (by omega)) ?_
        rintro e w5 ⟨rfl, b⟩
        replace on := Below.trans on (b.mono hwz)
        clear b
        go_wp2_with fail
        refine bodyPost_ret (v := .tuple #[str T, .int .i64 0]) (by simp [results, Tryd.results22, go_sem]) rfl ⟨by rw [HRR.out], on⟩
set_option maxHeartbeats 4000000 in
set_option maxRecDepth 100000 in
theorem RLedText_calls (A : Option Addr) (n c : Nat) (l : List Entry) (w : World) (E : Env w) (h : S w 5 A n (l.map encE)) (hnm : n ≤ 9223372036854775807) :
    Calls Tryd.prog 24 #[.slice A n c] w fun e w' => e = .returned (.tuple #[str (printL l).1, .int .i64 (printL l).2]) ∧ Onto w w' := by
  have hl : l.length = n := by have := h.len; simpa using this
  obtain ⟨r, hr⟩ : ∃ r, r = printL l := ⟨_, rfl⟩
  rw [← hr]
  unfold printL at hr
  rw [hl] at hr
  by_cases hbig : 60 < n
  · rw [if_pos hbig] at hr
    subst hr
    have hb : (60 : Int) < (n : Int) := by omega
    clear hl h
    go_enter Tryd.func24, Tryd.ntmps24
    go_wp2_with fail
    refine bodyPost_ret (v := .tuple #[str [], .int .i64 2]) (by simp [results, Tryd.results24, go_sem]) rfl ⟨rfl, Onto.rfl' _⟩
  · rw [if_neg hbig] at hr
    have hb : ¬ (60 : Int) < (n : Int) := by omega
    have hn60 : n ≤ 60 := by omega
    have HR := Lib.hid hr; have HL := Lib.hid hl
    clear hr hl hbig hnm
    go_enter Tryd.func24, Tryd.ntmps24
    go_wp2_with fail
    go_loopg [4, 13] n (fun g s4 si wr => ∃ kk : Nat, kk ≤ n ∧ n - kk ≤ g ∧ si = .int .i64 kk ∧ s4 = str (textP textE (l.take kk)) ∧ Hid (errL l = errL (l.drop kk)) ∧ Hid (∀ x ∈ l.take kk, checkE x = 0) ∧ Onto w wr)
    case atStart => exact ⟨0, by omega, by omega, rfl, rfl, Lib.hid rfl, Lib.hid (by simp), Onto.rfl' _⟩
    case round =>
      obtain ⟨kk, hkk, hg, rfl, rfl, HE, HOK, on⟩ := hrel
      by_cases hlt : kk < n
      · obtain ⟨b, off, x, rfl, hb', hx, e0, e1, e2, e3, e4⟩ := (h.onto on).atE hlt
        have hen := HE.out
        rw [errL_at hx] at hen
        have HEN := Lib.hid hen; have HX := Lib.hid hx
        clear hen hx
        obtain ⟨U, hU⟩ : ∃ U, U = textP textE (l.take kk) := ⟨_, rfl⟩
        rw [← hU]
        have HU := Lib.hid hU
        clear hU
        go_upto_region 7 with fail
        have ob := (Onto.rfl' wr).new (Obj.cells #[.int .i64 x.kind, .int .i64 x.job, .int .i64 x.every, .int .i64 x.time, .int .i64 x.client] 23)
        have BE : Bx (wr.alloc (Obj.cells #[.int .i64 x.kind, .int .i64 x.job, .int .i64 x.every, .int .i64 x.time, .int .i64 x.client] 23)) wr.heap.size [.int .i64 x.kind, .int .i64 x.job, .int .i64 x.every, .int .i64 x.time, .int .i64 x.client] := Bx.made _ _ _
        replace on := on.to ob
        clear ob
        try change Code.wp _ _ _ _ (wr.alloc (Obj.cells #[.int .i64 x.kind, .int .i64 x.job, .int .i64 x.every, .int .i64 x.time, .int .i64 x.client] 23))
        generalize (wr.alloc (Obj.cells #[.int .i64 x.kind, .int .i64 x.job, .int .i64 x.every, .int .i64 x.time, .int .i64 x.client] 23)) = w2 at *
        generalize wr.heap.size = zw2 at *
        clear e0 e1 e2 e3 e4
        have x0 := BE.at_ 0 rfl; have x1 := BE.at_ 1 rfl; have x2 := BE.at_ 2 rfl; have x3 := BE.at_ 3 rfl; have x4 := BE.at_ 4 rfl
        obtain ⟨q, hq⟩ : ∃ q, q = checkE x := ⟨_, rfl⟩
        go_wp2_with fail
        refine Calls.mono (RCE_calls x.kind x.job x.every x.time x.client _) ?_
        rw [show checkE ⟨x.kind, x.job, x.every, x.time, x.client⟩ = q from hq.symm]
        rintro e w3 ⟨rfl, b⟩
        replace on := on.to b; replace BE := BE.onto b
        clear x0 x1 x2 x3 x4 b
        by_cases hq0 : q = 0
        · have hc : checkE x = 0 := by omega
          have hen := HEN.out
          rw [if_neg (by simp [hc])] at hen
          have HEN2 := Lib.hid hen
          have hok := okE_snoc HX.out HOK.out hc
          have HOK2 := Lib.hid hok
          have htl := textE_len hc
          have htk := textL_len HOK.out
          have hlk : (l.take kk).length ≤ 60 := by rw [List.length_take]; omega
          have hsn := text_snoc HX.out
          obtain ⟨T, hT⟩ : ∃ T, T = textE x := ⟨_, rfl⟩
          obtain ⟨T1, hT1⟩ : ∃ T, T = textE x ++ [10] := ⟨_, rfl⟩
          obtain ⟨V, hV⟩ : ∃ V, V = U ++ T1 := ⟨_, rfl⟩
          have hUl : U.length ≤ 71 * 60 := by rw [HU.out]; omega
          have s1 : ∀ w, (Op.stringOp .add ⟨T.toArray⟩ ⟨#[10]⟩).run Tryd.prog w = .ok (str T1) w := fun w => by rw [hT, hT1]; exact run_string_add_lists w (textE x) [10] (by omega) (by simp)
          have hl1 : T1.length ≤ 100 := by rw [hT1, List.length_append]; simp; omega
          have s2 : ∀ w, (Op.stringOp .add ⟨U.toArray⟩ ⟨T1.toArray⟩).run Tryd.prog w = .ok (str V) w := fun w => by rw [hV]; exact run_string_add_lists w U T1 (by omega) (by omega)
          have hvs : V = textP textE (l.take (kk + 1)) := by rw [hsn, hV, HU.out, hT1]
          have HVS := Lib.hid hvs; have HC := Lib.hid hc; have HT := Lib.hid hT
          have x0 := BE.at_ 0 rfl; have x1 := BE.at_ 1 rfl; have x2 := BE.at_ 2 rfl; have x3 := BE.at_ 3 rfl; have x4 := BE.at_ 4 rfl
          clear hvs hV hT1 hT hsn htk hlk htl hok hen HEN HOK HE hc hq
          subst hq0
          go_wp2_with fail
          refine Calls.mono (EText_calls x.kind x.job x.every x.time x.client _ (E.onto on) HC.out) ?_
          rw [show textE ⟨x.kind, x.job, x.every, x.time, x.client⟩ = T from HT.out.symm]
          rintro e w4 ⟨rfl, b⟩
          replace on := on.to b
          clear x0 x1 x2 x3 x4 b BE
          go_wp2_with fail
          go_roundg (n - (kk + 1))
          case measure => omega
          case rel => exact ⟨kk + 1, by omega, Nat.le_refl _, by go_num, by rw [← HVS.out], HEN2, HOK2, on⟩
        · have hc : checkE x ≠ 0 := by omega
          have hen := HEN.out
          rw [if_pos hc, ← hq] at hen
          have hrr : r = ([], q) := by rw [HR.out, hen, if_pos hq0]
          have hq1 : (q == 0) = false := by simp [hq0]
          have hq2 : (q != 0) = true := by simp [hq0]
          have HRR := Lib.hid hrr
          clear hen hrr hq0 hc hq HEN HOK HE BE
          go_wp2_with fail
          refine bodyPost_ret (v := .tuple #[str [], .int .i64 q]) (by simp [results, Tryd.results24, go_sem]) rfl ⟨by rw [HRR.out], on⟩
      · obtain rfl : kk = n := by omega
        have hen := HE.out
        rw [List.drop_eq_nil_of_le (by rw [HL.out]; omega)] at hen
        have hrr : r = (textP textE l, 0) := by rw [HR.out, if_neg (by rw [hen]; simp [errL])]
        have hti : l.take kk = l := List.take_of_length_le (by rw [HL.out]; omega)
        rw [hti]
        obtain ⟨T, hT⟩ : ∃ T, T = textP textE l := ⟨_, rfl⟩
        rw [← hT] at hrr ⊢
        have HRR := Lib.hid hrr
        clear hen hrr hti HE HOK hT hlt
        go_wp2_with fail
        refine bodyPost_ret (v := .tuple #[str T, .int .i64 0]) (by simp [results, Tryd.results24, go_sem]) rfl ⟨by rw [HRR.out], on⟩
/-- A row of entries and an error. -/
def LnPost (w : World) (q : List Entry × Int) (e : Ending) (w' : World) : Prop := ∃ A n c, e = .returned (.tuple #[.slice A n c, .int .i64 q.2]) ∧ S w' 5 A n (q.1.map encE) ∧ n ≤ 100 ∧ n ≤ c ∧ Onto w w'
set_option maxHeartbeats 4000000 in
set_option maxRecDepth 100000 in
theorem LParse_calls (s : List UInt8) (hm : s.length ≤ 9223372036854775807) (w : World) (E : Env w) :
    Calls Tryd.prog 23 #[str s] w (LnPost w (parseL s)) := by
  obtain ⟨M, hM⟩ : ∃ M, M = parseL s := ⟨_, rfl⟩
  rw [← hM]
  unfold parseL at hM
  by_cases hbig : 30000 < s.length
  · rw [if_pos hbig] at hM
    subst hM
    have hb : (30000 : Int) < (s.length : Int) := by omega
    go_enter Tryd.func23, Tryd.ntmps23
    go_wp2_with fail
    refine bodyPost_ret (v := .tuple #[.slice none 0 0, .int .i64 2]) (by simp [results, Tryd.results23, go_sem]) rfl ⟨none, 0, 0, rfl, Sl.nil, by omega, by omega, Onto.rfl' _⟩
  · rw [if_neg hbig] at hM
    have hb : ¬ (30000 : Int) < (s.length : Int) := by omega
    obtain ⟨L, hL⟩ : ∃ L, L = linesP parseE 60 [] 0 (cutc 10 s) := ⟨_, rfl⟩
    have hML : M = if L.2.2 ≠ 0 then ([], L.2.2) else (L.1, 0) := by rw [hM, hL]; rfl
    have HL0 := Lib.hid hL; have HML := Lib.hid hML
    have hs : s.length ≤ 30000 := by omega
    clear hL hML hM hbig hm
    go_enter Tryd.func23, Tryd.ntmps23
    go_wp2_with fail
    go_loopg [0, 4] s.length (fun g s0 s4 wr => ∃ (rest : List UInt8) (acc : List Entry) (k c : Nat) (A : Option Addr), s0 = str rest ∧ s4 = .slice A acc.length c ∧ rest.length ≤ g ∧ rest.length ≤ 30000 ∧ acc.length ≤ 60 ∧ acc.length ≤ c ∧ Hid (L = linesP parseE 60 acc k (cutc 10 rest)) ∧ Hid (Own wr w.heap.size 23 5 (.slice A acc.length c) acc.length (acc.map encE)) ∧ Onto w wr)
    case atStart => exact ⟨s, [], 0, 0, none, rfl, rfl, by omega, hs, by simp, by simp, HL0, Own.nil _ _ _ _, Onto.rfl' w⟩
    case round =>
      obtain ⟨rest, acc, k, c, A, rfl, rfl, hg, hr3, hnm, hnc, HL, HO, on⟩ := hrel
      by_cases h0 : rest = []
      · subst h0
        have hl : L = (acc, k, 0) := by rw [HL.out, show cutc 10 [] = [[]] from rfl, linesP_one, if_pos rfl]
        have hm2 : M = (acc, 0) := by rw [HML.out, hl]; rfl
        have hon := Lib.hid on; have HF := Lib.hid hm2
        clear on hl hm2
        go_wp2_with fail
        refine bodyPost_ret (v := .tuple #[.slice A acc.length c, .int .i64 0]) (by simp [results, Tryd.results23, go_sem]) rfl ⟨A, acc.length, c, by rw [HF.out], by rw [HF.out]; exact HO.out.sl, by omega, hnc, hon.out⟩
      · have hq1 : (rest == []) = false := by simp [h0]
        have hq2 : (rest != []) = true := by simp [h0]
        have H0 := Lib.hid h0
        clear h0
        go_wp2_with fail
        refine Calls.mono (Cut_calls rest [10] (by omega) _ (E.onto on)) ?_
        rcases cut_nl rest with ⟨t, r, hr, ht, hcut⟩ | ⟨hno, hcut⟩
        · rw [hcut]
          have hrl2 : rest.length = t.length + 1 + r.length := by rw [hr]; simp; omega
          have hl : L = if (parseE t).2 ≠ 0 then (acc, k, (parseE t).2) else if 60 ≤ acc.length then (acc, k, 2) else linesP parseE 60 (acc ++ [(parseE t).1]) (k + t.length + 1) (cutc 10 r) := by
            rw [HL.out, hr, cutc_append ht, linesP_cons (cutc_ne _ _)]
          have HLL := Lib.hid hl
          clear hl hr ht hcut HL
          rintro e w1 ⟨rfl, b⟩
          replace on := on.to b
          have HO1 := Lib.hid (HO.out.below b)
          clear HO b
          obtain ⟨x, hx⟩ : ∃ x, x = (parseE t).1 := ⟨_, rfl⟩
          obtain ⟨g2, hg2⟩ : ∃ x, x = (parseE t).2 := ⟨_, rfl⟩
          go_wp2_with fail
          refine Calls.mono (EParse_calls t _ (E.onto on) (by omega)) ?_
          rw [← hg2, ← hx] at HLL
          unfold EnPost
          rintro e w2 ⟨rfl, b⟩
          rw [← hx, ← hg2]
          clear hx hg2
          replace on := on.to b
          have HO2 := Lib.hid (HO1.out.below b)
          clear HO1 b
          go_upto_region 9 with fail
          have ob := (Onto.rfl' w2).new (Obj.cells #[.int .i64 x.kind, .int .i64 x.job, .int .i64 x.every, .int .i64 x.time, .int .i64 x.client] 23)
          have BE : Bx (w2.alloc (Obj.cells #[.int .i64 x.kind, .int .i64 x.job, .int .i64 x.every, .int .i64 x.time, .int .i64 x.client] 23)) w2.heap.size [.int .i64 x.kind, .int .i64 x.job, .int .i64 x.every, .int .i64 x.time, .int .i64 x.client] := Bx.made _ _ _
          replace on := on.to ob
          have HO3 := Lib.hid (HO2.out.below ob)
          clear HO2
          clear ob
          try change Code.wp _ _ _ _ (w2.alloc (Obj.cells #[.int .i64 x.kind, .int .i64 x.job, .int .i64 x.every, .int .i64 x.time, .int .i64 x.client] 23))
          generalize (w2.alloc (Obj.cells #[.int .i64 x.kind, .int .i64 x.job, .int .i64 x.every, .int .i64 x.time, .int .i64 x.client] 23)) = w3 at *
          generalize w2.heap.size = zw3 at *
          have x0 := BE.at_ 0 rfl; have x1 := BE.at_ 1 rfl; have x2 := BE.at_ 2 rfl; have x3 := BE.at_ 3 rfl; have x4 := BE.at_ 4 rfl
          clear BE
          by_cases hg0 : g2 = 0
          · by_cases hmn : 60 ≤ acc.length
            · have hmm : (acc.length : Int) = 60 := by omega
              have hl : L = (acc, k, 2) := by rw [HLL.out, if_neg (by simp [hg0]), if_pos hmn]
              have hm2 : M = ([], 2) := by rw [HML.out, hl]; rfl
              have HF := Lib.hid hm2; have hon := Lib.hid on
              clear hl HLL hm2 on
              subst hg0
              go_wp2_with fail
              refine bodyPost_ret (v := .tuple #[.slice none 0 0, .int .i64 2]) (by simp [results, Tryd.results23, go_sem]) rfl ⟨none, 0, 0, by rw [HF.out], by rw [HF.out]; exact Sl.nil, by omega, by omega, hon.out⟩
            · have hmm : ¬ (acc.length : Int) = 60 := by omega
              have hl : L = linesP parseE 60 (acc ++ [x]) (k + t.length + 1) (cutc 10 r) := by rw [HLL.out, if_neg (by simp [hg0]), if_neg hmn]
              have HF := Lib.hid hl; have ON := Lib.hid on
              clear hl HLL on
              subst hg0
              obtain ⟨i0, hi0, hzz0, hzz1, hzz2⟩ := info_parts infoE
              have HI0 := Lib.hid hi0; have HZ0 := Lib.hid hzz0; have HZ1 := Lib.hid hzz1; have HZ2 := Lib.hid hzz2
              clear hi0 hzz0 hzz1 hzz2
              have HNEW := Lib.hid (Sl.one (w := w3) (t := 23) x)
              have HAL := Lib.hid ((Onto.rfl' w3).new (Obj.cells #[.int .i64 x.kind, .int .i64 x.job, .int .i64 x.every, .int .i64 x.time, .int .i64 x.client] 23))
              have hsz3 := ON.out.size
              go_wp2_with (at_builtin; refine wpList_append_sl _ rfl _ _ 40 rfl w.heap.size 23 i0 _ 5 40 Tryd.underlying40 HI0.out HZ0.out HZ1.out HZ2.out rfl (by decide) (.slice A acc.length c) acc.length (acc.map encE) rfl (HO3.out.below HAL.out) (w3.heap.size + 1) (some ⟨w3.heap.size, 0, none⟩) 1 1 [encE x] rfl HNEW.out (by simp [encE, Value.oneCell']) (by unfold maxLen; omega) (by omega) (by simp; omega) ?_)
              intro v8 w8 own8 grow8 hv8
              obtain ⟨A8, c8, rfl, hc8, _⟩ := own8.slice
              have hB8 : Onto w w8 := below_grown (ON.out.to HAL.out) (ON.out.to HAL.out).size grow8 (fun g hg => by have := (HO3.out.1.lt g hg).1; omega)
              have HO8 := Lib.hid own8
              clear grow8 hv8 own8 HO3 HNEW HAL x0 x1 x2 x3 x4
              go_wp2_with fail
              go_roundg r.length
              case measure => omega
              case rel =>
                refine ⟨r, acc ++ [x], k + t.length + 1, c8, A8, rfl, by simp, Nat.le_refl _, by omega, by simp; omega, ?_, HF, ?_, hB8⟩
                · have := HO8.out.le_cap; simp; omega
                · refine Lib.hid ?_
                  rw [List.map_append, List.length_append]
                  exact HO8.out
          · have hgb : (g2 == 0) = false := by simp [hg0]
            have hgn : (g2 != 0) = true := by simp [hg0]
            have hl : L = (acc, k, g2) := by rw [HLL.out, if_pos hg0]
            have hm2 : M = ([], g2) := by rw [HML.out, hl]; exact if_pos hg0
            have HF := Lib.hid hm2; have hon := Lib.hid on
            clear hl HLL hg0 hm2 on
            go_wp2_with fail
            refine bodyPost_ret (v := .tuple #[.slice none 0 0, .int .i64 g2]) (by simp [results, Tryd.results23, go_sem]) rfl ⟨none, 0, 0, by rw [HF.out], by rw [HF.out]; exact Sl.nil, by omega, by omega, hon.out⟩
        · rw [hcut]
          have hl : L = (acc, k, 9) := by rw [HL.out, cutc_self hno, linesP_one, if_neg H0.out]
          have hm2 : M = ([], 9) := by rw [HML.out, hl]; rfl
          have HF := Lib.hid hm2
          clear hl hcut hno HL hm2
          rintro e w1 ⟨rfl, b⟩
          have hon := Lib.hid (on.to b)
          clear on HO b
          go_wp2_with fail
          refine bodyPost_ret (v := .tuple #[.slice none 0 0, .int .i64 9]) (by simp [results, Tryd.results23, go_sem]) rfl ⟨none, 0, 0, by rw [HF.out], by rw [HF.out]; exact Sl.nil, by omega, by omega, hon.out⟩
end Go.Proofs.YtdcegdonppfbkaaDoor
