/- The law LedgerBack's walk. -/
import Derived.Test.YtdcegdonppfbkaaDoorLSays
import Derived.Test.YtdcegdonppfbkaaDoorRowsE
namespace Go.Proofs.YtdcegdonppfbkaaDoor
set_option linter.unusedSimpArgs false
set_option linter.unusedVariables false
open Go.RowKit

theorem encE_one' (l : List Entry) : ∀ r ∈ l.map encE, ∀ u ∈ r, u.oneCell' = true := by
  intro r hr u hu
  obtain ⟨x, _, rfl⟩ := List.mem_map.1 hr
  simp [encE] at hu
  rcases hu with rfl | rfl | rfl | rfl | rfl <;> rfl
theorem printL_good {l : List Entry} (h : (printL l).2 = 0) : l.length ≤ 60 ∧ (∀ x ∈ l, checkE x = 0) ∧ printL l = (textP textE l, 0) := by
  unfold printL at h ⊢
  split at h
  · cases h
  · rename_i h1
    split at h
    · rename_i h2; exact absurd h h2
    · rename_i h2
      exact ⟨by omega, errL_iff.1 (Decidable.not_not.1 h2), by rw [if_neg h1, if_neg h2]⟩
theorem printL_eq {l m : List Entry} (h : (printL l).2 = 0) (h' : (printL m).2 = 0) : ((printL l).1 == (printL m).1) = decide (l = m) := by
  obtain ⟨a1, a2, a3⟩ := printL_good h
  obtain ⟨b1, b2, b3⟩ := printL_good h'
  rw [a3, b3, Bool.eq_iff_iff, beq_iff_eq, decide_eq_true_iff]
  exact ⟨fun e => textL_inj a2 b2 a1 b1 e, fun e => by rw [e]⟩
theorem printL_back {l : List Entry} (h : (printL l).2 = 0) : parseL (printL l).1 = (l, 0) := by
  obtain ⟨a1, a2, a3⟩ := printL_good h
  rw [a3]; exact parse_textL a2 a1
theorem printL_both {l m : List Entry} (h : (printL l).2 = 0) (h' : (printL m).2 = 0) (hl : l.length + m.length ≤ 60) : parseL ((printL l).1 ++ (printL m).1) = (l ++ m, 0) := by
  obtain ⟨a1, a2, a3⟩ := printL_good h
  obtain ⟨b1, b2, b3⟩ := printL_good h'
  rw [a3, b3, ← textP_append]
  exact parse_textL (fun x hx => by rcases List.mem_append.1 hx with hx | hx; exact a2 x hx; exact b2 x hx) (by rw [List.length_append]; exact hl)
theorem printL_of {s : List UInt8} {l : List Entry} (h : parseL s = (l, 0)) : printL l = (s, 0) := by
  obtain ⟨h1, h2, h3⟩ := parseL_ok h
  unfold printL
  rw [if_neg (by omega), if_neg (by rw [errL_iff.2 h1]; simp), h3]
theorem printL_len (l : List Entry) : (printL l).1.length ≤ 5000 := by
  by_cases h : (printL l).2 = 0
  · obtain ⟨a1, a2, a3⟩ := printL_good h
    have := textL_len a2
    rw [a3]; dsimp only; omega
  · unfold printL at h ⊢
    split
    · simp
    · split
      · simp
      · rename_i h1 h2
        rw [if_neg h1, if_neg h2] at h
        exact absurd rfl h
set_option maxHeartbeats 8000000 in
set_option maxRecDepth 100000 in
theorem LedgerBack_calls (A0 : Option Addr) (n0 c0 : Nat) (l : List Entry) (A1 : Option Addr) (n1 c1 : Nat) (m : List Entry) (s : List UInt8) (w : World) (E : Env w) (h : S w 5 A0 n0 (l.map encE)) (hnc : n0 ≤ c0) (hcm : c0 ≤ maxLen)
    (h' : S w 5 A1 n1 (m.map encE)) (hnc' : n1 ≤ c1) (hcm' : c1 ≤ maxLen) (hs : s.length ≤ 9223372036854775807) :
    Calls Tryd.prog 8 #[.slice A0 n0 c0, .slice A1 n1 c1, str s] w fun e w' => e = .returned (.bool true) ∧ Onto w w' := by
  obtain ⟨P, hP⟩ : ∃ P, P = (printL l).1 := ⟨_, rfl⟩
  obtain ⟨ex, hex⟩ : ∃ q, q = (printL l).2 := ⟨_, rfl⟩
  obtain ⟨Q, hQ⟩ : ∃ P, P = (printL m).1 := ⟨_, rfl⟩
  obtain ⟨ey, hey⟩ : ∃ q, q = (printL m).2 := ⟨_, rfl⟩
  obtain ⟨Y, hY⟩ : ∃ y, y = (parseL s).1 := ⟨_, rfl⟩
  obtain ⟨g, hg⟩ : ∃ g, g = (parseL s).2 := ⟨_, rfl⟩
  have hPl : P.length ≤ 5000 := hP ▸ printL_len l
  have hQl : Q.length ≤ 5000 := hQ ▸ printL_len m
  have hl0 : l.length = n0 := by have := h.len; simpa using this
  have hl1 : m.length = n1 := by have := h'.len; simpa using this
  have hn9 : n0 ≤ 9223372036854775807 := by unfold maxLen at hcm; omega
  have hn9' : n1 ≤ 9223372036854775807 := by unfold maxLen at hcm'; omega
  have HP := Lib.hid hP; have HX := Lib.hid hex; have HQ := Lib.hid hQ; have HYY := Lib.hid hey; have HY := Lib.hid hY; have HG := Lib.hid hg; have HS := Lib.hid hs
  have HL0 := Lib.hid hl0; have HL1 := Lib.hid hl1; have HPL := Lib.hid hPl; have HQL := Lib.hid hQl
  clear hP hex hQ hey hY hg hs hcm hnc hcm' hnc' hl0 hl1 hPl hQl
  go_enter Tryd.func8, Tryd.ntmps8
  go_wp2_with fail
  refine Calls.mono (LPrint_calls A0 n0 c0 l _ E h hn9) ?_
  rw [show (printL l).1 = P from HP.out.symm, show (printL l).2 = ex from HX.out.symm]
  rintro e w1 ⟨rfl, on⟩
  go_wp2_with fail
  refine Calls.mono (LPrint_calls A1 n1 c1 m _ (E.onto on) (h'.onto on) hn9') ?_
  rw [show (printL m).1 = Q from HQ.out.symm, show (printL m).2 = ey from HYY.out.symm]
  rintro e w2 ⟨rfl, b⟩
  replace on := Onto.to on b
  clear b
  go_wp2_with fail
  refine Calls.mono (listed_calls _ (E.onto on)) ?_
  rintro e w3 ⟨rfl, b⟩
  replace on := on.to b
  clear b
  by_cases hx0 : ex = 0
  · have hbk : parseL P = (l, 0) := by rw [HP.out]; exact printL_back (by rw [← HX.out, hx0])
    have hn60 : n0 ≤ 60 := by rw [← HL0.out]; exact (printL_good (by rw [← HX.out, hx0])).1
    have HBK := Lib.hid hbk
    clear hbk
    by_cases hy0 : ey = 0
    · have hpq : (P == Q) = decide (l = m) := by rw [HP.out, HQ.out]; exact printL_eq (by rw [← HX.out, hx0]) (by rw [← HYY.out, hy0])
      have hm60 : n1 ≤ 60 := by rw [← HL1.out]; exact (printL_good (by rw [← HYY.out, hy0])).1
      have hbo : n0 + n1 ≤ 60 → parseL (P ++ Q) = (l ++ m, 0) := fun hle => by rw [HP.out, HQ.out]; exact printL_both (by rw [← HX.out, hx0]) (by rw [← HYY.out, hy0]) (by rw [HL0.out, HL1.out]; exact hle)
      have HBO := Lib.hid hbo
      obtain ⟨dd, hdd⟩ : ∃ d, d = decide (l = m) := ⟨_, rfl⟩
      rw [← hdd] at hpq
      have HPQ := Lib.hid hpq
      subst hx0; subst hy0
      clear hbo hpq
      go_wp2_with fail
      refine Calls.mono (EqualE_calls A0 A1 n0 n1 c0 c1 _ l m _ (h.onto on) (h'.onto on) hn9) ?_
      rw [← hdd]
      rintro e w4 ⟨rfl, k, rfl⟩
      replace on := on.draws k
      clear hdd
      have hpq := HPQ.out
      generalize w3.drewN k = w4 at *
      go_upto_region 6 with fail
      clear hpq HPQ
      go_wp2_with fail
      refine Calls.mono (LParse_calls P (by have := HPL.out; omega) _ (E.onto on)) ?_
      unfold LnPost
      rw [HBK.out]
      rintro e w5 ⟨A, n, c, rfl, sA, hn, hncc, b⟩
      replace on := on.to b
      clear b
      dsimp only at sA ⊢
      go_wp2_with fail
      refine Calls.mono (EqualE_calls A A0 n n0 c c0 _ l l w5 sA (h.onto on) (by omega)) ?_
      rw [decide_eq_true (rfl : l = l)]
      rintro e w5' ⟨rfl, k, rfl⟩
      replace on := on.draws k
      clear sA
      generalize w5.drewN k = w5d at *
      go_upto_region 9 with fail
      by_cases hle : n0 + n1 ≤ 60
      · have hi1 : (n0 : Int) + (n1 : Int) ≤ 60 := by omega
        have hbb := HBO.out hle
        obtain ⟨PQ, hPQ⟩ : ∃ v, v = P ++ Q := ⟨_, rfl⟩
        have s1 : ∀ w, (Op.stringOp .add ⟨P.toArray⟩ ⟨Q.toArray⟩).run Tryd.prog w = .ok (str PQ) w := fun w => by rw [hPQ]; exact run_string_add_lists w P Q (by have := HPL.out; omega) (by have := HQL.out; omega)
        have hpl : PQ.length ≤ 20000 := by rw [hPQ, List.length_append]; have := HPL.out; have := HQL.out; omega
        rw [← hPQ] at hbb
        have HBB := Lib.hid hbb
        clear hbb hPQ
        go_wp2_with fail
        refine Calls.mono (LParse_calls PQ (by omega) _ (E.onto on)) ?_
        unfold LnPost
        rw [HBB.out]
        rintro e w6 ⟨A, n, c, rfl, sA, hn, hncc, b⟩
        replace on := on.to b
        clear b s1
        dsimp only at sA ⊢
        go_wp2_with fail
        refine Calls.mono (ConcatE_calls _ A0 A1 n0 c0 n1 c1 w6.heap.size 2 (l.map encE) (m.map encE) (by simp [go_sem]) (by simp [go_sem]) ((h.onto on).new _) ((h'.onto on).new _) (encE_one' _) (encE_one' _) (by omega)) ?_
        rintro e w7 ⟨A7, c7, rfl, own7, b⟩
        have bb' : Onto w6 w7 := Onto.to ((Onto.rfl' w6).new _) b
        replace on := on.to bb'; replace sA := sA.onto bb'
        have s7 : S w7 5 A7 (n0 + n1) ((l ++ m).map encE) := by rw [List.map_append]; exact own7.sl
        clear own7 b bb'
        go_wp2_with fail
        refine Calls.mono (EqualE_calls A A7 n (n0 + n1) c c7 _ (l ++ m) (l ++ m) w7 sA s7 (by omega)) ?_
        rw [decide_eq_true (rfl : l ++ m = l ++ m)]
        rintro e w8 ⟨rfl, k, rfl⟩
        replace on := on.draws k
        generalize w7.drewN k = w8 at *
        clear sA s7
        go_upto_region 13 with fail
        go_wp2_with fail
        refine Calls.mono (LParse_calls s HS.out _ (E.onto on)) ?_
        unfold LnPost
        rw [show (parseL s).1 = Y from HY.out.symm, show (parseL s).2 = g from HG.out.symm]
        rintro e wf ⟨Af, nf, cf, rfl, sf, hnf, hncf, b⟩
        replace on := on.to b
        clear b
        by_cases hg0 : g = 0
        · have hpz : parseL s = (Y, 0) := by rw [HY.out, ← hg0, HG.out]
          have hpr := printL_of hpz
          have HPR := Lib.hid hpr
          clear hpr hpz
          subst hg0
          go_wp2_with fail
          refine Calls.mono (LPrint_calls Af nf cf Y _ (E.onto on) sf (by omega)) ?_
          rw [HPR.out]
          rintro e wg ⟨rfl, b⟩
          have ON := Lib.hid (on.to b)
          clear b on sf
          dsimp only
          go_wp2_with fail
          go_ret
          exact ⟨ret_bool (by simp), ON.out⟩
        · have hgb : (g == 0) = false := by simp [hg0]
          have hgn : (g != 0) = true := by simp [hg0]
          have ON := Lib.hid on
          clear hg0 on sf
          go_wp2_with fail
          go_ret
          exact ⟨rfl, ON.out⟩
      · have hi1 : ¬ (n0 : Int) + (n1 : Int) ≤ 60 := by omega
        go_upto_region 13 with fail
        go_wp2_with fail
        refine Calls.mono (LParse_calls s HS.out _ (E.onto on)) ?_
        unfold LnPost
        rw [show (parseL s).1 = Y from HY.out.symm, show (parseL s).2 = g from HG.out.symm]
        rintro e wf ⟨Af, nf, cf, rfl, sf, hnf, hncf, b⟩
        replace on := on.to b
        clear b
        by_cases hg0 : g = 0
        · have hpz : parseL s = (Y, 0) := by rw [HY.out, ← hg0, HG.out]
          have hpr := printL_of hpz
          have HPR := Lib.hid hpr
          clear hpr hpz
          subst hg0
          go_wp2_with fail
          refine Calls.mono (LPrint_calls Af nf cf Y _ (E.onto on) sf (by omega)) ?_
          rw [HPR.out]
          rintro e wg ⟨rfl, b⟩
          have ON := Lib.hid (on.to b)
          clear b on sf
          dsimp only
          go_wp2_with fail
          go_ret
          exact ⟨ret_bool (by simp), ON.out⟩
        · have hgb : (g == 0) = false := by simp [hg0]
          have hgn : (g != 0) = true := by simp [hg0]
          have ON := Lib.hid on
          clear hg0 on sf
          go_wp2_with fail
          go_ret
          exact ⟨rfl, ON.out⟩
    · have hyb : (ey == 0) = false := by simp [hy0]
      have hyn : (ey != 0) = true := by simp [hy0]
      subst hx0
      clear hy0
      go_upto_region 6 with fail
      go_wp2_with fail
      refine Calls.mono (LParse_calls P (by have := HPL.out; omega) _ (E.onto on)) ?_
      unfold LnPost
      rw [HBK.out]
      rintro e w5 ⟨A, n, c, rfl, sA, hn, hncc, b⟩
      replace on := on.to b
      clear b
      dsimp only at sA ⊢
      go_wp2_with fail
      refine Calls.mono (EqualE_calls A A0 n n0 c c0 _ l l w5 sA (h.onto on) (by omega)) ?_
      rw [decide_eq_true (rfl : l = l)]
      rintro e w5' ⟨rfl, k, rfl⟩
      replace on := on.draws k
      clear sA
      generalize w5.drewN k = w5d at *
      go_upto_region 9 with fail
      go_upto_region 13 with fail
      go_wp2_with fail
      refine Calls.mono (LParse_calls s HS.out _ (E.onto on)) ?_
      unfold LnPost
      rw [show (parseL s).1 = Y from HY.out.symm, show (parseL s).2 = g from HG.out.symm]
      rintro e wf ⟨Af, nf, cf, rfl, sf, hnf, hncf, b⟩
      replace on := on.to b
      clear b
      by_cases hg0 : g = 0
      · have hpz : parseL s = (Y, 0) := by rw [HY.out, ← hg0, HG.out]
        have hpr := printL_of hpz
        have HPR := Lib.hid hpr
        clear hpr hpz
        subst hg0
        go_wp2_with fail
        refine Calls.mono (LPrint_calls Af nf cf Y _ (E.onto on) sf (by omega)) ?_
        rw [HPR.out]
        rintro e wg ⟨rfl, b⟩
        have ON := Lib.hid (on.to b)
        clear b on sf
        dsimp only
        go_wp2_with fail
        go_ret
        exact ⟨ret_bool (by simp), ON.out⟩
      · have hgb : (g == 0) = false := by simp [hg0]
        have hgn : (g != 0) = true := by simp [hg0]
        have ON := Lib.hid on
        clear hg0 on sf
        go_wp2_with fail
        go_ret
        exact ⟨rfl, ON.out⟩
  · have hxb : (ex == 0) = false := by simp [hx0]
    have hxn : (ex != 0) = true := by simp [hx0]
    clear hx0
    go_upto_region 13 with fail
    go_wp2_with fail
    refine Calls.mono (LParse_calls s HS.out _ (E.onto on)) ?_
    unfold LnPost
    rw [show (parseL s).1 = Y from HY.out.symm, show (parseL s).2 = g from HG.out.symm]
    rintro e wf ⟨Af, nf, cf, rfl, sf, hnf, hncf, b⟩
    replace on := on.to b
    clear b
    by_cases hg0 : g = 0
    · have hpz : parseL s = (Y, 0) := by rw [HY.out, ← hg0, HG.out]
      have hpr := printL_of hpz
      have HPR := Lib.hid hpr
      clear hpr hpz
      subst hg0
      go_wp2_with fail
      refine Calls.mono (LPrint_calls Af nf cf Y _ (E.onto on) sf (by omega)) ?_
      rw [HPR.out]
      rintro e wg ⟨rfl, b⟩
      have ON := Lib.hid (on.to b)
      clear b on sf
      dsimp only
      go_wp2_with fail
      go_ret
      exact ⟨ret_bool (by simp), ON.out⟩
    · have hgb : (g == 0) = false := by simp [hg0]
      have hgn : (g != 0) = true := by simp [hg0]
      have ON := Lib.hid on
      clear hg0 on sf
      go_wp2_with fail
      go_ret
      exact ⟨rfl, ON.out⟩
end Go.Proofs.YtdcegdonppfbkaaDoor
