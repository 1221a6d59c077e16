/- The law DueLater. No condition. -/
import Derived.Test.YtiphoihijalfkaaCounted
import Derived.Test.YtiphoihijalfkaaReadB
import Derived.Test.YtiphoihijalfkaaOpen
namespace Go.Proofs.Ytiphoihijalfkaa
set_option linter.unusedSimpArgs false
set_option linter.unusedVariables false
open Go.RowKit Go.ChangeShapes Go.WideShapes Go.ChangeAt

theorem checkD_in {b : Book} {t : Int} (h0 : 0 ≤ t) (h1 : t ≤ 100000) : checkD b t = checkB b := by
  unfold checkD
  split
  · rfl
  · rename_i h
    rw [if_neg (by omega)]
    omega
set_option maxHeartbeats 4000000 in
set_option maxRecDepth 100000 in
theorem DueLater_walk (A A' : Option Addr) (n c m d : Nat) (b : Book) (s t : Int) (w : World) (h : S w 3 A n (b.jobs.map encJ)) (h' : S w 3 A' m (b.rung.map encR)) (_ : n ≤ c) (_ : m ≤ d) :
    Calls Try.prog 5 #[.agg #[.slice A n c, .slice A' m d], .int .i64 s, .int .i64 t] w fun e w' => e = .returned (.bool true) ∧ Below w.heap.size w w' := by
  obtain ⟨r, hr⟩ : ∃ r, r = checkB b := ⟨_, rfl⟩
  have HR := Lib.hid hr
  go_enter Try.func5, Try.ntmps5
  go_wp2_with fail
  refine Calls.mono (at_calls _ _ _ (by omega) (by omega)) ?_
  rintro e w1 ⟨rfl, rfl⟩
  go_wp2_with fail
  refine Calls.mono (at_calls _ _ _ (by omega) (by omega)) ?_
  rintro e w1 ⟨rfl, rfl⟩
  have hs0 : 0 ≤ s % 100001 := Int.emod_nonneg _ (by omega)
  have hs1 : s % 100001 < 100001 := Int.emod_lt_of_pos _ (by omega)
  have ht0 : 0 ≤ t % 100001 := Int.emod_nonneg _ (by omega)
  have ht1 : t % 100001 < 100001 := Int.emod_lt_of_pos _ (by omega)
  generalize s % 100001 = s at hs0 hs1 ⊢
  generalize t % 100001 = t at ht0 ht1 ⊢
  have h1 := h.new (Obj.cells #[.slice A n c, .slice A' m d] 38)
  have h1' := h'.new (Obj.cells #[.slice A n c, .slice A' m d] 38)
  have h01 : Onto w (w.alloc (Obj.cells #[.slice A n c, .slice A' m d] 38)) := (Below.refl _ _).alloc (Nat.le_refl _) _
  have q0 : (w.alloc (Obj.cells #[.slice A n c, .slice A' m d] 38)).cell? ⟨w.heap.size, 0, none⟩ = some (.slice A n c) := by simp [go_sem]
  have q1 : (w.alloc (Obj.cells #[.slice A n c, .slice A' m d] 38)).cell? ⟨w.heap.size, 1, none⟩ = some (.slice A' m d) := by simp [go_sem]
  clear h h'
  have hlh : ∃ lo hi, (s = lo ∧ t = hi ∧ lo < hi ∨ s = hi ∧ t = lo ∧ lo < hi ∨ s = hi ∧ t = hi ∧ lo = hi) ∧ 0 ≤ lo ∧ lo ≤ hi ∧ hi ≤ 100000 := by
    rcases Int.lt_trichotomy s t with h | h | h
    · exact ⟨s, t, .inl ⟨rfl, rfl, h⟩, by omega, by omega, by omega⟩
    · exact ⟨t, t, .inr (.inr ⟨h, rfl, rfl⟩), by omega, by omega, by omega⟩
    · exact ⟨t, s, .inr (.inl ⟨rfl, rfl, h⟩), by omega, by omega, by omega⟩
  obtain ⟨lo, hi, hcase, hl0, hle, hh1⟩ := hlh
  have hD1 : checkD b lo = r := (checkD_in hl0 (by omega)).trans hr.symm
  have hD2 : checkD b hi = r := (checkD_in (by omega) hh1).trans hr.symm
  have HD1 := Lib.hid hD1; have HD2 := Lib.hid hD2
  have hkey : r = 0 → countL b.jobs lo ≤ countL b.jobs hi ∧ (dueL b.jobs lo).length ≤ countL b.jobs lo ∧ (dueL b.jobs lo) <+: (dueL b.jobs hi) := fun h0 => by
    have hgb := (checkD_good (hD1.trans h0)).1
    obtain ⟨m', hm'⟩ := dueL_later b.jobs hle
    exact ⟨countL_mono hgb.ok hle, due_le_count hgb.ok, m', hm'.symm⟩
  obtain ⟨cl, hcl⟩ : ∃ cl, cl = if r = 0 then countL b.jobs lo else 0 := ⟨_, rfl⟩
  obtain ⟨ch, hch⟩ : ∃ ch, ch = if r = 0 then countL b.jobs hi else 0 := ⟨_, rfl⟩
  obtain ⟨L, hL⟩ : ∃ L, L = if r = 0 then dueL b.jobs lo else [] := ⟨_, rfl⟩
  obtain ⟨L2, hL2⟩ : ∃ L2, L2 = if r = 0 then dueL b.jobs hi else [] := ⟨_, rfl⟩
  replace hkey : r = 0 → cl ≤ ch ∧ L.length ≤ cl ∧ L <+: L2 := fun h0 => by
    rw [hcl, hch, hL, hL2, if_pos h0, if_pos h0, if_pos h0, if_pos h0]
    exact hkey h0
  have HCL := Lib.hid hcl; have HCH := Lib.hid hch; have HL := Lib.hid hL; have HL2 := Lib.hid hL2
  clear hr hD1 hD2 hs0 hs1 ht0 ht1 hcl hch hL hL2
  rcases hcase with ⟨rfl, rfl, hlt⟩ | ⟨rfl, rfl, hlt⟩ | ⟨rfl, rfl, hlt⟩
  all_goals try subst hlt
  all_goals go_wp2_with fail
  all_goals
    refine Calls.mono (Due_calls A A' n c m d b _ _ h1 h1') ?_
    rw [HD1.out, ← HL.out]
    rintro e w2 ⟨A1, n1, c1, rfl, hs1, hb1, hf1, hnc1, hcm1⟩
    have p0 := cellB hb1 q0; have p1 := cellB hb1 q1
    have g1 := h1.onto hb1; have g1' := h1'.onto hb1; have h02 := Onto.to h01 hb1
    clear q0 q1 h1 h1' h01 hb1
    go_wp2_with fail
  all_goals
    refine Calls.mono (Due_calls A A' n c m d b _ _ g1 g1') ?_
    rw [HD2.out, ← HL2.out]
    rintro e w3 ⟨A2, n2, c2, rfl, hs2, hb2, hf2, hnc2, hcm2⟩
    have q0 := cellB hb2 p0; have q1 := cellB hb2 p1
    have h1 := g1.onto hb2; have h1' := g1'.onto hb2; have h03 := Onto.to h02 hb2; have hs1' := hs1.onto hb2
    clear p0 p1 g1 g1' h02 hb2 hs1
    go_wp2_with fail
  all_goals
    refine Calls.mono (Count_calls A A' n c m d b _ _ h1 h1') ?_
    rw [HD1.out, ← HCL.out]
    rintro e w4 ⟨rfl, hb3⟩
    have p0 := cellB hb3 q0; have p1 := cellB hb3 q1
    have g1 := h1.onto hb3; have g1' := h1'.onto hb3; have h04 := Onto.to h03 hb3; have hs1 := hs1'.onto hb3; have hs2' := hs2.onto hb3
    clear q0 q1 h1 h1' h03 hb3 hs1' hs2
    go_wp2_with fail
  all_goals
    refine Calls.mono (Count_calls A A' n c m d b _ _ g1 g1') ?_
    rw [HD2.out, ← HCH.out]
    rintro e w5 ⟨rfl, hb4⟩
    have h05 := Onto.to h04 hb4; have hs1' := hs1.onto hb4; have hs2 := hs2'.onto hb4
    clear p0 p1 g1 g1' h04 hb4 hs1 hs2'
    go_wp2_with fail
  all_goals
    refine Calls.mono (counted_calls _) ?_
    rintro e w6 ⟨rfl, hb5⟩
    have h06 := Onto.to h05 hb5; have hs1 := hs1'.onto hb5; have hs2' := hs2.onto hb5
    clear h05 hb5 hs1' hs2
    by_cases h0 : r = 0
    · subst h0
      obtain ⟨hcm, hdc, m', hm'⟩ := hkey rfl
      rw [← hm'] at hs2'
      have HM := Lib.hid hm'
      clear hm' hkey
      have hn1 : L.length = n1 := by have := hs1.len; simpa using this
      have hn2 : L.length + m'.length = n2 := by have := hs2'.len; simpa using this
      have hd1 : decide (ch < cl) = false := by simpa using hcm
      have hd2 : decide (cl < (n1 : Int)) = false := by simp; omega
      have hn12 : n1 ≤ n2 := by omega
      have hd3 : (n1 : Int) ≤ (n2 : Int) := by omega
      have hst := hs2'.take hn12
      rw [← List.map_take, ← hn1, List.take_left, hn1] at hst
      go_wp2_with fail
      refine Calls.mono (EqualJ_calls A2 A1 n1 n1 c2 c1 _ L L _ hst hs1 (by have := hcm1; unfold maxLen at this; omega)) ?_
      rintro e w7 ⟨rfl, q7, rfl⟩
      rw [decide_eq_true rfl]
      go_wp2_with fail
      go_ret
      exact ⟨rfl, Onto.draws h06 _⟩
    · have h0' : (r != 0) = true := by simpa using h0
      clear hkey
      go_wp2_with fail
      refine Calls.mono (counted_calls _) ?_
      rintro e w7 ⟨rfl, hb6⟩
      have h07 := Onto.to h06 hb6
      clear h06 hb6
      go_wp2_with fail
      go_ret
      exact ⟨rfl, by first | exact h07 | exact Onto.draws h07 _⟩
set_option maxRecDepth 100000 in
theorem dueLater_lifted (os : Os) (started : os.Started) (H : Type) (enc : TypeId × Value → H) :
    ReturnsInHanded {} Try.checked os 5 .any (Rows.dueLaterSpec.pre6 enc Try.prog Try.f5 Rows.dueLaterRow.domain false) (Rows.dueLaterSpec.post enc Try.prog Try.f5 false true false false) := by
  refine returnsInHanded_of_change (C := Try.checked) own started (by kernel_rfl) Try.func5
    (ChangeSpec.witness6 (enc := enc) (C := Try.checked) false ⟨#[], #[.agg #[.slice none 0 0, .slice none 0 0], .int .i64 0, .int .i64 0], []⟩ 8 (by kernel_rfl) (by kernel_rfl) (by kernel_rfl) (by kernel_rfl)) ?_
  intro W base args ds gs before hval0 hW hcnd _
  have hval : ∀ (j : Nat) t v, Try.f5.params[j]? = some t → args[j]? = some v → Value.okWide Try.prog W .any base t v := hval0
  have hW' := hW
  obtain ⟨p, q, hA0, hV, rfl, hfz, hnd⟩ := hW
  have hA : DataW.TrodAll enc Try.prog W 0 (fun _ => true) true Try.f5.params.toList args.toList ds p := hA0
  rw [Try.params5] at hA hval
  obtain ⟨v0, vs0, d0, ds0, p0, q0, hargs, rfl, rfl, h0, r0⟩ := trodAll_cons hA
  obtain ⟨v1, vs1, d1, ds1, p1, q1, rfl, rfl, rfl, h1, r1⟩ := trodAll_cons r0
  obtain ⟨v2, vs2, d2, ds2, p2, q2, rfl, rfl, rfl, h2, r2⟩ := trodAll_cons r1
  obtain ⟨rfl, rfl, rfl⟩ := trodAll_nil r2
  obtain rfl : args = #[v0, v1, v2] := by cases args; simp_all
  obtain ⟨rfl, rfl⟩ := trodVars_none hV
  have hall := hA
  obtain ⟨cs0, rfl, _⟩ := okWide_struct Try.underlying38 (hval 0 38 v0 rfl rfl)
  obtain ⟨A0, n0, c0, B0, m0, k0, b0, e0, hnc0, hcm0, hmk0, hkm0, hw0, hv0, s0, t0⟩ := reads_book (reads_of h0)
  obtain rfl : cs0 = #[.slice A0 n0 c0, .slice B0 m0 k0] := by cases cs0; simpa [Value.cells] using e0
  obtain ⟨a1, rfl, rfl, rfl, wa1⟩ := open_int Try.underlying3 (hval 1 3 v1 rfl rfl) h1
  obtain ⟨a2, rfl, rfl, rfl, wa2⟩ := open_int Try.underlying3 (hval 2 3 v2 rfl rfl) h2
  clear hA0 hval0
  refine (DueLater_walk A0 B0 n0 c0 m0 k0 b0 a1 a2 W s0 t0 hnc0 hmk0).mono fun e W' ⟨he, bel⟩ => ?_
  subst he
  exact ⟨_, rfl, _, _, _, [], _, [], hW', trodAll_mk1 (shut_bool Try.underlying4 _), Below_trodAll (ts := [38, 3, 3]) laidOut bel (by intro t ht; simp only [List.mem_cons, List.not_mem_nil, or_false] at ht; rcases ht with rfl | rfl | rfl <;> exact ⟨by kernel_rfl, of_decide_eq_true (by kernel_rfl)⟩) hall, rfl, bel.frame _, fun h => by cases h⟩

theorem dueLater_holds : Rows.DueLaterSaid :=
  OpenClaim.holds_of_wide 5 Try.f5 rfl rfl rfl rfl rfl rfl rfl ⟨rfl, rfl, rfl, rfl, rfl⟩ rfl rfl rfl rfl rfl (by kernel_rfl) Try.func5 (by kernel_rfl)
    (of_decide_eq_true (by kernel_rfl)) (by unfold Func.isWrapper; first | (rw [if_pos (by decide +kernel)]; kernel_rfl) | (rw [if_neg (by decide +kernel)]; exact ⟨rfl, rfl⟩))
    (fun os started H enc _ => dueLater_lifted os started H enc)


end Go.Proofs.Ytiphoihijalfkaa
