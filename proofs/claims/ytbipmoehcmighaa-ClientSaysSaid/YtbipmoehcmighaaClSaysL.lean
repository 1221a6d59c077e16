/- The law ClientSays. No condition. -/
import Derived.Test.YtbipmoehcmighaaClSays
import Derived.Test.YtbipmoehcmighaaReadCl
namespace Go.Proofs.Ytbipmoehcmighaa
set_option linter.unusedSimpArgs false
set_option linter.unusedVariables false
open Go.RowKit Go.ChangeShapes Go.WideShapes Go.ChangeAt

set_option maxRecDepth 100000 in
theorem clientSays_lifted (os : Os) (started : os.Started) (H : Type) (enc : TypeId × Value → H) :
    ReturnsInHanded {} Try.checked os 10 .any (Rows.clientSaysSpec.pre6 enc Try.prog Try.f10 Rows.clientSaysRow.domain false) (Rows.clientSaysSpec.post enc Try.prog Try.f10 false true false false) := by
  refine returnsInHanded_of_change (C := Try.checked) own started (by kernel_rfl) Try.func10
    (ChangeSpec.witness6 (enc := enc) (C := Try.checked) false ⟨#[], #[.agg #[.int .i64 0, .int .i64 0, .int .i64 0, .int .i64 0, .int .i64 0, .int .i64 0, .int .i64 0, .int .i64 0, .int .i64 0, .int .i64 0, .slice none 0 0, .slice none 0 0], .agg #[.int .i64 0, .int .i64 0, .int .i64 0, .int .i64 0, .int .i64 0], .int .i64 0, .int .i64 0, .int .i64 0, .int .i64 0, .agg #[.int .i64 0, .int .i64 0, .int .i64 0, .int .i64 0, .int .i64 0, .int .i64 0, .int .i64 0, .int .i64 0, .int .i64 0, .int .i64 0, .slice none 0 0, .slice none 0 0]], []⟩ 8 (by kernel_rfl) (by kernel_rfl) (by kernel_rfl) (by kernel_rfl)) ?_
  intro W base args ds gs before hval0 hW hcnd _
  have hval : ∀ (j : Nat) t v, Try.f10.params[j]? = some t → args[j]? = some v → Value.okWide Try.prog W .any base t v := hval0
  have hW' := hW
  obtain ⟨p, q, hA0, hV, rfl, hfz, hnd⟩ := hW
  have hA : DataW.TrodAll enc Try.prog W 0 (fun _ => true) true Try.f10.params.toList args.toList ds p := hA0
  rw [Try.params10] at hA hval
  obtain ⟨v0, vs0, d0, ds0, p0, q0, hargs, rfl, rfl, h0, r0⟩ := trodAll_cons hA
  obtain ⟨v1, vs1, d1, ds1, p1, q1, rfl, rfl, rfl, h1, r1⟩ := trodAll_cons r0
  obtain ⟨v2, vs2, d2, ds2, p2, q2, rfl, rfl, rfl, h2, r2⟩ := trodAll_cons r1
  obtain ⟨v3, vs3, d3, ds3, p3, q3, rfl, rfl, rfl, h3, r3⟩ := trodAll_cons r2
  obtain ⟨v4, vs4, d4, ds4, p4, q4, rfl, rfl, rfl, h4, r4⟩ := trodAll_cons r3
  obtain ⟨v5, vs5, d5, ds5, p5, q5, rfl, rfl, rfl, h5, r5⟩ := trodAll_cons r4
  obtain ⟨v6, vs6, d6, ds6, p6, q6, rfl, rfl, rfl, h6, r6⟩ := trodAll_cons r5
  obtain ⟨rfl, rfl, rfl⟩ := trodAll_nil r6
  obtain rfl : args = #[v0, v1, v2, v3, v4, v5, v6] := by cases args; simp_all
  obtain ⟨rfl, rfl⟩ := trodVars_none hV
  have hall := hA
  obtain ⟨cs0, rfl, _⟩ := okWide_struct Try.underlying56 (hval 0 56 v0 rfl rfl)
  obtain ⟨x0, A0, n0, c0, B0, m0, k0, e0, hnc0, hcm0, hmk0, hkm0, _, _, _, _, _, _, s0, t0⟩ := reads_client (reads_of h0)
  obtain rfl : cs0 = #[.int .i64 x0.epoch, .int .i64 x0.doing, .int .i64 x0.e.kind, .int .i64 x0.e.job, .int .i64 x0.e.every, .int .i64 x0.e.time, .int .i64 x0.e.client, .int .i64 x0.at_, .int .i64 x0.link, .int .i64 x0.played, .slice A0 n0 c0, .slice B0 m0 k0] := by cases cs0; simpa [Value.cells] using e0
  obtain ⟨cs1, rfl, _⟩ := okWide_struct Try.underlying24 (hval 1 24 v1 rfl rfl)
  obtain ⟨x1, e1, hw1⟩ := reads_entry (reads_of h1)
  obtain rfl : cs1 = #[.int .i64 x1.kind, .int .i64 x1.job, .int .i64 x1.every, .int .i64 x1.time, .int .i64 x1.client] := by cases cs1; simpa [Value.cells, encE] using e1
  obtain ⟨a2, rfl, rfl, rfl, wa2⟩ := open_int Try.underlying3 (hval 2 3 v2 rfl rfl) h2
  obtain ⟨a3, rfl, rfl, rfl, wa3⟩ := open_int Try.underlying3 (hval 3 3 v3 rfl rfl) h3
  obtain ⟨a4, rfl, rfl, rfl, wa4⟩ := open_int Try.underlying3 (hval 4 3 v4 rfl rfl) h4
  obtain ⟨a5, rfl, rfl, rfl, wa5⟩ := open_int Try.underlying3 (hval 5 3 v5 rfl rfl) h5
  obtain ⟨cs6, rfl, _⟩ := okWide_struct Try.underlying56 (hval 6 56 v6 rfl rfl)
  obtain ⟨x6, A6, n6, c6, B6, m6, k6, e6, hnc6, hcm6, hmk6, hkm6, _, _, _, _, _, _, s6, t6⟩ := reads_client (reads_of h6)
  obtain rfl : cs6 = #[.int .i64 x6.epoch, .int .i64 x6.doing, .int .i64 x6.e.kind, .int .i64 x6.e.job, .int .i64 x6.e.every, .int .i64 x6.e.time, .int .i64 x6.e.client, .int .i64 x6.at_, .int .i64 x6.link, .int .i64 x6.played, .slice A6 n6 c6, .slice B6 m6 k6] := by cases cs6; simpa [Value.cells] using e6
  clear hA0 hval0
  refine (ClientSays_walk x0 A0 B0 n0 c0 m0 k0 x1 a2 a3 a4 a5 x6 A6 B6 n6 c6 m6 k6 W s0 t0 hnc0 hcm0 hmk0 hkm0 s6 t6 hnc6 hcm6 hmk6 hkm6).mono fun e W' ⟨he, bel⟩ => ?_
  subst he
  exact ⟨_, rfl, _, _, _, [], _, [], hW', trodAll_mk1 (shut_bool Try.underlying4 _), Below_trodAll (ts := [56, 24, 3, 3, 3, 3, 56]) laidOut bel (by intro t ht; simp only [List.mem_cons, List.not_mem_nil, or_false] at ht; rcases ht with rfl | rfl | rfl | rfl | rfl | rfl | rfl <;> exact ⟨by kernel_rfl, of_decide_eq_true (by kernel_rfl)⟩) hall, rfl, bel.frame _, fun h => by cases h⟩

theorem clientSays_holds : Rows.ClientSaysSaid :=
  OpenClaim.holds_of_wide 10 Try.f10 rfl rfl rfl rfl rfl rfl rfl ⟨rfl, rfl, rfl, rfl, rfl⟩ rfl rfl rfl rfl rfl (by kernel_rfl) Try.func10 (by kernel_rfl)
    (of_decide_eq_true (by kernel_rfl)) (by unfold Func.isWrapper; first | (rw [if_pos (by decide +kernel)]; kernel_rfl) | (rw [if_neg (by decide +kernel)]; exact ⟨rfl, rfl⟩))
    (fun os started H enc _ => clientSays_lifted os started H enc)

end Go.Proofs.Ytbipmoehcmighaa
