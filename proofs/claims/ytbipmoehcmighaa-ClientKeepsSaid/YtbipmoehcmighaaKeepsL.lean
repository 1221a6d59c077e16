/- The law ClientKeeps. No condition. -/
import Derived.Test.YtbipmoehcmighaaKeepsR
import Derived.Test.YtbipmoehcmighaaReadCl
namespace Go.Proofs.Ytbipmoehcmighaa
set_option linter.unusedSimpArgs false
set_option linter.unusedVariables false
open Go.RowKit Go.ChangeShapes Go.WideShapes Go.ChangeAt

theorem ClientKeeps_walk (c : Cli) (A B : Option Addr) (n k m d : Nat) (place : Int) (x : Entry) (w : World) (h : S w 3 A n (c.b.jobs.map encJ)) (h' : S w 3 B m (c.b.rung.map encR)) (hnk : n ≤ k) (hkm : k ≤ maxLen) (hmd : m ≤ d) (hdm : d ≤ maxLen) :
    Calls Try.prog 8 #[.agg #[.int .i64 c.epoch, .int .i64 c.doing, .int .i64 c.e.kind, .int .i64 c.e.job, .int .i64 c.e.every, .int .i64 c.e.time, .int .i64 c.e.client, .int .i64 c.at_, .int .i64 c.link, .int .i64 c.played, .slice A n k, .slice B m d], .int .i64 place, .agg #[.int .i64 x.kind, .int .i64 x.job, .int .i64 x.every, .int .i64 x.time, .int .i64 x.client]] w fun e w' => e = .returned (.bool true) ∧ Below w.heap.size w w' := by
  obtain ⟨ep, dg, y, at_, ln, pl, b⟩ := c
  unfold maxLen at hkm hdm
  by_cases hck : checkCl ⟨ep, dg, y, at_, ln, pl, b⟩ = 0
  · by_cases hdg : dg = 0
    · have hc := checkCl_iff.1 hck
      have h3 := hc.2.2.1; have h4 := hc.2.2.2.1
      dsimp only at h3 h4
      obtain ⟨ha, hl⟩ := h3 (by omega)
      have hy := h4 hdg
      subst hdg; subst ha; subst hl; subst hy
      by_cases hx : checkE x = 0
      · exact Keeps_rests ep pl A B n k m d b place x w h h' hx hck (by omega) (by omega)
      · exact Keeps_junk ep pl A B n k m d b place x w h h' hx hck (by omega) (by omega)
    · exact Keeps_busy ep dg at_ ln pl hdg y A B n k m d b place x w h h' hck (by omega) (by omega)
  · exact Keeps_bad ep dg at_ ln pl y A B n k m d b place x w h h' hck (by omega) (by omega)

set_option maxRecDepth 100000 in
theorem clientKeeps_lifted (os : Os) (started : os.Started) (H : Type) (enc : TypeId × Value → H) :
    ReturnsInHanded {} Try.checked os 8 .any (Rows.clientKeepsSpec.pre6 enc Try.prog Try.f8 Rows.clientKeepsRow.domain false) (Rows.clientKeepsSpec.post enc Try.prog Try.f8 false true false false) := by
  refine returnsInHanded_of_change (C := Try.checked) own started (by kernel_rfl) Try.func8
    (ChangeSpec.witness6 (enc := enc) (C := Try.checked) false ⟨#[], #[.agg #[.int .i64 0, .int .i64 0, .int .i64 0, .int .i64 0, .int .i64 0, .int .i64 0, .int .i64 0, .int .i64 0, .int .i64 0, .int .i64 0, .slice none 0 0, .slice none 0 0], .int .i64 0, .agg #[.int .i64 0, .int .i64 0, .int .i64 0, .int .i64 0, .int .i64 0]], []⟩ 8 (by kernel_rfl) (by kernel_rfl) (by kernel_rfl) (by kernel_rfl)) ?_
  intro W base args ds gs before hval0 hW hcnd _
  have hval : ∀ (j : Nat) t v, Try.f8.params[j]? = some t → args[j]? = some v → Value.okWide Try.prog W .any base t v := hval0
  have hW' := hW
  obtain ⟨p, q, hA0, hV, rfl, hfz, hnd⟩ := hW
  have hA : DataW.TrodAll enc Try.prog W 0 (fun _ => true) true Try.f8.params.toList args.toList ds p := hA0
  rw [Try.params8] at hA hval
  obtain ⟨v0, vs0, d0, ds0, p0, q0, hargs, rfl, rfl, h0, r0⟩ := trodAll_cons hA
  obtain ⟨v1, vs1, d1, ds1, p1, q1, rfl, rfl, rfl, h1, r1⟩ := trodAll_cons r0
  obtain ⟨v2, vs2, d2, ds2, p2, q2, rfl, rfl, rfl, h2, r2⟩ := trodAll_cons r1
  obtain ⟨rfl, rfl, rfl⟩ := trodAll_nil r2
  obtain rfl : args = #[v0, v1, v2] := by cases args; simp_all
  obtain ⟨rfl, rfl⟩ := trodVars_none hV
  have hall := hA
  obtain ⟨cs0, rfl, _⟩ := okWide_struct Try.underlying56 (hval 0 56 v0 rfl rfl)
  obtain ⟨x0, A0, n0, c0, B0, m0, k0, e0, hnc0, hcm0, hmk0, hkm0, _, _, _, _, _, _, s0, t0⟩ := reads_client (reads_of h0)
  obtain rfl : cs0 = #[.int .i64 x0.epoch, .int .i64 x0.doing, .int .i64 x0.e.kind, .int .i64 x0.e.job, .int .i64 x0.e.every, .int .i64 x0.e.time, .int .i64 x0.e.client, .int .i64 x0.at_, .int .i64 x0.link, .int .i64 x0.played, .slice A0 n0 c0, .slice B0 m0 k0] := by cases cs0; simpa [Value.cells] using e0
  obtain ⟨a1, rfl, rfl, rfl, wa1⟩ := open_int Try.underlying3 (hval 1 3 v1 rfl rfl) h1
  obtain ⟨cs2, rfl, _⟩ := okWide_struct Try.underlying24 (hval 2 24 v2 rfl rfl)
  obtain ⟨x2, e2, hw2⟩ := reads_entry (reads_of h2)
  obtain rfl : cs2 = #[.int .i64 x2.kind, .int .i64 x2.job, .int .i64 x2.every, .int .i64 x2.time, .int .i64 x2.client] := by cases cs2; simpa [Value.cells, encE] using e2
  clear hA0 hval0
  refine (ClientKeeps_walk x0 A0 B0 n0 c0 m0 k0 a1 x2 W s0 t0 hnc0 hcm0 hmk0 hkm0).mono fun e W' ⟨he, bel⟩ => ?_
  subst he
  exact ⟨_, rfl, _, _, _, [], _, [], hW', trodAll_mk1 (shut_bool Try.underlying4 _), Below_trodAll (ts := [56, 3, 24]) laidOut bel (by intro t ht; simp only [List.mem_cons, List.not_mem_nil, or_false] at ht; rcases ht with rfl | rfl | rfl <;> exact ⟨by kernel_rfl, of_decide_eq_true (by kernel_rfl)⟩) hall, rfl, bel.frame _, fun h => by cases h⟩

theorem clientKeeps_holds : Rows.ClientKeepsSaid :=
  OpenClaim.holds_of_wide 8 Try.f8 rfl rfl rfl rfl rfl rfl rfl ⟨rfl, rfl, rfl, rfl, rfl⟩ rfl rfl rfl rfl rfl (by kernel_rfl) Try.func8 (by kernel_rfl)
    (of_decide_eq_true (by kernel_rfl)) (by unfold Func.isWrapper; first | (rw [if_pos (by decide +kernel)]; kernel_rfl) | (rw [if_neg (by decide +kernel)]; exact ⟨rfl, rfl⟩))
    (fun os started H enc _ => clientKeeps_lifted os started H enc)

end Go.Proofs.Ytbipmoehcmighaa
