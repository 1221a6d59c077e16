/- The walk of the law BookSays. -/
import Derived.Test.YtiphoihijalfkaaBSays
namespace Go.Proofs.Ytiphoihijalfkaa
set_option linter.unusedSimpArgs false
set_option linter.unusedVariables false
open Go.RowKit

set_option maxHeartbeats 8000000 in
set_option maxRecDepth 100000 in
theorem BookSays_walk (A A' : Option Addr) (n c m d : Nat) (b : Book) (x : Entry) (D D' : Option Addr) (n' c' m' d' : Nat) (b' : Book) (id : Int) (w : World) (h1 : S w 3 A n (b.jobs.map encJ)) (h2 : S w 3 A' m (b.rung.map encR)) (hnc : n ≤ c) (hcm : c ≤ maxLen) (hmd : m ≤ d) (hdm : d ≤ maxLen)
    (h3 : S w 3 D n' (b'.jobs.map encJ)) (h4 : S w 3 D' m' (b'.rung.map encR)) :
    Calls Try.prog 10 #[.agg #[.slice A n c, .slice A' m d], .agg #[.int .i64 x.kind, .int .i64 x.job, .int .i64 x.every, .int .i64 x.time, .int .i64 x.client], .agg #[.slice D n' c', .slice D' m' d'], .int .i64 id] w fun e w' => e = .returned (.bool true) ∧ Below w.heap.size w w' := by
  unfold maxLen at hcm hdm
  have hn9 : n ≤ 9223372036854775807 := by omega
  have hm9 : m ≤ 9223372036854775807 := by omega
  obtain ⟨r, hr⟩ : ∃ r, r = applyB b x := ⟨_, rfl⟩
  have hfew := applyB_few b x
  rw [← hr] at hfew
  have HR := Lib.hid hr; have HF := Lib.hid hfew; have HN := Lib.hid hn9; have HM := Lib.hid hm9
  clear hr hfew hnc hcm hmd hdm hn9 hm9
  go_enter Try.func10, Try.ntmps10
  go_wp2_with fail
  refine Calls.mono (Apply_calls A A' n c m d _ b x.kind x.job x.every x.time x.client _ (((h1.new _).new _).new _) (((h2.new _).new _).new _) (Nat.le_refl _)) ?_
  rw [show applyB b ⟨x.kind, x.job, x.every, x.time, x.client⟩ = r from HR.out.symm]
  rintro e w1 ⟨A1, n1, c1, A2, n2, c2, rfl, s1, s2, hb1, _, _, _, _⟩
  have q0 : w1.cell? ⟨w.heap.size, 0, none⟩ = some (.slice A n c) := cellB hb1 (by simp [go_sem])
  have q1 : w1.cell? ⟨w.heap.size, 1, none⟩ = some (.slice A' m d) := cellB hb1 (by simp [go_sem])
  have e0 : w1.cell? ⟨w.heap.size + 1, 0, none⟩ = some (.int .i64 x.kind) := cellB hb1 (by simp [go_sem])
  have e1 : w1.cell? ⟨w.heap.size + 1, 1, none⟩ = some (.int .i64 x.job) := cellB hb1 (by simp [go_sem])
  have e2 : w1.cell? ⟨w.heap.size + 1, 2, none⟩ = some (.int .i64 x.every) := cellB hb1 (by simp [go_sem])
  have e3 : w1.cell? ⟨w.heap.size + 1, 3, none⟩ = some (.int .i64 x.time) := cellB hb1 (by simp [go_sem])
  have e4 : w1.cell? ⟨w.heap.size + 1, 4, none⟩ = some (.int .i64 x.client) := cellB hb1 (by simp [go_sem])
  have t0 : w1.cell? ⟨w.heap.size + 1 + 1, 0, none⟩ = some (.slice D n' c') := cellB hb1 (by simp [go_sem])
  have t1 : w1.cell? ⟨w.heap.size + 1 + 1, 1, none⟩ = some (.slice D' m' d') := cellB hb1 (by simp [go_sem])
  have hon : Onto w w1 := ((((Below.refl _ _).alloc (Nat.le_refl _) _).alloc (by simp) _).alloc (by simp; omega) _).trans (hb1.mono (by simp; omega))
  replace h1 := h1.onto hon; replace h2 := h2.onto hon; replace h3 := h3.onto hon; replace h4 := h4.onto hon
  clear hb1
  go_upto_region 2 with fail
  have hb : Onto w1 (w1.alloc (Obj.cells #[.slice A1 n1 c1, .slice A2 n2 c2] 38)) := (Below.refl _ _).alloc (Nat.le_refl _) _
  have p0 : (w1.alloc (Obj.cells #[.slice A1 n1 c1, .slice A2 n2 c2] 38)).cell? ⟨w1.heap.size, 0, none⟩ = some (.slice A1 n1 c1) := by simp [go_sem]
  have p1 : (w1.alloc (Obj.cells #[.slice A1 n1 c1, .slice A2 n2 c2] 38)).cell? ⟨w1.heap.size, 1, none⟩ = some (.slice A2 n2 c2) := by simp [go_sem]
  replace q0 := cellB hb q0; replace q1 := cellB hb q1; replace e0 := cellB hb e0; replace e1 := cellB hb e1; replace e2 := cellB hb e2; replace e3 := cellB hb e3; replace e4 := cellB hb e4; replace t0 := cellB hb t0; replace t1 := cellB hb t1; replace s1 := S.onto s1 hb; replace s2 := S.onto s2 hb; replace h1 := S.onto h1 hb; replace h2 := S.onto h2 hb; replace h3 := S.onto h3 hb; replace h4 := S.onto h4 hb; replace hon := Onto.to hon hb
  clear hb
  change Code.wp _ _ _ _ (w1.alloc (Obj.cells #[.slice A1 n1 c1, .slice A2 n2 c2] 38))
  generalize w1.alloc (Obj.cells #[.slice A1 n1 c1, .slice A2 n2 c2] 38) = w2 at *
  generalize w1.heap.size = B1 at *
  go_wp2_with fail
  refine Calls.mono (RApplied_calls A A' n c m d b x _ h1 h2) ?_
  rw [← HR.out]
  rintro e w3 ⟨A3, n3, c3, A4, n4, c4, rfl, s3, s4, hb, _, _, _, _⟩
  replace q0 := cellB hb q0; replace q1 := cellB hb q1; replace t0 := cellB hb t0; replace t1 := cellB hb t1; replace p0 := cellB hb p0; replace p1 := cellB hb p1; replace s1 := S.onto s1 hb; replace s2 := S.onto s2 hb; replace h1 := S.onto h1 hb; replace h2 := S.onto h2 hb; replace h3 := S.onto h3 hb; replace h4 := S.onto h4 hb; replace hon := Onto.to hon hb
  clear hb e0 e1 e2 e3 e4
  go_upto_region 3 with fail
  have hb : Onto w3 (w3.alloc (Obj.cells #[.slice A3 n3 c3, .slice A4 n4 c4] 38)) := (Below.refl _ _).alloc (Nat.le_refl _) _
  have r0 : (w3.alloc (Obj.cells #[.slice A3 n3 c3, .slice A4 n4 c4] 38)).cell? ⟨w3.heap.size, 0, none⟩ = some (.slice A3 n3 c3) := by simp [go_sem]
  have r1 : (w3.alloc (Obj.cells #[.slice A3 n3 c3, .slice A4 n4 c4] 38)).cell? ⟨w3.heap.size, 1, none⟩ = some (.slice A4 n4 c4) := by simp [go_sem]
  replace q0 := cellB hb q0; replace q1 := cellB hb q1; replace t0 := cellB hb t0; replace t1 := cellB hb t1; replace p0 := cellB hb p0; replace p1 := cellB hb p1; replace s1 := S.onto s1 hb; replace s2 := S.onto s2 hb; replace s3 := S.onto s3 hb; replace s4 := S.onto s4 hb; replace h1 := S.onto h1 hb; replace h2 := S.onto h2 hb; replace h3 := S.onto h3 hb; replace h4 := S.onto h4 hb; replace hon := Onto.to hon hb
  clear hb
  change Code.wp _ _ _ _ (w3.alloc (Obj.cells #[.slice A3 n3 c3, .slice A4 n4 c4] 38))
  generalize w3.alloc (Obj.cells #[.slice A3 n3 c3, .slice A4 n4 c4] 38) = w4 at *
  generalize w3.heap.size = B3 at *
  have hl1 : n1 ≤ 9223372036854775807 := by have h1 := s1.len; have h2 := HF.out.1; simp at h1; omega
  have hl2 : n2 ≤ 9223372036854775807 := by have h1 := s2.len; have h2 := HF.out.2; simp at h1; omega
  have HL1 := Lib.hid hl1; have HL2 := Lib.hid hl2
  clear hl1 hl2
  obtain ⟨qc, hqc⟩ : ∃ qc, qc = checkB ⟨b.jobs, b.rung⟩ := ⟨_, rfl⟩
  obtain ⟨qs, hqs⟩ : ∃ qs, qs = decide ((⟨b.jobs, b.rung⟩ : Book) = ⟨b'.jobs, b'.rung⟩) := ⟨_, rfl⟩
  obtain ⟨qf, hqf⟩ : ∃ qf, qf = findB b id := ⟨_, rfl⟩
  have HQC := Lib.hid hqc; have HQS := Lib.hid hqs; have HQF := Lib.hid hqf
  clear hqc hqs hqf
  have k0 := onto_cell q0; have k1 := onto_cell q1; have k2 := onto_cell t0; have k3 := onto_cell t1; have k4 := onto_cell p0; have k5 := onto_cell p1; have k6 := onto_cell r0; have k7 := onto_cell r1
  refine wp_region_onto (by kernel_rfl) (by kernel_rfl) ?_
  repeat (go_big_quiet_step ((first
    | (go_at_call 25; exact calls_onto' (u := .bool true) (rung_calls _) rfl)
    | (go_at_call 27; exact calls_onto' (u := .int .i64 qc) (BCheck_calls A A' n c m d _ b.jobs b.rung _ (S.onto h1 (onto_on _ _)) (S.onto h2 (onto_on _ _)) (Nat.le_refl _)) (by rw [HQC.out]))
    | (go_at_call 32; exact calls_onto' (u := .int .i64 qc) (RBCheck_calls A A' n c m d b.jobs b.rung _ (S.onto h1 (onto_on _ _)) (S.onto h2 (onto_on _ _))) (by rw [HQC.out]))
    | (go_at_call 26; exact calls_onto' (u := .bool qs) (BSame_calls A A' D D' n c m d n' c' m' d' _ b.jobs b'.jobs b.rung b'.rung _ (S.onto h1 (onto_on _ _)) (S.onto h2 (onto_on _ _)) (S.onto h3 (onto_on _ _)) (S.onto h4 (onto_on _ _)) (Nat.le_refl _) HN.out HM.out) (by rw [HQS.out]))
    | (go_at_call 33; exact calls_onto' (u := .bool qs) (by with_reducible exact (RBSame_calls A A' D D' n c m d n' c' m' d' _ b.jobs b'.jobs b.rung b'.rung _ (S.onto h1 (onto_on _ _)) (S.onto h2 (onto_on _ _)) (S.onto h3 (onto_on _ _)) (S.onto h4 (onto_on _ _)) (Nat.le_refl _) HN.out HM.out)) (by rw [HQS.out]))
    | (go_at_call 33; exact calls_onto' (u := .bool true) (by with_reducible exact (RBSame_calls A1 A2 A3 A4 n1 c1 n2 c2 n3 c3 n4 c4 _ r.1.jobs r.1.jobs r.1.rung r.1.rung _ (S.onto s1 (onto_on _ _)) (S.onto s2 (onto_on _ _)) (S.onto s3 (onto_on _ _)) (S.onto s4 (onto_on _ _)) (Nat.le_refl _) HL1.out HL2.out)) (by simp))
    | (go_at_call 29; exact calls_onto' (u := .int .i64 qf) (Find_calls A A' n c m d _ id b.jobs b.rung _ (S.onto h1 (onto_on _ _)) (Nat.le_refl _) HN.out) (by rw [HQF.out]))
    | (go_at_call 34; exact calls_onto' (u := .int .i64 qf) (RJobAt_calls A A' n c m d b id _ (S.onto h1 (onto_on _ _)) HN.out) (by rw [HQF.out])))))
  refine wpQuiet_nil ?_
  intro w5 hb
  replace hon := Onto.to hon hb
  clear k0 k1 k2 k3 k4 k5 k6 k7 hb q0 q1 t0 t1 p0 p1 r0 r1 s1 s2 s3 s4 h1 h2 h3 h4
  go_wp2_with fail
  go_ret
  exact ⟨rfl, hon⟩
end Go.Proofs.Ytiphoihijalfkaa
