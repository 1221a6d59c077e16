/- The law UnitSays' walk. -/
import Derived.Test.YtbipmoehcmighaaStood
import Derived.Test.YtbipmoehcmighaaTail2
import Derived.Test.YtbipmoehcmighaaUnit4
namespace Go.Proofs.Ytbipmoehcmighaa
set_option linter.unusedSimpArgs false
set_option linter.unusedVariables false
open Go.RowKit

set_option maxHeartbeats 4000000 in
set_option maxRecDepth 100000 in
theorem UnitSays_calls (u v : UV) (r : Rec) (w : World) (hu : S w 5 u.A u.n (u.cells.map encE)) (hv : S w 5 v.A v.n (v.cells.map encE)) (hun : u.n ≤ 9223372036854775807) (hvn : v.n ≤ 9223372036854775807) :
    Calls Try.prog 7 #[.agg #[.int .i64 u.ep, .slice u.A u.n u.c], .agg #[.int .i64 r.kind, .int .i64 r.at_, .int .i64 r.epoch, .int .i64 r.e.kind, .int .i64 r.e.job, .int .i64 r.e.every, .int .i64 r.e.time, .int .i64 r.e.client], .agg #[.int .i64 v.ep, .slice v.A v.n v.c]] w fun e w' => e = .returned (.bool true) ∧ Onto w w' := by
  obtain ⟨x, hx⟩ : ∃ x, x = nextU ⟨u.ep, u.cells⟩ r := ⟨_, rfl⟩
  have hlen := nextU_len (u := ⟨u.ep, u.cells⟩) (r := r)
  rw [← hx] at hlen
  have HX := Lib.hid hx; have HLEN := Lib.hid hlen; have HUN := Lib.hid hun
  obtain ⟨q, hq⟩ : ∃ q, q = checkU u.ep u.cells := ⟨_, rfl⟩
  obtain ⟨d, hd⟩ : ∃ d, d = decide ((⟨u.ep, u.cells⟩ : Uni) = ⟨v.ep, v.cells⟩) := ⟨_, rfl⟩
  obtain ⟨t, ht⟩ : ∃ t, t = ((tailF u.cells : Nat) : Int) := ⟨_, rfl⟩
  have HQ := Lib.hid hq; have HD := Lib.hid hd; have HT := Lib.hid ht
  clear hx hlen hun hvn hq hd ht
  go_enter Try.func7, Try.ntmps7
  go_upto_region 1 with fail
  have u0 : (((w.alloc (Obj.cells #[.int .i64 u.ep, .slice u.A u.n u.c] 34)).alloc (Obj.cells #[.int .i64 r.kind, .int .i64 r.at_, .int .i64 r.epoch, .int .i64 r.e.kind, .int .i64 r.e.job, .int .i64 r.e.every, .int .i64 r.e.time, .int .i64 r.e.client] 26)).alloc (Obj.cells #[.int .i64 v.ep, .slice v.A v.n v.c] 34)).cell? ⟨w.heap.size, 0, none⟩ = some (.int .i64 u.ep) := by simp [go_sem]
  have u1 : (((w.alloc (Obj.cells #[.int .i64 u.ep, .slice u.A u.n u.c] 34)).alloc (Obj.cells #[.int .i64 r.kind, .int .i64 r.at_, .int .i64 r.epoch, .int .i64 r.e.kind, .int .i64 r.e.job, .int .i64 r.e.every, .int .i64 r.e.time, .int .i64 r.e.client] 26)).alloc (Obj.cells #[.int .i64 v.ep, .slice v.A v.n v.c] 34)).cell? ⟨w.heap.size, 1, none⟩ = some (.slice u.A u.n u.c) := by simp [go_sem]
  have r0 : (((w.alloc (Obj.cells #[.int .i64 u.ep, .slice u.A u.n u.c] 34)).alloc (Obj.cells #[.int .i64 r.kind, .int .i64 r.at_, .int .i64 r.epoch, .int .i64 r.e.kind, .int .i64 r.e.job, .int .i64 r.e.every, .int .i64 r.e.time, .int .i64 r.e.client] 26)).alloc (Obj.cells #[.int .i64 v.ep, .slice v.A v.n v.c] 34)).cell? ⟨w.heap.size + 1, 0, none⟩ = some (.int .i64 r.kind) := by simp [go_sem]
  have r1 : (((w.alloc (Obj.cells #[.int .i64 u.ep, .slice u.A u.n u.c] 34)).alloc (Obj.cells #[.int .i64 r.kind, .int .i64 r.at_, .int .i64 r.epoch, .int .i64 r.e.kind, .int .i64 r.e.job, .int .i64 r.e.every, .int .i64 r.e.time, .int .i64 r.e.client] 26)).alloc (Obj.cells #[.int .i64 v.ep, .slice v.A v.n v.c] 34)).cell? ⟨w.heap.size + 1, 1, none⟩ = some (.int .i64 r.at_) := by simp [go_sem]
  have r2 : (((w.alloc (Obj.cells #[.int .i64 u.ep, .slice u.A u.n u.c] 34)).alloc (Obj.cells #[.int .i64 r.kind, .int .i64 r.at_, .int .i64 r.epoch, .int .i64 r.e.kind, .int .i64 r.e.job, .int .i64 r.e.every, .int .i64 r.e.time, .int .i64 r.e.client] 26)).alloc (Obj.cells #[.int .i64 v.ep, .slice v.A v.n v.c] 34)).cell? ⟨w.heap.size + 1, 2, none⟩ = some (.int .i64 r.epoch) := by simp [go_sem]
  have r3 : (((w.alloc (Obj.cells #[.int .i64 u.ep, .slice u.A u.n u.c] 34)).alloc (Obj.cells #[.int .i64 r.kind, .int .i64 r.at_, .int .i64 r.epoch, .int .i64 r.e.kind, .int .i64 r.e.job, .int .i64 r.e.every, .int .i64 r.e.time, .int .i64 r.e.client] 26)).alloc (Obj.cells #[.int .i64 v.ep, .slice v.A v.n v.c] 34)).cell? ⟨w.heap.size + 1, 3, none⟩ = some (.int .i64 r.e.kind) := by simp [go_sem]
  have r4 : (((w.alloc (Obj.cells #[.int .i64 u.ep, .slice u.A u.n u.c] 34)).alloc (Obj.cells #[.int .i64 r.kind, .int .i64 r.at_, .int .i64 r.epoch, .int .i64 r.e.kind, .int .i64 r.e.job, .int .i64 r.e.every, .int .i64 r.e.time, .int .i64 r.e.client] 26)).alloc (Obj.cells #[.int .i64 v.ep, .slice v.A v.n v.c] 34)).cell? ⟨w.heap.size + 1, 4, none⟩ = some (.int .i64 r.e.job) := by simp [go_sem]
  have r5 : (((w.alloc (Obj.cells #[.int .i64 u.ep, .slice u.A u.n u.c] 34)).alloc (Obj.cells #[.int .i64 r.kind, .int .i64 r.at_, .int .i64 r.epoch, .int .i64 r.e.kind, .int .i64 r.e.job, .int .i64 r.e.every, .int .i64 r.e.time, .int .i64 r.e.client] 26)).alloc (Obj.cells #[.int .i64 v.ep, .slice v.A v.n v.c] 34)).cell? ⟨w.heap.size + 1, 5, none⟩ = some (.int .i64 r.e.every) := by simp [go_sem]
  have r6 : (((w.alloc (Obj.cells #[.int .i64 u.ep, .slice u.A u.n u.c] 34)).alloc (Obj.cells #[.int .i64 r.kind, .int .i64 r.at_, .int .i64 r.epoch, .int .i64 r.e.kind, .int .i64 r.e.job, .int .i64 r.e.every, .int .i64 r.e.time, .int .i64 r.e.client] 26)).alloc (Obj.cells #[.int .i64 v.ep, .slice v.A v.n v.c] 34)).cell? ⟨w.heap.size + 1, 6, none⟩ = some (.int .i64 r.e.time) := by simp [go_sem]
  have r7 : (((w.alloc (Obj.cells #[.int .i64 u.ep, .slice u.A u.n u.c] 34)).alloc (Obj.cells #[.int .i64 r.kind, .int .i64 r.at_, .int .i64 r.epoch, .int .i64 r.e.kind, .int .i64 r.e.job, .int .i64 r.e.every, .int .i64 r.e.time, .int .i64 r.e.client] 26)).alloc (Obj.cells #[.int .i64 v.ep, .slice v.A v.n v.c] 34)).cell? ⟨w.heap.size + 1, 7, none⟩ = some (.int .i64 r.e.client) := by simp [go_sem]
  have v0 : (((w.alloc (Obj.cells #[.int .i64 u.ep, .slice u.A u.n u.c] 34)).alloc (Obj.cells #[.int .i64 r.kind, .int .i64 r.at_, .int .i64 r.epoch, .int .i64 r.e.kind, .int .i64 r.e.job, .int .i64 r.e.every, .int .i64 r.e.time, .int .i64 r.e.client] 26)).alloc (Obj.cells #[.int .i64 v.ep, .slice v.A v.n v.c] 34)).cell? ⟨w.heap.size + 1 + 1, 0, none⟩ = some (.int .i64 v.ep) := by simp [go_sem]
  have v1 : (((w.alloc (Obj.cells #[.int .i64 u.ep, .slice u.A u.n u.c] 34)).alloc (Obj.cells #[.int .i64 r.kind, .int .i64 r.at_, .int .i64 r.epoch, .int .i64 r.e.kind, .int .i64 r.e.job, .int .i64 r.e.every, .int .i64 r.e.time, .int .i64 r.e.client] 26)).alloc (Obj.cells #[.int .i64 v.ep, .slice v.A v.n v.c] 34)).cell? ⟨w.heap.size + 1 + 1, 1, none⟩ = some (.slice v.A v.n v.c) := by simp [go_sem]
  have on : Onto w (((w.alloc (Obj.cells #[.int .i64 u.ep, .slice u.A u.n u.c] 34)).alloc (Obj.cells #[.int .i64 r.kind, .int .i64 r.at_, .int .i64 r.epoch, .int .i64 r.e.kind, .int .i64 r.e.job, .int .i64 r.e.every, .int .i64 r.e.time, .int .i64 r.e.client] 26)).alloc (Obj.cells #[.int .i64 v.ep, .slice v.A v.n v.c] 34)) := (((Onto.rfl' w).new _).new _).new _
  have su := S.onto hu on; have sv := S.onto hv on
  change Code.wp _ _ _ _ (((w.alloc (Obj.cells #[.int .i64 u.ep, .slice u.A u.n u.c] 34)).alloc (Obj.cells #[.int .i64 r.kind, .int .i64 r.at_, .int .i64 r.epoch, .int .i64 r.e.kind, .int .i64 r.e.job, .int .i64 r.e.every, .int .i64 r.e.time, .int .i64 r.e.client] 26)).alloc (Obj.cells #[.int .i64 v.ep, .slice v.A v.n v.c] 34))
  generalize (((w.alloc (Obj.cells #[.int .i64 u.ep, .slice u.A u.n u.c] 34)).alloc (Obj.cells #[.int .i64 r.kind, .int .i64 r.at_, .int .i64 r.epoch, .int .i64 r.e.kind, .int .i64 r.e.job, .int .i64 r.e.every, .int .i64 r.e.time, .int .i64 r.e.client] 26)).alloc (Obj.cells #[.int .i64 v.ep, .slice v.A v.n v.c] 34)) = w1 at *
  generalize w.heap.size = zu at u0 u1 r0 r1 r2 r3 r4 r5 r6 r7 v0 v1 ⊢
  go_wp2_with fail
  refine Calls.mono (UNext_calls u.ep u.A u.n u.c u.cells r.kind r.at_ r.epoch r.e _ su) ?_
  rw [show nextU ⟨u.ep, u.cells⟩ ⟨r.kind, r.at_, r.epoch, r.e⟩ = x from HX.out.symm]
  rintro e w2 ⟨A1, n1, c1, rfl, s1, b, _, _, _⟩
  replace u0 := cellB b u0; replace u1 := cellB b u1; replace r0 := cellB b r0; replace r1 := cellB b r1; replace r2 := cellB b r2; replace r3 := cellB b r3; replace r4 := cellB b r4; replace r5 := cellB b r5; replace r6 := cellB b r6; replace r7 := cellB b r7; replace v0 := cellB b v0; replace v1 := cellB b v1
  replace su := S.onto su b; replace sv := S.onto sv b; replace on := Onto.to on b
  clear b
  go_upto_region 2 with fail
  have x0 : (w2.alloc (Obj.cells #[.int .i64 x.1.ep, .slice A1 n1 c1] 34)).cell? ⟨w2.heap.size, 0, none⟩ = some (.int .i64 x.1.ep) := by simp [go_sem]
  have x1 : (w2.alloc (Obj.cells #[.int .i64 x.1.ep, .slice A1 n1 c1] 34)).cell? ⟨w2.heap.size, 1, none⟩ = some (.slice A1 n1 c1) := by simp [go_sem]
  have b : Onto w2 (w2.alloc (Obj.cells #[.int .i64 x.1.ep, .slice A1 n1 c1] 34)) := (Onto.rfl' w2).new _
  replace u0 := cellB b u0; replace u1 := cellB b u1; replace r0 := cellB b r0; replace r1 := cellB b r1; replace r2 := cellB b r2; replace r3 := cellB b r3; replace r4 := cellB b r4; replace r5 := cellB b r5; replace r6 := cellB b r6; replace r7 := cellB b r7; replace v0 := cellB b v0; replace v1 := cellB b v1
  replace su := S.onto su b; replace sv := S.onto sv b; replace on := Onto.to on b
  replace s1 : S (w2.alloc (Obj.cells #[.int .i64 x.1.ep, .slice A1 n1 c1] 34)) 5 A1 n1 (x.1.cells.map encE) := S.onto s1 b
  clear b
  change Code.wp _ _ _ _ (w2.alloc (Obj.cells #[.int .i64 x.1.ep, .slice A1 n1 c1] 34))
  generalize (w2.alloc (Obj.cells #[.int .i64 x.1.ep, .slice A1 n1 c1] 34)) = w3 at *
  generalize w2.heap.size = zx at *
  go_wp2_with fail
  refine Calls.mono (RUNext_calls u.ep u.A u.n u.c u.cells r.kind r.at_ r.epoch r.e _ su) ?_
  rw [show nextU ⟨u.ep, u.cells⟩ ⟨r.kind, r.at_, r.epoch, r.e⟩ = x from HX.out.symm]
  rintro e w4 ⟨A2, n2, c2, rfl, s2, b⟩
  replace u0 := cellB b u0; replace u1 := cellB b u1; replace r0 := cellB b r0; replace r1 := cellB b r1; replace r2 := cellB b r2; replace r3 := cellB b r3; replace r4 := cellB b r4; replace r5 := cellB b r5; replace r6 := cellB b r6; replace r7 := cellB b r7; replace v0 := cellB b v0; replace v1 := cellB b v1; replace x0 := cellB b x0; replace x1 := cellB b x1
  replace su := S.onto su b; replace sv := S.onto sv b; replace on := Onto.to on b
  replace s1 := S.onto s1 b
  clear b r0 r1 r2 r3 r4 r5 r6 r7
  go_upto_region 3 with fail
  have y0 : (w4.alloc (Obj.cells #[.int .i64 x.1.ep, .slice A2 n2 c2] 34)).cell? ⟨w4.heap.size, 0, none⟩ = some (.int .i64 x.1.ep) := by simp [go_sem]
  have y1 : (w4.alloc (Obj.cells #[.int .i64 x.1.ep, .slice A2 n2 c2] 34)).cell? ⟨w4.heap.size, 1, none⟩ = some (.slice A2 n2 c2) := by simp [go_sem]
  have b : Onto w4 (w4.alloc (Obj.cells #[.int .i64 x.1.ep, .slice A2 n2 c2] 34)) := (Onto.rfl' w4).new _
  replace u0 := cellB b u0; replace u1 := cellB b u1; replace v0 := cellB b v0; replace v1 := cellB b v1; replace x0 := cellB b x0; replace x1 := cellB b x1
  replace su := S.onto su b; replace sv := S.onto sv b; replace on := Onto.to on b
  replace s1 := S.onto s1 b
  replace s2 : S (w4.alloc (Obj.cells #[.int .i64 x.1.ep, .slice A2 n2 c2] 34)) 5 A2 n2 (x.1.cells.map encE) := S.onto s2 b
  clear b
  change Code.wp _ _ _ _ (w4.alloc (Obj.cells #[.int .i64 x.1.ep, .slice A2 n2 c2] 34))
  generalize (w4.alloc (Obj.cells #[.int .i64 x.1.ep, .slice A2 n2 c2] 34)) = w5 at *
  generalize w4.heap.size = zy at *
  have ou0 := onto_cell u0; have ou1 := onto_cell u1; have ov0 := onto_cell v0; have ov1 := onto_cell v1
  have hn1 : n1 ≤ 60 := by have h1 := s1.len; rw [List.length_map] at h1; have := HLEN.out; omega
  have hub := HUN.out
  refine wp_region_quiet_two (C := fun w' => ∃ X, w' = ontoW w5 X) 25 (by kernel_rfl) (by kernel_rfl) (by kernel_rfl) rfl rfl ⟨_, onto_of (Onto.draw (Onto.rfl' w5))⟩ ?_
  simp only [List.take_succ_cons, List.take_zero, List.drop_succ_cons, List.drop_zero]
  repeat (go_big_quiet_step ((first
    | (go_at_call 24; exact calls_onto' (u := .bool true) (stood_calls _) rfl)
    | (go_at_call 27; exact calls_onto' (u := .int .i64 q) (UCheck_calls u.ep u.A u.n u.c u.cells _ (S.onto su (onto_on _ _))) (by rw [HQ.out]))
    | (go_at_call 28; exact calls_onto' (u := .int .i64 q) (RCU_calls u.ep u.A u.n u.c u.cells _ (S.onto su (onto_on _ _))) (by rw [HQ.out]))
    | (go_at_call 29; exact calls_onto' (u := .bool d) (USame_calls u.ep v.ep u.A v.A u.n u.c v.n v.c u.cells v.cells _ (S.onto su (onto_on _ _)) (S.onto sv (onto_on _ _)) (by omega)) (by rw [HD.out]))
    | (go_at_call 25; exact calls_onto' (u := .bool d) (RUSame_calls u.ep v.ep u.A v.A u.n u.c v.n v.c u.cells v.cells _ (S.onto su (onto_on _ _)) (S.onto sv (onto_on _ _)) (by omega)) (by rw [HD.out]))
    | (go_at_call 30; exact calls_onto' (u := .int .i64 t) (UTail4_calls u.ep u.A u.n u.c u.cells _ (S.onto su (onto_on _ _)) hub) (by rw [HT.out]))
    | (go_at_call 31; exact calls_onto' (u := .int .i64 t) (RTail4_calls u.ep u.A u.n u.c u.cells _ (S.onto su (onto_on _ _)) hub) (by rw [HT.out])))))
  refine wpQuiet_nil ?_
  rintro w' ⟨X, rfl⟩
  have b := onto_on w5 X
  clear ou0 ou1 ov0 ov1 u0 u1 v0 v1 su sv hub
  replace x0 := cellB b x0; replace x1 := cellB b x1; replace y0 := cellB b y0; replace y1 := cellB b y1
  replace s1 := S.onto s1 b; replace s2 := S.onto s2 b; replace on := Onto.to on b
  generalize ontoW w5 X = w6 at *
  clear b
  intro R hR
  go_wp2_with fail
  refine Calls.mono (UNew_calls _) ?_
  rintro e w7 ⟨A7, c7, rfl, s7, b, _, _⟩
  replace x0 := cellB b x0; replace x1 := cellB b x1; replace y0 := cellB b y0; replace y1 := cellB b y1
  replace s1 := S.onto s1 b; replace s2 := S.onto s2 b; replace on := Onto.to on b
  clear b
  go_wp2_with fail
  refine Calls.mono (Fresh_calls _) ?_
  rintro e w8 ⟨A8, rfl, s8, b, _⟩
  replace x0 := cellB b x0; replace x1 := cellB b x1; replace y0 := cellB b y0; replace y1 := cellB b y1
  replace s1 := S.onto s1 b; replace s2 := S.onto s2 b; replace s7 := S.onto s7 b; replace on := Onto.to on b
  clear b
  have ox0 := onto_cell x0; have ox1 := onto_cell x1; have oy0 := onto_cell y0; have oy1 := onto_cell y1
  go_wp2_with fail
  refine hR (fun w' => ∃ X, w' = ontoW w8 X) _ _ ⟨_, onto_of (Onto.rfl' w8)⟩ ?_
  repeat (go_big_quiet_step ((first
    | (go_at_call 29; exact calls_onto' (u := .bool true) (USame_calls 1 1 A7 A8 60 c7 60 60 newU.cells newU.cells _ (S.onto s7 (onto_on _ _)) (S.onto s8 (onto_on _ _)) (by omega)) (by simp))
    | (go_at_call 25; exact calls_onto' (u := .bool true) (RUSame_calls x.1.ep x.1.ep A1 A2 n1 c1 n2 c2 x.1.cells x.1.cells _ (S.onto s1 (onto_on _ _)) (S.onto s2 (onto_on _ _)) (by omega)) (by simp)))))
  refine wpQuiet_nil ?_
  rintro w' ⟨X, rfl⟩
  have b := onto_on w8 X
  replace on := Onto.to on b
  generalize ontoW w8 X = w9 at *
  clear b ox0 ox1 oy0 oy1 x0 x1 y0 y1 s1 s2 s7 s8 hR
  go_wp2_with fail
  go_ret
  exact ⟨ret_bool (by simp), on⟩
end Go.Proofs.Ytbipmoehcmighaa
