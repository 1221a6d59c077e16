/- The law UnitReplays' walk. -/
import Derived.Test.YtbipmoehcmighaaStood
namespace Go.Proofs.Ytbipmoehcmighaa
set_option linter.unusedSimpArgs false
set_option linter.unusedVariables false
open Go.RowKit

set_option maxHeartbeats 2000000 in
set_option maxRecDepth 100000 in
theorem UnitReplays_calls (A : Option Addr) (n c : Nat) (l : List Rec) (w : World) (h : S w 8 A n (l.map encQ)) :
    Calls Try.prog 6 #[.slice A n c] w fun e w' => e = .returned (.bool true) ∧ Onto w w' := by
  obtain ⟨r, hr⟩ : ∃ r, r = unitL l := ⟨_, rfl⟩
  have hlen := unitL_len l
  rw [← hr] at hlen
  have HR := Lib.hid hr; have HLEN := Lib.hid hlen
  clear hr hlen
  go_enter Try.func6, Try.ntmps6
  go_wp2_with fail
  refine Calls.mono (UReplay_calls A n c l _ h) ?_
  rw [← HR.out]
  rintro e w1 ⟨A1, n1, c1, rfl, s1, o1, _⟩
  replace h := S.onto h o1
  go_upto_region 2 with fail
  have u0 : (w1.alloc (Obj.cells #[.int .i64 r.1.ep, .slice A1 n1 c1] 34)).cell? ⟨w1.heap.size, 0, none⟩ = some (.int .i64 r.1.ep) := by simp [go_sem]
  have u1 : (w1.alloc (Obj.cells #[.int .i64 r.1.ep, .slice A1 n1 c1] 34)).cell? ⟨w1.heap.size, 1, none⟩ = some (.slice A1 n1 c1) := by simp [go_sem]
  replace s1 := S.new s1 (Obj.cells #[.int .i64 r.1.ep, .slice A1 n1 c1] 34)
  replace h := S.new h (Obj.cells #[.int .i64 r.1.ep, .slice A1 n1 c1] 34)
  replace o1 := Onto.new o1 (Obj.cells #[.int .i64 r.1.ep, .slice A1 n1 c1] 34)
  change Code.wp _ _ _ _ (w1.alloc (Obj.cells #[.int .i64 r.1.ep, .slice A1 n1 c1] 34))
  generalize (w1.alloc (Obj.cells #[.int .i64 r.1.ep, .slice A1 n1 c1] 34)) = w2 at *
  generalize w1.heap.size = za at *
  go_wp2_with fail
  refine Calls.mono (RUOf_calls A n c l _ h) ?_
  rw [← HR.out]
  rintro e w3 ⟨A2, n2, c2, rfl, s2, b3, _⟩
  replace u0 := cellB b3 u0; replace u1 := cellB b3 u1
  replace s1 := S.onto s1 b3; replace o1 := Onto.to o1 b3
  clear b3 h
  go_upto_region 3 with fail
  have v0 : (w3.alloc (Obj.cells #[.int .i64 r.1.ep, .slice A2 n2 c2] 34)).cell? ⟨w3.heap.size, 0, none⟩ = some (.int .i64 r.1.ep) := by simp [go_sem]
  have v1 : (w3.alloc (Obj.cells #[.int .i64 r.1.ep, .slice A2 n2 c2] 34)).cell? ⟨w3.heap.size, 1, none⟩ = some (.slice A2 n2 c2) := by simp [go_sem]
  have hO : Onto w3 (w3.alloc (Obj.cells #[.int .i64 r.1.ep, .slice A2 n2 c2] 34)) := (Onto.rfl' _).new _
  replace u0 := cellB hO u0; replace u1 := cellB hO u1
  replace s1 := S.onto s1 hO; replace s2 : S (w3.alloc (Obj.cells #[.int .i64 r.1.ep, .slice A2 n2 c2] 34)) 5 A2 n2 (r.1.cells.map encE) := S.onto s2 hO; replace o1 := Onto.to o1 hO
  clear hO
  change Code.wp _ _ _ _ (w3.alloc (Obj.cells #[.int .i64 r.1.ep, .slice A2 n2 c2] 34))
  generalize (w3.alloc (Obj.cells #[.int .i64 r.1.ep, .slice A2 n2 c2] 34)) = w4 at *
  generalize w3.heap.size = zc at *
  go_wp2_with fail
  refine Calls.mono (stood_calls _) ?_
  rintro e w5 ⟨rfl, b5⟩
  replace u0 := cellB b5 u0; replace u1 := cellB b5 u1; replace v0 := cellB b5 v0; replace v1 := cellB b5 v1
  replace s1 := S.onto s1 b5; replace s2 := S.onto s2 b5; replace o1 := Onto.to o1 b5
  clear b5
  go_wp2_with fail
  refine Calls.mono (RUSame_calls r.1.ep r.1.ep A1 A2 n1 c1 n2 c2 r.1.cells r.1.cells _ s1 s2 (by have h1 := s1.len; rw [List.length_map] at h1; have := HLEN.out; omega)) ?_
  rintro e w6 ⟨rfl, b6⟩
  replace o1 := Onto.to o1 b6
  clear b6
  go_wp2_with fail
  go_ret
  exact ⟨ret_bool (by simp), o1⟩
end Go.Proofs.Ytbipmoehcmighaa
