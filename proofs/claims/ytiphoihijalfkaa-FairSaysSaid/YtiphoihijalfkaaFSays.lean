/- The law FairSays' walk. -/
import Derived.Test.YtiphoihijalfkaaRLives
import Derived.Test.YtiphoihijalfkaaLived
import Derived.Test.YtiphoihijalfkaaLives2
namespace Go.Proofs.Ytiphoihijalfkaa
set_option linter.unusedSimpArgs false
set_option linter.unusedVariables false
open Go.RowKit

set_option maxHeartbeats 4000000 in
set_option maxRecDepth 100000 in
theorem FairSays_calls (A : Option Addr) (n c : Nat) (l : List Entry) (w : World) (h : S w 5 A n (l.map encE)) :
    Calls Try.prog 4 #[.slice A n c] w fun e w' => e = .returned (.bool true) ∧ Onto w w' := by
  obtain ⟨r, hr⟩ : ∃ r, r = livesL l := ⟨_, rfl⟩
  have HR := Lib.hid hr
  clear hr
  go_enter Try.func4, Try.ntmps4
  go_wp2_with fail
  refine Calls.mono (Lives_calls A n c l _ h) ?_
  rw [← HR.out]
  rintro e w1 ⟨A1, n1, c1, rfl, s1, o1, _, hc1, hm1⟩
  go_wp2_with fail
  refine Calls.mono (RLives_calls A n c l _ (h.onto o1)) ?_
  rw [← HR.out]
  rintro e w2 ⟨A2, n2, c2, rfl, s2, b2, _, _, _⟩
  replace s1 := S.onto s1 b2
  have o2 := Onto.to o1 b2
  clear o1 b2
  go_wp2_with fail
  refine Calls.mono (lived_calls _) ?_
  rintro e w3 ⟨rfl, b3⟩
  replace s1 := S.onto s1 b3; replace s2 := S.onto s2 b3
  have o3 := Onto.to o2 b3
  clear o2 b3
  go_wp2_with fail
  refine Calls.mono (EqualL_calls A1 A2 n1 n2 c1 c2 _ r.1 r.1 _ s1 s2 (by unfold maxLen at hm1; omega)) ?_
  rintro e w4 ⟨rfl, qq, rfl⟩
  go_wp2_with fail
  go_ret
  exact ⟨ret_bool (by simp), Onto.draws o3 qq⟩
end Go.Proofs.Ytiphoihijalfkaa
