/- The closed fact 'lived'. -/
import Derived.Test.YtiphoihijalfkaaLives2
import Derived.Test.YtiphoihijalfkaaEqL
import Derived.Test.YtiphoihijalfkaaRung
namespace Go.Proofs.Ytiphoihijalfkaa
set_option linter.unusedSimpArgs false
set_option linter.unusedVariables false
open Go.RowKit

def livedE : List Entry := [⟨1, 2, 5, 10, 0⟩, ⟨3, 2, 0, 10, 0⟩, ⟨3, 2, 0, 14, 0⟩, ⟨2, 2, 0, 0, 0⟩, ⟨3, 2, 0, 15, 0⟩, ⟨1, 2, 3, 0, 0⟩, ⟨3, 2, 0, 0, 0⟩]
def livedM : List Life := [⟨2, 5, 10, 1, true⟩, ⟨2, 3, 0, 1, false⟩]
theorem lived_eq : livesL livedE = (livedM, 0) := by rfl
set_option maxHeartbeats 4000000 in
set_option maxRecDepth 100000 in
theorem lived_calls (w : World) : Calls Try.prog 17 #[] w fun e w' => e = .returned (.bool true) ∧ Onto w w' := by
  go_enter Try.func17, Try.ntmps17
  go_wp2_with fail
  refine Calls.mono (put_calls _ _ _ _) ?_
  rintro e w1 ⟨rfl, hon⟩
  go_wp2_with fail
  refine Calls.mono (ring_calls _ _ _ _) ?_
  rintro e w2 ⟨rfl, hb⟩
  replace hon := Onto.to hon hb; clear hb
  go_wp2_with fail
  refine Calls.mono (ring_calls _ _ _ _) ?_
  rintro e w3 ⟨rfl, hb⟩
  replace hon := Onto.to hon hb; clear hb
  go_wp2_with fail
  refine Calls.mono (ring_calls _ _ _ _) ?_
  rintro e w4 ⟨rfl, hb⟩
  replace hon := Onto.to hon hb; clear hb
  go_wp2_with fail
  refine Calls.mono (put_calls _ _ _ _) ?_
  rintro e w5 ⟨rfl, hb⟩
  replace hon := Onto.to hon hb; clear hb
  go_wp2_with fail
  refine Calls.mono (ring_calls _ _ _ _) ?_
  rintro e w6 ⟨rfl, hb⟩
  replace hon := Onto.to hon hb; clear hb
  go_wp2_with fail
  refine Calls.mono (Lives_calls (some ⟨w6.heap.size, 0, none⟩) 7 7 livedE _ (Sl.block (livedE.map encE) (hNew rfl) (by simp [livedE, encE]) (by rfl))) ?_
  rw [lived_eq]
  rintro e w7 ⟨A1, n1, c1, rfl, hs1, hb7, _, _, _⟩
  have hn1 := hs1.len
  simp [livedM] at hn1
  subst hn1
  replace hon := Onto.to (hon.new _) hb7
  clear hb7
  go_wp2_with fail
  refine Calls.mono (EqualL_calls A1 (some ⟨w7.heap.size, 0, none⟩) 2 2 c1 2 _ livedM livedM _ (hs1.new _) (Sl.block (livedM.map encL) (hNew rfl) (by simp [livedM, encL]) (by rfl)) (by omega)) ?_
  rintro e w8 ⟨rfl, qq, rfl⟩
  go_wp2_with fail
  go_ret
  exact ⟨ret_bool (by simp), Onto.draws (hon.new _) qq⟩
end Go.Proofs.Ytiphoihijalfkaa
