/- The walk of the law BookReplays. -/
import Derived.Test.YtiphoihijalfkaaRBookOf
import Derived.Test.YtiphoihijalfkaaRung
namespace Go.Proofs.Ytiphoihijalfkaa
set_option linter.unusedSimpArgs false
set_option linter.unusedVariables false
open Go.RowKit

theorem applyB_few (b : Book) (e : Entry) : (applyB b e).1.jobs.length ≤ 6 ∧ (applyB b e).1.rung.length ≤ 60 := by
  unfold applyB
  by_cases h1 : checkB b = 0
  · rw [if_neg (by simp [h1])]
    by_cases h2 : checkE e = 0
    · rw [if_neg (by simp [h2])]
      have h := stepB_good (checkB_iff.1 h1) h2
      exact ⟨h.nj, h.nr⟩
    · rw [if_pos h2]; simp [Book.none]
  · rw [if_pos h1]; simp [Book.none]
theorem replayB_few : ∀ (l : List Entry) (b : Book), b.jobs.length ≤ 6 ∧ b.rung.length ≤ 60 → (replayB b l).1.jobs.length ≤ 6 ∧ (replayB b l).1.rung.length ≤ 60
  | [], b, h => h
  | e :: l, b, h => by
    unfold replayB
    split
    · simp [Book.none]
    · exact replayB_few l _ (applyB_few b e)
theorem replay_few (l : List Entry) : (replay l).1.jobs.length ≤ 6 ∧ (replay l).1.rung.length ≤ 60 := by
  unfold replay
  split
  · simp [Book.none]
  · exact replayB_few l _ (by simp [Book.none])

set_option maxHeartbeats 8000000 in
set_option maxRecDepth 100000 in
theorem BookReplays_walk (A : Option Addr) (n c : Nat) (l : List Entry) (w : World) (h : Sl w w.heap.size 5 A n (l.map encE)) (hnc : n ≤ c) (hcm : c ≤ maxLen) :
    Calls Try.prog 11 #[.slice A n c] w fun e w' => e = .returned (.bool true) ∧ Below w.heap.size w w' := by
  obtain ⟨r, hr⟩ : ∃ r, r = replay l := ⟨_, rfl⟩
  have hfew := replay_few l
  rw [← hr] at hfew
  have HR := Lib.hid hr; have HF := Lib.hid hfew
  clear hr hfew hnc hcm
  go_enter Try.func11, Try.ntmps11
  go_wp2_with fail
  refine Calls.mono (Replay_calls A n c w.heap.size l _ h (Nat.le_refl _)) ?_
  rw [← HR.out]
  rintro e w1 ⟨A1, n1, c1, A2, n2, c2, rfl, s1, s2, hon, _, _, _, _⟩
  replace h := S.onto h hon
  go_upto_region 2 with fail
  have hb : Onto w1 (w1.alloc (Obj.cells #[.slice A1 n1 c1, .slice A2 n2 c2] 38)) := (Below.refl _ _).alloc (Nat.le_refl _) _
  have p0 : (w1.alloc (Obj.cells #[.slice A1 n1 c1, .slice A2 n2 c2] 38)).cell? ⟨w1.heap.size, 0, none⟩ = some (.slice A1 n1 c1) := by simp [go_sem]
  have p1 : (w1.alloc (Obj.cells #[.slice A1 n1 c1, .slice A2 n2 c2] 38)).cell? ⟨w1.heap.size, 1, none⟩ = some (.slice A2 n2 c2) := by simp [go_sem]
  replace h := S.onto h hb; replace s1 := S.onto s1 hb; replace s2 := S.onto s2 hb; replace hon := Onto.to hon hb
  clear hb
  change Code.wp _ _ _ _ (w1.alloc (Obj.cells #[.slice A1 n1 c1, .slice A2 n2 c2] 38))
  generalize w1.alloc (Obj.cells #[.slice A1 n1 c1, .slice A2 n2 c2] 38) = w2 at *
  generalize w1.heap.size = B1 at *
  go_wp2_with fail
  refine Calls.mono (RBookOf_calls A n c w2.heap.size l _ h (Nat.le_refl _)) ?_
  rw [← HR.out]
  rintro e w3 ⟨A3, n3, c3, A4, n4, c4, rfl, s3, s4, hb, _, _, _, _⟩
  replace p0 := cellB hb p0; replace p1 := cellB hb p1; replace s1 := S.onto s1 hb; replace s2 := S.onto s2 hb; replace hon := Onto.to hon hb
  clear hb h
  go_upto_region 3 with fail
  have hb : Onto w3 (w3.alloc (Obj.cells #[.slice A3 n3 c3, .slice A4 n4 c4] 38)) := (Below.refl _ _).alloc (Nat.le_refl _) _
  have r0 : (w3.alloc (Obj.cells #[.slice A3 n3 c3, .slice A4 n4 c4] 38)).cell? ⟨w3.heap.size, 0, none⟩ = some (.slice A3 n3 c3) := by simp [go_sem]
  have r1 : (w3.alloc (Obj.cells #[.slice A3 n3 c3, .slice A4 n4 c4] 38)).cell? ⟨w3.heap.size, 1, none⟩ = some (.slice A4 n4 c4) := by simp [go_sem]
  replace p0 := cellB hb p0; replace p1 := cellB hb p1; replace s1 := S.onto s1 hb; replace s2 := S.onto s2 hb; replace s3 := S.onto s3 hb; replace s4 := S.onto s4 hb; replace hon := Onto.to hon hb
  clear hb
  change Code.wp _ _ _ _ (w3.alloc (Obj.cells #[.slice A3 n3 c3, .slice A4 n4 c4] 38))
  generalize w3.alloc (Obj.cells #[.slice A3 n3 c3, .slice A4 n4 c4] 38) = w4 at *
  generalize w3.heap.size = B3 at *
  go_wp2_with fail
  refine Calls.mono (rung_calls _) ?_
  rintro e w5 ⟨rfl, hb⟩
  replace p0 := cellB hb p0; replace p1 := cellB hb p1; replace r0 := cellB hb r0; replace r1 := cellB hb r1; replace s1 := S.onto s1 hb; replace s2 := S.onto s2 hb; replace s3 := S.onto s3 hb; replace s4 := S.onto s4 hb; replace hon := Onto.to hon hb
  clear hb
  go_wp2_with fail
  refine Calls.mono (RBSame_calls A1 A2 A3 A4 n1 c1 n2 c2 n3 c3 n4 c4 _ r.1.jobs r.1.jobs r.1.rung r.1.rung _ s1 s2 s3 s4 (Nat.le_refl _) (by have h1 := s1.len; have h2 := HF.out.1; simp at h1; omega) (by have h1 := s2.len; have h2 := HF.out.2; simp at h1; omega)) ?_
  rintro e w6 ⟨rfl, hb⟩
  replace hon := Onto.to hon hb
  clear hb p0 p1 r0 r1 s1 s2 s3 s4
  go_wp2_with fail
  go_ret
  exact ⟨ret_bool (by simp), hon⟩

end Go.Proofs.Ytiphoihijalfkaa
