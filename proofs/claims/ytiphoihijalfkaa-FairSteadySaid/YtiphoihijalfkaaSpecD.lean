/- What the functions of package due come to, as plain functions. -/
import Derived.Test.YtiphoihijalfkaaLawB
import Derived.Test.YtiphoihijalfkaaMut
namespace Go.Proofs.Ytiphoihijalfkaa
set_option linter.unusedSimpArgs false
set_option linter.unusedVariables false

def checkD (b : Book) (t : Int) : Int := if checkB b ≠ 0 then checkB b else if t < 0 ∨ 100000 < t then 3 else 0
def dueL (jobs : List Job) (t : Int) : List Job := isort (fun x y => decide (x.next - y.next < 0)) (jobs.filter fun j => !decide (t < j.next))
def cntJ (t : Int) (j : Job) : Int := if j.next ≤ t then (t - j.next) / j.every + 1 else 0
def countL : List Job → Int → Int
  | [], _ => 0
  | j :: l, t => cntJ t j + countL l t
def whenL : Int → List Job → Int
  | a, [] => a
  | a, j :: l => whenL (if a < 0 ∨ j.next < a then j.next else a) l
theorem countL_append (l m : List Job) (t : Int) : countL (l ++ m) t = countL l t + countL m t := by
  induction l with
  | nil => simp [countL]
  | cons j l ih => simp [countL, ih]; omega
theorem countL_take {l : List Job} {k : Nat} {x : Job} (hx : l[k]? = some x) (t : Int) : countL (l.take (k + 1)) t = countL (l.take k) t + cntJ t x := by
  obtain ⟨hk, rfl⟩ := List.getElem?_eq_some_iff.1 hx
  rw [List.take_succ_eq_append_getElem hk, countL_append]
  simp [countL]
theorem whenL_append (a : Int) (l m : List Job) : whenL a (l ++ m) = whenL (whenL a l) m := by
  induction l generalizing a with
  | nil => rfl
  | cons j l ih => simp only [List.cons_append, whenL, ih]
theorem whenL_take {l : List Job} {k : Nat} {x : Job} (hx : l[k]? = some x) (a : Int) : whenL a (l.take (k + 1)) = if whenL a (l.take k) < 0 ∨ x.next < whenL a (l.take k) then x.next else whenL a (l.take k) := by
  obtain ⟨hk, rfl⟩ := List.getElem?_eq_some_iff.1 hx
  rw [List.take_succ_eq_append_getElem hk, whenL_append]
  rfl
theorem checkD_good {b : Book} {t : Int} (h : checkD b t = 0) : GoodB b ∧ 0 ≤ t ∧ t ≤ 100000 := by
  unfold checkD at h
  split at h
  · exact absurd h (by assumption)
  · rename_i h1
    split at h
    · cases h
    · exact ⟨checkB_iff.1 (Decidable.byContradiction h1), by omega, by omega⟩
/-- A job's count is small. -/
theorem cntJ_bd {j : Job} {t : Int} (hj : ¬ badJ j) (h1 : t ≤ 100000) : 0 ≤ cntJ t j ∧ cntJ t j ≤ 100001 := by
  unfold badJ at hj
  unfold cntJ
  split
  · have h2 : (t - j.next) / j.every ≤ (t - j.next) := Int.ediv_le_self _ (by omega)
    have h3 : 0 ≤ (t - j.next) / j.every := Int.ediv_nonneg (by omega) (by omega)
    omega
  · omega
theorem countL_bd {l : List Job} {t : Int} (hj : ∀ x ∈ l, ¬ badJ x) (h1 : t ≤ 100000) : 0 ≤ countL l t ∧ countL l t ≤ l.length * 100001 := by
  induction l with
  | nil => simp [countL]
  | cons j l ih =>
    have h2 := cntJ_bd (hj j (by simp)) h1
    have h3 := ih (fun x hx => hj x (by simp [hx]))
    simp only [countL, List.length_cons]
    omega
theorem dueL_len (l : List Job) (t : Int) : (dueL l t).length ≤ l.length := by
  unfold dueL
  rw [isort_length]
  exact List.length_filter_le _ _
end Go.Proofs.Ytiphoihijalfkaa
