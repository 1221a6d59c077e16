/- What the program's functions on entries and books come to, as plain functions. No program in sight. -/
import Derived.Test.YtdcegdonppfbkaaDoorLib
namespace Go.Proofs.YtdcegdonppfbkaaDoor
set_option linter.unusedSimpArgs false
set_option linter.unusedVariables false

/-- entry.Check, as an error's number. -/
def checkE (e : Entry) : Int :=
  if e.kind < 0 ∨ 3 < e.kind then 4
  else if e.job < 0 ∨ 6 ≤ e.job ∨ e.every < 0 ∨ 100 < e.every ∨ e.time < 0 ∨ 100000 < e.time ∨ e.client < 0 ∨ 3 ≤ e.client then 3
  else if (e.kind = 0 ∧ ¬ (e.job = 0 ∧ e.every = 0 ∧ e.time = 0 ∧ e.client = 0)) ∨ (e.kind = 1 ∧ ¬ (1 ≤ e.every ∧ e.client = 0)) ∨
    (e.kind = 2 ∧ ¬ (e.every = 0 ∧ e.time = 0 ∧ e.client = 0)) ∨ (e.kind = 3 ∧ e.every ≠ 0) then 4 else 0

structure Book where
  jobs : List Job
  rung : List Rung
  deriving DecidableEq, Inhabited

def Book.none : Book := ⟨[], []⟩

def checkJs (last : Int) : List Job → Int
  | [] => 0
  | j :: l => if j.id < 0 ∨ 6 ≤ j.id ∨ j.every < 1 ∨ 100 < j.every ∨ j.next < 0 ∨ 100100 < j.next then 3 else if j.id ≤ last then 6 else checkJs j.id l
def checkRs : List Rung → Int
  | [] => 0
  | r :: l => if r.job < 0 ∨ 6 ≤ r.job ∨ r.time < 0 ∨ 100000 < r.time ∨ r.client < 0 ∨ 3 ≤ r.client then 3 else checkRs l
/-- book.Check. -/
def checkB (b : Book) : Int :=
  if 6 < b.jobs.length ∨ 60 < b.rung.length then 2 else if checkJs (-1) b.jobs = 0 then checkRs b.rung else checkJs (-1) b.jobs

/-- The place of the first of which p holds; -1: there is none. -/
def idxI {α : Type} (p : α → Bool) (l : List α) : Int :=
  match l.findIdx? p with
  | some i => i
  | none => -1
theorem idxI_at {α : Type} {p : α → Bool} {l : List α} {i : Nat} {x : α} (hx : l[i]? = some x) (hp : p x = true) (h : ∀ j y, j < i → l[j]? = some y → p y = false) : idxI p l = i := by
  obtain ⟨hi, rfl⟩ := List.getElem?_eq_some_iff.1 hx
  have e : l.findIdx? p = some i := by
    rw [List.findIdx?_eq_some_iff_getElem]
    refine ⟨hi, hp, fun j hj => ?_⟩
    have := h j l[j] hj (List.getElem?_eq_getElem (by omega))
    simp [this]
  simp [idxI, e]
theorem idxI_none {α : Type} {p : α → Bool} {l : List α} (h : ∀ (j : Nat) y, l[j]? = some y → p y = false) : idxI p l = -1 := by
  have e : l.findIdx? p = none := by
    rw [List.findIdx?_eq_none_iff]
    intro x hx
    obtain ⟨j, hj, rfl⟩ := List.getElem_of_mem hx
    exact h j _ (List.getElem?_eq_getElem hj)
  simp [idxI, e]
def findB (b : Book) (id : Int) : Int := idxI (fun j => decide (j.id = id)) b.jobs

/-- Where a job of this ID is put in. -/
def posJ (l : List Job) (id : Int) : Nat := (l.takeWhile fun j => decide (j.id < id)).length
/-- What an entry makes of a right book. -/
def stepB (b : Book) (e : Entry) : Book :=
  if e.kind = 1 then
    if 0 ≤ findB b e.job then b else ⟨b.jobs.take (posJ b.jobs e.job) ++ [⟨e.job, e.every, e.time⟩] ++ b.jobs.drop (posJ b.jobs e.job), b.rung⟩
  else if e.kind = 2 then
    if 0 ≤ findB b e.job then ⟨b.jobs.take (findB b e.job).toNat ++ b.jobs.drop ((findB b e.job).toNat + 1), b.rung⟩ else b
  else if e.kind = 3 then
    match b.jobs[(findB b e.job).toNat]? with
    | some j => if 0 ≤ findB b e.job ∧ j.next = e.time ∧ b.rung.length < 60 then ⟨b.jobs.set (findB b e.job).toNat ⟨j.id, j.every, j.next + j.every⟩, b.rung ++ [⟨e.job, e.time, e.client⟩]⟩ else b
    | none => b
  else b
/-- book.Apply. -/
def applyB (b : Book) (e : Entry) : Book × Int :=
  if checkB b ≠ 0 then (Book.none, checkB b) else if checkE e ≠ 0 then (Book.none, checkE e) else (stepB b e, 0)
/-- book.Replay: from a book on. -/
def replayB (b : Book) : List Entry → Book × Int
  | [] => (b, 0)
  | e :: l => if (applyB b e).2 ≠ 0 then (Book.none, (applyB b e).2) else replayB (applyB b e).1 l
def replay (l : List Entry) : Book × Int := if 60 < l.length then (Book.none, 2) else replayB Book.none l
end Go.Proofs.YtdcegdonppfbkaaDoor
