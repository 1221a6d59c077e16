/- What the program's functions on records, units and chains come to, as plain functions. No program in sight. -/
import Derived.Test.YtdcegdonppfbkaaDoorSpec
namespace Go.Proofs.YtdcegdonppfbkaaDoor
set_option linter.unusedSimpArgs false
set_option linter.unusedVariables false

structure Rec where
  kind : Int
  at_ : Int
  epoch : Int
  e : Entry
  deriving DecidableEq, Inhabited
structure Uni where
  ep : Int
  cells : List Entry
  deriving DecidableEq, Inhabited
def zeroE : Entry := ⟨0, 0, 0, 0, 0⟩
def blank : Entry := ⟨4, 0, 0, 0, 0⟩
def zeroR : Rec := ⟨0, 0, 0, zeroE⟩
def cellAt (cs : List Entry) (k : Nat) : Entry := (cs[k]?).getD zeroE
theorem cellAt_eq {cs : List Entry} {k : Nat} {x : Entry} (h : cs[k]? = some x) : cellAt cs k = x := by unfold cellAt; rw [h]; rfl

/-- note.Check. -/
def checkR (r : Rec) : Int :=
  if r.kind = 1 then (if r.at_ < 0 ∨ 60 ≤ r.at_ then 3 else if r.epoch ≠ 0 then 4 else checkE r.e)
  else if r.kind = 2 then (if r.epoch < 1 ∨ 20 < r.epoch then 3 else if r.at_ ≠ 0 ∨ r.e ≠ zeroE then 4 else 0) else 4
def checkCs : List Entry → Int
  | [] => 0
  | c :: l => if c = blank then checkCs l else if checkE c ≠ 0 then checkE c else checkCs l
/-- unit.Check. -/
def checkU (ep : Int) (cs : List Entry) : Int := if ep < 1 ∨ 20 < ep then 3 else if cs.length ≠ 60 then 4 else checkCs cs
/-- unit.Next. -/
def nextU (u : Uni) (r : Rec) : Uni × Int :=
  if checkU u.ep u.cells ≠ 0 then (⟨0, []⟩, checkU u.ep u.cells)
  else if checkR r ≠ 0 then (⟨0, []⟩, checkR r)
  else if r.kind = 2 then (if r.epoch ≤ u.ep then (⟨0, []⟩, 8) else (⟨r.epoch, u.cells⟩, 0))
  else if (cellAt u.cells r.at_.toNat).kind ≠ 4 then (⟨0, []⟩, 6) else (⟨u.ep, u.cells.set r.at_.toNat r.e⟩, 0)
def newU : Uni := ⟨1, List.replicate 60 blank⟩
/-- unit.Tail. -/
def tailU (cs : List Entry) : Nat := (cs.reverse.dropWhile (fun c => decide (c.kind = 4))).length

theorem checkCs_at {l : List Entry} {k : Nat} {x : Entry} (hx : l[k]? = some x) : checkCs (l.drop k) = if x = blank then checkCs (l.drop (k + 1)) else if checkE x ≠ 0 then checkE x else checkCs (l.drop (k + 1)) := by
  obtain ⟨hk, rfl⟩ := List.getElem?_eq_some_iff.1 hx
  rw [List.drop_eq_getElem_cons hk]
  rfl
/-- A cell is blank or an entry. -/
def okC (c : Entry) : Prop := c = blank ∨ checkE c = 0
theorem checkCs_iff {l : List Entry} : checkCs l = 0 ↔ ∀ c ∈ l, okC c := by
  induction l with
  | nil => simp [checkCs]
  | cons c l ih =>
    simp only [checkCs, List.forall_mem_cons]
    by_cases h : c = blank
    · rw [if_pos h, ih]; simp [okC, h]
    · rw [if_neg h]
      by_cases h2 : checkE c = 0
      · rw [if_neg (by simp [h2]), ih]; simp [okC, h2]
      · rw [if_pos h2]; simp [okC, h, h2]
structure GoodU (ep : Int) (cs : List Entry) : Prop where
  e1 : 1 ≤ ep
  e2 : ep ≤ 20
  len : cs.length = 60
  ok : ∀ c ∈ cs, okC c
theorem checkU_iff {ep : Int} {cs : List Entry} : checkU ep cs = 0 ↔ GoodU ep cs := by
  unfold checkU
  constructor
  · intro h
    split at h
    · cases h
    · split at h
      · cases h
      · exact ⟨by omega, by omega, by omega, checkCs_iff.1 h⟩
  · intro h
    have h1 := h.e1; have h2 := h.e2; have h3 := h.len
    rw [if_neg (by omega), if_neg (by omega)]
    exact checkCs_iff.2 h.ok
theorem checkE_kd {e : Entry} (h : checkE e = 0) : 0 ≤ e.kind ∧ e.kind ≤ 3 := by
  unfold checkE at h
  split at h
  · cases h
  · omega
theorem okC_kind {c : Entry} (h : okC c) : 0 ≤ c.kind ∧ c.kind ≤ 4 ∧ (c.kind = 4 ↔ c = blank) := by
  rcases h with rfl | h
  · decide
  · obtain ⟨h1, h2⟩ := checkE_kd h
    refine ⟨h1, by omega, fun h4 => by omega, fun h4 => by subst h4; simp [blank] at h2⟩
theorem GoodU.new : GoodU 1 newU.cells := ⟨by omega, by omega, by simp [newU], fun c hc => by simp [newU] at hc; exact .inl hc⟩
theorem checkR_write {r : Rec} (h : checkR r = 0) (hk : r.kind ≠ 2) : r.kind = 1 ∧ 0 ≤ r.at_ ∧ r.at_ < 60 ∧ r.epoch = 0 ∧ checkE r.e = 0 := by
  unfold checkR at h
  by_cases h1 : r.kind = 1
  · rw [if_pos h1] at h
    by_cases h2 : r.at_ < 0 ∨ 60 ≤ r.at_
    · rw [if_pos h2] at h; cases h
    · rw [if_neg h2] at h
      by_cases h3 : r.epoch ≠ 0
      · rw [if_pos h3] at h; cases h
      · rw [if_neg h3] at h
        exact ⟨h1, by omega, by omega, by omega, h⟩
  · rw [if_neg h1, if_neg hk] at h
    cases h
theorem checkR_seal {r : Rec} (h : checkR r = 0) (hk : r.kind = 2) : 1 ≤ r.epoch ∧ r.epoch ≤ 20 ∧ r.at_ = 0 ∧ r.e = zeroE := by
  unfold checkR at h
  rw [if_neg (by omega), if_pos hk] at h
  split at h
  · cases h
  · split at h
    · cases h
    · exact ⟨by omega, by omega, by omega, by simp_all⟩
/-- What comes of a right record is a right unit. -/
theorem nextU_good {u : Uni} {r : Rec} (h : (nextU u r).2 = 0) : GoodU u.ep u.cells ∧ checkR r = 0 ∧ GoodU (nextU u r).1.ep (nextU u r).1.cells := by
  unfold nextU at h ⊢
  split at h
  · rename_i h1; exact absurd h h1
  · rename_i h1
    have hg := checkU_iff.1 (Decidable.byContradiction h1)
    rw [if_neg h1]
    split at h
    · rename_i h2; exact absurd h h2
    · rename_i h2
      have hr : checkR r = 0 := Decidable.byContradiction h2
      rw [if_neg h2]
      refine ⟨hg, hr, ?_⟩
      split at h
      · rename_i h3
        obtain ⟨e1, e2, _, _⟩ := checkR_seal hr h3
        split at h
        · cases h
        · rename_i h4
          rw [if_pos h3, if_neg h4]
          exact ⟨e1, e2, hg.len, hg.ok⟩
      · rename_i h3
        obtain ⟨_, e1, e2, _, e3⟩ := checkR_write hr h3
        split at h
        · cases h
        · rename_i h4
          rw [if_neg h3, if_neg h4]
          refine ⟨hg.e1, hg.e2, by simp [hg.len], fun c hc => ?_⟩
          rcases List.mem_or_eq_of_mem_set hc with h5 | rfl
          · exact hg.ok c h5
          · exact .inr e3
end Go.Proofs.YtdcegdonppfbkaaDoor
