/- The data of the program as plain structures, and what it means that a slice in memory reads as a list of them. -/
import Derived.WalkKit
import Derived.WalkSpells
import Derived.Below
import Derived.BigFrame
import Derived.BigQuiet
import Derived.Lib.Hide
import Derived.Laws.StructEq
import Derived.Deep.QuietTactic
import Derived.Deep.LoopGhost
import Derived.Deep.DeepFit
import Derived.Deep.Cut
import Derived.Deep.Draws
import Derived.Outline
namespace Go.Proofs.Ytiphoihijalfkaa
open Go.RowKit

structure Entry where
  kind : Int
  job : Int
  every : Int
  time : Int
  client : Int
  deriving DecidableEq, Inhabited

structure Job where
  id : Int
  every : Int
  next : Int
  deriving DecidableEq, Inhabited

structure Rung where
  job : Int
  time : Int
  client : Int
  deriving DecidableEq, Inhabited

structure Life where
  job : Int
  every : Int
  frm : Int
  rung : Int
  over : Bool
  deriving DecidableEq, Inhabited

def encE (e : Entry) : List Value := [.int .i64 e.kind, .int .i64 e.job, .int .i64 e.every, .int .i64 e.time, .int .i64 e.client]
def encJ (j : Job) : List Value := [.int .i64 j.id, .int .i64 j.every, .int .i64 j.next]
def encR (r : Rung) : List Value := [.int .i64 r.job, .int .i64 r.time, .int .i64 r.client]
def encL (r : Life) : List Value := [.int .i64 r.job, .int .i64 r.every, .int .i64 r.frm, .int .i64 r.rung, .bool r.over]
def encI (n : Int) : List Value := [.int .i64 n]

/-- The slice value of address A and length n reads, in w, as the rows (k cells each); it lies below block B. -/
def Sl (w : World) (B k : Nat) (A : Option Addr) (n : Nat) (rows : List (List Value)) : Prop :=
  rows.length = n ∧ (∀ r ∈ rows, r.length = k) ∧
    (0 < n → ∃ b off, A = some ⟨b, off, none⟩ ∧ b < B ∧ ∀ i j r u, rows[i]? = some r → r[j]? = some u → w.cell? ⟨b, off + i * k + j, none⟩ = some u)

section
variable {w w' : World} {B B' k n : Nat} {A : Option Addr} {rows : List (List Value)}

theorem Sl.len (h : Sl w B k A n rows) : rows.length = n := h.1
theorem Sl.nil : Sl w B k A 0 [] := ⟨rfl, by simp, fun h => absurd h (by omega)⟩
theorem Sl.keep (h : Sl w B k A n rows) (hk : ∀ p : Addr, p.block < B → w'.cell? p = w.cell? p) : Sl w' B k A n rows :=
  ⟨h.1, h.2.1, fun hn => by
    obtain ⟨b, off, e, hb, hc⟩ := h.2.2 hn
    exact ⟨b, off, e, hb, fun i j r u hr hu => (hk ⟨b, off + i * k + j, none⟩ hb).trans (hc i j r u hr hu)⟩⟩
theorem Sl.more (h : Sl w B k A n rows) (hB : B ≤ B') : Sl w B' k A n rows :=
  ⟨h.1, h.2.1, fun hn => by
    obtain ⟨b, off, e, hb, hc⟩ := h.2.2 hn
    exact ⟨b, off, e, by omega, hc⟩⟩
theorem Sl.below (h : Sl w B k A n rows) (hb : Below B w w') : Sl w' B k A n rows := h.keep fun _ hp => hb.cell hp
theorem Sl.drewN (h : Sl w B k A n rows) (q : Nat) : Sl (w.drewN q) B k A n rows := h
theorem Sl.drew (h : Sl w B k A n rows) : Sl w.drew B k A n rows := h

section
variable {α : Type} {enc : α → List Value} {l : List α}
theorem Sl.at_ (h : Sl w B k A n (l.map enc)) {i : Nat} (hi : i < n) : ∃ b off x, A = some ⟨b, off, none⟩ ∧ b < B ∧ l[i]? = some x ∧
    ∀ j u, (enc x)[j]? = some u → w.cell? ⟨b, off + i * k + j, none⟩ = some u := by
  obtain ⟨b, off, e, hb, hc⟩ := h.2.2 (by omega)
  have hl : i < l.length := by have := h.1; simp at this; omega
  exact ⟨b, off, l[i], e, hb, List.getElem?_eq_getElem hl, fun j u hu => hc i j (enc l[i]) u (by simp [List.getElem?_eq_getElem hl]) hu⟩
end

theorem Sl.atJ {l : List Job} (h : Sl w B 3 A n (l.map encJ)) {i : Nat} (hi : i < n) : ∃ b off x, A = some ⟨b, off, none⟩ ∧ b < B ∧ l[i]? = some x ∧
    w.cell? ⟨b, off + i * 3, none⟩ = some (.int .i64 x.id) ∧ w.cell? ⟨b, off + i * 3 + 1, none⟩ = some (.int .i64 x.every) ∧ w.cell? ⟨b, off + i * 3 + 2, none⟩ = some (.int .i64 x.next) := by
  obtain ⟨b, off, x, e, hb, hx, hc⟩ := h.at_ hi
  exact ⟨b, off, x, e, hb, hx, hc 0 _ rfl, hc 1 _ rfl, hc 2 _ rfl⟩
theorem Sl.atR {l : List Rung} (h : Sl w B 3 A n (l.map encR)) {i : Nat} (hi : i < n) : ∃ b off x, A = some ⟨b, off, none⟩ ∧ b < B ∧ l[i]? = some x ∧
    w.cell? ⟨b, off + i * 3, none⟩ = some (.int .i64 x.job) ∧ w.cell? ⟨b, off + i * 3 + 1, none⟩ = some (.int .i64 x.time) ∧ w.cell? ⟨b, off + i * 3 + 2, none⟩ = some (.int .i64 x.client) := by
  obtain ⟨b, off, x, e, hb, hx, hc⟩ := h.at_ hi
  exact ⟨b, off, x, e, hb, hx, hc 0 _ rfl, hc 1 _ rfl, hc 2 _ rfl⟩
theorem Sl.atL {l : List Life} (h : Sl w B 5 A n (l.map encL)) {i : Nat} (hi : i < n) : ∃ b off x, A = some ⟨b, off, none⟩ ∧ b < B ∧ l[i]? = some x ∧
    w.cell? ⟨b, off + i * 5, none⟩ = some (.int .i64 x.job) ∧ w.cell? ⟨b, off + i * 5 + 1, none⟩ = some (.int .i64 x.every) ∧ w.cell? ⟨b, off + i * 5 + 2, none⟩ = some (.int .i64 x.frm) ∧ w.cell? ⟨b, off + i * 5 + 3, none⟩ = some (.int .i64 x.rung) ∧ w.cell? ⟨b, off + i * 5 + 4, none⟩ = some (.bool x.over) := by
  obtain ⟨b, off, x, e, hb, hx, hc⟩ := h.at_ hi
  exact ⟨b, off, x, e, hb, hx, hc 0 _ rfl, hc 1 _ rfl, hc 2 _ rfl, hc 3 _ rfl, hc 4 _ rfl⟩
theorem Sl.atE {l : List Entry} (h : Sl w B 5 A n (l.map encE)) {i : Nat} (hi : i < n) : ∃ b off x, A = some ⟨b, off, none⟩ ∧ b < B ∧ l[i]? = some x ∧
    w.cell? ⟨b, off + i * 5, none⟩ = some (.int .i64 x.kind) ∧ w.cell? ⟨b, off + i * 5 + 1, none⟩ = some (.int .i64 x.job) ∧ w.cell? ⟨b, off + i * 5 + 2, none⟩ = some (.int .i64 x.every) ∧ w.cell? ⟨b, off + i * 5 + 3, none⟩ = some (.int .i64 x.time) ∧ w.cell? ⟨b, off + i * 5 + 4, none⟩ = some (.int .i64 x.client) := by
  obtain ⟨b, off, x, e, hb, hx, hc⟩ := h.at_ hi
  exact ⟨b, off, x, e, hb, hx, hc 0 _ rfl, hc 1 _ rfl, hc 2 _ rfl, hc 3 _ rfl, hc 4 _ rfl⟩
theorem Sl.atI {l : List Int} (h : Sl w B 1 A n (l.map encI)) {i : Nat} (hi : i < n) : ∃ b off x, A = some ⟨b, off, none⟩ ∧ b < B ∧ l[i]? = some x ∧ w.cell? ⟨b, off + i, none⟩ = some (.int .i64 x) := by
  obtain ⟨b, off, x, e, hb, hx, hc⟩ := h.at_ hi
  have h0 := hc 0 _ rfl
  rw [Nat.mul_one] at h0
  exact ⟨b, off, x, e, hb, hx, h0⟩
end

theorem job_eq_iff (x y : Job) : x = y ↔ x.id = y.id ∧ x.every = y.every ∧ x.next = y.next := by
  cases x; cases y; simp
theorem rung_eq_iff (x y : Rung) : x = y ↔ x.job = y.job ∧ x.time = y.time ∧ x.client = y.client := by
  cases x; cases y; simp
theorem life_eq_iff (x y : Life) : x = y ↔ x.job = y.job ∧ x.every = y.every ∧ x.frm = y.frm ∧ x.rung = y.rung ∧ x.over = y.over := by
  cases x; cases y; simp
theorem entry_eq_iff (x y : Entry) : x = y ↔ x.kind = y.kind ∧ x.job = y.job ∧ x.every = y.every ∧ x.time = y.time ∧ x.client = y.client := by
  cases x; cases y; simp
theorem hNew {w : World} {o : Obj} {k : Nat} (h : k = w.heap.size) : (w.alloc o).heap[k]? = some o := by subst h; exact heap_alloc_new w o
theorem hOld {w : World} {o x : Obj} {k : Nat} (h : w.heap[k]? = some x) : (w.alloc o).heap[k]? = some x := by
  have hk : k < w.heap.size := by
    rcases Nat.lt_or_ge k w.heap.size with hlt | hge
    · exact hlt
    · rw [Array.getElem?_eq_none hge] at h; cases h
  exact (Below.heap_alloc w o k hk).trans h
theorem below_drewN {B : Nat} {a w : World} (h : Below B a w) (n : Nat) : Below B a (w.drewN n) := ⟨h.os, h.tape, h.output, h.size, h.block⟩
theorem list_eq_of {α : Type} {l m : List α} (hl : l.length = m.length) (h : ∀ j, j < l.length → l[j]? = m[j]?) : l = m := by
  apply List.ext_getElem? ; intro i
  by_cases hi : i < l.length
  · exact h i hi
  · rw [List.getElem?_eq_none (by omega), List.getElem?_eq_none (by omega)]
end Go.Proofs.Ytiphoihijalfkaa
