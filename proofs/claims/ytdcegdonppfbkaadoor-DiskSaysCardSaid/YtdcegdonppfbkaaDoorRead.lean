/- What the cells of an argument are: ints, structs, slices of them. -/
import Derived.Test.YtdcegdonppfbkaaDoorOpen
namespace Go.Proofs.YtdcegdonppfbkaaDoor
set_option linter.unusedSimpArgs false
set_option linter.unusedVariables false
open Go.ChangeShapes Go.WideShapes Go.ChangeAt Go.RowKit Go.Deep Go.Joins

/-- The cells read as a datum of type t. -/
def Reads (w : World) (t : TypeId) (cs : List Value) : Prop :=
  ∃ (H : Type) (enc : TypeId × Value → H) (spare : Nat → Bool) (held : Bool) (fuel : Nat) (y : DataW H × List MemPlace), DataW.trod enc Tryd.prog w 0 spare held fuel t cs = some y
/-- An int that a machine word holds. -/
def I64 (z : Int) : Prop := -9223372036854775808 ≤ z ∧ z ≤ 9223372036854775807

theorem reads_int {w : World} {cs : List Value} (h : Reads w 3 cs) : ∃ z, cs = [.int .i64 z] ∧ I64 z := by
  obtain ⟨H, enc, spare, held, fuel, y, h⟩ := h
  obtain ⟨k, e, _, hw⟩ := DataW.trod_int Tryd.underlying3 h
  refine ⟨k, e, ?_⟩
  simp [Lit.wf, IntKind.min, IntKind.max, IntKind.signed, IntKind.bits] at hw
  unfold I64
  omega
def allF (p : Field → Prop) : List Field → Prop
  | [] => True
  | f :: l => p f ∧ allF p l
theorem allF_of {p : Field → Prop} : ∀ {l : List Field}, (∀ (i : Nat) (f : Field), l[i]? = some f → p f) → allF p l
  | [], _ => trivial
  | f :: l, h => ⟨h 0 f rfl, allF_of fun i g hg => h (i + 1) g (by simpa using hg)⟩
theorem reads_struct {w : World} {t : TypeId} {fs : List Field} {cs : List Value} (ht : Tryd.prog.underlying t = some (.struct fs.toArray)) (h : Reads w t cs) :
    cs.length = Tryd.prog.cellsOf t ∧ allF (fun f => Reads w f.type ((cs.drop f.offset).take (Tryd.prog.cellsOf f.type))) fs := by
  obtain ⟨H, enc, spare, held, fuel, y, h⟩ := h
  obtain ⟨xs, n, rfl, hx, hl, hlen, hf⟩ := DataW.trod_struct ht h
  refine ⟨hl, allF_of fun i f hi => ?_⟩
  have hi' : fs.toArray[i]? = some f := by simpa using hi
  have hlt : i < xs.length := by rw [hlen]; exact (Array.getElem?_eq_some_iff.1 hi').1
  exact ⟨H, enc, spare, held, n, xs[i], (hf i f hi').trans (List.getElem?_eq_getElem hlt)⟩
theorem reads_rows {w : World} {t e k : Nat} {α : Type} (en : α → List Value) (R : α → Prop) (ht : Tryd.prog.underlying t = some (.slice e)) (hC : Tryd.prog.cellsOf e = k) (hk0 : 0 < k) (hen : ∀ x, (en x).length = k)
    (hdec : ∀ cs, cs.length = k → Reads w e cs → ∃ x : α, cs = en x ∧ R x) {cs : List Value} (h : Reads w t cs) :
    ∃ (A : Option Addr) (n c : Nat) (l : List α), cs = [.slice A n c] ∧ n ≤ c ∧ c ≤ maxLen ∧ (∀ x ∈ l, R x) ∧ Sl w w.heap.size k A n (l.map en) := by
  obtain ⟨H, enc, spare, held, fuel, y, hf⟩ := h
  rcases open_slice ht hf with ⟨hcs, _⟩ | ⟨a, len, cap, m, n, D, Pl, hcs, _, hl, hm, hmm, _, hi⟩
  · exact ⟨none, 0, 0, [], hcs, Nat.le_refl _, by unfold maxLen; omega, by simp, Sl.nil⟩
  · have hml : len ≤ m := by rw [hmm]; split <;> omega
    have hrow : ∀ i, i < len → ∃ x : α, R x ∧ ∀ j u, (en x)[j]? = some u → w.cell? (a.add (i * k + j)) = some u := by
      intro i hil
      obtain ⟨cs', hc, ht'⟩ := hi i (by omega)
      rw [hC] at hc
      obtain ⟨_, hcl, hat⟩ := World.cells?_some hc
      obtain ⟨x, rfl, hR⟩ := hdec cs' hcl ⟨H, enc, spare, held, n, _, ht'⟩
      refine ⟨x, hR, fun j u hu => ?_⟩
      have hjl : j < k := by rw [← hen x]; exact (List.getElem?_eq_some_iff.1 hu).1
      have hcell := hat j hjl
      rw [← Go.Deep.add_add, hcell, hu]
    obtain ⟨l, hll, hlp⟩ := choose_list len hrow
    refine ⟨some a, len, cap, l, hcs, hl, hm, fun x hx => ?_, by simpa using hll, by
      intro r hr
      obtain ⟨y, _, rfl⟩ := List.mem_map.1 hr
      exact hen y, fun hpos => ?_⟩
    · obtain ⟨i, hi'⟩ := List.mem_iff_getElem?.1 hx
      exact (hlp i x hi').1
    have hx0 := (hlp 0 _ (List.getElem?_eq_getElem (by omega))).2 0 _ (List.getElem?_eq_getElem (by rw [hen]; omega))
    obtain ⟨b, off, spot⟩ := a
    have hspot : spot = none := by simpa [Addr.add] using World.cell?_spot hx0
    subst hspot
    refine ⟨b, off, rfl, by simpa [Addr.add] using World.block_lt_of_cell? w _ hx0, fun i j r u hr hu => ?_⟩
    rw [List.getElem?_map] at hr
    cases hy : l[i]? with
    | none => rw [hy] at hr; simp at hr
    | some y =>
      rw [hy] at hr
      simp at hr
      subst hr
      have := (hlp i y hy).2 j u hu
      rw [Addr.add_lit, ← Nat.add_assoc] at this
      exact this
theorem cells_int : Tryd.prog.cellsOf 3 = 1 := by kernel_rfl
theorem cells_entry : Tryd.prog.cellsOf 23 = 5 := by kernel_rfl
set_option maxRecDepth 100000 in
theorem reads_entry {w : World} {cs : List Value} (h : Reads w 23 cs) : ∃ x, cs = encE x ∧ (I64 x.kind ∧ I64 x.job ∧ I64 x.every ∧ I64 x.time ∧ I64 x.client) := by
  obtain ⟨hl, hf⟩ := reads_struct Tryd.underlying23 h
  rw [cells_entry] at hl
  match cs, hl with
  | [c0, c1, c2, c3, c4], _ =>
    simp only [allF, cells_int] at hf
    obtain ⟨h0, h1, h2, h3, h4, _⟩ := hf
    obtain ⟨z0, e0, i0⟩ := reads_int h0; obtain ⟨z1, e1, i1⟩ := reads_int h1; obtain ⟨z2, e2, i2⟩ := reads_int h2; obtain ⟨z3, e3, i3⟩ := reads_int h3; obtain ⟨z4, e4, i4⟩ := reads_int h4
    simp at e0 e1 e2 e3 e4
    exact ⟨⟨z0, z1, z2, z3, z4⟩, by simp [encE, e0, e1, e2, e3, e4], i0, i1, i2, i3, i4⟩
set_option maxRecDepth 100000 in
theorem reads_entries {w : World} {cs : List Value} (h : Reads w 40 cs) : ∃ (A : Option Addr) (n c : Nat) (l : List Entry), cs = [.slice A n c] ∧ n ≤ c ∧ c ≤ maxLen ∧ (∀ x ∈ l, I64 x.kind ∧ I64 x.job ∧ I64 x.every ∧ I64 x.time ∧ I64 x.client) ∧ Sl w w.heap.size 5 A n (l.map encE) :=
  reads_rows encE _ Tryd.underlying40 cells_entry (by omega) (fun _ => rfl) (fun _ _ h => reads_entry h) h

/-- A parameter's value reads as its type's datum. -/
theorem reads_of {H : Type} {enc : TypeId × Value → H} {w : World} {t : TypeId} {spare : Nat → Bool} {held : Bool} {v : Value} {d : DataW H} {p : List MemPlace} (h : DataW.Trod enc Tryd.prog w 0 spare held t v d p) : Reads w t v.cells.toList := by
  obtain ⟨fuel, hf⟩ := h
  exact ⟨H, enc, spare, held, fuel, _, hf⟩
end Go.Proofs.YtdcegdonppfbkaaDoor
