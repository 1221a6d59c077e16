/- Arguments opened: slices of structs of one-cell fields, as rows. -/
import Derived.Test.YtdcegdonppfbkaaDoorFrame
import Derived.Deep.Slices
import Derived.Deep.Fields
import Derived.ChangeSame
import Derived.Lib.SmallJoins
namespace Go.Proofs.YtdcegdonppfbkaaDoor
set_option linter.unusedSimpArgs false
set_option linter.unusedVariables false
open Go.ChangeShapes Go.WideShapes Go.ChangeAt Go.RowKit Go.Deep Go.Joins

theorem choose_list {α : Type} {p : Nat → α → Prop} : ∀ (n : Nat), (∀ i, i < n → ∃ x, p i x) → ∃ l : List α, l.length = n ∧ ∀ i x, l[i]? = some x → p i x
  | 0, _ => ⟨[], rfl, by simp⟩
  | n + 1, h => by
    obtain ⟨l, hl, hp⟩ := choose_list n (fun i hi => h i (by omega))
    obtain ⟨x, hx⟩ := h n (by omega)
    refine ⟨l ++ [x], by simp [hl], fun i y hy => ?_⟩
    rcases Nat.lt_or_ge i n with h1 | h1
    · rw [List.getElem?_append_left (by omega)] at hy
      exact hp i y hy
    · rw [List.getElem?_append_right (by omega)] at hy
      have : i - l.length = 0 := by
        rcases Nat.eq_zero_or_pos (i - l.length) with h2 | h2
        · exact h2
        · rw [List.getElem?_eq_none (by simp; omega)] at hy; cases hy
      rw [this] at hy
      simp at hy
      subst hy
      rw [show i = n by omega]
      exact hx

section
variable {H : Type} {enc : TypeId × Value → H} {P : Program} {w : World} {spare : Nat → Bool} {held : Bool}
/-- A slice of structs of one-cell fields, each element of which is read as an 'α': it reads as a list of them. -/
theorem open_rows {α : Type} {t e k : Nat} {fs : Array Field} {v : Value} {d : DataW H} {p : List MemPlace} {r : Reach} {b0 : Nat} (en : α → List Value) (ht : P.underlying t = some (.slice e)) (he : P.underlying e = some (.struct fs))
    (hone : oneCellFields P fs = true) (hC : P.cellsOf e = fs.size) (hk : fs.size = k) (hk0 : 0 < k) (hen : ∀ x, (en x).length = k)
    (hdec : ∀ (vs : Nat → Value), (∀ (j : Nat) (f : Field), fs[j]? = some f → ∃ n y, DataW.trod enc P w 0 spare held n f.type [vs j] = some y) → ∃ x : α, ∀ j u, (en x)[j]? = some u → vs j = u)
    (hv : Value.okWide P w r b0 t v) (h : DataW.Trod enc P w 0 spare held t v d p) :
    ∃ (A : Option Addr) (n c : Nat) (l : List α), v = .slice A n c ∧ n ≤ c ∧ c ≤ maxLen ∧ Sl w w.heap.size k A n (l.map en) := by
  obtain ⟨a0, len, cap, rfl⟩ := okWide_slice ht hv
  obtain ⟨fuel, hf⟩ := h
  rcases open_slice ht hf with ⟨hcs, _⟩ | ⟨a, l', c', m, n, D, Pl, hcs, _, hl, hm, hmm, _, hi⟩
  · simp [Value.cells] at hcs
    obtain ⟨rfl, rfl, rfl⟩ := hcs
    exact ⟨none, 0, 0, [], rfl, Nat.le_refl _, by unfold maxLen; omega, Sl.nil⟩
  · simp [Value.cells] at hcs
    obtain ⟨rfl, rfl, rfl⟩ := hcs
    have hml : len ≤ m := by rw [hmm]; split <;> omega
    have hrow : ∀ i, i < len → ∃ x : α, ∀ j u, (en x)[j]? = some u → w.cell? (a.add (i * k + j)) = some u := by
      intro i hil
      obtain ⟨cs', hc, ht'⟩ := hi i (by omega)
      rw [hC] at hc
      obtain ⟨ys, n', hn', hy, hlen, hyl, hff⟩ := DataW.trod_struct he ht'
      obtain ⟨_, hcl, hat⟩ := World.cells?_some hc
      obtain ⟨x, hx⟩ := hdec (fun j => (cs'[j]?).getD undef) (fun j f hj => by
        obtain ⟨ho, hkk⟩ := hone_of hone j f hj
        have hjl : j < fs.size := (Array.getElem?_eq_some_iff.1 hj).1
        have h1 := hff j f hj
        rw [ho, hkk] at h1
        have hone' : (cs'.drop j).take 1 = [cs'[j]'(by omega)] := by
          rw [List.drop_eq_getElem_cons (by omega)]
          rfl
        rw [hone'] at h1
        have hys : ys[j]? = some (ys[j]'(by omega)) := List.getElem?_eq_getElem (by omega)
        refine ⟨n', ys[j]'(by omega), ?_⟩
        simp only [List.getElem?_eq_getElem (show j < cs'.length by omega), Option.getD_some]
        exact h1.trans hys)
      refine ⟨x, fun j u hu => ?_⟩
      have hjl : j < fs.size := by rw [hk, ← hen x]; exact (List.getElem?_eq_some_iff.1 hu).1
      have := hx j u hu
      have hcell := hat j hjl
      rw [← hk, ← Go.Deep.add_add, hcell, List.getElem?_eq_getElem (show j < cs'.length by omega)]
      simp only [List.getElem?_eq_getElem (show j < cs'.length by omega), Option.getD_some] at this
      rw [this]
    obtain ⟨l, hll, hlp⟩ := choose_list len hrow
    refine ⟨some a, len, cap, l, rfl, hl, hm, by simpa using hll, by
      intro r hr
      obtain ⟨y, _, rfl⟩ := List.mem_map.1 hr
      exact hen y, fun hpos => ?_⟩
    have hx0 := hlp 0 _ (List.getElem?_eq_getElem (by omega)) 0 _ (List.getElem?_eq_getElem (by rw [hen]; omega))
    obtain ⟨b, off, spot⟩ := a
    have hspot : spot = none := by simpa [Addr.add] using World.cell?_spot hx0
    subst hspot
    refine ⟨b, off, rfl, by simpa [Addr.add] using World.block_lt_of_cell? w _ hx0, fun i j r u hr hu => ?_⟩
    rw [List.getElem?_map] at hr
    cases hy : l[i]? with
    | none => rw [hy] at hr; simp at hr
    | some y =>
      rw [hy] at hr
      simp at hr
      subst hr
      have := hlp i y hy j u hu
      rw [Addr.add_lit, ← Nat.add_assoc] at this
      exact this
end

theorem int_of {H : Type} {enc : TypeId × Value → H} {w : World} {spare : Nat → Bool} {held : Bool} {v : Value} (h : ∃ n y, DataW.trod enc Tryd.prog w 0 spare held n 3 [v] = some y) : ∃ k : Int, v = .int .i64 k := by
  obtain ⟨n, y, h⟩ := h
  obtain ⟨k, e, _⟩ := DataW.trod_int Tryd.underlying3 h
  exact ⟨k, by simpa using e⟩

set_option maxRecDepth 100000 in
theorem open_entries {H : Type} {enc : TypeId × Value → H} {w : World} {spare : Nat → Bool} {held : Bool} {v : Value} {d : DataW H} {p : List MemPlace} {r : Reach} {b0 : Nat}
    (hv : Value.okWide Tryd.prog w r b0 40 v) (h : DataW.Trod enc Tryd.prog w 0 spare held 40 v d p) :
    ∃ (A : Option Addr) (n c : Nat) (l : List Entry), v = .slice A n c ∧ n ≤ c ∧ c ≤ maxLen ∧ Sl w w.heap.size 5 A n (l.map encE) := by
  refine open_rows (k := 5) encE Tryd.underlying40 Tryd.underlying23 (by kernel_rfl) (by kernel_rfl) rfl (by omega) (fun _ => rfl) (fun vs hvs => ?_) hv h
  obtain ⟨k0, e0⟩ := int_of (hvs 0 _ rfl)
  obtain ⟨k1, e1⟩ := int_of (hvs 1 _ rfl)
  obtain ⟨k2, e2⟩ := int_of (hvs 2 _ rfl)
  obtain ⟨k3, e3⟩ := int_of (hvs 3 _ rfl)
  obtain ⟨k4, e4⟩ := int_of (hvs 4 _ rfl)
  refine ⟨⟨k0, k1, k2, k3, k4⟩, fun j u hu => ?_⟩
  match j, hu with
  | 0, hu => simp [encE] at hu; rw [e0, hu]
  | 1, hu => simp [encE] at hu; rw [e1, hu]
  | 2, hu => simp [encE] at hu; rw [e2, hu]
  | 3, hu => simp [encE] at hu; rw [e3, hu]
  | 4, hu => simp [encE] at hu; rw [e4, hu]
end Go.Proofs.YtdcegdonppfbkaaDoor
