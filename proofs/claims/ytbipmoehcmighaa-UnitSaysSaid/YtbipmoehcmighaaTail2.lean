/- A region that draws its order: its head is quiet in a class of worlds; then come two operations, one behind the other; what is left is quiet in a class that those two make. -/
import Derived.Test.YtbipmoehcmighaaTail
namespace Go.Proofs.Ytbipmoehcmighaa
set_option linter.unusedSimpArgs false
set_option linter.unusedVariables false

/-- Q, but for the normal end. -/
def alsoQ (R : Act → World → Prop) (Q : Exit → Act → World → Prop) : Exit → Act → World → Prop
  | .normal, a, w => R a w
  | e, a, w => Q e a w
section
variable {P : Program} {C : World → Prop} {l : List Oper} {n : Nat}
theorem upon_also {o : Oper} {a : Act} {K : Act → World → Prop} {R : Act → World → Prop} {Q : Exit → Act → World → Prop} {r : Result Next} (h : o.upon P a K (alsoQ R Q) r) : o.upon P a K Q r := by
  cases r with
  | ok x w' => cases x <;> exact h
  | halt x w' => cases x <;> exact h
theorem wpOp_also {ops : Array Oper} {i : Nat} {o : Oper} {rest : List Oper} {K : Act → World → Prop} {R : Act → World → Prop} {Q : Exit → Act → World → Prop} {a : Act} {w : World} (hi : ops[i]? = some o)
    (hK : ∀ a w, wpList P ops (alsoQ R Q) rest a w → K a w) (h : wpList P ops (alsoQ R Q) (o :: rest) a w) : wpOp P ops Q i K a w := by
  unfold wpOp
  simp only [hi]
  unfold wpList at h
  split
  · next hw =>
    rw [if_pos hw] at h
    rcases h with h | ⟨h1, h2⟩
    · exact .inl (Oper.wp_mono hK (upon_also h))
    · exact .inr ⟨h1, h2⟩
  · next hw =>
    rw [if_neg hw] at h
    exact hK _ _ h
theorem wpOp_two {ops : Array Oper} {i k : Nat} {o p : Oper} {R : Act → World → Prop} {Q : Exit → Act → World → Prop} {a : Act} {w : World} (hi : ops[i]? = some o) (hk : ops[k]? = some p)
    (h : wpList P ops (alsoQ R Q) [o, p] a w) : wpOp P ops Q i (wpOp P ops Q k R) a w :=
  wpOp_also hi (fun _ _ h1 => wpOp_also (rest := []) hk (fun _ _ h2 => h2) h1) h
theorem wpAnyQ_more {ops : Array Oper} {Q : Act → Prop} (m : Nat) : ∀ (f : Nat) (listed : Array Bool) (a : Act), wpAnyQ P .any ops C Q f listed a → wpAnyQ P .any ops C Q (f + m) listed a
  | 0, listed, a, h => by
    cases m with
    | zero => exact h
    | succ m => rw [Nat.zero_add]; exact ⟨fun _ => h.2, fun i hi => by rw [h.1] at hi; cases hi⟩
  | f + 1, listed, a, h => by
    rw [show f + 1 + m = (f + m) + 1 by omega]
    exact ⟨h.1, fun i hi => qOp_mono (fun a' h' => wpAnyQ_more m f _ a' h') (h.2 i hi)⟩
theorem head_gen {Q' : Exit → Act → World → Prop} {R : Act → World → Prop} {m : Nat} (hn : n < l.toArray.size) (hback : backB l.toArray n = true) (hlive : liveB l.toArray n = true)
    (hwait : ∀ listed, HeadInv .any l.toArray n listed → ∀ i, i < n → listed.getD i true = false → ∀ t, n ≤ t → t ∉ Region.ready .any l.toArray listed)
    (hfin : ∀ (more : Nat) (a : Act) (w : World), R a w → wpAny P .any l.toArray Q' (more + m) (doneL l.toArray.size n) a w) :
    ∀ (fuel : Nat) (listed listed' : Array Bool) (a : Act) (w : World), HeadInv .any l.toArray n listed → listed'.size = n → (∀ j, j < n → listed'.getD j true = listed.getD j true) → C w →
      wpAnyQ P .any (l.take n).toArray C (fun a' => ∀ w', C w' → R a' w') fuel listed' a → wpAny P .any l.toArray Q' (fuel + m) listed a w := by
  have hsz : l.toArray.size = l.length := by simp
  have htn : (l.take n).toArray.size = n := by simp at hn ⊢; omega
  have hsame : ∀ (listed listed' : Array Bool), HeadInv .any l.toArray n listed → listed'.size = n → (∀ j, j < n → listed'.getD j true = listed.getD j true) → ∀ j, j < n → listed'.getD j false = listed.getD j false := by
    intro listed listed' inv hs h j hj
    have h1 := h j hj
    have h2 : j < listed.size := by rw [inv.size]; omega
    have h3 : j < listed'.size := by omega
    simp [h2, h3] at h1 ⊢
    exact h1
  have hready : ∀ (listed listed' : Array Bool), HeadInv .any l.toArray n listed → listed'.size = n → (∀ j, j < n → listed'.getD j true = listed.getD j true) →
      ∀ i, i < n → (i ∈ Region.ready .any l.toArray listed ↔ i ∈ Region.ready .any (l.take n).toArray listed') := by
    intro listed listed' inv hs h i hi
    rw [mem_ready, mem_ready, head_at hi, h i hi]
    have hb := List.all_eq_true.1 hback i (List.mem_range.2 hi)
    cases ho : l.toArray[i]? with
    | none => simp
    | some o =>
      rw [ho] at hb
      simp only [Bool.and_eq_true, Array.all_eq_true_iff_forall_mem, decide_eq_true_eq] at hb
      have hh := hsame listed listed' inv hs h
      constructor
      · rintro ⟨h0, o', ho', hall⟩
        injection ho' with ho'; subst ho'
        exact ⟨h0, o, rfl, fun e he hbd => by rw [hh _ (hb.1 e he)]; exact hall e he hbd⟩
      · rintro ⟨h0, o', ho', hall⟩
        injection ho' with ho'; subst ho'
        exact ⟨h0, o, rfl, fun e he hbd => by rw [← hh _ (hb.1 e he)]; exact hall e he hbd⟩
  have hall : ∀ (listed listed' : Array Bool), HeadInv .any l.toArray n listed → listed'.size = n → (∀ j, j < n → listed'.getD j true = listed.getD j true) →
      Region.ready .any (l.take n).toArray listed' = [] → listed = doneL l.toArray.size n := by
    intro listed listed' inv hs h hr
    refine done_eq inv.size (fun j hj => ?_) inv.tail
    induction j using Nat.strongRecOn with
    | _ j ih =>
      cases hl : listed.getD j false with
      | true => rfl
      | false =>
        exfalso
        have hjs : j < listed.size := by rw [inv.size]; omega
        have : j ∈ Region.ready .any l.toArray listed := by
          rw [mem_ready]
          have hb := List.all_eq_true.1 hlive j (List.mem_range.2 hj)
          cases ho : l.toArray[j]? with
          | none => rw [ho] at hb; cases hb
          | some o =>
            rw [ho] at hb
            simp only [Array.all_eq_true_iff_forall_mem, Bool.or_eq_true, Bool.not_eq_true', decide_eq_true_eq] at hb
            refine ⟨getD_in hjs hl, o, rfl, fun e he hbd => ?_⟩
            rcases hb e he with h1 | h1
            · rw [hbd] at h1; cases h1
            · exact ih e.on h1 (by omega)
        rw [hready listed listed' inv hs h j hj, hr] at this
        cases this
  intro fuel
  induction fuel with
  | zero =>
    intro listed listed' a w inv hs h hC hh
    rw [hall listed listed' inv hs h hh.1]
    exact hfin 0 a w (hh.2 w hC)
  | succ fuel ih =>
    intro listed listed' a w inv hs h hC hh
    by_cases hr : Region.ready .any (l.take n).toArray listed' = []
    · rw [hall listed listed' inv hs h hr]
      exact hfin (fuel + 1) a w (hh.1 hr w hC)
    · have hex : ∃ i, i ∈ Region.ready .any (l.take n).toArray listed' := by
        cases hrl : Region.ready .any (l.take n).toArray listed' with
        | nil => exact absurd hrl hr
        | cons i r => exact ⟨i, by simp⟩
      obtain ⟨i0, hi0⟩ := hex
      have hi0n : i0 < n := by
        obtain ⟨_, o, ho, _⟩ := mem_ready.1 hi0
        have := (Array.getElem?_eq_some_iff.1 ho).1
        omega
      have hi0r := (hready listed listed' inv hs h i0 hi0n).2 hi0
      have htw := hwait listed inv i0 hi0n (mem_ready.1 hi0r).1
      rw [show fuel + 1 + m = (fuel + m) + 1 by omega]
      refine ⟨fun h0 => (by rw [h0] at hi0r; cases hi0r), fun i hi => ?_⟩
      have hin : i < n := by
        rcases Nat.lt_or_ge i n with h1 | h1
        · exact h1
        · exact absurd hi (htw i h1)
      have hq := hh.2 i ((hready listed listed' inv hs h i hin).1 hi)
      have hb := List.all_eq_true.1 hback i (List.mem_range.2 hin)
      have hq' := qOp_head (l := l) hin (fun o k b ho hg => by
        rw [ho] at hb
        simp only [Bool.and_eq_true, hg, decide_eq_true_eq] at hb
        exact hb.2) hq
      refine wpOp_of_qOp hC (fun a' w' hw' hk => ih _ _ a' w' (inv.set hi hin) (by simp [hs]) (fun j hj => ?_) hw' hk) hq'
      by_cases hij : i = j
      · subst hij
        have h2 : i < listed.size := by rw [inv.size]; omega
        have h3 : i < listed'.size := by omega
        simp [h2, h3]
      · rw [getD_set_ne true hij, getD_set_ne true hij]; exact h j hj

/-- For an operation of the head, a later one of the head waits, or the first of the two. -/
def sink2B (ops : Array Oper) (n : Nat) : Bool :=
  (List.range n).all fun i => ((List.range n).any fun j => decide (i < j) && Region.waitsFor .any ops j i) || Region.waitsFor .any ops n i
def chain2B (ops : Array Oper) (n : Nat) : Bool :=
  (List.range ops.size).all fun t => decide (t ≤ n) || ((List.range t).any fun j => decide (n ≤ j) && Region.waitsFor .any ops t j)
theorem not_ready_of_waits {ops : Array Oper} {t i : Nat} {listed : Array Bool} (hw : Region.waitsFor .any ops t i = true) (hi : listed.getD i false = false) : t ∉ Region.ready .any ops listed := by
  intro hr
  obtain ⟨_, ot, hot, hall⟩ := mem_ready.1 hr
  obtain ⟨oj, hoj, e, he, hb, hon⟩ := Region.waitsFor_spec hw
  obtain rfl : oj = ot := Option.some.inj (hoj.symm.trans hot)
  have h2 := hall e he hb
  rw [hon, hi] at h2
  cases h2
theorem tail_waits2 {ops : Array Oper} {listed : Array Bool} (hn : n + 1 < ops.size) (hs : sink2B ops n = true) (hc : chain2B ops n = true) (inv : HeadInv .any ops n listed) :
    ∀ (d i : Nat), n - i = d → i < n → listed.getD i true = false → ∀ t, n ≤ t → t ∉ Region.ready .any ops listed := by
  intro d
  induction d using Nat.strongRecOn with
  | _ d ih =>
    intro i hd hi hun t ht hr
    obtain ⟨_, ot, hot, _⟩ := mem_ready.1 hr
    have htlt : t < ops.size := (Array.getElem?_eq_some_iff.1 hot).1
    by_cases htn : t ≤ n
    · have h1 := List.all_eq_true.1 hs i (List.mem_range.2 hi)
      simp only [Bool.or_eq_true] at h1
      rcases h1 with h1 | h1
      · obtain ⟨j, hj, hj2⟩ := List.any_eq_true.1 h1
        simp only [Bool.and_eq_true, decide_eq_true_eq] at hj2
        obtain ⟨oj, hoj, e, he, hb, hon⟩ := Region.waitsFor_spec hj2.2
        have hjn := List.mem_range.1 hj
        cases hl : listed.getD j false with
        | true =>
          have h2 := inv.closed j oj hoj hl e he hb
          rw [hon, getD_both hun] at h2
          cases h2
        | false =>
          have hjs : j < listed.size := by rw [inv.size]; omega
          exact ih (n - j) (by omega) j rfl hjn (getD_in hjs hl) t ht hr
      · obtain rfl : t = n := by omega
        exact not_ready_of_waits h1 (getD_both hun) hr
    · have h1 := List.all_eq_true.1 hc t (List.mem_range.2 htlt)
      simp only [Bool.or_eq_true, decide_eq_true_eq] at h1
      rcases h1 with h1 | h1
      · omega
      · obtain ⟨j, hj, hj2⟩ := List.any_eq_true.1 h1
        simp only [Bool.and_eq_true, decide_eq_true_eq] at hj2
        have hjt := List.mem_range.1 hj
        exact not_ready_of_waits hj2.2 (getD_both (inv.tail j hj2.1 (by omega))) hr
def twoB (ops : Array Oper) (n : Nat) : Bool :=
  decide (n + 1 < ops.size) && backB ops n && liveB ops n && sink2B ops n && chain2B ops n && Region.noSelect ops &&
  decide (Region.ready .any ops (doneL ops.size n) = [n]) && decide (Region.ready .any ops ((doneL ops.size n).setIfInBounds n true) = [n + 1]) &&
  Region.lexFrom .any ops (ops.size - (n + 2)) (n + 2) (((doneL ops.size n).setIfInBounds n true).setIfInBounds (n + 1) true)
theorem wp_region_quiet_two (n : Nat) {id : Nat} {Q : Exit → Act → World → Prop} {a : Act} {w : World} {l : List Oper} {o p : Oper} (hm : P.follows .mixedOrders = true) (hB : Region.lexB .any (l.take n).toArray = true) (hT : twoB l.toArray n = true)
    (ho : l[n]? = some o) (hp : l[n + 1]? = some p) (hC : C w.drew)
    (h : wpQuiet P (l.take n).toArray C (fun a' => ∀ w', C w' → ∀ R : Act → World → Prop, (∀ (C2 : World → Prop) a2 w2, C2 w2 → wpQuiet P l.toArray C2 (fun a3 => ∀ w3, C2 w3 → Q .normal a3 w3) (l.drop (n + 2)) a2 → R a2 w2) →
      wpList P l.toArray (alsoQ R Q) [o, p] a' w') (l.take n) a) : (Code.region id l.toArray true).wp P Q a w := by
  have hT0 := hT
  simp only [twoB, Bool.and_eq_true, decide_eq_true_eq] at hT0
  obtain ⟨⟨⟨⟨⟨⟨⟨⟨hn, hback⟩, hlive⟩, hsink⟩, hchain⟩, hsel⟩, hr0⟩, hr1⟩, hlex⟩ := hT0
  have hn' : n + 1 < l.length := by simpa using hn
  simp only [Region.lexB, Bool.and_eq_true] at hB
  have htn : (l.take n).length = n := by simp; omega
  have hoA : l.toArray[n]? = some o := by simpa using ho
  have hpA : l.toArray[n + 1]? = some p := by simpa using hp
  have hlen : (l.drop (n + 2)).length = l.toArray.size - (n + 2) := by simp
  have H := wpAnyQ_lex (C := C) (P := P) (md := .any) (Q := fun a' => ∀ w', C w' → ∀ R : Act → World → Prop, (∀ (C2 : World → Prop) a2 w2, C2 w2 → wpQuiet P l.toArray C2 (fun a3 => ∀ w3, C2 w3 → Q .normal a3 w3) (l.drop (n + 2)) a2 → R a2 w2) →
      wpList P l.toArray (alsoQ R Q) [o, p] a' w') hB.1 (l.take n) 0 (Array.replicate (l.take n).toArray.size false) a (by simp) (by simpa using hB.2) h
  refine wp_region_any hm ?_
  have := head_gen (C := C) (P := P) (Q' := Q) (n := n) (l := l) (m := l.toArray.size - n)
    (R := fun a' w' => ∀ R : Act → World → Prop, (∀ (C2 : World → Prop) a2 w2, C2 w2 → wpQuiet P l.toArray C2 (fun a3 => ∀ w3, C2 w3 → Q .normal a3 w3) (l.drop (n + 2)) a2 → R a2 w2) →
      wpList P l.toArray (alsoQ R Q) [o, p] a' w') (by omega) hback hlive
    (fun listed inv i hi hun => tail_waits2 hn hsink hchain inv _ i rfl hi hun)
    (fun more a1 w1 hR => by
      obtain ⟨f, hf⟩ : ∃ f, more + (l.toArray.size - n) = (f + (l.drop (n + 2)).length) + 1 + 1 := ⟨more, by rw [hlen]; omega⟩
      rw [hf]
      have hR' := hR (fun a2 w2 => wpAny P .any l.toArray Q (f + (l.drop (n + 2)).length) (((doneL l.toArray.size n).setIfInBounds n true).setIfInBounds (n + 1) true) a2 w2) (fun C2 a2 w2 hC2 hq => by
        have := wpAnyQ_lex (C := C2) (P := P) (md := .any) hsel (l.drop (n + 2)) (n + 2) (((doneL l.toArray.size n).setIfInBounds n true).setIfInBounds (n + 1) true) a2 (fun j => by simp [List.getElem?_drop]) (by rw [hlen]; exact hlex) hq
        have := wpAnyQ_more f _ _ _ this
        rw [Nat.add_comm] at this
        exact wpAny_of_quiet (fun a3 w3 hw3 hh => hh w3 hw3) _ _ _ _ hC2 this)
      refine ⟨fun h0 => (by rw [hr0] at h0; cases h0), fun i hi => ?_⟩
      rw [hr0] at hi
      obtain rfl : i = n := by simpa using hi
      refine wpOp_mono (fun a' w' hh => ?_) (wpOp_two hoA hpA hR')
      refine ⟨fun h0 => (by rw [hr1] at h0; cases h0), fun k hk => ?_⟩
      rw [hr1] at hk
      obtain rfl : k = i + 1 := by simpa using hk
      exact hh)
    (l.take n).length (Array.replicate l.toArray.size false) (Array.replicate (l.take n).toArray.size false) a w.drew
    ⟨by simp, fun j oj _ hl => (by rw [getD_replicate_false] at hl; cases hl), fun t _ ht => getD_in (by simpa using ht) (getD_replicate_false _ _)⟩ (by simp; omega)
    (fun j hj => by
      have h1 : j < l.length := by omega
      have h2 : j < min n l.length := by omega
      simp [h1, h2, Array.getElem?_replicate]) hC H
  rw [htn, show n + (l.toArray.size - n) = l.toArray.size by omega] at this
  exact this
end
end Go.Proofs.Ytbipmoehcmighaa
