/- A region that draws its order: its head is quiet in a class of worlds, its tail comes in one order. -/
import Derived.StillTail
import Derived.Deep.Quiet
namespace Go.Proofs.YtdcegdonppfbkaaDoor
set_option linter.unusedSimpArgs false
set_option linter.unusedVariables false

/-- Each operation of the head waits for earlier ones only, and its guard is an earlier one. -/
def backB (ops : Array Oper) (n : Nat) : Bool :=
  (List.range n).all fun j => match ops[j]? with
    | some o => o.after.all (fun e => decide (e.on < n)) && (match o.guard with | some (k, _) => decide (k < n) | none => true)
    | none => false
/-- Head 'n' done, nothing of the tail. -/
def doneL (N n : Nat) : Array Bool := (List.range N).toArray.map fun j => decide (j < n)
/-- If the head's operations that are listed are not all, one of the head is ready. -/
def liveB (ops : Array Oper) (n : Nat) : Bool :=
  (List.range n).all fun j => match ops[j]? with
    | some o => o.after.all (fun e => !Region.binds .any e || decide (e.on < j))
    | none => false
def tailOps (ops : Array Oper) (n : Nat) : Bool :=
  decide (n < ops.size) && backB ops n && liveB ops n && Region.sinkB .any ops n && Region.chainB .any ops n && Region.seqB .any ops (ops.size - n) n (doneL ops.size n)

section
variable {P : Program} {C : World → Prop} {l : List Oper} {n : Nat}
theorem head_at {j : Nat} (hj : j < n) : (l.take n).toArray[j]? = l.toArray[j]? := by simp [List.getElem?_take, hj]
theorem yielded_head {j : Nat} (hj : j < n) (t : Array Value) : yielded (l.take n).toArray t j = yielded l.toArray t j := by
  unfold yielded; rw [head_at hj]
theorem seq_more {ops : Array Oper} {Q' : Exit → Act → World → Prop} (more : Nat) : ∀ (l : List Oper) (k : Nat) (listed : Array Bool) (a : Act) (w : World), (∀ j, l[j]? = ops[k + j]?) →
    Region.seqB .any ops l.length k listed = true → wpList P ops Q' l a w → wpAny P .any ops Q' (more + l.length) listed a w
  | [], _, listed, a, w, _, hB, h => by
    have h0 : Region.ready .any ops listed = [] := by simpa [Region.seqB] using hB
    cases more with
    | zero => exact ⟨h0, h⟩
    | succ m => exact ⟨fun _ => h, fun i hi => by rw [h0] at hi; cases hi⟩
  | o :: l, k, listed, a, w, hl, hB, h => by
    have h0 : ops[k]? = some o := by simpa using (hl 0).symm
    simp only [List.length_cons, Region.seqB, Bool.and_eq_true, decide_eq_true_eq] at hB
    refine ⟨fun h1 => (by rw [hB.1] at h1; cases h1), fun i hi => ?_⟩
    rw [hB.1] at hi
    have hik : i = k := by simpa using hi
    subst hik
    have hw : wpOp P ops Q' i (wpList P ops Q' l) a w := by unfold wpOp; simp only [h0]; exact h
    exact wpOp_mono (fun a' w' h' => seq_more more l (i + 1) _ a' w' (fun j => by have := hl (j + 1); simpa [Nat.add_assoc, Nat.add_comm 1 j] using this) hB.2 h') hw
theorem done_eq {N : Nat} {listed : Array Bool} (hs : listed.size = N) (h1 : ∀ j, j < n → listed.getD j false = true) (h2 : ∀ j, n ≤ j → j < N → listed.getD j true = false) : listed = doneL N n := by
  apply Array.ext
  · simp [doneL, hs]
  · intro j hj hj'
    simp only [doneL, Array.getElem_map, List.getElem_toArray, List.getElem_range]
    by_cases h : j < n
    · have := h1 j h; simp [hj] at this; simp [h, this]
    · have := h2 j (by omega) (by omega); simp [hj] at this; simp [h, this]
theorem qOp_head {i : Nat} {K : Act → Prop} {a : Act} (hi : i < n) (hg : ∀ o k b, l.toArray[i]? = some o → o.guard = some (k, b) → k < n) (h : qOp P (l.take n).toArray C i K a) : qOp P l.toArray C i K a := by
  unfold qOp at *
  rw [head_at hi] at h
  cases ho : l.toArray[i]? with
  | none => simpa [ho] using h
  | some o =>
    simp only [ho] at h ⊢
    have hw : Region.wanted o (yielded (l.take n).toArray a.tmps) = Region.wanted o (yielded l.toArray a.tmps) := by
      unfold Region.wanted
      cases hgd : o.guard with
      | none => rfl
      | some kb =>
        obtain ⟨k, b⟩ := kb
        simp only [yielded_head (hg o k b ho hgd)]
    rw [hw] at h
    exact h
theorem head_tail {Q' : Exit → Act → World → Prop} (hT : tailOps l.toArray n = true) :
    ∀ (fuel : Nat) (listed listed' : Array Bool) (a : Act) (w : World), HeadInv .any l.toArray n listed → listed'.size = n → (∀ j, j < n → listed'.getD j true = listed.getD j true) → C w →
      wpAnyQ P .any (l.take n).toArray C (fun a' => ∀ w', C w' → wpList P l.toArray Q' (l.drop n) a' w') fuel listed' a → wpAny P .any l.toArray Q' (fuel + (l.drop n).length) listed a w := by
  have hT0 := hT
  simp only [tailOps, Bool.and_eq_true, decide_eq_true_eq] at hT0
  obtain ⟨⟨⟨⟨⟨hn, hback⟩, hlive⟩, hsink⟩, hchain⟩, hseq⟩ := hT0
  have hsz : l.toArray.size = l.length := by simp
  have htn : (l.take n).toArray.size = n := by simp at hn ⊢; omega
  -- the two lists tell the same of the head
  have hsame : ∀ (listed listed' : Array Bool), HeadInv .any l.toArray n listed → listed'.size = n → (∀ j, j < n → listed'.getD j true = listed.getD j true) → ∀ j, j < n → listed'.getD j false = listed.getD j false := by
    intro listed listed' inv hs h j hj
    have h1 := h j hj
    have h2 : j < listed.size := by rw [inv.size]; omega
    have h3 : j < listed'.size := by omega
    simp [h2, h3] at h1 ⊢
    exact h1
  have hready : ∀ (listed listed' : Array Bool), HeadInv .any l.toArray n listed → listed'.size = n → (∀ j, j < n → listed'.getD j true = listed.getD j true) →
      ∀ i, i < n → (i ∈ Region.ready .any l.toArray listed ↔ i ∈ Region.ready .any (l.take n).toArray listed') := by
    intro listed listed' inv hs h i hi
    rw [mem_ready, mem_ready, head_at hi, h i hi]
    have hb := List.all_eq_true.1 hback i (List.mem_range.2 hi)
    cases ho : l.toArray[i]? with
    | none => simp
    | some o =>
      rw [ho] at hb
      simp only [Bool.and_eq_true, Array.all_eq_true_iff_forall_mem, decide_eq_true_eq] at hb
      have hh := hsame listed listed' inv hs h
      constructor
      · rintro ⟨h0, o', ho', hall⟩
        injection ho' with ho'; subst ho'
        exact ⟨h0, o, rfl, fun e he hbd => by rw [hh _ (hb.1 e he)]; exact hall e he hbd⟩
      · rintro ⟨h0, o', ho', hall⟩
        injection ho' with ho'; subst ho'
        exact ⟨h0, o, rfl, fun e he hbd => by rw [← hh _ (hb.1 e he)]; exact hall e he hbd⟩
  -- nothing ready in the head: all of it is listed
  have hall : ∀ (listed listed' : Array Bool), HeadInv .any l.toArray n listed → listed'.size = n → (∀ j, j < n → listed'.getD j true = listed.getD j true) →
      Region.ready .any (l.take n).toArray listed' = [] → listed = doneL l.toArray.size n := by
    intro listed listed' inv hs h hr
    refine done_eq inv.size (fun j hj => ?_) inv.tail
    induction j using Nat.strongRecOn with
    | _ j ih =>
      cases hl : listed.getD j false with
      | true => rfl
      | false =>
        exfalso
        have hjs : j < listed.size := by rw [inv.size]; omega
        have : j ∈ Region.ready .any l.toArray listed := by
          rw [mem_ready]
          have hb := List.all_eq_true.1 hlive j (List.mem_range.2 hj)
          cases ho : l.toArray[j]? with
          | none => rw [ho] at hb; cases hb
          | some o =>
            rw [ho] at hb
            simp only [Array.all_eq_true_iff_forall_mem, Bool.or_eq_true, Bool.not_eq_true', decide_eq_true_eq] at hb
            refine ⟨getD_in hjs hl, o, rfl, fun e he hbd => ?_⟩
            rcases hb e he with h1 | h1
            · rw [hbd] at h1; cases h1
            · exact ih e.on h1 (by omega)
        rw [hready listed listed' inv hs h j hj, hr] at this
        cases this
  have hlen : (l.drop n).length = l.toArray.size - n := by simp
  have hfin : ∀ (more : Nat) (listed : Array Bool) (a : Act) (w : World), listed = doneL l.toArray.size n → wpList P l.toArray Q' (l.drop n) a w → wpAny P .any l.toArray Q' (more + (l.drop n).length) listed a w := by
    intro more listed a w hd h
    refine seq_more more (l.drop n) n listed a w (fun j => by simp [List.getElem?_drop]) ?_ h
    rw [hlen, hd]; exact hseq
  intro fuel
  induction fuel with
  | zero =>
    intro listed listed' a w inv hs h hC hh
    exact hfin 0 listed a w (hall listed listed' inv hs h hh.1) (hh.2 w hC)
  | succ fuel ih =>
    intro listed listed' a w inv hs h hC hh
    by_cases hr : Region.ready .any (l.take n).toArray listed' = []
    · exact hfin (fuel + 1) listed a w (hall listed listed' inv hs h hr) (hh.1 hr w hC)
    · have hex : ∃ i, i ∈ Region.ready .any (l.take n).toArray listed' := by
        cases hrl : Region.ready .any (l.take n).toArray listed' with
        | nil => exact absurd hrl hr
        | cons i r => exact ⟨i, by simp⟩
      obtain ⟨i0, hi0⟩ := hex
      have hi0n : i0 < n := by
        obtain ⟨_, o, ho, _⟩ := mem_ready.1 hi0
        have := (Array.getElem?_eq_some_iff.1 ho).1
        omega
      have hi0r := (hready listed listed' inv hs h i0 hi0n).2 hi0
      have htw := tail_waits hsink hchain hn inv (n - i0) i0 rfl hi0n (mem_ready.1 hi0r).1
      rw [show fuel + 1 + (l.drop n).length = (fuel + (l.drop n).length) + 1 by omega]
      refine ⟨fun h0 => (by rw [h0] at hi0r; cases hi0r), fun i hi => ?_⟩
      have hin : i < n := by
        rcases Nat.lt_or_ge i n with h1 | h1
        · exact h1
        · exact absurd hi (htw i h1)
      have hq := hh.2 i ((hready listed listed' inv hs h i hin).1 hi)
      have hb := List.all_eq_true.1 hback i (List.mem_range.2 hin)
      have hq' := qOp_head (l := l) hin (fun o k b ho hg => by
        rw [ho] at hb
        simp only [Bool.and_eq_true, hg, decide_eq_true_eq] at hb
        exact hb.2) hq
      refine wpOp_of_qOp hC (fun a' w' hw' hk => ih _ _ a' w' (inv.set hi hin) (by simp [hs]) (fun j hj => ?_) hw' hk) hq'
      by_cases hij : i = j
      · subst hij
        have h2 : i < listed.size := by rw [inv.size]; omega
        have h3 : i < listed'.size := by omega
        simp [h2, h3]
      · rw [getD_set_ne true hij, getD_set_ne true hij]; exact h j hj

theorem wp_region_quiet_tail (n : Nat) {id : Nat} {Q : Exit → Act → World → Prop} {a : Act} {w : World} {l : List Oper} (hm : P.follows .mixedOrders = true) (hB : Region.lexB .any (l.take n).toArray = true) (hT : tailOps l.toArray n = true) (hC : C w.drew)
    (h : wpQuiet P (l.take n).toArray C (fun a' => ∀ w', C w' → wpList P l.toArray Q (l.drop n) a' w') (l.take n) a) : (Code.region id l.toArray true).wp P Q a w := by
  have hn : n < l.length := by
    have hT0 := hT
    simp only [tailOps, Bool.and_eq_true, decide_eq_true_eq] at hT0
    simpa using hT0.1.1.1.1.1
  simp only [Region.lexB, Bool.and_eq_true] at hB
  have htn : (l.take n).length = n := by simp; omega
  have H := wpAnyQ_lex (C := C) (P := P) (md := .any) (Q := fun a' => ∀ w', C w' → wpList P l.toArray Q (l.drop n) a' w') hB.1 (l.take n) 0 (Array.replicate (l.take n).toArray.size false) a (by simp) (by simpa using hB.2) h
  refine wp_region_any hm ?_
  have := head_tail (C := C) (Q' := Q) hT (l.take n).length (Array.replicate l.toArray.size false) (Array.replicate (l.take n).toArray.size false) a w.drew
    ⟨by simp, fun j oj _ hl => (by rw [getD_replicate_false] at hl; cases hl), fun t _ ht => getD_in (by simpa using ht) (getD_replicate_false _ _)⟩ (by simp; omega)
    (fun j hj => by
      have h1 : j < l.length := by omega
      have h2 : j < min n l.length := by omega
      simp [h1, h2, Array.getElem?_replicate]) hC H
  rw [htn, show n + (l.drop n).length = l.toArray.size by simp; omega] at this
  exact this
end
end Go.Proofs.YtdcegdonppfbkaaDoor
