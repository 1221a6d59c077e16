/- Texts in lines: entries of a ledger, records of a disk, as plain functions on bytes. No program in sight. -/
import Derived.Test.YtdcegdonppfbkaaDoorText2
namespace Go.Proofs.YtdcegdonppfbkaaDoor
set_option linter.unusedSimpArgs false
set_option linter.unusedVariables false

section
variable {α : Type}
/-- Lines that a reader p reads, as far as they are whole and right: these behind acc, how many bytes with those n, what is wrong with the next one. -/
def linesP (p : List UInt8 → α × Int) (most : Nat) (acc : List α) (n : Nat) : List (List UInt8) → List α × Nat × Int
  | [] => (acc, n, 0)
  | [t] => (acc, n, if t = [] then 0 else 9)
  | t :: u :: r => if (p t).2 ≠ 0 then (acc, n, (p t).2) else if most ≤ acc.length then (acc, n, 2) else linesP p most (acc ++ [(p t).1]) (n + t.length + 1) (u :: r)
theorem linesP_cons {p : List UInt8 → α × Int} {most : Nat} {acc : List α} {n : Nat} {t : List UInt8} {r : List (List UInt8)} (h : r ≠ []) :
    linesP p most acc n (t :: r) = if (p t).2 ≠ 0 then (acc, n, (p t).2) else if most ≤ acc.length then (acc, n, 2) else linesP p most (acc ++ [(p t).1]) (n + t.length + 1) r := by
  cases r with
  | nil => exact absurd rfl h
  | cons u r => rfl
theorem linesP_one {p : List UInt8 → α × Int} {most : Nat} {acc : List α} {n : Nat} {t : List UInt8} : linesP p most acc n [t] = (acc, n, if t = [] then 0 else 9) := rfl

/-- The lines of what text prints. -/
def textP (text : α → List UInt8) (l : List α) : List UInt8 := (l.map fun x => text x ++ [10]).flatten
theorem textP_cons (text : α → List UInt8) (x : α) (l : List α) : textP text (x :: l) = text x ++ 10 :: textP text l := by simp [textP]
theorem textP_append (text : α → List UInt8) (l m : List α) : textP text (l ++ m) = textP text l ++ textP text m := by simp [textP]
theorem textP_snoc (text : α → List UInt8) (l : List α) (x : α) : textP text (l ++ [x]) = textP text l ++ text x ++ [10] := by simp [textP]
theorem cut_textP {text : α → List UInt8} (s : List UInt8) : ∀ {l : List α}, (∀ x ∈ l, 10 ∉ text x) → cutc 10 (textP text l ++ s) = l.map text ++ cutc 10 s
  | [], _ => rfl
  | x :: l, h => by
    rw [textP_cons, List.append_assoc, List.cons_append, cutc_append (h x (by simp)), cut_textP s (fun y hy => h y (by simp [hy]))]; rfl
/-- Lines that are right are read, and then what follows. -/
theorem linesP_text {p : List UInt8 → α × Int} {text : α → List UInt8} {most : Nat} {r : List (List UInt8)} (hr : r ≠ []) : ∀ {l : List α} {acc : List α} {n : Nat}, (∀ x ∈ l, p (text x) = (x, 0)) → acc.length + l.length ≤ most →
    linesP p most acc n (l.map text ++ r) = linesP p most (acc ++ l) (n + (textP text l).length) r
  | [], acc, n, _, _ => by simp [textP]
  | x :: l, acc, n, h, hm => by
    simp only [List.length_cons] at hm
    rw [List.map_cons, List.cons_append, linesP_cons (by simp [hr]), h x (by simp), if_neg (by simp), if_neg (by omega)]
    rw [linesP_text hr (fun y hy => h y (by simp [hy])) (by simp; omega), textP_cons]
    simp only [List.length_append, List.length_cons, List.append_assoc, List.singleton_append, List.cons_append, List.nil_append]
    congr 1
    omega
/-- What is read is what was printed. -/
theorem linesP_read {p : List UInt8 → α × Int} {text : α → List UInt8} {ok : α → Prop} {most : Nat} (hp : ∀ t x, p t = (x, 0) → ok x ∧ text x = t) : ∀ {r : List (List UInt8)} {acc l : List α} {n m : Nat} {e : Int}, r ≠ [] → linesP p most acc n r = (l, m, e) → acc.length ≤ most →
    ∃ l' s, l = acc ++ l' ∧ l.length ≤ most ∧ (∀ x ∈ l', ok x) ∧ m = n + (textP text l').length ∧ joinc 10 r = textP text l' ++ s ∧ (e = 0 → s = [])
  | [], acc, l, n, m, e, hr, _, _ => absurd rfl hr
  | [t], acc, l, n, m, e, _, h, hm => by
    simp only [linesP, Prod.mk.injEq] at h
    obtain ⟨rfl, rfl, h⟩ := h
    refine ⟨[], t, by simp, hm, by simp, by simp [textP], by simp [textP, joinc], fun he => ?_⟩
    subst he
    split at h
    · assumption
    · cases h
  | t :: u :: r, acc, l, n, m, e, _, h, hm => by
    rw [linesP_cons (by simp)] at h
    split at h
    · rename_i hb
      simp only [Prod.mk.injEq] at h
      obtain ⟨rfl, rfl, h⟩ := h
      exact ⟨[], joinc 10 (t :: u :: r), by simp, hm, by simp, by simp [textP], by simp [textP], fun he => absurd (h.trans he) hb⟩
    · rename_i hb
      have hb := Decidable.not_not.1 hb
      split at h
      · simp only [Prod.mk.injEq] at h
        obtain ⟨rfl, rfl, h⟩ := h
        exact ⟨[], joinc 10 (t :: u :: r), by simp, hm, by simp, by simp [textP], by simp [textP], fun he => by rw [he] at h; cases h⟩
      · obtain ⟨l', s, h1, h2, h3, h4, h5, h6⟩ := linesP_read hp (by simp) h (by simp; omega)
        obtain ⟨hx, ht⟩ := hp t (p t).1 (by rw [← hb])
        refine ⟨(p t).1 :: l', s, by rw [h1]; simp, h2, ?_, ?_, ?_, h6⟩
        · intro y hy
          rcases List.mem_cons.1 hy with rfl | hy
          · exact hx
          · exact h3 y hy
        · rw [h4, textP_cons, ht, List.length_append, List.length_cons]; omega
        · rw [joinc_cons (by simp), h5, textP_cons, ht]; simp
/-- Of what was printed so many bytes are there still. -/
theorem textP_part {text : α → List UInt8} : ∀ {l : List α} {k : Nat}, (∀ x ∈ l, 10 ∉ text x) → k ≤ (textP text l).length →
    ∃ j s, j ≤ l.length ∧ cutc 10 ((textP text l).take k) = (l.take j).map text ++ [s] ∧ (textP text (l.take j)) ++ s = (textP text l).take k ∧ 10 ∉ s
  | [], k, _, _ => ⟨0, [], by simp, by simp [textP, cutc], by simp [textP], by simp⟩
  | x :: l, k, h, hk => by
    rw [textP_cons] at hk ⊢
    have hx := h x (by simp)
    by_cases hlt : k ≤ (text x).length
    · refine ⟨0, (text x).take k, by simp, ?_, ?_, fun hc => hx (List.mem_of_mem_take hc)⟩
      · rw [List.take_append_of_le_length hlt, cutc_self (fun hc => hx (List.mem_of_mem_take hc))]; rfl
      · rw [List.take_append_of_le_length hlt]; simp [textP]
    · obtain ⟨d, rfl⟩ : ∃ d, k = (text x).length + (d + 1) := ⟨k - (text x).length - 1, by omega⟩
      have hd : d ≤ (textP text l).length := by simp only [List.length_append, List.length_cons] at hk; omega
      obtain ⟨j, s, h1, h2, h3, h4⟩ := textP_part (fun y hy => h y (by simp [hy])) hd
      refine ⟨j + 1, s, by simp; omega, ?_, ?_, h4⟩
      · rw [List.take_length_add_append, List.take_succ_cons, cutc_append hx, h2]; rfl
      · rw [List.take_length_add_append, List.take_succ_cons, List.take_succ_cons, textP_cons, List.append_assoc, List.cons_append, h3]
end

/-! ### A ledger -/
def errL : List Entry → Int
  | [] => 0
  | x :: l => if checkE x ≠ 0 then checkE x else errL l
/-- ledger.Print. -/
def printL (l : List Entry) : List UInt8 × Int := if 60 < l.length then ([], 2) else if errL l ≠ 0 then ([], errL l) else (textP textE l, 0)
/-- Of a text that isn't too long: an error leaves nothing. -/
def readL (s : List UInt8) : List Entry × Int :=
  if (linesP parseE 60 [] 0 (cutc 10 s)).2.2 ≠ 0 then ([], (linesP parseE 60 [] 0 (cutc 10 s)).2.2) else ((linesP parseE 60 [] 0 (cutc 10 s)).1, 0)
/-- ledger.Parse. -/
def parseL (s : List UInt8) : List Entry × Int := if 30000 < s.length then ([], 2) else readL s
theorem errL_iff {l : List Entry} : errL l = 0 ↔ ∀ x ∈ l, checkE x = 0 := by
  induction l with
  | nil => simp [errL]
  | cons x l ih =>
    simp only [errL, List.forall_mem_cons]
    split
    · rename_i h; exact ⟨fun e => absurd e h, fun e => absurd e.1 h⟩
    · rename_i h; rw [ih]; exact ⟨fun e => ⟨Decidable.not_not.1 h, e⟩, fun e => e.2⟩
theorem textE_no {x : Entry} (h : checkE x = 0) : (10 : UInt8) ∉ textE x := by
  unfold textE tailB
  intro hc
  rcases List.mem_append.1 hc with hc | hc
  · have := headE_no x hc; simp at this
  · obtain ⟨b, hb, hc⟩ := List.mem_flatten.1 hc
    obtain ⟨n, hn, rfl⟩ := List.mem_map.1 hb
    rcases List.mem_cons.1 hc with hc | hc
    · simp at hc
    · exact itoa_no (numsE_bounds h n hn).1 (by decide) hc
theorem textR_no {x : Rec} (h : checkR x = 0) : (10 : UInt8) ∉ textR x := by
  unfold textR
  split
  · rename_i hk
    have := cR_seal h hk
    intro hc
    rcases List.mem_append.1 hc with hc | hc
    · simp [sealW] at hc
    · exact itoa_no (by omega) (by decide) hc
  · rename_i hk
    have := cR_write h hk
    intro hc
    rcases List.mem_append.1 hc with hc | hc
    · rcases List.mem_append.1 hc with hc | hc
      · exact itoa_no (by omega) (by decide) hc
      · simp [colonW] at hc
    · exact textE_no this.2.2.2.2 hc
theorem textL_len {l : List Entry} (h : ∀ x ∈ l, checkE x = 0) : (textP textE l).length ≤ 71 * l.length := by
  induction l with
  | nil => simp [textP]
  | cons x l ih =>
    have := ih (fun y hy => h y (by simp [hy]))
    have := textE_len (h x (by simp))
    rw [textP_cons, List.length_append, List.length_cons, List.length_cons]; omega
theorem textRs_len {l : List Rec} (h : ∀ x ∈ l, checkR x = 0) : (textP textR l).length ≤ 101 * l.length := by
  induction l with
  | nil => simp [textP]
  | cons x l ih =>
    have := ih (fun y hy => h y (by simp [hy]))
    have := textR_len (h x (by simp))
    rw [textP_cons, List.length_append, List.length_cons, List.length_cons]; omega
theorem parse_textL {l : List Entry} (h : ∀ x ∈ l, checkE x = 0) (hl : l.length ≤ 60) : parseL (textP textE l) = (l, 0) := by
  have h1 := textL_len h
  have h2 := cut_textP [] (fun x hx => textE_no (h x hx))
  rw [List.append_nil] at h2
  have h3 : linesP parseE 60 [] 0 (cutc 10 (textP textE l)) = (l, (textP textE l).length, 0) := by
    rw [h2, linesP_text (cutc_ne _ _) (fun x hx => parse_textE (h x hx)) (by simpa using hl)]
    simp [cutc, linesP]
  unfold parseL readL
  rw [if_neg (by omega), h3]; simp
theorem parseL_ok {s : List UInt8} {l : List Entry} (h : parseL s = (l, 0)) : (∀ x ∈ l, checkE x = 0) ∧ l.length ≤ 60 ∧ textP textE l = s := by
  unfold parseL readL at h
  split at h
  · simp at h
  · split at h
    · rename_i hb
      simp only [Prod.mk.injEq] at h
      exact absurd h.2 hb
    · rename_i hb
      have hb := Decidable.not_not.1 hb
      simp only [Prod.mk.injEq, and_true] at h
      obtain ⟨l', t, h1, h2, h3, h4, h5, h6⟩ := linesP_read (ok := fun x => checkE x = 0) (text := textE) (fun t x hx => parseE_ok hx) (cutc_ne 10 s) (Prod.ext rfl (Prod.ext rfl rfl) : linesP parseE 60 [] 0 (cutc 10 s) = ((linesP parseE 60 [] 0 (cutc 10 s)).1, (linesP parseE 60 [] 0 (cutc 10 s)).2.1, (linesP parseE 60 [] 0 (cutc 10 s)).2.2)) (by simp)
      rw [h] at h1 h2
      rw [List.nil_append] at h1
      subst h1
      rw [joinc_cutc, h6 hb, List.append_nil] at h5
      exact ⟨h3, h2, h5.symm⟩
theorem textL_inj {l m : List Entry} (hl : ∀ x ∈ l, checkE x = 0) (hm : ∀ x ∈ m, checkE x = 0) (h1 : l.length ≤ 60) (h2 : m.length ≤ 60) (h : textP textE l = textP textE m) : l = m := by
  have := parse_textL hl h1
  rw [h, parse_textL hm h2] at this
  exact (Prod.mk.inj this).1.symm
end Go.Proofs.YtdcegdonppfbkaaDoor
