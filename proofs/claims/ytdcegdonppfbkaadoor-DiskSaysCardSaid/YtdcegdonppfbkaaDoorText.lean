/- Texts: what is printed of entries and records, and read, as plain functions on bytes; what is printed is read, what is read is printed as it was. No program in sight. -/
import Derived.Test.YtdcegdonppfbkaaDoorSpecU
import Derived.Lib.SplitLaws
import Derived.Lib.ItoaLen
import Derived.Lib.AtoiAllCases
namespace Go.Proofs.YtdcegdonppfbkaaDoor
set_option linter.unusedSimpArgs false
set_option linter.unusedVariables false

/-! ### A text in pieces, at each c -/
def cutc (c : UInt8) : List UInt8 → List (List UInt8)
  | [] => [[]]
  | b :: l => if b = c then [] :: cutc c l else (b :: (cutc c l).headD []) :: (cutc c l).tail
def joinc (c : UInt8) : List (List UInt8) → List UInt8
  | [] => []
  | [p] => p
  | p :: q :: r => p ++ c :: joinc c (q :: r)

theorem cutc_ne (c : UInt8) (l : List UInt8) : cutc c l ≠ [] := by
  cases l with
  | nil => simp [cutc]
  | cons b l => unfold cutc; split <;> simp
theorem cutc_eta (c : UInt8) (l : List UInt8) : cutc c l = (cutc c l).headD [] :: (cutc c l).tail := by
  have := cutc_ne c l
  cases h : cutc c l with
  | nil => exact absurd h this
  | cons a t => rfl
theorem cutc_self {c : UInt8} : ∀ {p : List UInt8}, c ∉ p → cutc c p = [p]
  | [], _ => rfl
  | b :: p, h => by
    have h1 : b ≠ c := fun e => h (by simp [e])
    have h2 : c ∉ p := fun e => h (by simp [e])
    rw [cutc, if_neg h1, cutc_self h2]; rfl
theorem cutc_append {c : UInt8} {s : List UInt8} : ∀ {p : List UInt8}, c ∉ p → cutc c (p ++ c :: s) = p :: cutc c s
  | [], _ => by simp [cutc]
  | b :: p, h => by
    have h1 : b ≠ c := fun e => h (by simp [e])
    have h2 : c ∉ p := fun e => h (by simp [e])
    rw [List.cons_append, cutc, if_neg h1, cutc_append h2]; rfl
theorem cutc_joinc {c : UInt8} : ∀ {ws : List (List UInt8)}, ws ≠ [] → (∀ w ∈ ws, c ∉ w) → cutc c (joinc c ws) = ws
  | [], h, _ => absurd rfl h
  | [p], _, h => cutc_self (h p (by simp))
  | p :: q :: r, _, h => by
    rw [joinc, cutc_append (h p (by simp)), cutc_joinc (by simp) (fun w hw => h w (by simp at hw ⊢; exact Or.inr hw))]
theorem joinc_cons {c : UInt8} {p : List UInt8} {ps : List (List UInt8)} (h : ps ≠ []) : joinc c (p :: ps) = p ++ c :: joinc c ps := by
  cases ps with
  | nil => exact absurd rfl h
  | cons q r => rfl
theorem joinc_cutc (c : UInt8) : ∀ l : List UInt8, joinc c (cutc c l) = l
  | [] => rfl
  | b :: l => by
    have ih := joinc_cutc c l
    rw [cutc]
    split
    · rename_i h
      rw [joinc_cons (cutc_ne c l), ih, h]; rfl
    · rw [cutc_eta] at ih
      cases ht : (cutc c l).tail with
      | nil => rw [ht] at ih; simp only [joinc] at ih ⊢; rw [ih]
      | cons q r =>
        rw [ht] at ih
        simp only [joinc] at ih ⊢
        rw [List.cons_append, ih]
theorem cutc_mem {c : UInt8} : ∀ {l p : List UInt8}, p ∈ cutc c l → c ∉ p
  | [], p, h => by simp [cutc] at h; simp [h]
  | b :: l, p, h => by
    rw [cutc] at h
    split at h
    · rename_i hb
      rcases List.mem_cons.1 h with rfl | h
      · simp
      · exact cutc_mem h
    · rename_i hb
      rcases List.mem_cons.1 h with rfl | h
      · have hh : (cutc c l).headD [] ∈ cutc c l := by rw [cutc_eta]; simp
        have := cutc_mem hh
        simp only [List.mem_cons, not_or]
        exact ⟨fun e => hb e.symm, this⟩
      · exact cutc_mem (List.mem_of_mem_tail h)

/-- strings.Split at one byte. -/
theorem split_one (c : UInt8) : ∀ s : List UInt8, Lib.split s [c] = cutc c s
  | [] => by unfold Lib.split; rw [Lib.count_one]; rfl
  | b :: l => by
    have ih := split_one c l
    unfold Lib.split at ih ⊢
    rw [cutc]
    by_cases h : b = c
    · subst h
      rw [if_pos rfl, Lib.count_cons_eq, Nat.add_comm 1, Lib.splitK]
      have hix : Lib.index (b :: l) [b] = 0 := by rw [Lib.index]; simp [List.isPrefixOf]
      rw [hix, if_neg (by decide)]
      show _ = [] :: _
      rw [← ih]; rfl
    · rw [if_neg h, Lib.count_cons_ne b c l h, ← ih]
      cases hk : Lib.count l [c] with
      | zero => rfl
      | succ k =>
        have hne : Lib.index l [c] ≠ -1 := fun e => by rw [Lib.count_miss e] at hk; cases hk
        have hge := Lib.index_ge l [c]
        have hp : ([c] : List UInt8).isPrefixOf (b :: l) = false := by simp [List.isPrefixOf, Ne.symm h]
        have hix : Lib.index (b :: l) [c] = Lib.index l [c] + 1 := by rw [Lib.index, hp]; simp [hne]
        rw [Lib.splitK, Lib.splitK, hix, if_neg (by simpa using (by omega : ¬ Lib.index l [c] + 1 = -1)), if_neg (by simpa using hne)]
        obtain ⟨j, hj⟩ : ∃ j : Nat, Lib.index l [c] = j := ⟨(Lib.index l [c]).toNat, by omega⟩
        rw [hj, show (((j : Nat) : Int) + 1).toNat = j + 1 by omega, show ((j : Nat) : Int).toNat = j by omega]
        rfl

/-! ### Whole numbers -/
def num (t : List UInt8) : Option Int :=
  match Lib.atoiAll t with
  | .ok v => if Lib.itoa v = t then some v else none
  | _ => none
theorem num_some {t : List UInt8} {v : Int} (h : num t = some v) : t = Lib.itoa v ∧ -9223372036854775808 ≤ v ∧ v ≤ 9223372036854775807 := by
  unfold num at h
  split at h
  · rename_i u hu
    split at h
    · rename_i e
      injection h with h
      subst h
      exact ⟨e.symm, Lib.atoiAll_bounds hu⟩
    · cases h
  · cases h
theorem toNat_dig {k : Nat} (h : k < 10) : (UInt8.ofNat (48 + k)).toNat = 48 + k := by
  rw [UInt8.toNat_ofNat']; omega
theorem dec_digit : ∀ (u : Nat) (b : UInt8), b ∈ Lib.decDigits u → 48 ≤ b.toNat ∧ b.toNat ≤ 57 := by
  intro u
  induction u using Nat.strongRecOn with
  | _ u ih =>
    intro b hb
    rw [Lib.decDigits] at hb
    split at hb
    · rename_i h
      rw [List.mem_singleton.1 hb, toNat_dig h]
      omega
    · rename_i h
      rcases List.mem_append.1 hb with hb | hb
      · exact ih (u / 10) (by omega) b hb
      · rw [List.mem_singleton.1 hb, toNat_dig (by omega)]
        omega
theorem dec_ne (u : Nat) : Lib.decDigits u ≠ [] := by
  rw [Lib.decDigits]; split <;> simp
theorem parse_append : ∀ (l r : List UInt8) (acc a : Nat), Lib.parseUint10 acc l = .ok a → Lib.parseUint10 acc (l ++ r) = Lib.parseUint10 a r
  | [], r, acc, a, h => by simp only [Lib.parseUint10] at h; injection h with h; rw [h]; rfl
  | c :: l, r, acc, a, h => by
    simp only [Lib.parseUint10, List.cons_append] at h ⊢
    split at h
    · rename_i h1
      rw [if_pos h1]
      split at h
      · cases h
      · rename_i h2
        rw [if_neg h2]
        split at h
        · cases h
        · rename_i h3
          rw [if_neg h3]
          exact parse_append l r _ a h
    · cases h
theorem parse_dec : ∀ (u : Nat), u < 9223372036854775808 → Lib.parseUint10 0 (Lib.decDigits u) = .ok u := by
  intro u
  induction u using Nat.strongRecOn with
  | _ u ih =>
    intro hu
    rw [Lib.decDigits]
    split
    · rename_i h
      have e : (UInt8.ofNat (48 + u)).toNat = 48 + u := toNat_dig h
      simp only [Lib.parseUint10, e]
      rw [if_pos (by omega), if_neg (by omega), if_neg (by omega)]
      congr 1; omega
    · rename_i h
      rw [parse_append _ _ _ _ (ih (u / 10) (by omega) (by omega))]
      have e : (UInt8.ofNat (48 + u % 10)).toNat = 48 + u % 10 := toNat_dig (by omega)
      simp only [Lib.parseUint10, e]
      rw [if_pos (by omega), if_neg (by omega), if_neg (by omega)]
      congr 1; omega
theorem itoa_dec {n : Int} (h : 0 ≤ n) : Lib.itoa n = Lib.decDigits n.toNat := by unfold Lib.itoa; rw [if_neg (by omega)]
theorem itoa_digit {n : Int} (h : 0 ≤ n) {b : UInt8} (hb : b ∈ Lib.itoa n) : 48 ≤ b.toNat ∧ b.toNat ≤ 57 := by
  rw [itoa_dec h] at hb; exact dec_digit _ b hb
theorem itoa_ne {n : Int} (h : 0 ≤ n) : Lib.itoa n ≠ [] := by rw [itoa_dec h]; exact dec_ne _
theorem itoa_no {n : Int} (h : 0 ≤ n) {c : UInt8} (hc : c.toNat < 48 ∨ 57 < c.toNat) : c ∉ Lib.itoa n := fun hb => by
  have := itoa_digit h hb; omega
theorem num_itoa {n : Int} (h : 0 ≤ n) (h2 : n < 9223372036854775808) : num (Lib.itoa n) = some n := by
  have e : Lib.atoiAll (Lib.itoa n) = .ok n := by
    have hd := itoa_dec h
    cases hl : Lib.itoa n with
    | nil => exact absurd hl (itoa_ne h)
    | cons c r =>
      have hc := itoa_digit h (b := c) (by rw [hl]; simp)
      rw [Lib.atoiAll_plain c r (by omega) (by omega), ← hl, hd]
      have hp : Lib.parseMag (Lib.decDigits n.toNat) = .ok n.toNat := by
        unfold Lib.parseMag
        rw [if_neg (dec_ne _), parse_dec _ (by omega)]
      rw [hp]
      unfold Lib.signless
      simp only
      rw [if_neg (by omega)]
      congr 1; omega
  unfold num
  rw [e]
  simp

/-! ### Entries -/
def junkW : List UInt8 := [106, 117, 110, 107]
def putW : List UInt8 := [112, 117, 116]
def dropW : List UInt8 := [100, 114, 111, 112]
def ringW : List UInt8 := [114, 105, 110, 103]
/-- The numbers of an entry's text. -/
def numsE (x : Entry) : List Int := if x.kind = 1 then [x.job, x.every, x.time] else if x.kind = 2 then [x.job] else if x.kind = 3 then [x.job, x.time, x.client] else []
def headE (x : Entry) : List UInt8 := if x.kind = 1 then putW else if x.kind = 2 then dropW else if x.kind = 3 then ringW else junkW
def tailB (l : List Int) : List UInt8 := (l.map fun n => 32 :: Lib.itoa n).flatten
def textE (x : Entry) : List UInt8 := headE x ++ tailB (numsE x)
/-- entry.Print. -/
def printE (x : Entry) : List UInt8 × Int := if checkE x ≠ 0 then ([], checkE x) else (textE x, 0)
def kindW (w : List UInt8) : Option (Int × Nat) := if w = junkW then some (0, 0) else if w = putW then some (1, 3) else if w = dropW then some (2, 1) else if w = ringW then some (3, 3) else none
def numsL : List (List UInt8) → Option (List Int)
  | [] => some []
  | t :: l => match num t with
    | some v => (match numsL l with
      | some r => some (v :: r)
      | none => none)
    | none => none
def entE (k : Int) (l : List Int) : Entry := ⟨k, l.getD 0 0, if k = 1 then l.getD 1 0 else 0, if k = 1 then l.getD 2 0 else if k = 3 then l.getD 1 0 else 0, if k = 3 then l.getD 2 0 else 0⟩
/-- Of a text in words. -/
def readWs (ws : List (List UInt8)) : Entry × Int :=
  match kindW (ws.headD []) with
  | none => (zeroE, 1)
  | some (k, many) =>
    if ws.tail.length ≠ many then (zeroE, 1) else
    match numsL ws.tail with
    | none => (zeroE, 1)
    | some l => if checkE (entE k l) ≠ 0 then (zeroE, checkE (entE k l)) else (entE k l, 0)
/-- entry.Parse. -/
def parseE (s : List UInt8) : Entry × Int := if 30000 < s.length then (zeroE, 2) else readWs (cutc 32 s)

theorem numsL_some : ∀ {ts : List (List UInt8)} {l : List Int}, numsL ts = some l → ts = l.map Lib.itoa
  | [], l, h => by simp [numsL] at h; simp [← h]
  | t :: ts, l, h => by
    simp only [numsL] at h
    cases hn : num t with
    | none => rw [hn] at h; cases h
    | some v =>
      rw [hn] at h
      cases hr : numsL ts with
      | none => rw [hr] at h; cases h
      | some r =>
        rw [hr] at h
        injection h with h
        subst h
        rw [List.map_cons, ← numsL_some hr, ← (num_some hn).1]
theorem numsL_itoa : ∀ {l : List Int}, (∀ n ∈ l, 0 ≤ n ∧ n < 9223372036854775808) → numsL (l.map Lib.itoa) = some l
  | [], _ => rfl
  | n :: l, h => by
    rw [List.map_cons, numsL, num_itoa (h n (by simp)).1 (h n (by simp)).2, numsL_itoa (fun m hm => h m (by simp [hm]))]
theorem tailB_join (w : List UInt8) : ∀ l : List Int, w ++ tailB l = joinc 32 (w :: l.map Lib.itoa)
  | [] => by simp [tailB, joinc]
  | n :: l => by
    have := tailB_join (Lib.itoa n) l
    rw [List.map_cons, joinc, ← this]
    simp [tailB]
theorem numsE_bounds {x : Entry} (h : checkE x = 0) : ∀ n ∈ numsE x, 0 ≤ n ∧ n < 9223372036854775808 := by
  intro n hn
  unfold checkE at h
  split at h
  · cases h
  · split at h
    · cases h
    · rename_i h2
      unfold numsE at hn
      (repeat' split at hn) <;> simp at hn <;> omega
theorem tailB_len (l : List Int) (h : ∀ n ∈ l, -9223372036854775808 ≤ n ∧ n ≤ 9223372036854775807) : (tailB l).length ≤ 22 * l.length := by
  induction l with
  | nil => simp [tailB]
  | cons n l ih =>
    have h1 := Lib.itoa_length_le n (h n (by simp)).1 (h n (by simp)).2
    have h2 := ih (fun m hm => h m (by simp [hm]))
    unfold tailB at h2 ⊢
    simp only [List.map_cons, List.flatten_cons, List.length_append, List.length_cons]
    omega
theorem textE_len {x : Entry} (h : checkE x = 0) : (textE x).length ≤ 70 := by
  have h1 := tailB_len (numsE x) (fun n hn => by have := numsE_bounds h n hn; omega)
  have h2 : (headE x).length ≤ 4 := by unfold headE; (repeat' split) <;> decide
  have h3 : (numsE x).length ≤ 3 := by unfold numsE; (repeat' split) <;> simp
  unfold textE
  rw [List.length_append]; omega
theorem headE_no (x : Entry) {c : UInt8} (h : c ∈ headE x) : 100 ≤ c.toNat := by
  unfold headE at h
  have a1 : ∀ c ∈ putW, 100 ≤ c.toNat := by decide
  have a2 : ∀ c ∈ dropW, 100 ≤ c.toNat := by decide
  have a3 : ∀ c ∈ ringW, 100 ≤ c.toNat := by decide
  have a4 : ∀ c ∈ junkW, 100 ≤ c.toNat := by decide
  (repeat' split at h) <;> first | exact a1 c h | exact a2 c h | exact a3 c h | exact a4 c h
theorem cut_textE {x : Entry} (h : checkE x = 0) : cutc 32 (textE x) = headE x :: (numsE x).map Lib.itoa := by
  unfold textE
  rw [tailB_join, cutc_joinc (by simp)]
  intro w hw
  rcases List.mem_cons.1 hw with rfl | hw
  · exact fun hc => by have := headE_no x hc; simp at this
  · obtain ⟨n, hn, rfl⟩ := List.mem_map.1 hw
    exact itoa_no (numsE_bounds h n hn).1 (by decide)
theorem read_textE {x : Entry} (h : checkE x = 0) : readWs (cutc 32 (textE x)) = (x, 0) := by
  rw [cut_textE h]
  have hb := numsL_itoa (numsE_bounds h)
  obtain ⟨k, j, v, t, c⟩ := x
  have hk : k = 0 ∨ k = 1 ∨ k = 2 ∨ k = 3 := by
    unfold checkE at h
    split at h
    · cases h
    · simp at *; omega
  have key : entE k (numsE ⟨k, j, v, t, c⟩) = ⟨k, j, v, t, c⟩ := by
    unfold checkE at h
    dsimp only at h
    rcases hk with rfl | rfl | rfl | rfl <;> simp [entE, numsE] <;> simp at h <;> omega
  unfold readWs
  simp only [List.headD_cons, List.tail_cons, List.length_map]
  rcases hk with rfl | rfl | rfl | rfl
  all_goals
    rw [show kindW _ = some _ from rfl]
    simp only
    rw [if_neg (by simp [numsE]), hb]
    simp only
    rw [key, if_neg (by simp [h])]
theorem parse_textE {x : Entry} (h : checkE x = 0) : parseE (textE x) = (x, 0) := by
  have := textE_len h
  unfold parseE
  rw [if_neg (by omega), read_textE h]
theorem readWs_ok {s : List UInt8} {z : Entry} (h : readWs (cutc 32 s) = (z, 0)) : checkE z = 0 ∧ textE z = s := by
  unfold readWs at h
  cases hk : kindW ((cutc 32 s).headD []) with
  | none => rw [hk] at h; simp at h
  | some km =>
    obtain ⟨k, many⟩ := km
    rw [hk] at h
    simp only at h
    by_cases hm : (cutc 32 s).tail.length ≠ many
    · rw [if_pos hm] at h; simp at h
    · rw [if_neg hm] at h
      have hm := Decidable.not_not.1 hm
      cases hn : numsL (cutc 32 s).tail with
      | none => rw [hn] at h; simp at h
      | some l =>
        rw [hn] at h
        simp only at h
        by_cases hc : checkE (entE k l) ≠ 0
        · rw [if_pos hc] at h
          simp only [Prod.mk.injEq] at h
          exact absurd h.2 hc
        · rw [if_neg hc] at h
          simp only [Prod.mk.injEq] at h
          have hc := Decidable.not_not.1 hc
          obtain ⟨rfl, _⟩ := h
          refine ⟨hc, ?_⟩
          have ht := numsL_some hn
          have hs : s = joinc 32 ((cutc 32 s).headD [] :: l.map Lib.itoa) := by rw [← ht, ← cutc_eta, joinc_cutc]
          rw [← tailB_join] at hs
          rw [ht, List.length_map] at hm
          unfold kindW at hk
          split at hk
          · rename_i e; injection hk with hk; simp only [Prod.mk.injEq] at hk; obtain ⟨rfl, rfl⟩ := hk
            rw [e] at hs; rw [hs]
            match l, hm with
            | [], _ => rfl
          · split at hk
            · rename_i e; injection hk with hk; simp only [Prod.mk.injEq] at hk; obtain ⟨rfl, rfl⟩ := hk
              rw [e] at hs; rw [hs]
              match l, hm with
              | [a, b, c], _ => rfl
            · split at hk
              · rename_i e; injection hk with hk; simp only [Prod.mk.injEq] at hk; obtain ⟨rfl, rfl⟩ := hk
                rw [e] at hs; rw [hs]
                match l, hm with
                | [a], _ => rfl
              · split at hk
                · rename_i e; injection hk with hk; simp only [Prod.mk.injEq] at hk; obtain ⟨rfl, rfl⟩ := hk
                  rw [e] at hs; rw [hs]
                  match l, hm with
                  | [a, b, c], _ => rfl
                · cases hk
theorem parseE_ok {s : List UInt8} {z : Entry} (h : parseE s = (z, 0)) : checkE z = 0 ∧ textE z = s := by
  unfold parseE at h
  split at h
  · simp at h
  · exact readWs_ok h
theorem textE_inj {x y : Entry} (hx : checkE x = 0) (hy : checkE y = 0) (h : textE x = textE y) : x = y := by
  have h1 := parse_textE hx
  rw [h, parse_textE hy] at h1
  exact (Prod.mk.inj h1).1.symm
end Go.Proofs.YtdcegdonppfbkaaDoor
