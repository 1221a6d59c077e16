/- Part 3 of the proof: Disk, SpecR, LawK, SpecCl, SpecC, SpecW, LawC, PureB, PureCl, LawW, LawW2, LawW3, LawW4. -/
import Derived.Test.YtmppkaoonncddaaGreatDoorBa02
import Derived.Test.YtmppkaoonncddaaGreatDoorBa01
namespace Go.Proofs.YtmppkaoonncddaaGreatDoor
section
set_option linter.unusedSimpArgs false
set_option linter.unusedVariables false
structure Dsk where
 safe : List UInt8
 wait : List UInt8
 deriving DecidableEq, Inhabited
def noK : Dsk := ⟨[], []⟩
def linesK (s : List UInt8) (most : Nat) : List Rec × Nat × Int := linesP parseR most [] 0 (cutc 10 s)
def checkK (d : Dsk) : Int := if 30000 < d.safe.length ∨ 30000 < d.safe.length + d.wait.length then 2 else (linesK d.safe 160).2.2
def putK (d : Dsk) (r : Rec) : Dsk × Int :=
 if checkK d ≠ 0 then (noK, checkK d) else if (printR r).2 ≠ 0 then (noK, (printR r).2)
 else if 30000 < d.safe.length + d.wait.length + ((printR r).1.length + 1) then (noK, 2) else (⟨d.safe, d.wait ++ (printR r).1 ++ [10]⟩, 0)
def syncK (d : Dsk) : Dsk × Int :=
 if checkK d ≠ 0 then (noK, checkK d) else if checkK ⟨d.safe ++ d.wait, []⟩ ≠ 0 then (noK, checkK ⟨d.safe ++ d.wait, []⟩) else (⟨d.safe ++ d.wait, []⟩, 0)
def crashK (d : Dsk) (n : Int) : Dsk × Int :=
 if checkK d ≠ 0 then (noK, checkK d) else if n < 0 ∨ (d.wait.length : Int) < n then (noK, 3) else (⟨d.safe, d.wait.take n.toNat⟩, 0)
def recsK (d : Dsk) : List Rec := (linesK d.safe 160).1 ++ (linesK d.wait (160 - (linesK d.safe 160).1.length)).1
def backK (d : Dsk) : Dsk := ⟨d.safe ++ d.wait.take (linesK d.wait (160 - (linesK d.safe 160).1.length)).2.1, []⟩
def recoverK (d : Dsk) : Dsk × List Rec × Int := if checkK d ≠ 0 then (noK, [], checkK d) else (backK d, recsK d, 0)
def OkRs (l : List Rec) : Prop := ∀ x ∈ l, checkR x = 0
theorem OkRs.app {l m : List Rec} (h : OkRs l) (h' : OkRs m) : OkRs (l ++ m) := fun x hx => by
 rcases List.mem_append.1 hx with hx | hx
 · exact h x hx
 · exact h' x hx
theorem OkRs.one {r : Rec} (h : checkR r = 0) : OkRs [r] := fun x hx => by rw [List.mem_singleton.1 hx]; exact h
abbrev txt (l : List Rec) : List UInt8 := textP textR l
theorem txt_len {l : List Rec} (h : OkRs l) : (txt l).length ≤ 101 * l.length := textRs_len h
theorem txt_app (l m : List Rec) : txt (l ++ m) = txt l ++ txt m := textP_append _ _ _
theorem linesK_text {l : List Rec} {most : Nat} (s : List UInt8) (h : OkRs l) (hm : l.length ≤ most) : linesK (txt l ++ s) most = linesP parseR most l (txt l).length (cutc 10 s) := by
 unfold linesK
 rw [cut_textP s (fun x hx => textR_no (h x hx)), linesP_text (cutc_ne _ _) (fun x hx => parse_textR (h x hx)) (by simpa using hm)]
 simp
theorem linesK_part {l : List Rec} {most : Nat} {s : List UInt8} (h : OkRs l) (hm : l.length ≤ most) (hs : (10 : UInt8) ∉ s) : linesK (txt l ++ s) most = (l, (txt l).length, if s = [] then 0 else 9) := by
 rw [linesK_text s h hm, cutc_self hs, linesP_one]
theorem linesK_all {l : List Rec} {most : Nat} (h : OkRs l) (hm : l.length ≤ most) : linesK (txt l) most = (l, (txt l).length, 0) := by
 have := linesK_part (s := []) h hm (by simp)
 simpa using this
theorem linesK_read (s : List UInt8) (most : Nat) : OkRs (linesK s most).1 ∧ (linesK s most).1.length ≤ most ∧ (linesK s most).2.1 = (txt (linesK s most).1).length ∧ s.take (linesK s most).2.1 = txt (linesK s most).1 ∧ ((linesK s most).2.2 = 0 → s = txt (linesK s most).1) := by
 obtain ⟨l', t, h1, h2, h3, h4, h5, h6⟩ := linesP_read (ok := fun x => checkR x = 0) (text := textR) (fun t x hx => parseR_ok hx) (cutc_ne 10 s) (Prod.ext rfl (Prod.ext rfl rfl) : linesP parseR most [] 0 (cutc 10 s) = ((linesP parseR most [] 0 (cutc 10 s)).1, (linesP parseR most [] 0 (cutc 10 s)).2.1, (linesP parseR most [] 0 (cutc 10 s)).2.2)) (by simp)
 rw [List.nil_append] at h1
 rw [joinc_cutc] at h5
 rw [Nat.zero_add] at h4
 have e : (linesK s most).1 = l' := h1
 have e2 : (linesK s most).2.1 = (txt l').length := h4
 refine ⟨by rw [e]; exact h3, h2, by rw [e]; exact e2, ?_, fun h => ?_⟩
 · rw [e, e2, h5]; simp
 · rw [e]; rw [h5, h6 h]; simp
theorem checkK_iff {d : Dsk} : checkK d = 0 ↔ d.safe.length + d.wait.length ≤ 30000 ∧ ∃ l, OkRs l ∧ l.length ≤ 160 ∧ d.safe = txt l := by
 unfold checkK
 constructor
 · intro h
   split at h
   · cases h
   · obtain ⟨h1, h2, _, _, h3⟩ := linesK_read d.safe 160
     exact ⟨by omega, _, h1, h2, h3 h⟩
 · rintro ⟨h, l, h1, h2, h3⟩
   rw [if_neg (by omega), h3, linesK_all h1 h2]
theorem recover_good {d : Dsk} (h : checkK d = 0) : ∃ l m, OkRs l ∧ OkRs m ∧ d.safe = txt l ∧ d.wait.take (txt m).length = txt m ∧ (l ++ m).length ≤ 160 ∧ recoverK d = (⟨txt (l ++ m), []⟩, l ++ m, 0) ∧ (linesK d.safe 160).1 = l := by
 obtain ⟨h0, l, h1, h2, h3⟩ := checkK_iff.1 h
 have e := linesK_all h1 h2
 obtain ⟨g1, g2, g3, g4, _⟩ := linesK_read d.wait (160 - l.length)
 refine ⟨l, (linesK d.wait (160 - l.length)).1, h1, g1, h3, by rw [← g3]; exact g4, by rw [List.length_append]; omega, ?_, by rw [h3, e]⟩
 unfold recoverK backK recsK
 rw [if_neg (by simp [h]), h3, e]
 simp only
 rw [g4, txt_app]
theorem recover_safe {l : List Rec} (h : OkRs l) (hl : l.length ≤ 160) (hs : (txt l).length ≤ 30000) : recoverK ⟨txt l, []⟩ = (⟨txt l, []⟩, l, 0) := by
 have hc : checkK ⟨txt l, []⟩ = 0 := checkK_iff.2 ⟨by simpa using hs, l, h, hl, rfl⟩
 unfold recoverK backK recsK
 rw [if_neg (by simp [hc])]
 dsimp only
 rw [linesK_all h hl]
 simp [linesK, cutc, linesP]
theorem printR_ok {r : Rec} (h : checkR r = 0) : printR r = (textR r, 0) := by unfold printR; rw [if_neg (by simp [h])]
end
section
set_option linter.unusedSimpArgs false
set_option linter.unusedVariables false
def unitGo (u : Uni) : List Rec → Uni × Int
 | [] => (u, 0)
 | r :: l => if (nextU u r).2 ≠ 0 then (⟨0, []⟩, (nextU u r).2) else unitGo (nextU u r).1 l
def unitL (l : List Rec) : Uni × Int := if 160 < l.length then (⟨0, []⟩, 2) else unitGo newU l
theorem unitGo_at {u : Uni} {l : List Rec} {k : Nat} {x : Rec} (hx : l[k]? = some x) : unitGo u (l.drop k) = if (nextU u x).2 ≠ 0 then (⟨0, []⟩, (nextU u x).2) else unitGo (nextU u x).1 (l.drop (k + 1)) := by
 obtain ⟨hk, rfl⟩ := List.getElem?_eq_some_iff.1 hx
 rw [List.drop_eq_getElem_cons hk]
 rfl
theorem unitGo_cons {u : Uni} {r : Rec} {l : List Rec} (h : (nextU u r).2 = 0) : unitGo u (r :: l) = unitGo (nextU u r).1 l := by
 rw [unitGo, if_neg (by simp [h])]
theorem unitGo_append : ∀ {l m : List Rec} {u v : Uni}, unitGo u l = (v, 0) → unitGo u (l ++ m) = unitGo v m
 | [], m, u, v, h => by simp only [unitGo, Prod.mk.injEq, and_true] at h; rw [h]; rfl
 | r :: l, m, u, v, h => by
   rw [unitGo] at h
   split at h
   · rename_i hb; simp only [Prod.mk.injEq] at h; exact absurd h.2 hb
   · rename_i hb
     rw [List.cons_append, unitGo_cons (Decidable.not_not.1 hb)]
     exact unitGo_append h
structure Upon (u v : Uni) : Prop where
 ep : u.ep ≤ v.ep
 len : v.cells.length = u.cells.length
 cell : ∀ k, (cellAt u.cells k).kind ≠ 4 → cellAt v.cells k = cellAt u.cells k
theorem Upon.rfl' (u : Uni) : Upon u u := ⟨Int.le_refl _, rfl, fun _ _ => rfl⟩
theorem Upon.trans {u v x : Uni} (h : Upon u v) (h' : Upon v x) : Upon u x :=
 ⟨Int.le_trans h.ep h'.ep, h'.len.trans h.len, fun k hk => (h'.cell k (by rw [h.cell k hk]; exact hk)).trans (h.cell k hk)⟩
theorem cellAt_put {cs : List Entry} {a k : Nat} {x : Entry} : cellAt (cs.set a x) k = if a = k ∧ a < cs.length then x else cellAt cs k := by
 unfold cellAt
 rw [List.getElem?_set]
 by_cases h : a = k
 · subst h
   by_cases h2 : a < cs.length
   · simp [h2]
   · simp [h2]
 · simp [h]
theorem nextU_write {u : Uni} {r : Rec} (h : (nextU u r).2 = 0) (hk : r.kind ≠ 2) : nextU u r = (⟨u.ep, u.cells.set r.at_.toNat r.e⟩, 0) ∧ (cellAt u.cells r.at_.toNat).kind = 4 ∧ r.at_.toNat < 60 ∧ 0 ≤ r.at_ ∧ r.kind = 1 ∧ checkE r.e = 0 := by
 obtain ⟨hg, hr, _⟩ := nextU_good h
 have h1 := checkU_iff.2 hg
 obtain ⟨e1, e2, e3, _, e4⟩ := checkR_write hr hk
 unfold nextU at h ⊢
 rw [if_neg (by simp [h1]), if_neg (by simp [hr]), if_neg hk] at h ⊢
 split at h
 · cases h
 · rename_i hc
   rw [if_neg hc]
   exact ⟨rfl, Decidable.not_not.1 hc, by omega, e2, e1, e4⟩
theorem nextU_seal {u : Uni} {r : Rec} (h : (nextU u r).2 = 0) (hk : r.kind = 2) : nextU u r = (⟨r.epoch, u.cells⟩, 0) ∧ u.ep < r.epoch ∧ r.epoch ≤ 20 := by
 obtain ⟨hg, hr, _⟩ := nextU_good h
 have h1 := checkU_iff.2 hg
 obtain ⟨e1, e2, _, _⟩ := checkR_seal hr hk
 unfold nextU at h ⊢
 rw [if_neg (by simp [h1]), if_neg (by simp [hr]), if_pos hk] at h ⊢
 split at h
 · cases h
 · rename_i hc
   rw [if_neg hc]
   exact ⟨rfl, by omega, e2⟩
theorem nextU_upon {u : Uni} {r : Rec} (h : (nextU u r).2 = 0) : Upon u (nextU u r).1 := by
 by_cases hk : r.kind = 2
 · obtain ⟨e, h1, _⟩ := nextU_seal h hk
   rw [e]
   exact ⟨by dsimp only; omega, rfl, fun _ _ => rfl⟩
 · obtain ⟨e, h1, h2, h3, _⟩ := nextU_write h hk
   rw [e]
   refine ⟨Int.le_refl _, by simp, fun k hc => ?_⟩
   dsimp only
   rw [cellAt_put, if_neg]
   rintro ⟨rfl, _⟩
   exact hc h1
theorem unitGo_upon : ∀ {l : List Rec} {u v : Uni}, unitGo u l = (v, 0) → Upon u v
 | [], u, v, h => by simp only [unitGo, Prod.mk.injEq, and_true] at h; subst h; exact Upon.rfl' _
 | r :: l, u, v, h => by
   rw [unitGo] at h
   split at h
   · rename_i hb; simp only [Prod.mk.injEq] at h; exact absurd h.2 hb
   · rename_i hb
     exact (nextU_upon (Decidable.not_not.1 hb)).trans (unitGo_upon h)
theorem unitGo_good : ∀ {l : List Rec} {u v : Uni}, GoodU u.ep u.cells → unitGo u l = (v, 0) → GoodU v.ep v.cells
 | [], u, v, hu, h => by simp only [unitGo, Prod.mk.injEq, and_true] at h; subst h; exact hu
 | r :: l, u, v, hu, h => by
   rw [unitGo] at h
   split at h
   · rename_i hb; simp only [Prod.mk.injEq] at h; exact absurd h.2 hb
   · rename_i hb
     exact unitGo_good (nextU_good (Decidable.not_not.1 hb)).2.2 h
def blanks (cs : List Entry) : Nat := cs.countP (fun c => decide (c.kind = 4))
theorem countP_set {α : Type} {p : α → Bool} : ∀ {l : List α} {k : Nat} {x y : α}, l[k]? = some y → p y = true → p x = false → (l.set k x).countP p + 1 = l.countP p
 | [], k, x, y, h, _, _ => by simp at h
 | a :: l, 0, x, y, h, h1, h2 => by
   simp at h; subst h
   rw [List.set_cons_zero, List.countP_cons_of_neg (by simp [h2]), List.countP_cons_of_pos h1]
 | a :: l, k + 1, x, y, h, h1, h2 => by
   have ih := countP_set (l := l) (k := k) (x := x) (y := y) (by simpa using h) h1 h2
   rw [List.set_cons_succ]
   by_cases ha : p a = true
   · rw [List.countP_cons_of_pos ha, List.countP_cons_of_pos ha]; omega
   · rw [List.countP_cons_of_neg ha, List.countP_cons_of_neg ha]; omega
theorem unitGo_few : ∀ {l : List Rec} {u v : Uni}, unitGo u l = (v, 0) → (l.length : Int) + blanks v.cells + u.ep ≤ blanks u.cells + v.ep
 | [], u, v, h => by simp only [unitGo, Prod.mk.injEq, and_true] at h; subst h; simp
 | r :: l, u, v, h => by
   rw [unitGo] at h
   split at h
   · rename_i hb; simp only [Prod.mk.injEq] at h; exact absurd h.2 hb
   · rename_i hb
     have hb := Decidable.not_not.1 hb
     have ih := unitGo_few h
     rw [List.length_cons]
     by_cases hk : r.kind = 2
     · obtain ⟨e, h1, _⟩ := nextU_seal hb hk
       rw [e] at ih
       dsimp only at ih
       omega
     · obtain ⟨e, h1, h2, h3, _, h4⟩ := nextU_write hb hk
       have hl := (nextU_good hb).1.len
       rw [e] at ih
       dsimp only at ih
       have hx : u.cells[r.at_.toNat]? = some u.cells[r.at_.toNat] := List.getElem?_eq_getElem (by omega)
       have hc := cellAt_eq hx
       rw [hc] at h1
       have := checkE_kd h4
       have := countP_set (p := fun c => decide (c.kind = 4)) (x := r.e) hx (by simpa using h1) (by simp; omega)
       unfold blanks at ih ⊢
       omega
theorem unitL_go {l : List Rec} {v : Uni} (h : unitL l = (v, 0)) : unitGo newU l = (v, 0) := by
 unfold unitL at h
 split at h
 · simp at h
 · exact h
theorem unitGo_new_few {l : List Rec} {v : Uni} (h : unitGo newU l = (v, 0)) : l.length ≤ 79 := by
 have h1 := unitGo_few h
 have h2 := (unitGo_good GoodU.new h).e2
 have h3 : blanks newU.cells = 60 := by decide
 rw [h3] at h1
 simp only [newU] at h1
 omega
theorem unitL_of {l : List Rec} {v : Uni} (h : unitGo newU l = (v, 0)) : unitL l = (v, 0) := by
 have := unitGo_new_few h
 unfold unitL
 rw [if_neg (by omega), h]
theorem unitL_good {l : List Rec} {v : Uni} (h : unitL l = (v, 0)) : GoodU v.ep v.cells := unitGo_good GoodU.new (unitL_go h)
theorem unitL_few {l : List Rec} {v : Uni} (h : unitL l = (v, 0)) : l.length ≤ 79 := unitGo_new_few (unitL_go h)
theorem unitGo_recs : ∀ {l : List Rec} {u v : Uni}, unitGo u l = (v, 0) → ∀ r ∈ l, checkR r = 0
 | [], u, v, h, r, hr => by simp at hr
 | r :: l, u, v, h, x, hx => by
   rw [unitGo] at h
   split at h
   · rename_i hb; simp only [Prod.mk.injEq] at h; exact absurd h.2 hb
   · rename_i hb
     rcases List.mem_cons.1 hx with rfl | hx
     · exact (nextU_good (Decidable.not_not.1 hb)).2.1
     · exact unitGo_recs h x hx
theorem unitL_snoc {l : List Rec} {u : Uni} {r : Rec} (h : unitL l = (u, 0)) (hr : (nextU u r).2 = 0) : unitL (l ++ [r]) = ((nextU u r).1, 0) := by
 refine unitL_of ?_
 rw [unitGo_append (unitL_go h), unitGo_cons hr]
 rfl
end
section
set_option linter.unusedSimpArgs false
set_option linter.unusedVariables false
theorem putK_ok {d : Dsk} {r : Rec} (h : checkK d = 0) (hr : checkR r = 0) (hs : d.safe.length + d.wait.length + (textR r).length + 1 ≤ 30000) : putK d r = (⟨d.safe, d.wait ++ textR r ++ [10]⟩, 0) := by
 unfold putK
 rw [if_neg (by simp [h]), printR_ok hr, if_neg (by simp), if_neg (by dsimp only; omega)]
theorem checkK_of {l : List Rec} {t : List UInt8} (h : OkRs l) (hl : l.length ≤ 160) (hs : (txt l).length + t.length ≤ 30000) : checkK ⟨txt l, t⟩ = 0 := checkK_iff.2 ⟨hs, l, h, hl, rfl⟩
theorem syncK_ok {l m : List Rec} (h : OkRs l) (h' : OkRs m) (hl : (l ++ m).length ≤ 160) (hs : (txt l).length + (txt m).length ≤ 30000) : syncK ⟨txt l, txt m⟩ = (⟨txt (l ++ m), []⟩, 0) := by
 have h1 : checkK ⟨txt l, txt m⟩ = 0 := checkK_of h (by rw [List.length_append] at hl; omega) hs
 have e : txt l ++ txt m = txt (l ++ m) := (textP_append _ _ _).symm
 have h2 : checkK ⟨txt (l ++ m), []⟩ = 0 := checkK_of (h.app h') hl (by rw [← e, List.length_append]; simpa using hs)
 unfold syncK
 rw [if_neg (by simp [h1])]
 dsimp only
 rw [e, if_neg (by simp [h2])]
theorem recover_part {l m : List Rec} {k : Nat} (h : OkRs l) (h' : OkRs m) (hl : (l ++ m).length ≤ 160) (hs : (txt l).length + (txt m).length ≤ 30000) (hk : k ≤ (txt m).length) :
    ∃ j, j ≤ m.length ∧ recoverK ⟨txt l, (txt m).take k⟩ = (⟨txt (l ++ m.take j), []⟩, l ++ m.take j, 0) ∧ (k = (txt m).length → j = m.length) := by
 have hl1 : l.length ≤ 160 := by rw [List.length_append] at hl; omega
 have hc : checkK ⟨txt l, (txt m).take k⟩ = 0 := checkK_of h hl1 (by rw [List.length_take]; omega)
 obtain ⟨j, s, h1, h2, h3, h4⟩ := textP_part (fun x hx => textR_no (h' x hx)) hk
 have hj : OkRs (m.take j) := fun x hx => h' x (List.mem_of_mem_take hx)
 have hjl : (m.take j).length = j := by rw [List.length_take]; omega
 have e : linesK ((txt m).take k) (160 - l.length) = (m.take j, (txt (m.take j)).length, if s = [] then 0 else 9) := by
  rw [← h3]
  exact linesK_part hj (by rw [hjl]; rw [List.length_append] at hl; omega) h4
 refine ⟨j, h1, ?_, fun hkm => ?_⟩
 · unfold recoverK backK recsK
   rw [if_neg (by simp [hc])]
   dsimp only
   rw [linesK_all h hl1]
   dsimp only
   rw [e]
   dsimp only
   have : ((txt m).take k).take (txt (m.take j)).length = txt (m.take j) := by rw [← h3]; simp
   rw [this, ← textP_append]
 · subst hkm
   rw [List.take_length] at h2
   have h5 := cut_textP [] (fun x hx => textR_no (h' x hx)) (text := textR)
   rw [List.append_nil] at h5
   have h6 := congrArg List.length (h5.symm.trans h2)
   simp [cutc] at h6
   omega
/-! ### A unit, and its disk -/
structure Holds (u : Uni) (d : Dsk) (l : List Rec) : Prop where
 unit : unitL l = (u, 0)
 disk : d = ⟨txt l, []⟩
theorem Holds.ok {u : Uni} {d : Dsk} {l : List Rec} (h : Holds u d l) : OkRs l := unitGo_recs (unitL_go h.unit)
theorem Holds.few {u : Uni} {d : Dsk} {l : List Rec} (h : Holds u d l) : l.length ≤ 79 := unitL_few h.unit
theorem Holds.size {u : Uni} {d : Dsk} {l : List Rec} (h : Holds u d l) : (txt l).length ≤ 7979 := by
 have := txt_len h.ok; have := h.few; omega
theorem Holds.new : Holds newU noK [] := ⟨rfl, rfl⟩
theorem Holds.put {u : Uni} {d : Dsk} {l : List Rec} {r : Rec} (h : Holds u d l) (hr : checkR r = 0) : putK d r = (⟨txt l, txt [r]⟩, 0) := by
 have h1 := h.size
 have h2 := textR_len hr
 obtain ⟨h0, rfl⟩ := h
 rw [putK_ok (checkK_of (unitGo_recs (unitL_go h0)) (by have := unitL_few h0; omega) (by simp; omega)) hr (by simp; omega)]
 simp [textP]
theorem Holds.next {u : Uni} {d : Dsk} {l : List Rec} {r : Rec} (h : Holds u d l) (hr : (nextU u r).2 = 0) : ∃ d1, putK d r = (d1, 0) ∧ syncK d1 = (⟨txt (l ++ [r]), []⟩, 0) ∧ Holds (nextU u r).1 ⟨txt (l ++ [r]), []⟩ (l ++ [r]) := by
 have hc := (nextU_good hr).2.1
 refine ⟨_, h.put hc, ?_, unitL_snoc h.unit hr, rfl⟩
 have h1 := h.size; have h2 := textR_len hc; have h3 := h.few
 have h4 := txt_len (OkRs.one hc)
 rw [List.length_singleton] at h4
 exact syncK_ok h.ok (OkRs.one hc) (by simp; omega) (by omega)
theorem Holds.back {u : Uni} {d : Dsk} {l : List Rec} (h : Holds u d l) : recoverK d = (d, l, 0) := by
 have h1 := h.size; have h2 := h.few; have h3 := h.ok
 rw [h.disk]
 exact recover_safe h3 (by omega) (by omega)
end
section
set_option linter.unusedSimpArgs false
set_option linter.unusedVariables false
structure Cli where
 epoch : Int
 doing : Int
 e : Entry
 at_ : Int
 link : Int
 played : Int
 b : Book
 deriving DecidableEq
def checkCl (c : Cli) : Int :=
 if c.epoch < 1 ∨ 20 < c.epoch ∨ c.doing < 0 ∨ 2 < c.doing ∨ c.at_ < 0 ∨ 60 ≤ c.at_ ∨ c.link < 0 ∨ 3 ≤ c.link ∨ c.played < 0 ∨ 60 < c.played then 3
 else if checkE c.e ≠ 0 then checkE c.e
 else if (c.doing ≠ 2 ∧ c.at_ + c.link ≠ 0) ∨ (c.doing = 0 ∧ c.e ≠ zeroE) ∨ (c.doing = 1 ∧ c.e.kind = 0) then 4
 else checkB c.b
def restsCl (c : Cli) : Int := if checkCl c ≠ 0 then checkCl c else if c.doing ≠ 0 then 7 else 0
def zeroCl : Cli := ⟨0, 0, zeroE, 0, 0, 0, Book.none⟩
def learnCl (c : Cli) (v : Int) : Cli × Int :=
 if checkCl c ≠ 0 then (zeroCl, checkCl c) else if v < 1 ∨ 20 < v then (zeroCl, 3) else if v ≤ c.epoch then (zeroCl, 8) else (⟨v, c.doing, c.e, c.at_, c.link, c.played, c.b⟩, 0)
def placeCl (c : Cli) (v : Int) : Cli × Int :=
 if checkCl c ≠ 0 then (zeroCl, checkCl c) else if c.doing ≠ 1 then (zeroCl, 7) else if v < 0 ∨ 60 ≤ v then (zeroCl, 5) else (⟨c.epoch, 2, c.e, v, c.link, c.played, c.b⟩, 0)
def fillCl (c : Cli) (v : Int) : Cli × Int :=
 if restsCl c ≠ 0 then (zeroCl, restsCl c) else if v < 0 ∨ 60 ≤ v then (zeroCl, 5) else (⟨c.epoch, 2, c.e, v, c.link, c.played, c.b⟩, 0)
def playCl (c : Cli) (y : Entry) : Cli × Int :=
 if checkCl c ≠ 0 then (zeroCl, checkCl c) else if c.played = 60 then (zeroCl, 2) else if (applyB c.b y).2 ≠ 0 then (zeroCl, (applyB c.b y).2)
 else (⟨c.epoch, c.doing, c.e, c.at_, c.link, c.played + 1, (applyB c.b y).1⟩, 0)
def wantCl (c : Cli) (y : Entry) : Cli × Int :=
 if restsCl c ≠ 0 then (zeroCl, restsCl c) else if checkE y ≠ 0 then (zeroCl, checkE y) else if y.kind = 0 then (zeroCl, 4) else (⟨c.epoch, 1, y, c.at_, c.link, c.played, c.b⟩, 0)
def heardCl (c : Cli) (y : Entry) : Cli × Int :=
 if checkCl c ≠ 0 then (zeroCl, checkCl c) else if checkE y ≠ 0 then (zeroCl, checkE y) else if c.doing ≠ 2 then (zeroCl, 7)
 else if y ≠ c.e ∧ c.e.kind ≠ 0 then (⟨c.epoch, 1, c.e, 0, 0, c.played, c.b⟩, 0)
 else if c.link + 1 = 3 then (⟨c.epoch, 0, zeroE, 0, 0, c.played, c.b⟩, 0)
 else (⟨c.epoch, c.doing, y, c.at_, c.link + 1, c.played, c.b⟩, 0)
def ringM (c : Cli) (me job t : Int) : Cli × Int :=
 match c.b.jobs.find? (fun j => decide (j.id = job)) with
 | some j => if j.next ≤ t then wantCl c ⟨3, job, 0, j.next, me⟩ else (zeroCl, 5)
 | none => (zeroCl, 5)
def ringCl (c : Cli) (me job t : Int) : Cli × Int :=
 if checkCl c ≠ 0 then (zeroCl, checkCl c) else if c.doing ≠ 0 then (zeroCl, 7) else if t < 0 ∨ 100000 < t then (zeroCl, 3) else ringM c me job t
end
section
set_option linter.unusedSimpArgs false
set_option linter.unusedVariables false
def fitC (p u : List Entry) : Prop := ∀ k, k < 60 → (cellAt u k).kind = 4 ∨ cellAt p k = cellAt u k
instance (p u : List Entry) : Decidable (fitC p u) := by unfold fitC; infer_instance
def chainL : Option Uni → List Uni → Int
 | _, [] => 0
 | o, u :: l => if checkU u.ep u.cells ≠ 0 then checkU u.ep u.cells else
   match o with
   | none => chainL (some u) l
   | some p => if fitC p.cells u.cells then chainL (some u) l else 4
def checkC (l : List Uni) : Int := if l.length ≠ 3 then 4 else chainL none l
def aheadU (l : List Uni) (k : Nat) : Option Uni := match k with | 0 => none | k + 1 => l[k]?
theorem chainL_at {o : Option Uni} {l : List Uni} {k : Nat} {u : Uni} (hx : l[k]? = some u) : chainL o (l.drop k) = if checkU u.ep u.cells ≠ 0 then checkU u.ep u.cells else
    match o with
    | none => chainL (some u) (l.drop (k + 1))
    | some p => if fitC p.cells u.cells then chainL (some u) (l.drop (k + 1)) else 4 := by
  obtain ⟨hk, rfl⟩ := List.getElem?_eq_some_iff.1 hx
  rw [List.drop_eq_getElem_cons hk]
  rfl
def zz : Rec × Entry × Int → Int → Rec × Entry × Int := fun _ e => (zeroR, zeroE, e)
def uniAt (l : List Uni) (k : Nat) : Uni := (l[k]?).getD ⟨0, []⟩
theorem uniAt_eq {l : List Uni} {k : Nat} {x : Uni} (h : l[k]? = some x) : uniAt l k = x := by unfold uniAt; rw [h]; rfl
def linkC (l : List Uni) (k at_ : Int) (x : Entry) (epoch : Int) : Rec × Entry × Int :=
 if checkC l ≠ 0 then (zeroR, zeroE, checkC l)
 else if k < 0 ∨ 3 ≤ k ∨ at_ < 0 ∨ 60 ≤ at_ then (zeroR, zeroE, 5)
 else if checkE x ≠ 0 then (zeroR, zeroE, checkE x)
 else if epoch ≠ (uniAt l k.toNat).ep then (zeroR, zeroE, 8)
 else if 0 < k ∧ cellAt (uniAt l (k.toNat - 1)).cells at_.toNat ≠ x then (zeroR, zeroE, 7)
 else if (cellAt (uniAt l k.toNat).cells at_.toNat).kind ≠ 4 then (zeroR, cellAt (uniAt l k.toNat).cells at_.toNat, 0)
 else (⟨1, at_, 0, x⟩, x, 0)
def readC (l : List Uni) (at_ : Int) : Entry × Int :=
 if checkC l ≠ 0 then (zeroE, checkC l)
 else if at_ < 0 ∨ 60 ≤ at_ then (zeroE, 5)
 else if (cellAt (uniAt l 2).cells at_.toNat).kind = 4 then (zeroE, 7)
 else (cellAt (uniAt l 2).cells at_.toNat, 0)
structure GoodC (l : List Uni) : Prop where
 len : l.length = 3
 ok : ∀ u ∈ l, GoodU u.ep u.cells
 fit : ∀ (k : Nat) u v, l[k]? = some u → l[k + 1]? = some v → fitC u.cells v.cells
theorem checkC_iff {l : List Uni} : checkC l = 0 ↔ GoodC l := by
 unfold checkC
 constructor
 · intro h
   split at h
   · cases h
   · rename_i hl
     match l, (by omega : l.length = 3) with
     | [a, b, c], _ =>
       simp only [chainL] at h
       by_cases ha : checkU a.ep a.cells = 0
       · rw [if_neg (by simp [ha])] at h
         by_cases hb : checkU b.ep b.cells = 0
         · rw [if_neg (by simp [hb])] at h
           by_cases hab : fitC a.cells b.cells
           · rw [if_pos hab] at h
             by_cases hc : checkU c.ep c.cells = 0
             · rw [if_neg (by simp [hc])] at h
               by_cases hbc : fitC b.cells c.cells
               · refine ⟨rfl, ?_, ?_⟩
                 · intro u hu
                   simp at hu
                   rcases hu with rfl | rfl | rfl
                   · exact checkU_iff.1 ha
                   · exact checkU_iff.1 hb
                   · exact checkU_iff.1 hc
                 · intro k u v hu hv
                   match k, hu, hv with
                   | 0, hu, hv => simp at hu hv; subst hu; subst hv; exact hab
                   | 1, hu, hv => simp at hu hv; subst hu; subst hv; exact hbc
                   | k + 2, hu, hv => simp at hv
               · rw [if_neg hbc] at h; cases h
             · rw [if_pos hc] at h; exact absurd h hc
           · rw [if_neg hab] at h; cases h
         · rw [if_pos hb] at h; exact absurd h hb
       · rw [if_pos ha] at h; exact absurd h ha
 · intro h
   have hl := h.len
   rw [if_neg (by omega)]
   match l, hl with
   | [a, b, c], _ =>
     have ha := checkU_iff.2 (h.ok a (by simp)); have hb := checkU_iff.2 (h.ok b (by simp)); have hc := checkU_iff.2 (h.ok c (by simp))
     have hab := h.fit 0 a b rfl rfl; have hbc := h.fit 1 b c rfl rfl
     simp [chainL, ha, hb, hc, hab, hbc]
end
section
set_option linter.unusedSimpArgs false
set_option linter.unusedVariables false
structure Nod where
 u : Uni
 d : Dsk
 up : Bool
 deriving DecidableEq, Inhabited
structure Wor where
 n : List Nod
 tip : Int
 c : List Cli
 time : Int
 deriving DecidableEq
structure Hap where
 kind : Int
 client : Int
 n : Int
 job : Int
 epoch : Int
 e : Entry
 deriving DecidableEq, Inhabited
def zeroU : Uni := ⟨0, []⟩
def zeroN : Nod := ⟨zeroU, noK, false⟩
def zeroW : Wor := ⟨[], 0, [], 0⟩
def newCl : Cli := ⟨1, 0, zeroE, 0, 0, 0, Book.none⟩
def newN : Nod := ⟨newU, noK, true⟩
def newW : Wor := ⟨[newN, newN, newN], 0, [newCl, newCl, newCl], 0⟩
def nodAt (l : List Nod) (k : Nat) : Nod := (l[k]?).getD zeroN
def cliAt (l : List Cli) (k : Nat) : Cli := (l[k]?).getD zeroCl
theorem nodAt_eq {l : List Nod} {k : Nat} {x : Nod} (h : l[k]? = some x) : nodAt l k = x := by unfold nodAt; rw [h]; rfl
theorem cliAt_eq {l : List Cli} {k : Nat} {x : Cli} (h : l[k]? = some x) : cliAt l k = x := by unfold cliAt; rw [h]; rfl
def unitsN (l : List Nod) : List Uni := l.map (·.u)
def checkN (n : Nod) : Uni × Int :=
 if checkK n.d ≠ 0 then (zeroU, checkK n.d)
 else if n.up = true ∧ 0 < n.d.wait.length then (zeroU, 4)
 else if (unitL (recoverK ⟨n.d.safe, []⟩).2.1).2 ≠ 0 then (zeroU, (unitL (recoverK ⟨n.d.safe, []⟩).2.1).2)
 else if (unitL (recoverK ⟨n.d.safe, []⟩).2.1).1 ≠ n.u then (zeroU, 4)
 else unitL (recoverK n.d).2.1
def checkNs : Option Uni → List Nod → Int
 | _, [] => 0
 | o, n :: l => if (checkN n).2 ≠ 0 then (checkN n).2 else
   match o with
   | none => checkNs (some n.u) l
   | some p => if fitC p.cells (checkN n).1.cells then checkNs (some n.u) l else 4
def checkCls (ns : List Nod) : List Cli → Int
 | [] => 0
 | c :: l => if checkCl c ≠ 0 then checkCl c
   else if c.doing = 2 ∧ 0 < c.link ∧ cellAt (nodAt ns (c.link.toNat - 1)).u.cells c.at_.toNat ≠ c.e then 4 else checkCls ns l
def checkW (w : Wor) : Int :=
 if w.n.length ≠ 3 ∨ w.c.length ≠ 3 then 4 else if w.tip < 0 ∨ 60 < w.tip ∨ w.time < 0 ∨ 100000 < w.time then 3
 else if checkNs none w.n ≠ 0 then checkNs none w.n else checkCls w.n w.c
def setN (w : Wor) (k : Nat) (n : Nod) : Wor := ⟨w.n.set k n, w.tip, w.c, w.time⟩
def setC (w : Wor) (k : Nat) (c : Cli) : Wor := ⟨w.n, w.tip, w.c.set k c, w.time⟩
def writeN (n : Nod) (r : Rec) : Nod × Int :=
 if (nextU n.u r).2 ≠ 0 then (n, (nextU n.u r).2)
 else if (putK n.d r).2 ≠ 0 then (n, (putK n.d r).2)
 else if (syncK (putK n.d r).1).2 ≠ 0 then (n, (syncK (putK n.d r).1).2)
 else (⟨(nextU n.u r).1, (syncK (putK n.d r).1).1, n.up⟩, 0)
def keepK (d : Dsk) (k : Int) : Int := max 0 (min k d.wait.length)
def tearN (n : Nod) (r : Rec) (k : Int) : Nod × Int :=
 if r.kind = 0 then (n, 6)
 else if (putK n.d r).2 ≠ 0 then (n, (putK n.d r).2)
 else if (crashK (putK n.d r).1 (keepK (putK n.d r).1 k)).2 ≠ 0 then (n, (crashK (putK n.d r).1 (keepK (putK n.d r).1 k)).2)
 else (⟨n.u, (crashK (putK n.d r).1 (keepK (putK n.d r).1 k)).1, false⟩, 0)
def linkQ (w : Wor) (x : Hap) (c : Cli) (n : Nod) (q : Rec × Entry × Int) : Wor × Int :=
 if q.2.2 ≠ 0 then (w, q.2.2)
 else if x.kind = 15 then (setN w c.link.toNat (tearN n q.1 x.n).1, (tearN n q.1 x.n).2)
 else if q.1.kind ≠ 0 ∧ (writeN n q.1).2 ≠ 0 then (w, (writeN n q.1).2)
 else if x.kind = 5 then (if q.1.kind ≠ 0 then setN w c.link.toNat (writeN n q.1).1 else w, 0)
 else if (heardCl c q.2.1).2 ≠ 0 then (w, (heardCl c q.2.1).2)
 else (setC (if q.1.kind ≠ 0 then setN w c.link.toNat (writeN n q.1).1 else w) x.client.toNat (heardCl c q.2.1).1, 0)
def linkW (w : Wor) (x : Hap) : Wor × Int :=
 if (cliAt w.c x.client.toNat).doing ≠ 2 then (w, 7)
 else if (nodAt w.n (cliAt w.c x.client.toNat).link.toNat).up = false then (w, 7)
 else linkQ w x (cliAt w.c x.client.toNat) (nodAt w.n (cliAt w.c x.client.toNat).link.toNat)
  (linkC (unitsN w.n) (cliAt w.c x.client.toNat).link (cliAt w.c x.client.toNat).at_ (cliAt w.c x.client.toNat).e (cliAt w.c x.client.toNat).epoch)
def bootN (n : Nod) : Nod × Int :=
 if (recoverK n.d).2.2 ≠ 0 then (n, (recoverK n.d).2.2)
 else if (unitL (recoverK n.d).2.1).2 ≠ 0 then (n, (unitL (recoverK n.d).2.1).2)
 else (⟨(unitL (recoverK n.d).2.1).1, (recoverK n.d).1, true⟩, 0)
def powerW (w : Wor) (x : Hap) : Wor × Int :=
 if (nodAt w.n x.n.toNat).up = decide (x.kind = 13) then (w, 7)
 else if x.kind = 12 then (setN w x.n.toNat ⟨(nodAt w.n x.n.toNat).u, (nodAt w.n x.n.toNat).d, false⟩, 0)
 else (setN w x.n.toNat (bootN (nodAt w.n x.n.toNat)).1, (bootN (nodAt w.n x.n.toNat)).2)
def putCl (w : Wor) (k : Nat) (r : Cli × Int) : Wor × Int := if r.2 ≠ 0 then (w, r.2) else (setC w k r.1, 0)
def ofUnitW (w : Wor) (x : Hap) : Wor × Int :=
 if x.n < 0 ∨ 3 ≤ x.n then (w, 5)
 else if x.kind = 12 ∨ x.kind = 13 then powerW w x
 else if (nodAt w.n x.n.toNat).up = false then (w, 7)
 else if x.kind = 8 then (setN w x.n.toNat (writeN (nodAt w.n x.n.toNat) ⟨2, 0, x.epoch, zeroE⟩).1, (writeN (nodAt w.n x.n.toNat) ⟨2, 0, x.epoch, zeroE⟩).2)
 else if x.client < 0 ∨ 3 ≤ x.client then (w, 5)
 else putCl w x.client.toNat (learnCl (cliAt w.c x.client.toNat) (nodAt w.n x.n.toNat).u.ep)
def nextPl (w : Wor) (c : Cli) : Cli × Int :=
 if c.played = 60 then (c, 2)
 else if (nodAt w.n 2).up = false then (c, 7)
 else if (readC (unitsN w.n) c.played).2 ≠ 0 then (c, (readC (unitsN w.n) c.played).2)
 else playCl c (readC (unitsN w.n) c.played).1
def ofClientW (w : Wor) (x : Hap) : Wor × Int :=
 if x.client < 0 ∨ 3 ≤ x.client then (w, 5)
 else if x.kind = 4 ∨ x.kind = 5 ∨ x.kind = 15 then linkW w x
 else if x.kind = 1 then (if x.e.kind = 3 then (w, 4) else putCl w x.client.toNat (wantCl (cliAt w.c x.client.toNat) x.e))
 else if x.kind = 2 then putCl w x.client.toNat (ringCl (cliAt w.c x.client.toNat) x.client x.job w.time)
 else if x.kind = 3 then (if w.tip = 60 then (w, 2) else if (placeCl (cliAt w.c x.client.toNat) w.tip).2 ≠ 0 then (w, (placeCl (cliAt w.c x.client.toNat) w.tip).2)
  else (⟨w.n, w.tip + 1, w.c.set x.client.toNat (placeCl (cliAt w.c x.client.toNat) w.tip).1, w.time⟩, 0))
 else if x.kind = 6 then putCl w x.client.toNat (fillCl (cliAt w.c x.client.toNat) x.n)
 else if x.kind = 7 then putCl w x.client.toNat (nextPl w (cliAt w.c x.client.toNat))
 else (setC w x.client.toNat newCl, 0)
def happenW (w : Wor) (x : Hap) : Wor × Int :=
 if x.kind < 1 ∨ 15 < x.kind then (w, 4)
 else if x.kind = 8 ∨ x.kind = 9 ∨ x.kind = 12 ∨ x.kind = 13 then ofUnitW w x
 else if x.kind = 10 then (if x.n < 0 ∨ 60 < x.n then (w, 3) else (⟨w.n, x.n, w.c, w.time⟩, 0))
 else if x.kind = 11 then (if x.n < 1 ∨ 100000 - w.time < x.n then (w, 3) else (⟨w.n, w.tip, w.c, w.time + x.n⟩, 0))
 else ofClientW w x
def doW (w : Wor) (x : Hap) : Wor × Int :=
 if checkW w ≠ 0 then (zeroW, checkW w) else if (happenW w x).2 ≠ 0 then (zeroW, (happenW w x).2) else ((happenW w x).1, 0)
def stepW (w : Wor) (x : Hap) : Wor := if (happenW w x).2 = 0 then (happenW w x).1 else w
def runGo (w : Wor) : List Hap → Wor × List Int
 | [] => (w, [])
 | x :: l => ((runGo (stepW w x) l).1, (happenW w x).2 :: (runGo (stepW w x) l).2)
def runW (w : Wor) (l : List Hap) : Wor × List Int × Int :=
 if checkW w ≠ 0 then (zeroW, [], checkW w) else if 150 < l.length then (zeroW, [], 2) else ((runGo w l).1, (runGo w l).2, 0)
def logOf (w : Wor) : List Entry := (nodAt w.n 2).u.cells.takeWhile fun c => decide (c.kind ≠ 4)
def logW (w : Wor) : List Entry × Int := if checkW w ≠ 0 then ([], checkW w) else (logOf w, 0)
def bookW (w : Wor) : Book × Int := if checkW w ≠ 0 then (Book.none, checkW w) else replay (logOf w)
def holesOf (w : Wor) : List Nat := (List.range (tailU (nodAt w.n 0).u.cells)).filter fun k => decide ((cellAt (nodAt w.n 2).u.cells k).kind = 4)
def holesW (w : Wor) : List Nat × Int := if checkW w ≠ 0 then ([], checkW w) else (holesOf w, 0)
end
section
set_option linter.unusedSimpArgs false
set_option linter.unusedVariables false
theorem link_ok {l : List Uni} {k a : Int} {x : Entry} {ep : Int} {r : Rec} {s : Entry} (h : linkC l k a x ep = (r, s, 0)) :
    GoodC l ∧ 0 ≤ k ∧ k < 3 ∧ 0 ≤ a ∧ a < 60 ∧ checkE x = 0 ∧ ep = (uniAt l k.toNat).ep ∧ (0 < k → cellAt (uniAt l (k.toNat - 1)).cells a.toNat = x) ∧
     ((r = zeroR ∧ s = cellAt (uniAt l k.toNat).cells a.toNat ∧ s.kind ≠ 4) ∨ (r = ⟨1, a, 0, x⟩ ∧ s = x ∧ (cellAt (uniAt l k.toNat).cells a.toNat).kind = 4)) := by
 unfold linkC at h
 by_cases h1 : checkC l ≠ 0
 · rw [if_pos h1] at h; injection h with _ h; injection h with _ h; exact absurd h h1
 · rw [if_neg h1] at h
   by_cases h2 : k < 0 ∨ 3 ≤ k ∨ a < 0 ∨ 60 ≤ a
   · rw [if_pos h2] at h; injection h with _ h; injection h with _ h; cases h
   · rw [if_neg h2] at h
     by_cases h3 : checkE x ≠ 0
     · rw [if_pos h3] at h; injection h with _ h; injection h with _ h; exact absurd h h3
     · rw [if_neg h3] at h
       by_cases h4 : ep ≠ (uniAt l k.toNat).ep
       · rw [if_pos h4] at h; injection h with _ h; injection h with _ h; cases h
       · rw [if_neg h4] at h
         by_cases h5 : 0 < k ∧ cellAt (uniAt l (k.toNat - 1)).cells a.toNat ≠ x
         · rw [if_pos h5] at h; injection h with _ h; injection h with _ h; cases h
         · rw [if_neg h5] at h
           refine ⟨checkC_iff.1 (Decidable.byContradiction h1), by omega, by omega, by omega, by omega, Decidable.byContradiction h3, by omega, fun hk => Decidable.byContradiction fun h => h5 ⟨hk, h⟩, ?_⟩
           by_cases h6 : (cellAt (uniAt l k.toNat).cells a.toNat).kind ≠ 4
           · rw [if_pos h6] at h
             injection h with e1 h; injection h with e2 _
             exact .inl ⟨e1.symm, e2.symm, e2 ▸ h6⟩
           · rw [if_neg h6] at h
             injection h with e1 h; injection h with e2 _
             exact .inr ⟨e1.symm, e2.symm, by omega⟩
theorem cellAt_set {cs : List Entry} {j k : Nat} {x : Entry} (hj : j < cs.length) : cellAt (cs.set j x) k = if k = j then x else cellAt cs k := by
 unfold cellAt
 rw [List.getElem?_set]
 by_cases h : k = j
 · subst h; simp [hj]
 · rw [if_neg (Ne.symm h), if_neg h]
def putU (u : Uni) (j : Nat) (x : Entry) : Uni := ⟨u.ep, u.cells.set j x⟩
theorem next_put {u : Uni} {j : Nat} {x : Entry} (h : GoodU u.ep u.cells) (hj : j < 60) (hx : checkE x = 0) (hb : (cellAt u.cells j).kind = 4) : nextU u ⟨1, j, 0, x⟩ = (putU u j x, 0) := by
 unfold nextU
 rw [if_neg (by simp [checkU_iff.2 h])]
 have hr : checkR ⟨1, j, 0, x⟩ = 0 := by
  unfold checkR
  dsimp only
  rw [if_pos rfl, if_neg (by omega), if_neg (by simp)]
  exact hx
 rw [if_neg (by simp [hr])]
 dsimp only
 rw [if_neg (by omega), Int.toNat_natCast, if_neg (by simp [hb])]
 rfl
theorem good3 {a b c : Uni} (ha : GoodU a.ep a.cells) (hb : GoodU b.ep b.cells) (hc : GoodU c.ep c.cells) (h1 : fitC a.cells b.cells) (h2 : fitC b.cells c.cells) : GoodC [a, b, c] :=
 ⟨rfl, fun u hu => by
  simp at hu
  rcases hu with rfl | rfl | rfl <;> assumption, fun k u v hu hv => by
  match k, hu, hv with
  | 0, hu, hv => simp at hu hv; subst hu; subst hv; exact h1
  | 1, hu, hv => simp at hu hv; subst hu; subst hv; exact h2
  | k + 2, hu, hv => simp at hv⟩
end
section
set_option linter.unusedSimpArgs false
set_option linter.unusedVariables false
def badJ (x : Job) : Prop := x.id < 0 ∨ 6 ≤ x.id ∨ x.every < 1 ∨ 100 < x.every ∨ x.next < 0 ∨ 100100 < x.next
instance (x : Job) : Decidable (badJ x) := by unfold badJ; infer_instance
def badR (r : Rung) : Prop := r.job < 0 ∨ 6 ≤ r.job ∨ r.time < 0 ∨ 100000 < r.time ∨ r.client < 0 ∨ 3 ≤ r.client
theorem checkRs_at {l : List Rung} {k : Nat} {x : Rung} (hx : l[k]? = some x) : checkRs (l.drop k) = if (x.job < 0 ∨ 6 ≤ x.job ∨ x.time < 0 ∨ 100000 < x.time ∨ x.client < 0 ∨ 3 ≤ x.client) then 3 else checkRs (l.drop (k + 1)) := by
 obtain ⟨hk, rfl⟩ := List.getElem?_eq_some_iff.1 hx
 rw [List.drop_eq_getElem_cons hk]
 rfl
theorem checkRs_bad {l : List Rung} {k : Nat} {x : Rung} (hx : l[k]? = some x) (hb : badR x) : checkRs (l.drop k) = 3 := by rw [checkRs_at hx]; exact if_pos hb
theorem checkRs_good {l : List Rung} {k : Nat} {x : Rung} (hx : l[k]? = some x) (hb : ¬ badR x) : checkRs (l.drop k) = checkRs (l.drop (k + 1)) := by rw [checkRs_at hx]; exact if_neg hb
theorem checkJs_at {last : Int} {l : List Job} {k : Nat} {x : Job} (hx : l[k]? = some x) : checkJs last (l.drop k) =
    if badJ x then 3 else if x.id ≤ last then 6 else checkJs x.id (l.drop (k + 1)) := by
 obtain ⟨hk, rfl⟩ := List.getElem?_eq_some_iff.1 hx
 rw [List.drop_eq_getElem_cons hk]
 simp only [checkJs, badJ]
def aheadJ (l : List Job) (k : Nat) : Int := match k with | 0 => -1 | k + 1 => ((l[k]?).map (·.id)).getD 0
theorem findB_def {b : Book} {id : Int} : findB b id = idxI (fun j => decide (j.id = id)) b.jobs := rfl
theorem idxI_found {α : Type} {p : α → Bool} {l : List α} (h : 0 ≤ idxI p l) : ∃ (i : Nat) (x : α), idxI p l = i ∧ l[i]? = some x ∧ p x = true := by
 unfold idxI at h ⊢
 cases hf : l.findIdx? p with
 | none => rw [hf] at h; simp at h
 | some i =>
   obtain ⟨hi, hp, _⟩ := List.findIdx?_eq_some_iff_getElem.1 hf
   exact ⟨i, l[i], by simp, List.getElem?_eq_getElem hi, hp⟩
theorem checkJs_mem {x : Job} : ∀ {l : List Job} {last : Int}, checkJs last l = 0 → x ∈ l → ¬ badJ x
 | [], _, _, h => by simp at h
 | y :: l, last, hc, h => by
   have e : checkJs last (y :: l) = if badJ y then 3 else if y.id ≤ last then 6 else checkJs y.id l := checkJs_at (l := y :: l) (k := 0) rfl
   rw [e] at hc
   split at hc
   · cases hc
   · rename_i hb
     split at hc
     · cases hc
     · rcases List.mem_cons.1 h with rfl | h
       · exact hb
       · exact checkJs_mem hc h
theorem checkB_parts {b : Book} (h : checkB b = 0) : b.jobs.length ≤ 6 ∧ b.rung.length ≤ 60 ∧ checkJs (-1) b.jobs = 0 ∧ checkRs b.rung = 0 := by
 unfold checkB at h
 split at h
 · cases h
 · split at h
   · refine ⟨by omega, by omega, by assumption, h⟩
   · contradiction
theorem posJ_at {l : List Job} {id : Int} {a : Nat} (h : ∀ b y, b < a → l[b]? = some y → y.id < id) (hx : ∀ x, l[a]? = some x → ¬ x.id < id) (ha : a ≤ l.length) : posJ l id = a := by
 induction l generalizing a with
 | nil => simp at ha; subst ha; rfl
 | cons x l ih =>
   cases a with
   | zero =>
     have := hx x rfl
     simp [posJ, List.takeWhile, this]
   | succ a =>
     have h0 := h 0 x (by omega) rfl
     have := ih (a := a) (fun b y hb hy => h (b + 1) y (by omega) (by simpa using hy)) (fun y hy => hx y (by simpa using hy)) (by simpa using ha)
     simp only [posJ, List.takeWhile_cons, h0, decide_true] at this ⊢
     simp [this]
theorem checkJs_cons {x : Job} {l : List Job} {last : Int} : checkJs last (x :: l) = if badJ x then 3 else if x.id ≤ last then 6 else checkJs x.id l := checkJs_at (l := x :: l) (k := 0) rfl
theorem checkJs_iff {l : List Job} : ∀ {last : Int}, checkJs last l = 0 ↔ (∀ x ∈ l, ¬ badJ x) ∧ (∀ x ∈ l, last < x.id) ∧ l.Pairwise (fun a b => a.id < b.id) := by
 induction l with
 | nil => simp [checkJs]
 | cons y l ih =>
   intro last
   rw [checkJs_cons]
   by_cases hb : badJ y
   · rw [if_pos hb]
     simp [hb]
   · rw [if_neg hb]
     by_cases hl : y.id ≤ last
     · rw [if_pos hl]
       constructor
       · intro h; cases h
       · intro h
         have := h.2.1 y (by simp)
         omega
     · rw [if_neg hl, ih, List.pairwise_cons]
       constructor
       · rintro ⟨h1, h2, h3⟩
         exact ⟨by simpa [hb] using h1, by
          intro x hx
          rcases List.mem_cons.1 hx with rfl | hx
          · omega
          · have := h2 x hx; omega, h2, h3⟩
       · rintro ⟨h1, h2, h3, h4⟩
         exact ⟨fun x hx => h1 x (by simp [hx]), h3, h4⟩
theorem checkRs_iff {l : List Rung} : checkRs l = 0 ↔ ∀ x ∈ l, ¬ badR x := by
 induction l with
 | nil => simp [checkRs]
 | cons y l ih =>
   by_cases hb : badR y
   · rw [show checkRs (y :: l) = 3 from checkRs_bad (l := y :: l) (k := 0) rfl hb]; simp [hb]
   · rw [show checkRs (y :: l) = checkRs l from checkRs_good (l := y :: l) (k := 0) rfl hb, ih]; simp [hb]
structure GoodB (b : Book) : Prop where
 nj : b.jobs.length ≤ 6
 nr : b.rung.length ≤ 60
 ok : ∀ x ∈ b.jobs, ¬ badJ x
 ord : b.jobs.Pairwise (fun a c => a.id < c.id)
 rok : ∀ x ∈ b.rung, ¬ badR x
theorem checkB_iff {b : Book} : checkB b = 0 ↔ GoodB b := by
 constructor
 · intro h
   obtain ⟨h1, h2, h3, h4⟩ := checkB_parts h
   obtain ⟨h5, _, h7⟩ := checkJs_iff.1 h3
   exact ⟨h1, h2, h5, h7, checkRs_iff.1 h4⟩
 · rintro ⟨h1, h2, h3, h4, h5⟩
   have e : checkJs (-1) b.jobs = 0 := checkJs_iff.2 ⟨h3, fun x hx => by have := h3 x hx; unfold badJ at this; omega, h4⟩
   unfold checkB
   rw [if_neg (by omega), if_pos e]
   exact checkRs_iff.2 h5
theorem few {l : List Job} : ∀ {lo hi : Int}, lo ≤ hi → (∀ x ∈ l, lo ≤ x.id ∧ x.id < hi) → l.Pairwise (fun a c => a.id < c.id) → (l.length : Int) ≤ hi - lo := by
 induction l with
 | nil => intro lo hi h _ _; simp; omega
 | cons y l ih =>
   intro lo hi h hr hp
   obtain ⟨h1, h2⟩ := List.pairwise_cons.1 hp
   have hy := hr y (by simp)
   have := ih (lo := y.id + 1) (hi := hi) (by omega) (fun x hx => ⟨by have := h1 x hx; omega, (hr x (by simp [hx])).2⟩) h2
   simp only [List.length_cons]
   omega
theorem posJ_split (l : List Job) (id : Int) : l.take (posJ l id) = l.takeWhile (fun j => decide (j.id < id)) ∧ l.drop (posJ l id) = l.dropWhile (fun j => decide (j.id < id)) := by
 have h := List.takeWhile_append_dropWhile (p := fun j : Job => decide (j.id < id)) (l := l)
 unfold posJ
 constructor
 · conv => lhs; arg 2; rw [← h]
   rw [List.take_left]
 · conv => lhs; arg 2; rw [← h]
   rw [List.drop_left]
theorem mem_takeWhile_lt {l : List Job} {id : Int} : ∀ {x : Job}, x ∈ l.takeWhile (fun j => decide (j.id < id)) → x.id < id := by
 induction l with
 | nil => simp
 | cons y l ih =>
   intro x hx
   rw [List.takeWhile_cons] at hx
   split at hx
   · rename_i h
     rcases List.mem_cons.1 hx with rfl | hx
     · simpa using h
     · exact ih hx
   · simp at hx
theorem mem_dropWhile_ge {l : List Job} {id : Int} (hp : l.Pairwise (fun a c => a.id < c.id)) : ∀ {x : Job}, x ∈ l.dropWhile (fun j => decide (j.id < id)) → id ≤ x.id := by
 induction l with
 | nil => simp
 | cons y l ih =>
   intro x hx
   obtain ⟨h1, h2⟩ := List.pairwise_cons.1 hp
   rw [List.dropWhile_cons] at hx
   split at hx
   · exact ih h2 hx
   · rename_i h
     have hy : id ≤ y.id := by simpa using h
     rcases List.mem_cons.1 hx with rfl | hx
     · exact hy
     · have := h1 x hx; omega
theorem findB_neg {b : Book} {id : Int} (h : ¬ 0 ≤ findB b id) : ∀ x ∈ b.jobs, x.id ≠ id := by
 intro x hx e
 unfold findB idxI at h
 cases hf : b.jobs.findIdx? (fun j => decide (j.id = id)) with
 | none =>
   rw [List.findIdx?_eq_none_iff] at hf
   have := hf x hx
   simp [e] at this
 | some i => rw [hf] at h; simp at h
theorem findB_pos {b : Book} {id : Int} (h : 0 ≤ findB b id) : ∃ (i : Nat) (x : Job), findB b id = i ∧ b.jobs[i]? = some x ∧ x.id = id := by
 obtain ⟨i, x, h1, h2, h3⟩ := idxI_found (by rw [← findB_def]; exact h)
 exact ⟨i, x, h1, h2, by simpa using h3⟩
theorem findB_at {b : Book} {i : Nat} {x : Job} (hp : b.jobs.Pairwise (fun a c => a.id < c.id)) (hx : b.jobs[i]? = some x) : findB b x.id = i := by
 rw [findB_def]
 refine idxI_at hx (by simp) (fun j y hj hy => ?_)
 obtain ⟨hi, rfl⟩ := List.getElem?_eq_some_iff.1 hx
 obtain ⟨hj', rfl⟩ := List.getElem?_eq_some_iff.1 hy
 have := List.pairwise_iff_getElem.1 hp j i hj' hi hj
 simp
 omega
theorem checkE_put {e : Entry} (h : checkE e = 0) (hk : e.kind = 1) : 0 ≤ e.job ∧ e.job < 6 ∧ 1 ≤ e.every ∧ e.every ≤ 100 ∧ 0 ≤ e.time ∧ e.time ≤ 100000 := by
 unfold checkE at h
 (repeat' split at h) <;> omega
theorem checkE_ring {e : Entry} (h : checkE e = 0) (hk : e.kind = 3) : 0 ≤ e.job ∧ e.job < 6 ∧ 0 ≤ e.time ∧ e.time ≤ 100000 ∧ 0 ≤ e.client ∧ e.client < 3 := by
 unfold checkE at h
 (repeat' split at h) <;> omega
theorem checkE_kind {e : Entry} (h : checkE e = 0) : e.kind = 0 ∨ e.kind = 1 ∨ e.kind = 2 ∨ e.kind = 3 := by
 unfold checkE at h
 (repeat' split at h) <;> omega
theorem six {l : List Job} (ok : ∀ x ∈ l, ¬ badJ x) (ord : l.Pairwise (fun a c => a.id < c.id)) : l.length ≤ 6 := by
 have := few (lo := 0) (hi := 6) (by omega) (fun x hx => by have := ok x hx; unfold badJ at this; omega) ord
 omega
theorem putJ_good {l : List Job} {e : Job} (ok : ∀ x ∈ l, ¬ badJ x) (ord : l.Pairwise (fun a c => a.id < c.id)) (he : ¬ badJ e) (hn : ∀ x ∈ l, x.id ≠ e.id) :
    (∀ x ∈ l.take (posJ l e.id) ++ [e] ++ l.drop (posJ l e.id), ¬ badJ x) ∧ (l.take (posJ l e.id) ++ [e] ++ l.drop (posJ l e.id)).Pairwise (fun a c => a.id < c.id) := by
 constructor
 · intro x hx
   simp only [List.mem_append, List.mem_singleton] at hx
   rcases hx with (hx | rfl) | hx
   · exact ok x (List.mem_of_mem_take hx)
   · exact he
   · exact ok x (List.mem_of_mem_drop hx)
 · have h1 : ∀ x ∈ l.take (posJ l e.id), x.id < e.id := fun x hx => by rw [(posJ_split l e.id).1] at hx; exact mem_takeWhile_lt hx
   have h2 : ∀ x ∈ l.drop (posJ l e.id), e.id < x.id := fun x hx => by
    have h3 := hn x (List.mem_of_mem_drop hx)
    rw [(posJ_split l e.id).2] at hx
    have := mem_dropWhile_ge ord hx
    omega
   rw [List.append_assoc, List.pairwise_append]
   refine ⟨ord.sublist (List.take_sublist _ _), ?_, ?_⟩
   · rw [List.singleton_append, List.pairwise_cons]
     exact ⟨h2, ord.sublist (List.drop_sublist _ _)⟩
   · intro x hx y hy
     have hx' := h1 x hx
     rcases List.mem_append.1 hy with hy | hy
     · simp at hy; subst hy; exact hx'
     · have := h2 y hy; omega
theorem stepB_good {b : Book} {e : Entry} (hb : GoodB b) (he : checkE e = 0) : GoodB (stepB b e) := by
 unfold stepB
 split
 · rename_i hk
   split
   · exact hb
   · rename_i hf
     have hp := checkE_put he hk
     obtain ⟨h1, h2⟩ := putJ_good (e := ⟨e.job, e.every, e.time⟩) hb.ok hb.ord (by unfold badJ; simp only; omega) (findB_neg hf)
     exact ⟨six h1 h2, hb.nr, h1, h2, hb.rok⟩
 · split
   · split
     · have h1 : ∀ x ∈ b.jobs.take (findB b e.job).toNat ++ b.jobs.drop ((findB b e.job).toNat + 1), ¬ badJ x := fun x hx => by
        rcases List.mem_append.1 hx with hx | hx
        · exact hb.ok x (List.mem_of_mem_take hx)
        · exact hb.ok x (List.mem_of_mem_drop hx)
       have h2 : (b.jobs.take (findB b e.job).toNat ++ b.jobs.drop ((findB b e.job).toNat + 1)).Pairwise (fun a c => a.id < c.id) := by
        rw [← List.eraseIdx_eq_take_drop_succ]
        exact hb.ord.sublist (List.eraseIdx_sublist _ _)
       exact ⟨six h1 h2, hb.nr, h1, h2, hb.rok⟩
     · exact hb
   · split
     · rename_i hk
       have hr := checkE_ring he hk
       split
       · rename_i j hj
         split
         · rename_i hc
           have hjb := hb.ok j (List.mem_of_getElem? hj)
           have h1 : ∀ x ∈ b.jobs.set (findB b e.job).toNat ⟨j.id, j.every, j.next + j.every⟩, ¬ badJ x := fun x hx => by
            rcases List.mem_or_eq_of_mem_set hx with hx | rfl
            · exact hb.ok x hx
            · unfold badJ at hjb ⊢; simp only; omega
           have h2 : (b.jobs.set (findB b e.job).toNat ⟨j.id, j.every, j.next + j.every⟩).Pairwise (fun a c => a.id < c.id) := by
            have hm : (b.jobs.set (findB b e.job).toNat ⟨j.id, j.every, j.next + j.every⟩).map (·.id) = b.jobs.map (·.id) := by
             rw [List.map_set]
             apply List.ext_getElem?
             intro i
             rw [List.getElem?_set]
             split
             · rename_i hi
               subst hi
               rw [List.getElem?_map, hj]
               simp only [List.length_map, Option.map_some]
               rw [if_pos (List.getElem?_eq_some_iff.1 hj).1]
             · rfl
            have := hb.ord
            rw [← List.pairwise_map (f := Job.id) (R := fun a c => a < c)] at this ⊢
            rw [hm]; exact this
           exact ⟨six h1 h2, by simp; omega, h1, h2, fun x hx => by
            rcases List.mem_append.1 hx with hx | hx
            · exact hb.rok x hx
            · simp at hx; subst hx; unfold badR; simp only; omega⟩
         · exact hb
       · exact hb
     · exact hb
end
section
set_option linter.unusedSimpArgs false
set_option linter.unusedVariables false
theorem checkCl_book {c : Cli} (h : checkCl c = 0) : GoodB c.b := by
 unfold checkCl at h
 split at h
 · cases h
 · split at h
   · exact absurd h (by assumption)
   · split at h
     · cases h
     · exact checkB_iff.1 h
theorem restsCl_book {c : Cli} (h : restsCl c = 0) : GoodB c.b := by
 unfold restsCl at h
 split at h
 · exact absurd h (by assumption)
 · exact checkCl_book (Decidable.byContradiction (by assumption))
theorem checkCl_played {c : Cli} (h : checkCl c = 0) : 0 ≤ c.played ∧ c.played ≤ 60 := by
 unfold checkCl at h
 split at h
 · cases h
 · omega
theorem checkCl_link {c : Cli} (h : checkCl c = 0) : 0 ≤ c.link ∧ c.link ≤ 2 := by
 unfold checkCl at h
 split at h
 · cases h
 · omega
theorem checkCl_iff {c : Cli} : checkCl c = 0 ↔ (1 ≤ c.epoch ∧ c.epoch ≤ 20 ∧ 0 ≤ c.doing ∧ c.doing ≤ 2 ∧ 0 ≤ c.at_ ∧ c.at_ < 60 ∧ 0 ≤ c.link ∧ c.link < 3 ∧ 0 ≤ c.played ∧ c.played ≤ 60) ∧ checkE c.e = 0 ∧
    (c.doing ≠ 2 → c.at_ = 0 ∧ c.link = 0) ∧ (c.doing = 0 → c.e = zeroE) ∧ (c.doing = 1 → c.e.kind ≠ 0) ∧ GoodB c.b := by
 unfold checkCl
 constructor
 · intro h
   split at h
   · cases h
   · rename_i h1
     split at h
     · exact absurd h (by assumption)
     · rename_i h2
       split at h
       · cases h
       · rename_i h3
         refine ⟨by omega, by omega, fun h4 => ?_, fun h4 => ?_, fun h4 => ?_, checkB_iff.1 h⟩
         · have : ¬ (c.at_ + c.link ≠ 0) := fun h5 => h3 (Or.inl ⟨h4, h5⟩)
           omega
         · exact Decidable.byContradiction fun h5 => h3 (Or.inr (Or.inl ⟨h4, h5⟩))
         · exact fun h5 => h3 (Or.inr (Or.inr ⟨h4, h5⟩))
 · rintro ⟨h1, h2, h3, h4, h5, h6⟩
   rw [if_neg (by omega), if_neg (by simp [h2]), if_neg, checkB_iff.2 h6]
   rintro (⟨h7, h8⟩ | ⟨h7, h8⟩ | ⟨h7, h8⟩)
   · have := h3 h7; omega
   · exact h8 (h4 h7)
   · exact h5 h7 h8
theorem applyB_good {b : Book} {e : Entry} (hb : GoodB b) (h : (applyB b e).2 = 0) : checkE e = 0 ∧ GoodB (applyB b e).1 := by
 unfold applyB at h ⊢
 rw [if_neg (by simp [checkB_iff.2 hb])] at h ⊢
 by_cases he : checkE e ≠ 0
 · rw [if_pos he] at h; exact absurd h he
 · rw [if_neg he]
   exact ⟨by simpa using he, stepB_good hb (by simpa using he)⟩
theorem playCl_keeps {c : Cli} {x : Entry} (h : (playCl c x).2 = 0) : checkCl c = 0 ∧ c.played < 60 ∧ checkE x = 0 ∧ playCl c x = (⟨c.epoch, c.doing, c.e, c.at_, c.link, c.played + 1, (applyB c.b x).1⟩, 0) ∧ checkCl ⟨c.epoch, c.doing, c.e, c.at_, c.link, c.played + 1, (applyB c.b x).1⟩ = 0 := by
 unfold playCl at h ⊢
 split at h
 · exact absurd h (by assumption)
 · rename_i h1
   have h1' : checkCl c = 0 := by simpa using h1
   have hc := checkCl_iff.1 h1'
   split at h
   · cases h
   · rename_i h2
     split at h
     · exact absurd h (by assumption)
     · rename_i h3
       have hg := applyB_good hc.2.2.2.2.2 (by simpa using h3)
       rw [if_neg h1, if_neg h2, if_neg h3]
       refine ⟨h1', by omega, hg.1, rfl, checkCl_iff.2 ⟨by dsimp only; omega, hc.2.1, hc.2.2.1, hc.2.2.2.1, hc.2.2.2.2.1, hg.2⟩⟩
theorem fillCl_rests {ep dg at_ ln pl : Int} {x : Entry} {b : Book} {v : Int} (h : checkCl ⟨ep, dg, x, at_, ln, pl, b⟩ = 0) (hd : dg = 0) (h0 : 0 ≤ v) (h1 : v < 60) :
    at_ = 0 ∧ ln = 0 ∧ x = zeroE ∧ fillCl ⟨ep, dg, x, at_, ln, pl, b⟩ v = (⟨ep, 2, zeroE, v, 0, pl, b⟩, 0) := by
 have hc := checkCl_iff.1 h
 have h3 := hc.2.2.1; have h4 := hc.2.2.2.1
 dsimp only at h3 h4
 obtain ⟨ha, hl⟩ := h3 (by omega)
 have hx := h4 hd
 refine ⟨ha, hl, hx, ?_⟩
 unfold fillCl restsCl
 rw [if_neg (by simp [h] : ¬ checkCl _ ≠ 0), if_neg (by simp [hd]), if_neg (by omega)]
 simp only [hx, hl]
end
section
set_option linter.unusedSimpArgs false
set_option linter.unusedVariables false
/-! ### Nodes -/
structure NodI (n : Nod) (l m : List Rec) (g : Uni) : Prop where
 ok : OkRs (l ++ m)
 unit : unitL l = (n.u, 0)
 grown : unitL (l ++ m) = (g, 0)
 safe : n.d.safe = txt l
 back : recoverK n.d = (⟨txt (l ++ m), []⟩, l ++ m, 0)
 chk : checkK n.d = 0
 up : n.up = true → n.d.wait = []
theorem OkRs.left {l m : List Rec} (h : OkRs (l ++ m)) : OkRs l := fun x hx => h x (List.mem_append_left _ hx)
theorem safe_back {l m : List Rec} {d : Dsk} (ho : OkRs (l ++ m)) (hs : d.safe = txt l) (hl : l.length ≤ 160) (hc : checkK d = 0) : recoverK ⟨d.safe, []⟩ = (⟨txt l, []⟩, l, 0) := by
 have hb := (checkK_iff.1 hc).1
 rw [hs] at hb ⊢
 exact recover_safe ho.left hl (by omega)
theorem checkN_inv {n : Nod} (h : (checkN n).2 = 0) : ∃ l m, NodI n l m (checkN n).1 := by
 unfold checkN at h ⊢
 by_cases h1 : checkK n.d ≠ 0
 · rw [if_pos h1] at h; exact absurd h h1
 · rw [if_neg h1] at h ⊢
   have h1 := Decidable.not_not.1 h1
   by_cases h2 : n.up = true ∧ 0 < n.d.wait.length
   · rw [if_pos h2] at h; cases h
   · rw [if_neg h2] at h ⊢
     obtain ⟨l, m, hl, hm, hs, hw, hlen, hrec, _⟩ := recover_good h1
     have e1 := safe_back (hl.app hm) hs (by rw [List.length_append] at hlen; omega) h1
     rw [e1, hrec] at h ⊢
     dsimp only at h ⊢
     by_cases h3 : (unitL l).2 ≠ 0
     · rw [if_pos h3] at h; exact absurd h h3
     · rw [if_neg h3] at h ⊢
       have h3 := Decidable.not_not.1 h3
       by_cases h4 : (unitL l).1 ≠ n.u
       · rw [if_pos h4] at h; cases h
       · rw [if_neg h4] at h ⊢
         have h4 := Decidable.not_not.1 h4
         refine ⟨l, m, hl.app hm, Prod.ext h4 h3, Prod.ext rfl h, hs, hrec, h1, fun hu => ?_⟩
         apply List.eq_nil_of_length_eq_zero
         have : ¬ 0 < n.d.wait.length := fun h => h2 ⟨hu, h⟩
         omega
section
variable {n : Nod} {l m : List Rec} {g u : Uni} {d : Dsk} {r : Rec}
theorem NodI.chkN (h : NodI n l m g) : checkN n = (g, 0) := by
 unfold checkN
 have hf := unitL_few h.unit
 rw [if_neg (by simp [h.chk]), if_neg (by rintro ⟨h1, h2⟩; rw [h.up h1] at h2; simp at h2), safe_back h.ok h.safe (by omega) h.chk, h.back]
 dsimp only
 rw [h.unit, if_neg (by simp), if_neg (by simp), h.grown]
theorem NodI.holds (h : NodI n l m g) (hu : n.up = true) : m = [] ∧ g = n.u ∧ Holds n.u n.d l := by
 have hw := h.up hu
 have hf := unitL_few h.unit
 have hd : n.d = ⟨txt l, []⟩ := by rw [← h.safe, ← hw]
 have e := safe_back h.ok h.safe (by omega) h.chk
 rw [← hw] at e
 have hb := h.back
 rw [show (⟨n.d.safe, n.d.wait⟩ : Dsk) = n.d from rfl, hb] at e
 simp only [Prod.mk.injEq, and_true] at e
 have hm : m = [] := by
  have := congrArg List.length e.2
  rw [List.length_append] at this
  exact List.eq_nil_of_length_eq_zero (by omega)
 subst hm
 refine ⟨rfl, ?_, h.unit, hd⟩
 have h1 := h.grown
 rw [List.append_nil, h.unit] at h1
 exact (Prod.mk.inj h1).1.symm
theorem Holds.nodI (h : Holds u d l) (up : Bool) : NodI ⟨u, d, up⟩ l [] u := by
 have h1 := h.back
 have h2 := h.size; have h3 := h.few; have h4 := h.ok
 have h5 := h.disk
 refine ⟨by simpa using h4, h.unit, by simpa using h.unit, by simp [h5], ?_, ?_, by simp [h5]⟩
 · rw [List.append_nil]
   show recoverK d = _
   rw [h1, h5]
 · show checkK d = 0
   rw [h5]
   exact checkK_of h4 (by omega) (by simp; omega)
theorem NodI.down (h : NodI n l m g) : NodI ⟨n.u, n.d, false⟩ l m g := ⟨h.ok, h.unit, h.grown, h.safe, h.back, h.chk, by simp⟩
theorem NodI.gHolds (h : NodI n l m g) : Holds g ⟨txt (l ++ m), []⟩ (l ++ m) := ⟨h.grown, rfl⟩
theorem NodI.boot (h : NodI n l m g) : bootN n = (⟨g, ⟨txt (l ++ m), []⟩, true⟩, 0) := by
 unfold bootN
 rw [h.back]
 dsimp only
 rw [h.grown]
 simp
theorem NodI.good (h : NodI n l m g) : GoodU n.u.ep n.u.cells ∧ GoodU g.ep g.cells := ⟨unitL_good h.unit, unitL_good h.grown⟩
theorem NodI.upon (h : NodI n l m g) : Upon n.u g := by
 have h1 := unitL_go h.grown
 rw [unitGo_append (unitL_go h.unit)] at h1
 exact unitGo_upon h1
theorem Holds.write (h : Holds n.u n.d l) (hr : (nextU n.u r).2 = 0) : writeN n r = (⟨(nextU n.u r).1, ⟨txt (l ++ [r]), []⟩, n.up⟩, 0) ∧ Holds (nextU n.u r).1 ⟨txt (l ++ [r]), []⟩ (l ++ [r]) := by
 obtain ⟨d1, h1, h2, h3⟩ := h.next hr
 refine ⟨?_, h3⟩
 unfold writeN
 rw [if_neg (by simp [hr]), h1]
 dsimp only
 rw [h2]
 simp
theorem Holds.tear (h : Holds n.u n.d l) (hr : (nextU n.u r).2 = 0) (k : Int) : ∃ j, tearN n r k = (⟨n.u, ⟨txt l, (txt [r]).take j⟩, false⟩, 0) ∧
    (NodI ⟨n.u, ⟨txt l, (txt [r]).take j⟩, false⟩ l [] n.u ∨ NodI ⟨n.u, ⟨txt l, (txt [r]).take j⟩, false⟩ l [r] (nextU n.u r).1) := by
 have hc := (nextU_good hr).2.1
 have hk0 : r.kind ≠ 0 := by
  intro e
  unfold checkR at hc
  rw [if_neg (by omega), if_neg (by omega)] at hc
  cases hc
 have h1 := h.put hc
 have h2 := h.size; have h3 := h.few; have h4 := h.ok
 have h5 := txt_len (OkRs.one hc)
 rw [List.length_singleton] at h5
 have hck : checkK ⟨txt l, txt [r]⟩ = 0 := checkK_of h4 (by omega) (by omega)
 have hkeep : 0 ≤ keepK ⟨txt l, txt [r]⟩ k ∧ keepK ⟨txt l, txt [r]⟩ k ≤ (txt [r]).length := by
  unfold keepK
  dsimp only
  omega
 obtain ⟨q, hq⟩ : ∃ q, q = keepK ⟨txt l, txt [r]⟩ k := ⟨_, rfl⟩
 rw [← hq] at hkeep
 refine ⟨q.toNat, ?_, ?_⟩
 · unfold tearN
   rw [if_neg hk0, h1]
   dsimp only
   rw [if_neg (by simp), ← hq]
   have : crashK ⟨txt l, txt [r]⟩ q = (⟨txt l, (txt [r]).take q.toNat⟩, 0) := by
    unfold crashK
    rw [if_neg (by simp [hck])]
    dsimp only
    rw [if_neg (by omega)]
   rw [this, if_neg (by simp)]
 · obtain ⟨j, j1, j2, _⟩ := recover_part (l := l) (m := [r]) (k := q.toNat) h4 (OkRs.one hc) (by rw [List.length_append]; simp; omega) (by omega) (by omega)
   have hcc : checkK ⟨txt l, (txt [r]).take q.toNat⟩ = 0 := checkK_of h4 (by omega) (by rw [List.length_take]; omega)
   simp only [List.length_singleton] at j1
   rcases (by omega : j = 0 ∨ j = 1) with rfl | rfl
   · left
     exact ⟨by simpa using h4, h.unit, by simpa using h.unit, rfl, by simpa using j2, hcc, by simp⟩
   · right
     exact ⟨h4.app (OkRs.one hc), h.unit, unitL_snoc h.unit hr, rfl, by simpa using j2, hcc, by simp⟩
end
/-! ### Worlds -/
def OkCl (ns : List Nod) (c : Cli) : Prop := checkCl c = 0 ∧ (c.doing = 2 → 0 < c.link → cellAt (nodAt ns (c.link.toNat - 1)).u.cells c.at_.toNat = c.e)
abbrev gr (n : Nod) : Uni := (checkN n).1
structure GoodW (w : Wor) : Prop where
 n3 : w.n.length = 3
 c3 : w.c.length = 3
 tip0 : 0 ≤ w.tip
 tip1 : w.tip ≤ 60
 t0 : 0 ≤ w.time
 t1 : w.time ≤ 100000
 node : ∀ k, k < 3 → (checkN (nodAt w.n k)).2 = 0
 fit : ∀ k, k < 2 → fitC (nodAt w.n k).u.cells (gr (nodAt w.n (k + 1))).cells
 cli : ∀ k, k < 3 → OkCl w.n (cliAt w.c k)
theorem checkNs3 {a b c : Nod} : checkNs none [a, b, c] = 0 ↔ (checkN a).2 = 0 ∧ (checkN b).2 = 0 ∧ (checkN c).2 = 0 ∧ fitC a.u.cells (checkN b).1.cells ∧ fitC b.u.cells (checkN c).1.cells := by
 by_cases h1 : (checkN a).2 = 0
 · by_cases h2 : (checkN b).2 = 0
   · by_cases h3 : (checkN c).2 = 0
     · by_cases h4 : fitC a.u.cells (checkN b).1.cells
       · by_cases h5 : fitC b.u.cells (checkN c).1.cells <;> simp [checkNs, h1, h2, h3, h4, h5]
       · simp [checkNs, h1, h2, h3, h4]
     · by_cases h4 : fitC a.u.cells (checkN b).1.cells <;> simp [checkNs, h1, h2, h3, h4]
   · simp [checkNs, h1, h2]
 · simp [checkNs, h1]
theorem checkCls_iff {ns : List Nod} : ∀ {l : List Cli}, checkCls ns l = 0 ↔ ∀ c ∈ l, OkCl ns c
 | [] => by simp [checkCls]
 | c :: l => by
   rw [checkCls, List.forall_mem_cons, ← checkCls_iff]
   by_cases h1 : checkCl c ≠ 0
   · rw [if_pos h1]
     exact ⟨fun h => absurd h h1, fun h => absurd h.1.1 h1⟩
   · rw [if_neg h1]
     have h1 := Decidable.not_not.1 h1
     by_cases h2 : c.doing = 2 ∧ 0 < c.link ∧ cellAt (nodAt ns (c.link.toNat - 1)).u.cells c.at_.toNat ≠ c.e
     · rw [if_pos h2]
       exact ⟨fun h => (by cases h), fun h => absurd (h.1.2 h2.1 h2.2.1) h2.2.2⟩
     · rw [if_neg h2]
       exact ⟨fun h => ⟨⟨h1, fun a b => Decidable.byContradiction fun e => h2 ⟨a, b, e⟩⟩, h⟩, fun h => h.2⟩
theorem len3 {α : Type} {l : List α} (h : l.length = 3) : ∃ a b c, l = [a, b, c] := by
 match l, h with
 | [a, b, c], _ => exact ⟨a, b, c, rfl⟩
theorem lt3 {k : Nat} (h : k < 3) : k = 0 ∨ k = 1 ∨ k = 2 := by omega
theorem checkW_iff {w : Wor} : checkW w = 0 ↔ GoodW w := by
 unfold checkW
 constructor
 · intro h
   split at h
   · cases h
   · rename_i h1
     split at h
     · cases h
     · rename_i h2
       split at h
       · rename_i h3; exact absurd h h3
       · rename_i h3
         have h3 := Decidable.not_not.1 h3
         have hn : w.n.length = 3 := by omega
         have hc : w.c.length = 3 := by omega
         obtain ⟨a, b, c, e⟩ := len3 hn
         obtain ⟨x, y, z, e'⟩ := len3 hc
         rw [e] at h3
         obtain ⟨g1, g2, g3, g4, g5⟩ := checkNs3.1 h3
         have hcl := checkCls_iff.1 h
         refine ⟨hn, hc, by omega, by omega, by omega, by omega, ?_, ?_, ?_⟩
         · intro k hk
           rw [e]
           rcases lt3 hk with rfl | rfl | rfl
           · exact g1
           · exact g2
           · exact g3
         · intro k hk
           rw [e]
           rcases (by omega : k = 0 ∨ k = 1) with rfl | rfl
           · exact g4
           · exact g5
         · intro k hk
           rw [e'] at hcl ⊢
           rcases lt3 hk with rfl | rfl | rfl
           · exact hcl x (by simp)
           · exact hcl y (by simp)
           · exact hcl z (by simp)
 · intro h
   have h1 := h.n3; have h2 := h.c3; have h3 := h.tip0; have h4 := h.tip1; have h5 := h.t0; have h6 := h.t1
   obtain ⟨a, b, c, e⟩ := len3 h1
   obtain ⟨x, y, z, e'⟩ := len3 h2
   have hn := h.node; have hf := h.fit; have hcl := h.cli
   rw [if_neg (by omega), if_neg (by omega)]
   have : checkNs none w.n = 0 := by
    rw [e] at hn hf ⊢
    exact checkNs3.2 ⟨hn 0 (by omega), hn 1 (by omega), hn 2 (by omega), hf 0 (by omega), hf 1 (by omega)⟩
   rw [if_neg (by simp [this])]
   refine checkCls_iff.2 fun q hq => ?_
   rw [e'] at hq hcl
   simp only [List.mem_cons, List.not_mem_nil, or_false] at hq
   rcases hq with rfl | rfl | rfl
   · exact hcl 0 (by omega)
   · exact hcl 1 (by omega)
   · exact hcl 2 (by omega)
theorem nodAt_set {l : List Nod} {k j : Nat} {n : Nod} (hk : k < l.length) : nodAt (l.set k n) j = if j = k then n else nodAt l j := by
 unfold nodAt
 rw [List.getElem?_set]
 by_cases h : k = j
 · subst h; simp [hk]
 · rw [if_neg h, if_neg (Ne.symm h)]
theorem cliAt_set {l : List Cli} {k j : Nat} {n : Cli} (hk : k < l.length) : cliAt (l.set k n) j = if j = k then n else cliAt l j := by
 unfold cliAt
 rw [List.getElem?_set]
 by_cases h : k = j
 · subst h; simp [hk]
 · rw [if_neg h, if_neg (Ne.symm h)]
theorem nodAt_self {l : List Nod} {k : Nat} : l.set k (nodAt l k) = l := by
 apply List.ext_getElem?
 intro i
 rw [List.getElem?_set]
 by_cases h : k = i
 · subst h
   rw [if_pos rfl]
   split
   · rename_i hk
     unfold nodAt
     rw [List.getElem?_eq_getElem hk]; rfl
   · rename_i hk
     rw [List.getElem?_eq_none (by omega)]
 · rw [if_neg h]
theorem setN_self {w : Wor} {k : Nat} : setN w k (nodAt w.n k) = w := by unfold setN; rw [nodAt_self]
theorem uniAt_units {ns : List Nod} {k : Nat} : uniAt (unitsN ns) k = (nodAt ns k).u := by
 unfold uniAt unitsN nodAt
 rw [List.getElem?_map]
 cases ns[k]? <;> rfl
theorem fitC.upon {p p' u : Uni} (h : fitC p.cells u.cells) (hp : Upon p p') : fitC p'.cells u.cells := fun k hk => by
 rcases h k hk with e | e
 · exact .inl e
 · by_cases h4 : (cellAt u.cells k).kind = 4
   · exact .inl h4
   · exact .inr ((hp.cell k (by rw [e]; exact h4)).trans e)
theorem OkCl.kind {ns : List Nod} {c : Cli} (h : OkCl ns c) : 0 ≤ c.e.kind ∧ c.e.kind ≤ 3 := checkE_kd (checkCl_iff.1 h.1).2.1
theorem OkCl.upon {ns ns' : List Nod} {c : Cli} (h : OkCl ns c) (hu : ∀ j, Upon (nodAt ns j).u (nodAt ns' j).u) : OkCl ns' c :=
 ⟨h.1, fun h1 h2 => by
  have e := h.2 h1 h2
  have hk := h.kind
  rw [(hu _).cell _ (by rw [e]; omega)]
  exact e⟩
theorem setN_upon {w : Wor} {k : Nat} {n' : Nod} (hk : k < w.n.length) (h4 : Upon (nodAt w.n k).u n'.u) : ∀ j, Upon (nodAt w.n j).u (nodAt (setN w k n').n j).u := fun j => by
 show Upon _ (nodAt (w.n.set k n') j).u
 rw [nodAt_set hk]
 split
 · rename_i h; subst h; exact h4
 · exact Upon.rfl' _
theorem GoodW.setN {w : Wor} (h : GoodW w) {k : Nat} {n' : Nod} (hk : k < 3) (h1 : (checkN n').2 = 0) (h2 : 0 < k → fitC (nodAt w.n (k - 1)).u.cells (gr n').cells) (h4 : Upon (nodAt w.n k).u n'.u) : GoodW (setN w k n') := by
 have hl := h.n3
 have hu := setN_upon (w := w) (k := k) (n' := n') (by omega) h4
 refine ⟨by simp [Go.Proofs.YtmppkaoonncddaaGreatDoor.setN, hl], h.c3, h.tip0, h.tip1, h.t0, h.t1, fun j hj => ?_, fun j hj => ?_, fun j hj => (h.cli j hj).upon hu⟩
 · show (checkN (nodAt (w.n.set k n') j)).2 = 0
   rw [nodAt_set (by omega)]
   split
   · exact h1
   · exact h.node j hj
 · show fitC (nodAt (w.n.set k n') j).u.cells (gr (nodAt (w.n.set k n') (j + 1))).cells
   have hf := h.fit j hj
   by_cases e : j + 1 = k
   · subst e
     rw [nodAt_set (by omega), nodAt_set (by omega), if_neg (by omega), if_pos rfl]
     exact h2 (by omega)
   · rw [nodAt_set (j := j + 1) (by omega), if_neg e]
     exact hf.upon (hu j)
theorem GoodW.setC {w : Wor} (h : GoodW w) {i : Nat} {c' : Cli} (hc : OkCl w.n c') : GoodW (setC w i c') := by
 have hl := h.c3
 refine ⟨h.n3, by simp [Go.Proofs.YtmppkaoonncddaaGreatDoor.setC, hl], h.tip0, h.tip1, h.t0, h.t1, h.node, h.fit, fun j hj => ?_⟩
 show OkCl w.n (cliAt (w.c.set i c') j)
 by_cases hi : i < w.c.length
 · rw [cliAt_set hi]
   split
   · exact hc
   · exact h.cli j hj
 · rw [List.set_eq_of_length_le (by omega)]
   exact h.cli j hj
theorem GoodW.chain {w : Wor} (h : GoodW w) : GoodC (unitsN w.n) := by
 have hn := h.node; have hf := h.fit
 obtain ⟨a, b, c, e⟩ := len3 h.n3
 rw [e] at hn hf ⊢
 obtain ⟨la, ma, ia⟩ := checkN_inv (hn 0 (by omega))
 obtain ⟨lb, mb, ib⟩ := checkN_inv (hn 1 (by omega))
 obtain ⟨lc, mc, ic⟩ := checkN_inv (hn 2 (by omega))
 have fb := hf 0 (by omega); have fc := hf 1 (by omega)
 have down : ∀ {p u g : Uni}, fitC p.cells g.cells → Upon u g → fitC p.cells u.cells := fun {p u g} h hu k hk => by
  by_cases h4 : (cellAt u.cells k).kind = 4
  · exact .inl h4
  · have e := hu.cell k h4
    rcases h k hk with e1 | e1
    · rw [e] at e1; exact absurd e1 h4
    · exact .inr (e1.trans e)
 exact good3 ia.good.1 ib.good.1 ic.good.1 (down fb ib.upon) (down fc ic.upon)
theorem GoodW.new : GoodW newW := by
 have hn : NodI newN [] [] newU := Holds.new.nodI true
 have hc : (checkN newN).2 = 0 := by rw [hn.chkN]
 have hg : gr newN = newU := by unfold gr; rw [hn.chkN]
 refine ⟨rfl, rfl, by decide, by decide, by decide, by decide, fun k hk => ?_, fun k hk => ?_, fun k hk => ?_⟩
 · rcases lt3 hk with rfl | rfl | rfl <;> exact hc
 · have : fitC newU.cells newU.cells := fun _ _ => .inr rfl
   rcases (by omega : k = 0 ∨ k = 1) with rfl | rfl
   · show fitC newU.cells (gr newN).cells; rw [hg]; exact this
   · show fitC newU.cells (gr newN).cells; rw [hg]; exact this
 · have h1 : checkCl newCl = 0 := by decide
   have : OkCl newW.n newCl := ⟨h1, fun h => by simp [newCl] at h⟩
   rcases lt3 hk with rfl | rfl | rfl <;> exact this
end
section
set_option linter.unusedSimpArgs false
set_option linter.unusedVariables false
theorem link_inv {w : Wor} {x : Hap} (h : GoodW w) (hi : x.client.toNat < 3) (hx : (linkW w x).2 = 0) :
    ∃ (i k a : Nat) (c : Cli) (n : Nod) (r : Rec), i = x.client.toNat ∧ c = cliAt w.c i ∧ c.doing = 2 ∧ c.link = k ∧ k < 3 ∧ n = nodAt w.n k ∧ n.up = true ∧ c.at_ = a ∧ a < 60 ∧ checkE c.e = 0 ∧ c.epoch = n.u.ep ∧
     (0 < k → cellAt (nodAt w.n (k - 1)).u.cells a = c.e) ∧ r = ⟨1, a, 0, c.e⟩ ∧
     (((cellAt n.u.cells a).kind ≠ 4 ∧ x.kind ≠ 15 ∧ ((x.kind = 5 ∧ (linkW w x).1 = w) ∨ (x.kind ≠ 5 ∧ (heardCl c (cellAt n.u.cells a)).2 = 0 ∧ (linkW w x).1 = setC w i (heardCl c (cellAt n.u.cells a)).1))) ∨
      ((cellAt n.u.cells a).kind = 4 ∧ nextU n.u r = (putU n.u a c.e, 0) ∧
       ((x.kind = 15 ∧ (linkW w x).1 = setN w k (tearN n r x.n).1) ∨ (x.kind = 5 ∧ (linkW w x).1 = setN w k (writeN n r).1) ∨ (x.kind ≠ 15 ∧ x.kind ≠ 5 ∧ (heardCl c c.e).2 = 0 ∧ (linkW w x).1 = setC (setN w k (writeN n r).1) i (heardCl c c.e).1)))) := by
 obtain ⟨i, hii⟩ : ∃ i, i = x.client.toNat := ⟨_, rfl⟩
 obtain ⟨c, hc⟩ : ∃ c, c = cliAt w.c i := ⟨_, rfl⟩
 have hcl : OkCl w.n c := by rw [hc]; exact h.cli i (by omega)
 have hci := checkCl_iff.1 hcl.1
 obtain ⟨k, hk⟩ : ∃ k : Nat, c.link = k := ⟨c.link.toNat, by omega⟩
 obtain ⟨a, ha⟩ : ∃ a : Nat, c.at_ = a := ⟨c.at_.toNat, by omega⟩
 have hk3 : k < 3 := by omega
 have ha6 : a < 60 := by omega
 obtain ⟨n, hn⟩ : ∃ n, n = nodAt w.n k := ⟨_, rfl⟩
 unfold linkW at hx ⊢
 rw [← hii, ← hc, hk, ha, Int.toNat_natCast, ← hn] at hx ⊢
 by_cases h1 : c.doing ≠ 2
 · rw [if_pos h1] at hx; cases hx
 · rw [if_neg h1] at hx ⊢
   by_cases h2 : n.up = false
   · rw [if_pos h2] at hx; cases hx
   · rw [if_neg h2] at hx ⊢
     have hup : n.up = true := by simpa using h2
     obtain ⟨q, hq⟩ : ∃ q, q = linkC (unitsN w.n) (k : Int) (a : Int) c.e c.epoch := ⟨_, rfl⟩
     rw [← hq] at hx ⊢
     unfold linkQ at hx ⊢
     rw [hk, Int.toNat_natCast, ← hii] at hx ⊢
     by_cases h3 : q.2.2 ≠ 0
     · rw [if_pos h3] at hx; exact absurd hx h3
     · rw [if_neg h3] at hx ⊢
       have h3 := Decidable.not_not.1 h3
       obtain ⟨r, s, e⟩ := q
       dsimp only at h3 hx ⊢
       subst h3
       obtain ⟨_, _, _, _, _, he, hep, hfr, hcase⟩ := link_ok hq.symm
       simp only [Int.toNat_natCast, uniAt_units] at hep hfr hcase
       rw [← hn] at hep hcase
       obtain ⟨l, m, hI⟩ := checkN_inv (h.node k hk3)
       rw [← hn] at hI
       refine ⟨i, k, a, c, n, ⟨1, a, 0, c.e⟩, rfl, hc, Decidable.not_not.1 h1, hk, hk3, hn, hup, ha, ha6, he, hep, fun h0 => hfr (by omega), rfl, ?_⟩
       rcases hcase with ⟨rfl, rfl, h4⟩ | ⟨rfl, rfl, h4⟩
       · left
         by_cases h5 : x.kind = 15
         · rw [if_pos h5] at hx
           have : (tearN n zeroR x.n).2 = 6 := by unfold tearN; rw [if_pos (show zeroR.kind = 0 from rfl)]
           dsimp only at hx; omega
         · have hz : ¬ zeroR.kind ≠ 0 := by simp [zeroR]
           rw [if_neg h5, if_neg (fun h => hz h.1)] at hx ⊢
           refine ⟨h4, h5, ?_⟩
           by_cases h6 : x.kind = 5
           · rw [if_pos h6]
             exact .inl ⟨h6, by dsimp only; exact if_neg hz⟩
           · rw [if_neg h6] at hx ⊢
             by_cases h7 : (heardCl c (cellAt n.u.cells a)).2 ≠ 0
             · rw [if_pos h7] at hx; exact absurd hx h7
             · rw [if_neg h7, if_neg hz]
               exact .inr ⟨h6, Decidable.not_not.1 h7, rfl⟩
       · right
         have hnx : nextU n.u ⟨1, a, 0, c.e⟩ = (putU n.u a c.e, 0) := next_put hI.good.1 ha6 he h4
         refine ⟨h4, hnx, ?_⟩
         by_cases h5 : x.kind = 15
         · rw [if_pos h5]
           exact .inl ⟨h5, rfl⟩
         · rw [if_neg h5] at hx ⊢
           by_cases h8 : (1 : Int) ≠ 0 ∧ (writeN n ⟨1, a, 0, c.e⟩).2 ≠ 0
           · dsimp only at hx
             rw [if_pos h8] at hx; exact absurd hx h8.2
           · dsimp only at hx ⊢
             rw [if_neg h8] at hx ⊢
             right
             by_cases h6 : x.kind = 5
             · rw [if_pos h6]
               exact .inl ⟨h6, by dsimp only; exact if_pos (by decide)⟩
             · rw [if_neg h6] at hx ⊢
               by_cases h7 : (heardCl c c.e).2 ≠ 0
               · rw [if_pos h7] at hx; exact absurd hx h7
               · rw [if_neg h7, if_pos (by decide)]
                 exact .inr ⟨h5, h6, Decidable.not_not.1 h7, rfl⟩
structure NStep (n n' : Nod) : Prop where
 ok : (checkN n').2 = 0
 up : Upon n.u n'.u
theorem happen_inv {w : Wor} {x : Hap} (hx : (happenW w x).2 = 0) :
    (x.kind = 10 ∧ 0 ≤ x.n ∧ x.n ≤ 60 ∧ (happenW w x).1 = ⟨w.n, x.n, w.c, w.time⟩) ∨
    (x.kind = 11 ∧ 1 ≤ x.n ∧ x.n ≤ 100000 - w.time ∧ (happenW w x).1 = ⟨w.n, w.tip, w.c, w.time + x.n⟩) ∨
    (∃ k : Nat, k < 3 ∧ x.n = k ∧
     ((x.kind = 12 ∧ (nodAt w.n k).up = true ∧ (happenW w x).1 = setN w k ⟨(nodAt w.n k).u, (nodAt w.n k).d, false⟩) ∨
      (x.kind = 13 ∧ (nodAt w.n k).up = false ∧ (bootN (nodAt w.n k)).2 = 0 ∧ (happenW w x).1 = setN w k (bootN (nodAt w.n k)).1) ∨
      (x.kind = 8 ∧ (nodAt w.n k).up = true ∧ (writeN (nodAt w.n k) ⟨2, 0, x.epoch, zeroE⟩).2 = 0 ∧ (happenW w x).1 = setN w k (writeN (nodAt w.n k) ⟨2, 0, x.epoch, zeroE⟩).1) ∨
      (x.kind = 9 ∧ (nodAt w.n k).up = true ∧ ∃ i : Nat, i < 3 ∧ x.client = i ∧ (learnCl (cliAt w.c i) (nodAt w.n k).u.ep).2 = 0 ∧ (happenW w x).1 = setC w i (learnCl (cliAt w.c i) (nodAt w.n k).u.ep).1))) ∨
    (∃ i : Nat, i < 3 ∧ x.client = i ∧
     (((x.kind = 4 ∨ x.kind = 5 ∨ x.kind = 15) ∧ (linkW w x).2 = 0 ∧ (happenW w x).1 = (linkW w x).1) ∨
      (x.kind = 1 ∧ x.e.kind ≠ 3 ∧ (wantCl (cliAt w.c i) x.e).2 = 0 ∧ (happenW w x).1 = setC w i (wantCl (cliAt w.c i) x.e).1) ∨
      (x.kind = 2 ∧ (ringCl (cliAt w.c i) i x.job w.time).2 = 0 ∧ (happenW w x).1 = setC w i (ringCl (cliAt w.c i) i x.job w.time).1) ∨
      (x.kind = 3 ∧ w.tip ≠ 60 ∧ (placeCl (cliAt w.c i) w.tip).2 = 0 ∧ (happenW w x).1 = ⟨w.n, w.tip + 1, w.c.set i (placeCl (cliAt w.c i) w.tip).1, w.time⟩) ∨
      (x.kind = 6 ∧ (fillCl (cliAt w.c i) x.n).2 = 0 ∧ (happenW w x).1 = setC w i (fillCl (cliAt w.c i) x.n).1) ∨
      (x.kind = 7 ∧ (nextPl w (cliAt w.c i)).2 = 0 ∧ (happenW w x).1 = setC w i (nextPl w (cliAt w.c i)).1) ∨
      (x.kind = 14 ∧ (happenW w x).1 = setC w i newCl))) := by
 have put : ∀ {k : Nat} {r : Cli × Int}, (putCl w k r).2 = 0 → r.2 = 0 ∧ (putCl w k r).1 = setC w k r.1 := fun {k r} h => by
  unfold putCl at h ⊢
  by_cases h1 : r.2 ≠ 0
  · rw [if_pos h1] at h; exact absurd h h1
  · rw [if_neg h1]; exact ⟨Decidable.not_not.1 h1, rfl⟩
 unfold happenW at hx ⊢
 by_cases h1 : x.kind < 1 ∨ 15 < x.kind
 · rw [if_pos h1] at hx; cases hx
 · rw [if_neg h1] at hx ⊢
   by_cases h2 : x.kind = 8 ∨ x.kind = 9 ∨ x.kind = 12 ∨ x.kind = 13
   · rw [if_pos h2] at hx ⊢
     right; right; left
     unfold ofUnitW at hx ⊢
     by_cases h3 : x.n < 0 ∨ 3 ≤ x.n
     · rw [if_pos h3] at hx; cases hx
     · rw [if_neg h3] at hx ⊢
       obtain ⟨k, hk⟩ : ∃ k : Nat, x.n = k := ⟨x.n.toNat, by omega⟩
       refine ⟨k, by omega, hk, ?_⟩
       unfold powerW at hx ⊢
       rw [hk, Int.toNat_natCast] at hx ⊢
       by_cases h4 : x.kind = 12 ∨ x.kind = 13
       · rw [if_pos h4] at hx ⊢
         by_cases h5 : (nodAt w.n k).up = decide (x.kind = 13)
         · rw [if_pos h5] at hx; cases hx
         · rw [if_neg h5] at hx ⊢
           by_cases h6 : x.kind = 12
           · rw [if_pos h6]
             exact .inl ⟨h6, by simpa [h6] using h5, rfl⟩
           · rw [if_neg h6] at hx ⊢
             have h7 : x.kind = 13 := by omega
             exact .inr (.inl ⟨h7, by simpa [h7] using h5, hx, rfl⟩)
       · rw [if_neg h4] at hx ⊢
         right; right
         by_cases h5 : (nodAt w.n k).up = false
         · rw [if_pos h5] at hx; cases hx
         · rw [if_neg h5] at hx ⊢
           have hup : (nodAt w.n k).up = true := by simpa using h5
           by_cases h6 : x.kind = 8
           · rw [if_pos h6] at hx ⊢
             exact .inl ⟨h6, hup, hx, rfl⟩
           · rw [if_neg h6] at hx ⊢
             right
             by_cases h7 : x.client < 0 ∨ 3 ≤ x.client
             · rw [if_pos h7] at hx; cases hx
             · rw [if_neg h7] at hx ⊢
               obtain ⟨i, hi⟩ : ∃ i : Nat, x.client = i := ⟨x.client.toNat, by omega⟩
               rw [hi, Int.toNat_natCast] at hx ⊢
               obtain ⟨g1, g2⟩ := put hx
               exact ⟨by omega, hup, i, by omega, rfl, g1, g2⟩
   · rw [if_neg h2] at hx ⊢
     by_cases h3 : x.kind = 10
     · rw [if_pos h3] at hx ⊢
       by_cases h4 : x.n < 0 ∨ 60 < x.n
       · rw [if_pos h4] at hx; cases hx
       · rw [if_neg h4]
         exact .inl ⟨h3, by omega, by omega, rfl⟩
     · rw [if_neg h3] at hx ⊢
       by_cases h4 : x.kind = 11
       · rw [if_pos h4] at hx ⊢
         by_cases h5 : x.n < 1 ∨ 100000 - w.time < x.n
         · rw [if_pos h5] at hx; cases hx
         · rw [if_neg h5]
           exact .inr (.inl ⟨h4, by omega, by omega, rfl⟩)
       · rw [if_neg h4] at hx ⊢
         right; right; right
         unfold ofClientW at hx ⊢
         by_cases h5 : x.client < 0 ∨ 3 ≤ x.client
         · rw [if_pos h5] at hx; cases hx
         · rw [if_neg h5] at hx ⊢
           obtain ⟨i, hi⟩ : ∃ i : Nat, x.client = i := ⟨x.client.toNat, by omega⟩
           refine ⟨i, by omega, hi, ?_⟩
           have ht : x.client.toNat = i := by omega
           rw [ht] at hx ⊢
           by_cases k4 : x.kind = 4 ∨ x.kind = 5 ∨ x.kind = 15
           · rw [if_pos k4] at hx ⊢
             exact .inl ⟨k4, hx, rfl⟩
           · rw [if_neg k4] at hx ⊢
             right
             by_cases k1 : x.kind = 1
             · rw [if_pos k1] at hx ⊢
               by_cases h6 : x.e.kind = 3
               · rw [if_pos h6] at hx; cases hx
               · rw [if_neg h6] at hx ⊢
                 obtain ⟨g1, g2⟩ := put hx
                 exact .inl ⟨k1, h6, g1, g2⟩
             · rw [if_neg k1] at hx ⊢
               right
               by_cases k2 : x.kind = 2
               · rw [if_pos k2, hi] at hx ⊢
                 obtain ⟨g1, g2⟩ := put hx
                 exact .inl ⟨k2, g1, g2⟩
               · rw [if_neg k2] at hx ⊢
                 right
                 by_cases k3 : x.kind = 3
                 · rw [if_pos k3] at hx ⊢
                   by_cases h6 : w.tip = 60
                   · rw [if_pos h6] at hx; cases hx
                   · rw [if_neg h6] at hx ⊢
                     by_cases h7 : (placeCl (cliAt w.c i) w.tip).2 ≠ 0
                     · rw [if_pos h7] at hx; exact absurd hx h7
                     · rw [if_neg h7]
                       exact .inl ⟨k3, h6, Decidable.not_not.1 h7, rfl⟩
                 · rw [if_neg k3] at hx ⊢
                   right
                   by_cases k6 : x.kind = 6
                   · rw [if_pos k6] at hx ⊢
                     obtain ⟨g1, g2⟩ := put hx
                     exact .inl ⟨k6, g1, g2⟩
                   · rw [if_neg k6] at hx ⊢
                     right
                     by_cases k7 : x.kind = 7
                     · rw [if_pos k7] at hx ⊢
                       obtain ⟨g1, g2⟩ := put hx
                       exact .inl ⟨k7, g1, g2⟩
                     · rw [if_neg k7]
                       exact .inr ⟨by omega, rfl⟩
end
section
set_option linter.unusedSimpArgs false
set_option linter.unusedVariables false
/-! ### Clients -/
theorem learnCl_keeps {c : Cli} {v : Int} (h : (learnCl c v).2 = 0) : checkCl c = 0 ∧ c.epoch < v ∧ v ≤ 20 ∧ (learnCl c v).1 = ⟨v, c.doing, c.e, c.at_, c.link, c.played, c.b⟩ := by
 unfold learnCl at h ⊢
 split at h
 · rename_i h1; exact absurd h h1
 · rename_i h1
   split at h
   · cases h
   · rename_i h2
     split at h
     · cases h
     · rename_i h3
       rw [if_neg h1, if_neg h2, if_neg h3]
       exact ⟨Decidable.not_not.1 h1, by omega, by omega, rfl⟩
theorem restsCl_iff {c : Cli} : restsCl c = 0 ↔ checkCl c = 0 ∧ c.doing = 0 := by
 unfold restsCl
 by_cases h1 : checkCl c ≠ 0
 · rw [if_pos h1]; exact ⟨fun h => absurd h h1, fun h => absurd h.1 h1⟩
 · rw [if_neg h1]
   have h1 := Decidable.not_not.1 h1
   by_cases h2 : c.doing ≠ 0
   · rw [if_pos h2]; exact ⟨fun h => absurd h (by decide), fun h => absurd h.2 h2⟩
   · rw [if_neg h2]; exact ⟨fun _ => ⟨h1, Decidable.not_not.1 h2⟩, fun _ => rfl⟩
theorem wantCl_keeps {c : Cli} {y : Entry} (h : (wantCl c y).2 = 0) : checkCl c = 0 ∧ c.doing = 0 ∧ checkE y = 0 ∧ y.kind ≠ 0 ∧ (wantCl c y).1 = ⟨c.epoch, 1, y, c.at_, c.link, c.played, c.b⟩ := by
 unfold wantCl at h ⊢
 split at h
 · rename_i h1; exact absurd h h1
 · rename_i h1
   obtain ⟨g1, g2⟩ := restsCl_iff.1 (Decidable.not_not.1 h1)
   split at h
   · rename_i h2; exact absurd h h2
   · rename_i h2
     split at h
     · cases h
     · rename_i h3
       rw [if_neg h1, if_neg h2, if_neg h3]
       exact ⟨g1, g2, Decidable.not_not.1 h2, h3, rfl⟩
theorem ringCl_keeps {c : Cli} {me job t : Int} (h : (ringCl c me job t).2 = 0) : ∃ j, j ∈ c.b.jobs ∧ j.id = job ∧ j.next ≤ t ∧ ringCl c me job t = wantCl c ⟨3, job, 0, j.next, me⟩ ∧ (wantCl c ⟨3, job, 0, j.next, me⟩).2 = 0 := by
 unfold ringCl at h ⊢
 split at h
 · rename_i h1; exact absurd h h1
 · rename_i h1
   split at h
   · cases h
   · rename_i h2
     split at h
     · cases h
     · rename_i h3
       rw [if_neg h1, if_neg h2, if_neg h3]
       unfold ringM at h ⊢
       cases hf : c.b.jobs.find? (fun j => decide (j.id = job)) with
       | none => rw [hf] at h; cases h
       | some j =>
         rw [hf] at h
         dsimp only at h ⊢
         have hm := List.mem_of_find?_eq_some hf
         have hp := List.find?_some hf
         by_cases h4 : j.next ≤ t
         · rw [if_pos h4] at h ⊢
           exact ⟨j, hm, by simpa using hp, h4, rfl, h⟩
         · rw [if_neg h4] at h; cases h
theorem placeCl_keeps {c : Cli} {v : Int} (h : (placeCl c v).2 = 0) : checkCl c = 0 ∧ c.doing = 1 ∧ 0 ≤ v ∧ v < 60 ∧ (placeCl c v).1 = ⟨c.epoch, 2, c.e, v, 0, c.played, c.b⟩ := by
 unfold placeCl at h ⊢
 split at h
 · rename_i h1; exact absurd h h1
 · rename_i h1
   split at h
   · cases h
   · rename_i h2
     split at h
     · cases h
     · rename_i h3
       rw [if_neg h1, if_neg h2, if_neg h3]
       have hc := Decidable.not_not.1 h1
       have hd := Decidable.not_not.1 h2
       have := (checkCl_iff.1 hc).2.2.1 (by omega)
       exact ⟨hc, hd, by omega, by omega, by dsimp only; rw [this.2]⟩
theorem fillCl_keeps {c : Cli} {v : Int} (h : (fillCl c v).2 = 0) : checkCl c = 0 ∧ c.doing = 0 ∧ 0 ≤ v ∧ v < 60 ∧ (fillCl c v).1 = ⟨c.epoch, 2, zeroE, v, 0, c.played, c.b⟩ := by
 unfold fillCl at h ⊢
 split at h
 · rename_i h1; exact absurd h h1
 · rename_i h1
   obtain ⟨g1, g2⟩ := restsCl_iff.1 (Decidable.not_not.1 h1)
   split at h
   · cases h
   · rename_i h3
     rw [if_neg h1, if_neg h3]
     have hc := checkCl_iff.1 g1
     have := hc.2.2.1 (by omega)
     exact ⟨g1, g2, by omega, by omega, by dsimp only; rw [this.2, hc.2.2.2.1 g2]⟩
theorem heardCl_keeps {c : Cli} {y : Entry} (h : (heardCl c y).2 = 0) : checkCl c = 0 ∧ c.doing = 2 ∧ checkE y = 0 ∧
    ((y ≠ c.e ∧ c.e.kind ≠ 0 ∧ (heardCl c y).1 = ⟨c.epoch, 1, c.e, 0, 0, c.played, c.b⟩) ∨
     ((y = c.e ∨ c.e.kind = 0) ∧ c.link = 2 ∧ (heardCl c y).1 = ⟨c.epoch, 0, zeroE, 0, 0, c.played, c.b⟩) ∨
     ((y = c.e ∨ c.e.kind = 0) ∧ c.link < 2 ∧ (heardCl c y).1 = ⟨c.epoch, 2, y, c.at_, c.link + 1, c.played, c.b⟩)) := by
 unfold heardCl at h ⊢
 split at h
 · rename_i h1; exact absurd h h1
 · rename_i h1
   have hc := Decidable.not_not.1 h1
   split at h
   · rename_i h2; exact absurd h h2
   · rename_i h2
     split at h
     · cases h
     · rename_i h3
       have hd := Decidable.not_not.1 h3
       rw [if_neg h1, if_neg h2, if_neg h3]
       refine ⟨hc, hd, Decidable.not_not.1 h2, ?_⟩
       by_cases h4 : y ≠ c.e ∧ c.e.kind ≠ 0
       · rw [if_pos h4]
         exact .inl ⟨h4.1, h4.2, rfl⟩
       · rw [if_neg h4]
         have h5 : y = c.e ∨ c.e.kind = 0 := by
          by_cases h6 : y = c.e
          · exact .inl h6
          · exact .inr (Decidable.byContradiction fun h7 => h4 ⟨h6, h7⟩)
         right
         by_cases h6 : c.link + 1 = 3
         · rw [if_pos h6]
           exact .inl ⟨h5, by omega, rfl⟩
         · rw [if_neg h6]
           have := (checkCl_iff.1 hc).1
           exact .inr ⟨h5, by omega, by rw [hd]⟩
theorem OkCl.learn {ns : List Nod} {c : Cli} {v : Int} (hc : OkCl ns c) (h : (learnCl c v).2 = 0) : OkCl ns (learnCl c v).1 := by
 obtain ⟨h1, h2, h3, e⟩ := learnCl_keeps h
 rw [e]
 have g := checkCl_iff.1 h1
 exact ⟨checkCl_iff.2 ⟨by dsimp only; omega, g.2⟩, hc.2⟩
theorem OkCl.want {ns : List Nod} {c : Cli} {y : Entry} (h : (wantCl c y).2 = 0) : OkCl ns (wantCl c y).1 := by
 obtain ⟨h1, h2, h3, h4, e⟩ := wantCl_keeps h
 rw [e]
 have g := checkCl_iff.1 h1
 have g3 := g.2.2.1 (by omega)
 exact ⟨checkCl_iff.2 ⟨by dsimp only; omega, h3, fun _ => g3, by simp, fun _ => h4, g.2.2.2.2.2⟩, by simp⟩
theorem OkCl.place {ns : List Nod} {c : Cli} {v : Int} (h : (placeCl c v).2 = 0) : OkCl ns (placeCl c v).1 := by
 obtain ⟨h1, h2, h3, h4, e⟩ := placeCl_keeps h
 rw [e]
 have g := checkCl_iff.1 h1
 exact ⟨checkCl_iff.2 ⟨by dsimp only; omega, g.2.1, by simp, by simp, by simp, g.2.2.2.2.2⟩, by simp⟩
theorem OkCl.fill {ns : List Nod} {c : Cli} {v : Int} (h : (fillCl c v).2 = 0) : OkCl ns (fillCl c v).1 := by
 obtain ⟨h1, h2, h3, h4, e⟩ := fillCl_keeps h
 rw [e]
 have g := checkCl_iff.1 h1
 exact ⟨checkCl_iff.2 ⟨by dsimp only; omega, show checkE zeroE = 0 by decide, by simp, by simp, by simp, g.2.2.2.2.2⟩, by simp⟩
theorem OkCl.play {ns : List Nod} {c : Cli} {y : Entry} (hc : OkCl ns c) (h : (playCl c y).2 = 0) : OkCl ns (playCl c y).1 := by
 obtain ⟨h1, h2, h3, e, h4⟩ := playCl_keeps h
 rw [e]
 exact ⟨h4, hc.2⟩
theorem OkCl.new {ns : List Nod} : OkCl ns newCl := ⟨by decide, fun h => by simp [newCl] at h⟩
theorem OkCl.heard {ns : List Nod} {c : Cli} {y : Entry} (h : (heardCl c y).2 = 0) (hy : cellAt (nodAt ns c.link.toNat).u.cells c.at_.toNat = y) : OkCl ns (heardCl c y).1 := by
 obtain ⟨h1, h2, h3, h4⟩ := heardCl_keeps h
 have g := checkCl_iff.1 h1
 rcases h4 with ⟨a, b, e⟩ | ⟨a, b, e⟩ | ⟨a, b, e⟩
 · rw [e]
   exact ⟨checkCl_iff.2 ⟨by dsimp only; omega, g.2.1, by simp, by simp, fun _ => b, g.2.2.2.2.2⟩, by simp⟩
 · rw [e]
   exact ⟨checkCl_iff.2 ⟨by dsimp only; omega, show checkE zeroE = 0 by decide, by simp, by simp, by simp, g.2.2.2.2.2⟩, by simp⟩
 · rw [e]
   refine ⟨checkCl_iff.2 ⟨by dsimp only; omega, h3, by simp, by simp, by simp, g.2.2.2.2.2⟩, fun _ _ => ?_⟩
   dsimp only
   have : (c.link + 1).toNat - 1 = c.link.toNat := by omega
   rw [this]
   exact hy
/-! ### Nodes -/
theorem fit_put {p u : List Entry} {ep : Int} {a : Nat} {e : Entry} (hl : a < u.length) (h : fitC p u) (he : cellAt p a = e) : fitC p (putU ⟨ep, u⟩ a e).cells := fun k hk => by
 unfold putU
 dsimp only
 rw [cellAt_set hl]
 split
 · rename_i h5; subst h5; exact .inr he
 · exact h k hk
theorem gr_up {n : Nod} (h : (checkN n).2 = 0) (hu : n.up = true) : gr n = n.u ∧ ∃ l, Holds n.u n.d l := by
 obtain ⟨l, m, hI⟩ := checkN_inv h
 obtain ⟨_, h2, h3⟩ := hI.holds hu
 exact ⟨h2, l, h3⟩
theorem Holds.gr {u : Uni} {d : Dsk} {l : List Rec} (h : Holds u d l) (up : Bool) : checkN ⟨u, d, up⟩ = (u, 0) := (h.nodI up).chkN
theorem write_node {n : Nod} {r : Rec} (h : (checkN n).2 = 0) (hu : n.up = true) (hr : (nextU n.u r).2 = 0) : (writeN n r).2 = 0 ∧ (writeN n r).1.u = (nextU n.u r).1 ∧ (writeN n r).1.up = true ∧ checkN (writeN n r).1 = ((nextU n.u r).1, 0) := by
 obtain ⟨_, l, hl⟩ := gr_up h hu
 obtain ⟨e, hl'⟩ := hl.write hr
 rw [e]
 exact ⟨rfl, rfl, hu, hl'.gr _⟩
theorem write_ok {n : Nod} {r : Rec} (h : (writeN n r).2 = 0) : (nextU n.u r).2 = 0 := by
 unfold writeN at h
 split at h
 · rename_i h1; exact absurd h h1
 · rename_i h1; exact Decidable.not_not.1 h1
theorem tear_node {n : Nod} {r : Rec} {k : Int} (h : (checkN n).2 = 0) (hu : n.up = true) (hr : (nextU n.u r).2 = 0) : (tearN n r k).2 = 0 ∧ (tearN n r k).1.u = n.u ∧ (tearN n r k).1.up = false ∧ (checkN (tearN n r k).1 = (n.u, 0) ∨ checkN (tearN n r k).1 = ((nextU n.u r).1, 0)) := by
 obtain ⟨_, l, hl⟩ := gr_up h hu
 obtain ⟨j, e, hI⟩ := hl.tear hr k
 rw [e]
 refine ⟨rfl, rfl, rfl, ?_⟩
 rcases hI with hI | hI
 · exact .inl hI.chkN
 · exact .inr hI.chkN
theorem GoodW.unitOk {w : Wor} (h : GoodW w) {k : Nat} (hk : k < 3) : GoodU (nodAt w.n k).u.ep (nodAt w.n k).u.cells := by
 obtain ⟨l, m, hI⟩ := checkN_inv (h.node k hk)
 exact hI.good.1
theorem GoodW.write {w : Wor} (h : GoodW w) {k : Nat} (hk : k < 3) {r : Rec} (hu : (nodAt w.n k).up = true) (hr : (nextU (nodAt w.n k).u r).2 = 0) (hf : 0 < k → fitC (nodAt w.n (k - 1)).u.cells (nextU (nodAt w.n k).u r).1.cells) :
    GoodW (Go.Proofs.YtmppkaoonncddaaGreatDoor.setN w k (writeN (nodAt w.n k) r).1) := by
 obtain ⟨h1, h2, h3, h4⟩ := write_node (h.node k hk) hu hr
 refine h.setN hk (by rw [h4]) (fun h0 => ?_) (by rw [h2]; exact nextU_upon hr)
 unfold gr
 rw [h4]
 exact hf h0
theorem GoodW.tear {w : Wor} (h : GoodW w) {k : Nat} (hk : k < 3) {r : Rec} {n : Int} (hu : (nodAt w.n k).up = true) (hr : (nextU (nodAt w.n k).u r).2 = 0) (hf : 0 < k → fitC (nodAt w.n (k - 1)).u.cells (nextU (nodAt w.n k).u r).1.cells) :
    GoodW (Go.Proofs.YtmppkaoonncddaaGreatDoor.setN w k (tearN (nodAt w.n k) r n).1) := by
 obtain ⟨h1, h2, h3, h4⟩ := tear_node (k := n) (h.node k hk) hu hr
 obtain ⟨hg, _⟩ := gr_up (h.node k hk) hu
 refine h.setN hk (by rcases h4 with h4 | h4 <;> rw [h4]) (fun h0 => ?_) (by rw [h2]; exact Upon.rfl' _)
 unfold gr
 rcases h4 with h4 | h4
 · rw [h4]
   have := h.fit (k - 1) (by omega)
   rw [show k - 1 + 1 = k by omega, hg] at this
   exact this
 · rw [h4]
   exact hf h0
theorem GoodW.fitPut {w : Wor} (h : GoodW w) {k a : Nat} {e : Entry} (hk : k < 3) (ha : a < 60) (hu : (nodAt w.n k).up = true) (he : 0 < k → cellAt (nodAt w.n (k - 1)).u.cells a = e) (h0 : 0 < k) :
    fitC (nodAt w.n (k - 1)).u.cells (putU (nodAt w.n k).u a e).cells := by
 obtain ⟨hg, _⟩ := gr_up (h.node k hk) hu
 have := h.fit (k - 1) (by omega)
 rw [show k - 1 + 1 = k by omega, hg] at this
 exact fit_put (u := (nodAt w.n k).u.cells) (ep := (nodAt w.n k).u.ep) (by have := (h.unitOk hk).len; omega) this (he h0)
theorem GoodW.link {w : Wor} {x : Hap} (h : GoodW w) (hi : x.client.toNat < 3) (hx : (linkW w x).2 = 0) : GoodW (linkW w x).1 := by
 obtain ⟨i, k, a, c, n, r, rfl, rfl, hd, hlk, hk, rfl, hu, hat, ha, he, hep, hfr, rfl, hcase⟩ := link_inv h hi hx
 rcases hcase with ⟨h4, h5, ⟨h6, e⟩ | ⟨h6, h7, e⟩⟩ | ⟨h4, hnx, hh⟩
 · rw [e]; exact h
 · rw [e]
   refine h.setC (OkCl.heard h7 ?_)
   rw [hlk, hat]
   rfl
 · have hr : (nextU (nodAt w.n k).u ⟨1, a, 0, (cliAt w.c x.client.toNat).e⟩).2 = 0 := by rw [hnx]
   have hf : 0 < k → fitC (nodAt w.n (k - 1)).u.cells (nextU (nodAt w.n k).u ⟨1, a, 0, (cliAt w.c x.client.toNat).e⟩).1.cells := fun h0 => by
    rw [hnx]
    exact h.fitPut hk ha hu hfr h0
   rcases hh with ⟨h6, e⟩ | ⟨h6, e⟩ | ⟨h5, h6, h7, e⟩
   · rw [e]; exact h.tear hk hu hr hf
   · rw [e]; exact h.write hk hu hr hf
   · rw [e]
     refine (h.write hk hu hr hf).setC (OkCl.heard h7 ?_)
     rw [hlk, hat]
     show cellAt (nodAt (w.n.set k (writeN (nodAt w.n k) _).1) k).u.cells a = _
     have hl := h.n3
     rw [nodAt_set (by omega), if_pos rfl, (write_node (h.node k hk) hu hr).2.1, hnx]
     show cellAt ((nodAt w.n k).u.cells.set a _) a = _
     rw [cellAt_set (by have := (h.unitOk hk).len; omega), if_pos rfl]
theorem GoodW.happen {w : Wor} {x : Hap} (h : GoodW w) (hx : (happenW w x).2 = 0) : GoodW (happenW w x).1 := by
 have hl := h.n3
 have hcl := h.c3
 rcases happen_inv hx with ⟨_, h1, h2, e⟩ | ⟨_, h1, h2, e⟩ | ⟨k, hk, hn, hh⟩ | ⟨i, hi, hc, hh⟩
 · rw [e]; exact ⟨h.n3, h.c3, h1, h2, h.t0, h.t1, h.node, h.fit, h.cli⟩
 · rw [e]; exact ⟨h.n3, h.c3, h.tip0, h.tip1, by have := h.t0; dsimp only; omega, by dsimp only; omega, h.node, h.fit, h.cli⟩
 · have hnk := h.node k hk
   obtain ⟨l, m, hI⟩ := checkN_inv hnk
   have hfit : 0 < k → fitC (nodAt w.n (k - 1)).u.cells (gr (nodAt w.n k)).cells := fun h0 => by
    have := h.fit (k - 1) (by omega)
    rwa [show k - 1 + 1 = k by omega] at this
   rcases hh with ⟨_, h2, e⟩ | ⟨_, h2, h3, e⟩ | ⟨_, h2, h3, e⟩ | ⟨_, h2, i, hi, _, h3, e⟩
   · rw [e]
     have hd := hI.down.chkN
     refine h.setN hk (by rw [hd]) (fun h0 => ?_) (Upon.rfl' _)
     unfold gr; rw [hd]; exact hfit h0
   · rw [e, hI.boot]
     have hd := hI.gHolds.gr true
     refine h.setN hk (by dsimp only; rw [hd]) (fun h0 => ?_) hI.upon
     dsimp only
     unfold gr; rw [hd]; exact hfit h0
   · rw [e]
     have hr := write_ok h3
     refine h.write hk h2 hr fun h0 => ?_
     obtain ⟨e1, _⟩ := nextU_seal hr rfl
     rw [e1]
     have := hfit h0
     rw [(gr_up hnk h2).1] at this
     exact this
   · rw [e]; exact h.setC ((h.cli i hi).learn h3)
 · rcases hh with ⟨_, h1, e⟩ | ⟨_, _, h1, e⟩ | ⟨_, h1, e⟩ | ⟨_, h2, h1, e⟩ | ⟨_, h1, e⟩ | ⟨_, h1, e⟩ | ⟨_, e⟩
   · rw [e]; exact h.link (by omega) h1
   · rw [e]; exact h.setC (OkCl.want h1)
   · obtain ⟨j, _, _, _, e2, h3⟩ := ringCl_keeps h1
     rw [e, e2]; exact h.setC (OkCl.want h3)
   · rw [e]
     have h3 := h.tip0; have h4 := h.tip1
     have h5 := h.setC (i := i) (OkCl.place (ns := w.n) h1)
     exact ⟨h5.n3, h5.c3, by dsimp only; omega, by dsimp only; omega, h.t0, h.t1, h5.node, h5.fit, h5.cli⟩
   · rw [e]; exact h.setC (OkCl.fill h1)
   · rw [e]
     refine h.setC ?_
     unfold nextPl at h1 ⊢
     split at h1
     · cases h1
     · rename_i g1
       split at h1
       · cases h1
       · rename_i g2
         split at h1
         · rename_i g3; exact absurd h1 g3
         · rename_i g3
           rw [if_neg g1, if_neg g2, if_neg g3]
           exact (h.cli i hi).play h1
   · rw [e]; exact h.setC OkCl.new
theorem GoodW.step {w : Wor} {x : Hap} (h : GoodW w) : GoodW (stepW w x) := by
 unfold stepW
 split
 · rename_i hx; exact h.happen hx
 · exact h
theorem GoodW.run {l : List Hap} : ∀ {w : Wor}, GoodW w → GoodW (runGo w l).1 := by
 induction l with
 | nil => exact fun h => h
 | cons x l ih => exact fun h => ih h.step
end
section
set_option linter.unusedSimpArgs false
set_option linter.unusedVariables false
/-! ### WorldParts -/
/-! ### WorldKeeps -/
structure KeepsW (w y : Wor) (client : Int) : Prop where
 time : w.time ≤ y.time
 cl : ∀ k, k < 3 → cliAt y.c k ≠ cliAt w.c k → (k : Int) = client
 one : ∃ k0, k0 < 3 ∧ ∀ k, k ≠ k0 → nodAt y.n k = nodAt w.n k
 upon : ∀ k, Upon (nodAt w.n k).u (nodAt y.n k).u
theorem KeepsW.setN {w : Wor} {k : Nat} {n' : Nod} {cl : Int} (hl : w.n.length = 3) (hk : k < 3) (hu : Upon (nodAt w.n k).u n'.u) : KeepsW w (setN w k n') cl := by
 refine ⟨Int.le_refl _, fun j _ h => absurd rfl h, ⟨k, hk, fun j hj => ?_⟩, setN_upon (by omega) hu⟩
 show nodAt (w.n.set k n') j = _
 rw [nodAt_set (by omega), if_neg hj]
theorem KeepsW.setC {w y : Wor} {i : Nat} {c' : Cli} {cl : Int} (h : KeepsW w y cl) (hi : (i : Int) = cl) : KeepsW w (setC y i c') cl := by
 refine ⟨h.time, fun j hj hne => ?_, h.one, h.upon⟩
 by_cases hji : j = i
 · rw [hji]; exact hi
 · refine h.cl j hj fun e => hne ?_
   show cliAt (y.c.set i c') j = _
   rw [← e]
   unfold cliAt
   rw [List.getElem?_set, if_neg (Ne.symm hji)]
theorem KeepsW.rfl' {w : Wor} {cl : Int} : KeepsW w w cl := ⟨Int.le_refl _, fun _ _ h => absurd rfl h, ⟨0, by omega, fun _ _ => rfl⟩, fun _ => Upon.rfl' _⟩
/-! ### WorldStands -/
theorem nodAt_setN {w : Wor} {k : Nat} {n : Nod} (hk : k < w.n.length) : nodAt (setN w k n).n k = n := by
 show nodAt (w.n.set k n) k = n
 rw [nodAt_set hk, if_pos rfl]
theorem boot_do {w : Wor} {k : Nat} {c j ep : Int} {e : Entry} (hk : k < 3) (hu : (nodAt w.n k).up = false) :
    happenW w ⟨13, c, k, j, ep, e⟩ = (setN w k (bootN (nodAt w.n k)).1, (bootN (nodAt w.n k)).2) := by
 unfold happenW
 dsimp only
 rw [if_neg (by omega), if_pos (by omega)]
 unfold ofUnitW powerW
 dsimp only
 rw [if_neg (by omega), if_pos (by omega), Int.toNat_natCast, if_neg (by simp [hu]), if_neg (by omega)]
/-! ### WorldDeaf, WorldTorn -/
structure LinkOk (w : Wor) (i k a : Nat) : Prop where
 i3 : i < 3
 k3 : k < 3
 a6 : a < 60
 doing : (cliAt w.c i).doing = 2
 link : (cliAt w.c i).link = k
 at_ : (cliAt w.c i).at_ = a
 up : (nodAt w.n k).up = true
 ep : (cliAt w.c i).epoch = (nodAt w.n k).u.ep
 front : 0 < k → cellAt (nodAt w.n (k - 1)).u.cells a = (cliAt w.c i).e
theorem good_linkC {w : Wor} {i k a : Nat} (h : GoodW w) (o : LinkOk w i k a) : Go.Proofs.YtmppkaoonncddaaGreatDoor.linkC (unitsN w.n) k a (cliAt w.c i).e (cliAt w.c i).epoch =
    if (cellAt (nodAt w.n k).u.cells a).kind ≠ 4 then (zeroR, cellAt (nodAt w.n k).u.cells a, 0) else (⟨1, a, 0, (cliAt w.c i).e⟩, (cliAt w.c i).e, 0) := by
 have h1 := o.k3; have h2 := o.a6
 have hc := (checkCl_iff.1 (h.cli i o.i3).1).2.1
 unfold Go.Proofs.YtmppkaoonncddaaGreatDoor.linkC
 simp only [Int.toNat_natCast, uniAt_units]
 rw [if_neg (by simp [checkC_iff.2 h.chain]), if_neg (by omega), if_neg (by simp [hc]), if_neg (by simp [o.ep]), if_neg]
 rintro ⟨h3, h4⟩
 exact h4 (o.front (by omega))
theorem good_linkW {w : Wor} {i k a : Nat} {x : Hap} (h : GoodW w) (o : LinkOk w i k a) (hi : x.client = i) : Go.Proofs.YtmppkaoonncddaaGreatDoor.linkW w x =
    linkQ w x (cliAt w.c i) (nodAt w.n k) (if (cellAt (nodAt w.n k).u.cells a).kind ≠ 4 then (zeroR, cellAt (nodAt w.n k).u.cells a, 0) else (⟨1, a, 0, (cliAt w.c i).e⟩, (cliAt w.c i).e, 0)) := by
 unfold Go.Proofs.YtmppkaoonncddaaGreatDoor.linkW
 rw [hi, Int.toNat_natCast, if_neg (by simp [o.doing]), o.link, Int.toNat_natCast, if_neg (by simp [o.up]), o.at_, good_linkC h o]
theorem heard_ok {c : Cli} {y : Entry} (h : checkCl c = 0) (hd : c.doing = 2) (hy : checkE y = 0) : (heardCl c y).2 = 0 := by
 unfold heardCl
 rw [if_neg (by simp [h]), if_neg (by simp [hy]), if_neg (by simp [hd])]
 split
 · rfl
 · split <;> rfl
theorem GoodW.cellOk {w : Wor} (h : GoodW w) {k a : Nat} (hk : k < 3) (ha : a < 60) (h4 : (cellAt (nodAt w.n k).u.cells a).kind ≠ 4) : checkE (cellAt (nodAt w.n k).u.cells a) = 0 := by
 have hg := h.unitOk hk
 have hl := hg.len
 have hm : cellAt (nodAt w.n k).u.cells a ∈ (nodAt w.n k).u.cells := by
  unfold cellAt
  rw [List.getElem?_eq_getElem (by omega)]
  exact List.getElem_mem _
 rcases hg.ok _ hm with e | e
 · rw [e] at h4; exact absurd rfl h4
 · exact e
theorem good_linkPut {w : Wor} {i k a : Nat} {x : Hap} (h : GoodW w) (o : LinkOk w i k a) (hi : x.client = i) (h4 : (cellAt (nodAt w.n k).u.cells a).kind = 4) :
    (nextU (nodAt w.n k).u ⟨1, a, 0, (cliAt w.c i).e⟩ = (putU (nodAt w.n k).u a (cliAt w.c i).e, 0)) ∧
    Go.Proofs.YtmppkaoonncddaaGreatDoor.linkW w x = if x.kind = 15 then (setN w k (tearN (nodAt w.n k) ⟨1, a, 0, (cliAt w.c i).e⟩ x.n).1, 0)
     else if x.kind = 5 then (setN w k (writeN (nodAt w.n k) ⟨1, a, 0, (cliAt w.c i).e⟩).1, 0)
     else (setC (setN w k (writeN (nodAt w.n k) ⟨1, a, 0, (cliAt w.c i).e⟩).1) i (heardCl (cliAt w.c i) (cliAt w.c i).e).1, 0) := by
 have hcl := (h.cli i o.i3).1
 have he := (checkCl_iff.1 hcl).2.1
 have hnx := next_put (h.unitOk o.k3) o.a6 he h4
 have hr : (nextU (nodAt w.n k).u ⟨1, a, 0, (cliAt w.c i).e⟩).2 = 0 := by rw [hnx]
 refine ⟨hnx, ?_⟩
 rw [good_linkW h o hi, if_neg (by simp [h4])]
 unfold linkQ
 rw [o.link, hi, Int.toNat_natCast, Int.toNat_natCast]
 dsimp only
 rw [if_neg (by simp), (tear_node (h.node k o.k3) o.up hr).1, (write_node (h.node k o.k3) o.up hr).1, heard_ok hcl o.doing he]
 simp
theorem good_linkHas {w : Wor} {i k a : Nat} {x : Hap} (h : GoodW w) (o : LinkOk w i k a) (hi : x.client = i) (h4 : (cellAt (nodAt w.n k).u.cells a).kind ≠ 4) (h5 : x.kind ≠ 15) :
    Go.Proofs.YtmppkaoonncddaaGreatDoor.linkW w x = if x.kind = 5 then (w, 0) else (setC w i (heardCl (cliAt w.c i) (cellAt (nodAt w.n k).u.cells a)).1, 0) := by
 have hcl := (h.cli i o.i3).1
 rw [good_linkW h o hi, if_pos h4]
 unfold linkQ
 rw [o.link, hi, Int.toNat_natCast, Int.toNat_natCast]
 dsimp only
 rw [if_neg (by simp), if_neg h5, heard_ok hcl o.doing (h.cellOk o.k3 o.a6 h4)]
 simp [zeroR]
theorem happen_link {w : Wor} {x : Hap} {i : Nat} (hk : x.kind = 4 ∨ x.kind = 5 ∨ x.kind = 15) (hi : x.client = i) (h3 : i < 3) : happenW w x = Go.Proofs.YtmppkaoonncddaaGreatDoor.linkW w x := by
 unfold happenW ofClientW
 rw [if_neg (by omega), if_neg (by omega), if_neg (by omega), if_neg (by omega), if_neg (by omega), if_pos hk]
end
end Go.Proofs.YtmppkaoonncddaaGreatDoor
