/- Disks, as plain functions on bytes. No program in sight. -/
import Derived.Test.YtdcegdonppfbkaaDoorText3
namespace Go.Proofs.YtdcegdonppfbkaaDoor
set_option linter.unusedSimpArgs false
set_option linter.unusedVariables false

structure Dsk where
  safe : List UInt8
  wait : List UInt8
  deriving DecidableEq, Inhabited
def noK : Dsk := ⟨[], []⟩
/-- disk.lines. -/
def linesK (s : List UInt8) (most : Nat) : List Rec × Nat × Int := linesP parseR most [] 0 (cutc 10 s)
/-- disk.Check. -/
def checkK (d : Dsk) : Int := if 30000 < d.safe.length ∨ 30000 < d.safe.length + d.wait.length then 2 else (linesK d.safe 160).2.2
/-- disk.Put. -/
def putK (d : Dsk) (r : Rec) : Dsk × Int :=
  if checkK d ≠ 0 then (noK, checkK d) else if (printR r).2 ≠ 0 then (noK, (printR r).2)
  else if 30000 < d.safe.length + d.wait.length + ((printR r).1.length + 1) then (noK, 2) else (⟨d.safe, d.wait ++ (printR r).1 ++ [10]⟩, 0)
/-- disk.Sync. -/
def syncK (d : Dsk) : Dsk × Int :=
  if checkK d ≠ 0 then (noK, checkK d) else if checkK ⟨d.safe ++ d.wait, []⟩ ≠ 0 then (noK, checkK ⟨d.safe ++ d.wait, []⟩) else (⟨d.safe ++ d.wait, []⟩, 0)
/-- disk.Crash. -/
def crashK (d : Dsk) (n : Int) : Dsk × Int :=
  if checkK d ≠ 0 then (noK, checkK d) else if n < 0 ∨ (d.wait.length : Int) < n then (noK, 3) else (⟨d.safe, d.wait.take n.toNat⟩, 0)
/-- disk.Recover, of a right disk. -/
def recsK (d : Dsk) : List Rec := (linesK d.safe 160).1 ++ (linesK d.wait (160 - (linesK d.safe 160).1.length)).1
def backK (d : Dsk) : Dsk := ⟨d.safe ++ d.wait.take (linesK d.wait (160 - (linesK d.safe 160).1.length)).2.1, []⟩
/-- disk.Recover. -/
def recoverK (d : Dsk) : Dsk × List Rec × Int := if checkK d ≠ 0 then (noK, [], checkK d) else (backK d, recsK d, 0)

/-- Right records. -/
def OkRs (l : List Rec) : Prop := ∀ x ∈ l, checkR x = 0
theorem OkRs.app {l m : List Rec} (h : OkRs l) (h' : OkRs m) : OkRs (l ++ m) := fun x hx => by
  rcases List.mem_append.1 hx with hx | hx
  · exact h x hx
  · exact h' x hx
theorem OkRs.one {r : Rec} (h : checkR r = 0) : OkRs [r] := fun x hx => by rw [List.mem_singleton.1 hx]; exact h
abbrev txt (l : List Rec) : List UInt8 := textP textR l
theorem txt_len {l : List Rec} (h : OkRs l) : (txt l).length ≤ 101 * l.length := textRs_len h
theorem txt_app (l m : List Rec) : txt (l ++ m) = txt l ++ txt m := textP_append _ _ _

theorem linesK_text {l : List Rec} {most : Nat} (s : List UInt8) (h : OkRs l) (hm : l.length ≤ most) : linesK (txt l ++ s) most = linesP parseR most l (txt l).length (cutc 10 s) := by
  unfold linesK
  rw [cut_textP s (fun x hx => textR_no (h x hx)), linesP_text (cutc_ne _ _) (fun x hx => parse_textR (h x hx)) (by simpa using hm)]
  simp
theorem linesK_part {l : List Rec} {most : Nat} {s : List UInt8} (h : OkRs l) (hm : l.length ≤ most) (hs : (10 : UInt8) ∉ s) : linesK (txt l ++ s) most = (l, (txt l).length, if s = [] then 0 else 9) := by
  rw [linesK_text s h hm, cutc_self hs, linesP_one]
theorem linesK_all {l : List Rec} {most : Nat} (h : OkRs l) (hm : l.length ≤ most) : linesK (txt l) most = (l, (txt l).length, 0) := by
  have := linesK_part (s := []) h hm (by simp)
  simpa using this
/-- What is read of a text. -/
theorem linesK_read (s : List UInt8) (most : Nat) : OkRs (linesK s most).1 ∧ (linesK s most).1.length ≤ most ∧ (linesK s most).2.1 = (txt (linesK s most).1).length ∧ s.take (linesK s most).2.1 = txt (linesK s most).1 ∧ ((linesK s most).2.2 = 0 → s = txt (linesK s most).1) := by
  obtain ⟨l', t, h1, h2, h3, h4, h5, h6⟩ := linesP_read (ok := fun x => checkR x = 0) (text := textR) (fun t x hx => parseR_ok hx) (cutc_ne 10 s) (Prod.ext rfl (Prod.ext rfl rfl) : linesP parseR most [] 0 (cutc 10 s) = ((linesP parseR most [] 0 (cutc 10 s)).1, (linesP parseR most [] 0 (cutc 10 s)).2.1, (linesP parseR most [] 0 (cutc 10 s)).2.2)) (by simp)
  rw [List.nil_append] at h1
  rw [joinc_cutc] at h5
  rw [Nat.zero_add] at h4
  have e : (linesK s most).1 = l' := h1
  have e2 : (linesK s most).2.1 = (txt l').length := h4
  refine ⟨by rw [e]; exact h3, h2, by rw [e]; exact e2, ?_, fun h => ?_⟩
  · rw [e, e2, h5]; simp
  · rw [e]; rw [h5, h6 h]; simp
theorem checkK_iff {d : Dsk} : checkK d = 0 ↔ d.safe.length + d.wait.length ≤ 30000 ∧ ∃ l, OkRs l ∧ l.length ≤ 160 ∧ d.safe = txt l := by
  unfold checkK
  constructor
  · intro h
    split at h
    · cases h
    · obtain ⟨h1, h2, _, _, h3⟩ := linesK_read d.safe 160
      exact ⟨by omega, _, h1, h2, h3 h⟩
  · rintro ⟨h, l, h1, h2, h3⟩
    rw [if_neg (by omega), h3, linesK_all h1 h2]
/-- What a right disk is when it is recovered. -/
theorem recover_good {d : Dsk} (h : checkK d = 0) : ∃ l m, OkRs l ∧ OkRs m ∧ d.safe = txt l ∧ d.wait.take (txt m).length = txt m ∧ (l ++ m).length ≤ 160 ∧ recoverK d = (⟨txt (l ++ m), []⟩, l ++ m, 0) ∧ (linesK d.safe 160).1 = l := by
  obtain ⟨h0, l, h1, h2, h3⟩ := checkK_iff.1 h
  have e := linesK_all h1 h2
  obtain ⟨g1, g2, g3, g4, _⟩ := linesK_read d.wait (160 - l.length)
  refine ⟨l, (linesK d.wait (160 - l.length)).1, h1, g1, h3, by rw [← g3]; exact g4, by rw [List.length_append]; omega, ?_, by rw [h3, e]⟩
  unfold recoverK backK recsK
  rw [if_neg (by simp [h]), h3, e]
  simp only
  rw [g4, txt_app]
theorem recover_safe {l : List Rec} (h : OkRs l) (hl : l.length ≤ 160) (hs : (txt l).length ≤ 30000) : recoverK ⟨txt l, []⟩ = (⟨txt l, []⟩, l, 0) := by
  have hc : checkK ⟨txt l, []⟩ = 0 := checkK_iff.2 ⟨by simpa using hs, l, h, hl, rfl⟩
  unfold recoverK backK recsK
  rw [if_neg (by simp [hc])]
  dsimp only
  rw [linesK_all h hl]
  simp [linesK, cutc, linesP]
theorem printR_ok {r : Rec} (h : checkR r = 0) : printR r = (textR r, 0) := by unfold printR; rw [if_neg (by simp [h])]
theorem printR_err (r : Rec) : (printR r).2 = checkR r := by unfold printR; split <;> simp_all
end Go.Proofs.YtdcegdonppfbkaaDoor
