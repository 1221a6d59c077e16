/- Plain laws of clients. -/
import Derived.Test.YtbipmoehcmighaaClient8
import Derived.Test.YtbipmoehcmighaaClient6
namespace Go.Proofs.Ytbipmoehcmighaa
set_option linter.unusedSimpArgs false
set_option linter.unusedVariables false

theorem checkCl_iff {c : Cli} : checkCl c = 0 ↔ (1 ≤ c.epoch ∧ c.epoch ≤ 20 ∧ 0 ≤ c.doing ∧ c.doing ≤ 2 ∧ 0 ≤ c.at_ ∧ c.at_ < 60 ∧ 0 ≤ c.link ∧ c.link < 3 ∧ 0 ≤ c.played ∧ c.played ≤ 60) ∧ checkE c.e = 0 ∧
    (c.doing ≠ 2 → c.at_ = 0 ∧ c.link = 0) ∧ (c.doing = 0 → c.e = zeroE) ∧ (c.doing = 1 → c.e.kind ≠ 0) ∧ GoodB c.b := by
  unfold checkCl
  constructor
  · intro h
    split at h
    · cases h
    · rename_i h1
      split at h
      · exact absurd h (by assumption)
      · rename_i h2
        split at h
        · cases h
        · rename_i h3
          refine ⟨by omega, by omega, fun h4 => ?_, fun h4 => ?_, fun h4 => ?_, checkB_iff.1 h⟩
          · have : ¬ (c.at_ + c.link ≠ 0) := fun h5 => h3 (Or.inl ⟨h4, h5⟩)
            omega
          · exact Decidable.byContradiction fun h5 => h3 (Or.inr (Or.inl ⟨h4, h5⟩))
          · exact fun h5 => h3 (Or.inr (Or.inr ⟨h4, h5⟩))
  · rintro ⟨h1, h2, h3, h4, h5, h6⟩
    rw [if_neg (by omega), if_neg (by simp [h2]), if_neg, checkB_iff.2 h6]
    rintro (⟨h7, h8⟩ | ⟨h7, h8⟩ | ⟨h7, h8⟩)
    · have := h3 h7; omega
    · exact h8 (h4 h7)
    · exact h5 h7 h8

theorem applyB_good {b : Book} {e : Entry} (hb : GoodB b) (h : (applyB b e).2 = 0) : checkE e = 0 ∧ GoodB (applyB b e).1 := by
  unfold applyB at h ⊢
  rw [if_neg (by simp [checkB_iff.2 hb])] at h ⊢
  by_cases he : checkE e ≠ 0
  · rw [if_pos he] at h; exact absurd h he
  · rw [if_neg he]
    exact ⟨by simpa using he, stepB_good hb (by simpa using he)⟩

theorem playCl_keeps {c : Cli} {x : Entry} (h : (playCl c x).2 = 0) : checkCl c = 0 ∧ c.played < 60 ∧ checkE x = 0 ∧ playCl c x = (⟨c.epoch, c.doing, c.e, c.at_, c.link, c.played + 1, (applyB c.b x).1⟩, 0) ∧ checkCl ⟨c.epoch, c.doing, c.e, c.at_, c.link, c.played + 1, (applyB c.b x).1⟩ = 0 := by
  unfold playCl at h ⊢
  split at h
  · exact absurd h (by assumption)
  · rename_i h1
    have h1' : checkCl c = 0 := by simpa using h1
    have hc := checkCl_iff.1 h1'
    split at h
    · cases h
    · rename_i h2
      split at h
      · exact absurd h (by assumption)
      · rename_i h3
        have hg := applyB_good hc.2.2.2.2.2 (by simpa using h3)
        rw [if_neg h1, if_neg h2, if_neg h3]
        refine ⟨h1', by omega, hg.1, rfl, checkCl_iff.2 ⟨by dsimp only; omega, hc.2.1, hc.2.2.1, hc.2.2.2.1, hc.2.2.2.2.1, hg.2⟩⟩

theorem fillCl_not {c : Cli} {v : Int} (h : checkCl c = 0) (hd : c.doing ≠ 0) : fillCl c v = (zeroCl, 7) := by
  unfold fillCl restsCl
  rw [if_neg (by simp [h] : ¬ checkCl c ≠ 0), if_pos hd, if_pos (by omega)]
theorem fillCl_rests {ep dg at_ ln pl : Int} {x : Entry} {b : Book} {v : Int} (h : checkCl ⟨ep, dg, x, at_, ln, pl, b⟩ = 0) (hd : dg = 0) (h0 : 0 ≤ v) (h1 : v < 60) :
    at_ = 0 ∧ ln = 0 ∧ x = zeroE ∧ fillCl ⟨ep, dg, x, at_, ln, pl, b⟩ v = (⟨ep, 2, zeroE, v, 0, pl, b⟩, 0) := by
  have hc := checkCl_iff.1 h
  have h3 := hc.2.2.1; have h4 := hc.2.2.2.1
  dsimp only at h3 h4
  obtain ⟨ha, hl⟩ := h3 (by omega)
  have hx := h4 hd
  refine ⟨ha, hl, hx, ?_⟩
  unfold fillCl restsCl
  rw [if_neg (by simp [h] : ¬ checkCl _ ≠ 0), if_neg (by simp [hd]), if_neg (by omega)]
  simp only [hx, hl]
theorem writes_ok {ep pl v : Int} {b : Book} (x : Entry) (k : Int) (h : checkCl ⟨ep, 0, zeroE, 0, 0, pl, b⟩ = 0) (hx : checkE x = 0) (h0 : 0 ≤ v) (h1 : v < 60) (hk : 0 ≤ k) (hk' : k < 3) : checkCl ⟨ep, 2, x, v, k, pl, b⟩ = 0 := by
  have hc := checkCl_iff.1 h
  dsimp only at hc
  exact checkCl_iff.2 ⟨by dsimp only; omega, hx, by simp, by simp, by simp, hc.2.2.2.2.2⟩
theorem heardCl_first {ep pl v : Int} {b : Book} {x : Entry} (h : checkCl ⟨ep, 2, zeroE, v, 0, pl, b⟩ = 0) : heardCl ⟨ep, 2, zeroE, v, 0, pl, b⟩ x = if checkE x ≠ 0 then (zeroCl, checkE x) else (⟨ep, 2, x, v, 1, pl, b⟩, 0) := by
  unfold heardCl
  rw [if_neg (by simp [h])]
  split
  · rfl
  · rw [if_neg (by simp), if_neg (by simp [zeroE]), if_neg (by simp)]
    rfl
theorem heardCl_next {ep pl v k : Int} {b : Book} {x : Entry} (h : checkCl ⟨ep, 2, x, v, k, pl, b⟩ = 0) : heardCl ⟨ep, 2, x, v, k, pl, b⟩ x = if k + 1 = 3 then (⟨ep, 0, zeroE, 0, 0, pl, b⟩, 0) else (⟨ep, 2, x, v, k + 1, pl, b⟩, 0) := by
  have hx : checkE x = 0 := (checkCl_iff.1 h).2.1
  unfold heardCl
  rw [if_neg (by simp [h]), if_neg (by simp [hx]), if_neg (by simp), if_neg (by simp)]
end Go.Proofs.Ytbipmoehcmighaa
