/- Plain laws of disks: what is kept; what is written, one by one, at a unit's disk. No program in sight. -/
import Derived.Test.YtdcegdonppfbkaaDoorDisk
import Derived.Test.YtdcegdonppfbkaaDoorSpecR
namespace Go.Proofs.YtdcegdonppfbkaaDoor
set_option linter.unusedSimpArgs false
set_option linter.unusedVariables false

theorem putK_ok {d : Dsk} {r : Rec} (h : checkK d = 0) (hr : checkR r = 0) (hs : d.safe.length + d.wait.length + (textR r).length + 1 ≤ 30000) : putK d r = (⟨d.safe, d.wait ++ textR r ++ [10]⟩, 0) := by
  unfold putK
  rw [if_neg (by simp [h]), printR_ok hr, if_neg (by simp), if_neg (by dsimp only; omega)]
theorem putK_inv {d : Dsk} {r : Rec} (h : (putK d r).2 = 0) : checkK d = 0 ∧ checkR r = 0 ∧ d.safe.length + d.wait.length + (textR r).length + 1 ≤ 30000 ∧ putK d r = (⟨d.safe, d.wait ++ textR r ++ [10]⟩, 0) := by
  unfold putK at h
  split at h
  · rename_i h1; exact absurd h h1
  · rename_i h1
    have h1 := Decidable.not_not.1 h1
    split at h
    · rename_i h2; exact absurd h h2
    · rename_i h2
      have h2 := Decidable.not_not.1 h2
      rw [printR_err] at h2
      rw [printR_ok h2] at h
      split at h
      · cases h
      · rename_i h3
        dsimp only at h3
        exact ⟨h1, h2, by omega, putK_ok h1 h2 (by omega)⟩
theorem checkK_of {l : List Rec} {t : List UInt8} (h : OkRs l) (hl : l.length ≤ 160) (hs : (txt l).length + t.length ≤ 30000) : checkK ⟨txt l, t⟩ = 0 := checkK_iff.2 ⟨hs, l, h, hl, rfl⟩
theorem syncK_ok {l m : List Rec} (h : OkRs l) (h' : OkRs m) (hl : (l ++ m).length ≤ 160) (hs : (txt l).length + (txt m).length ≤ 30000) : syncK ⟨txt l, txt m⟩ = (⟨txt (l ++ m), []⟩, 0) := by
  have h1 : checkK ⟨txt l, txt m⟩ = 0 := checkK_of h (by rw [List.length_append] at hl; omega) hs
  have e : txt l ++ txt m = txt (l ++ m) := (textP_append _ _ _).symm
  have h2 : checkK ⟨txt (l ++ m), []⟩ = 0 := checkK_of (h.app h') hl (by rw [← e, List.length_append]; simpa using hs)
  unfold syncK
  rw [if_neg (by simp [h1])]
  dsimp only
  rw [e, if_neg (by simp [h2])]
/-- Of what waits a beginning is there. -/
theorem recover_part {l m : List Rec} {k : Nat} (h : OkRs l) (h' : OkRs m) (hl : (l ++ m).length ≤ 160) (hs : (txt l).length + (txt m).length ≤ 30000) (hk : k ≤ (txt m).length) :
    ∃ j, j ≤ m.length ∧ recoverK ⟨txt l, (txt m).take k⟩ = (⟨txt (l ++ m.take j), []⟩, l ++ m.take j, 0) ∧ (k = (txt m).length → j = m.length) := by
  have hl1 : l.length ≤ 160 := by rw [List.length_append] at hl; omega
  have hc : checkK ⟨txt l, (txt m).take k⟩ = 0 := checkK_of h hl1 (by rw [List.length_take]; omega)
  obtain ⟨j, s, h1, h2, h3, h4⟩ := textP_part (fun x hx => textR_no (h' x hx)) hk
  have hj : OkRs (m.take j) := fun x hx => h' x (List.mem_of_mem_take hx)
  have hjl : (m.take j).length = j := by rw [List.length_take]; omega
  have e : linesK ((txt m).take k) (160 - l.length) = (m.take j, (txt (m.take j)).length, if s = [] then 0 else 9) := by
    rw [← h3]
    exact linesK_part hj (by rw [hjl]; rw [List.length_append] at hl; omega) h4
  refine ⟨j, h1, ?_, fun hkm => ?_⟩
  · unfold recoverK backK recsK
    rw [if_neg (by simp [hc])]
    dsimp only
    rw [linesK_all h hl1]
    dsimp only
    rw [e]
    dsimp only
    have : ((txt m).take k).take (txt (m.take j)).length = txt (m.take j) := by rw [← h3]; simp
    rw [this, ← textP_append]
  · subst hkm
    rw [List.take_length] at h2
    have h5 := cut_textP [] (fun x hx => textR_no (h' x hx)) (text := textR)
    rw [List.append_nil] at h5
    have h6 := congrArg List.length (h5.symm.trans h2)
    simp [cutc] at h6
    omega
/-- Records put, one behind the other, where they can be. -/
def writeK (d : Dsk) : List Rec → Dsk × List Rec
  | [] => (d, [])
  | c :: l => if (putK d c).2 = 0 then ((writeK (putK d c).1 l).1, c :: (writeK (putK d c).1 l).2) else writeK d l
theorem writeK_good : ∀ {l p acc : List Rec}, OkRs p → OkRs acc → ∃ out, writeK ⟨txt p, txt acc⟩ l = (⟨txt p, txt (acc ++ out)⟩, out) ∧ OkRs out ∧ out.length ≤ l.length
  | [], p, acc, hp, ha => ⟨[], by simp [writeK], fun x hx => by simp at hx, Nat.le_refl _⟩
  | c :: l, p, acc, hp, ha => by
    rw [writeK]
    by_cases h : (putK ⟨txt p, txt acc⟩ c).2 = 0
    · rw [if_pos h]
      obtain ⟨h1, h2, _, h3⟩ := putK_inv h
      have e : (putK ⟨txt p, txt acc⟩ c).1 = ⟨txt p, txt (acc ++ [c])⟩ := by rw [h3]; simp [textP_snoc]
      rw [e]
      obtain ⟨out, g1, g2, g3⟩ := writeK_good (l := l) hp (ha.app (OkRs.one h2))
      refine ⟨c :: out, by rw [g1]; simp, fun x hx => ?_, by simp; omega⟩
      rcases List.mem_cons.1 hx with rfl | hx
      · exact h2
      · exact g2 x hx
    · rw [if_neg h]
      obtain ⟨out, g1, g2, g3⟩ := writeK_good (l := l) hp ha
      exact ⟨out, g1, g2, by simp; omega⟩
theorem keeps_law (safe more : List Rec) (n : Int) :
    let A := writeK noK (safe.take 20)
    let d1 := syncK A.1
    let B := writeK d1.1 (more.take 20)
    let d2 := crashK B.1 (n % ((B.1.wait.length : Int) + 1))
    let R := recoverK d2.1
    d1.2 = 0 ∧ d2.2 = 0 ∧ R.2.2 = 0 ∧ A.2.length ≤ R.2.1.length ∧ R.2.1.length ≤ A.2.length + B.2.length ∧ R.2.1 = (A.2 ++ B.2).take R.2.1.length ∧ recoverK R.1 = (R.1, R.2.1, 0) ∧ R.1.wait = [] ∧ A.2.length ≤ 20 ∧ B.2.length ≤ 20 := by
  intro A d1 B d2 R
  obtain ⟨a, ha, oa, la⟩ := writeK_good (l := safe.take 20) (p := []) (acc := []) (fun x hx => by simp at hx) (fun x hx => by simp at hx)
  have la : a.length ≤ 20 := by rw [List.length_take] at la; omega
  have eA : A = (⟨[], txt a⟩, a) := by
    have : A = writeK ⟨txt [], txt []⟩ (safe.take 20) := rfl
    rw [this, ha]; simp [textP]
  have sa := txt_len oa
  have e1 : d1 = (⟨txt a, []⟩, 0) := by
    have : d1 = syncK ⟨txt [], txt a⟩ := by show syncK A.1 = _; rw [eA]; rfl
    rw [this, syncK_ok (fun x hx => by simp at hx) oa (by simp; omega) (by have : (txt ([] : List Rec)).length = 0 := rfl; omega)]
    simp
  obtain ⟨b, hb, ob, lb⟩ := writeK_good (l := more.take 20) (p := a) (acc := []) oa (fun x hx => by simp at hx)
  have lb : b.length ≤ 20 := by rw [List.length_take] at lb; omega
  have eB : B = (⟨txt a, txt b⟩, b) := by
    have : B = writeK ⟨txt a, txt []⟩ (more.take 20) := by show writeK d1.1 _ = _; rw [e1]; rfl
    rw [this, hb]; simp
  have sb := txt_len ob
  have hk1 : 0 ≤ n % (((txt b).length : Int) + 1) := Int.emod_nonneg _ (by omega)
  have hk2 : n % (((txt b).length : Int) + 1) < ((txt b).length : Int) + 1 := Int.emod_lt_of_pos _ (by omega)
  have hab : (a ++ b).length ≤ 160 := by rw [List.length_append]; omega
  have hs : (txt a).length + (txt b).length ≤ 30000 := by omega
  have e2 : d2 = (⟨txt a, (txt b).take (n % (((txt b).length : Int) + 1)).toNat⟩, 0) := by
    show crashK B.1 (n % ((B.1.wait.length : Int) + 1)) = _
    rw [eB]
    unfold crashK
    dsimp only
    rw [if_neg (by simp [checkK_of oa (by omega) hs]), if_neg (by omega)]
  obtain ⟨j, j1, j2, _⟩ := recover_part (k := (n % (((txt b).length : Int) + 1)).toNat) oa ob hab hs (by omega)
  have eR : R = (⟨txt (a ++ b.take j), []⟩, a ++ b.take j, 0) := by show recoverK d2.1 = _; rw [e2]; exact j2
  have hj : OkRs (b.take j) := fun x hx => ob x (List.mem_of_mem_take hx)
  have hjl : (b.take j).length = j := by rw [List.length_take]; omega
  have haj := oa.app hj
  have sj := txt_len haj
  rw [List.length_append, hjl] at sj
  refine ⟨by rw [e1], by rw [e2], by rw [eR], by rw [eA, eR]; simp, by rw [eA, eB, eR]; simp; omega, ?_, ?_, by rw [eR], by rw [eA]; exact la, by rw [eB]; exact lb⟩
  · rw [eA, eB, eR]
    dsimp only
    rw [List.length_append, hjl, List.take_length_add_append]
  · rw [eR]
    exact recover_safe haj (by rw [List.length_append]; omega) (by omega)

/-! ### A unit, and its disk -/
/-- A disk that holds just the records of a unit. -/
structure Holds (u : Uni) (d : Dsk) (l : List Rec) : Prop where
  unit : unitL l = (u, 0)
  disk : d = ⟨txt l, []⟩
theorem Holds.ok {u : Uni} {d : Dsk} {l : List Rec} (h : Holds u d l) : OkRs l := unitGo_recs (unitL_go h.unit)
theorem Holds.few {u : Uni} {d : Dsk} {l : List Rec} (h : Holds u d l) : l.length ≤ 79 := unitL_few h.unit
theorem Holds.size {u : Uni} {d : Dsk} {l : List Rec} (h : Holds u d l) : (txt l).length ≤ 7979 := by
  have := txt_len h.ok; have := h.few; omega
theorem Holds.new : Holds newU noK [] := ⟨rfl, rfl⟩
theorem Holds.put {u : Uni} {d : Dsk} {l : List Rec} {r : Rec} (h : Holds u d l) (hr : checkR r = 0) : putK d r = (⟨txt l, txt [r]⟩, 0) := by
  have h1 := h.size
  have h2 := textR_len hr
  obtain ⟨h0, rfl⟩ := h
  rw [putK_ok (checkK_of (unitGo_recs (unitL_go h0)) (by have := unitL_few h0; omega) (by simp; omega)) hr (by simp; omega)]
  simp [textP]
theorem Holds.next {u : Uni} {d : Dsk} {l : List Rec} {r : Rec} (h : Holds u d l) (hr : (nextU u r).2 = 0) : ∃ d1, putK d r = (d1, 0) ∧ syncK d1 = (⟨txt (l ++ [r]), []⟩, 0) ∧ Holds (nextU u r).1 ⟨txt (l ++ [r]), []⟩ (l ++ [r]) := by
  have hc := (nextU_good hr).2.1
  refine ⟨_, h.put hc, ?_, unitL_snoc h.unit hr, rfl⟩
  have h1 := h.size; have h2 := textR_len hc; have h3 := h.few
  have h4 := txt_len (OkRs.one hc)
  rw [List.length_singleton] at h4
  exact syncK_ok h.ok (OkRs.one hc) (by simp; omega) (by omega)
theorem Holds.back {u : Uni} {d : Dsk} {l : List Rec} (h : Holds u d l) : recoverK d = (d, l, 0) := by
  have h1 := h.size; have h2 := h.few; have h3 := h.ok
  rw [h.disk]
  exact recover_safe h3 (by omega) (by omega)
/-- UnitOnce's loop. -/
def onceGo (u : Uni) (d : Dsk) : List Rec → Uni × Dsk
  | [] => (u, d)
  | r :: l => if (nextU u r).2 ≠ 0 then onceGo u d l else onceGo (nextU u r).1 (syncK (putK d r).1).1 l
/-- What a place is behind a record. -/
theorem next_cells {u : Uni} {r : Rec} (hr : (nextU u r).2 = 0) (k : Nat) :
    ¬ ((cellAt u.cells k).kind ≠ 4 ∧ cellAt (nextU u r).1.cells k ≠ cellAt u.cells k ∨ (cellAt u.cells k).kind = 4 ∧ cellAt (nextU u r).1.cells k ≠ cellAt u.cells k ∧ (r.kind ≠ 1 ∨ r.at_ ≠ k ∨ cellAt (nextU u r).1.cells k ≠ r.e)) := by
  rintro (⟨h1, h2⟩ | ⟨h1, h2, h3⟩)
  · exact h2 ((nextU_upon hr).cell k h1)
  · by_cases hk : r.kind = 2
    · obtain ⟨e, _⟩ := nextU_seal hr hk
      rw [e] at h2
      exact h2 rfl
    · obtain ⟨e, g1, g2, g3, g4, g5⟩ := nextU_write hr hk
      rw [e] at h2 h3
      dsimp only at h2 h3
      rw [cellAt_put] at h2 h3
      split at h2
      · rename_i hc
        rw [if_pos hc] at h3
        rcases h3 with h3 | h3 | h3
        · exact h3 g4
        · omega
        · exact h3 rfl
      · exact h2 rfl
end Go.Proofs.YtdcegdonppfbkaaDoor
