/- unit.Same, unit.Tail, and the document's. -/
import Derived.Test.YtdcegdonppfbkaaDoorUnit
namespace Go.Proofs.YtdcegdonppfbkaaDoor
set_option linter.unusedSimpArgs false
set_option linter.unusedVariables false
open Go.RowKit

/-- How many cells up to the last one that is not blank. -/
def tailG : Nat → Nat → List Entry → Nat
  | _, a, [] => a
  | k, a, c :: l => tailG (k + 1) (if c.kind ≠ 4 then k + 1 else a) l
def tailF (cs : List Entry) : Nat := tailG 0 0 cs
theorem tailG_snoc (l : List Entry) (c : Entry) : ∀ (k a : Nat), tailG k a (l ++ [c]) = if c.kind ≠ 4 then k + l.length + 1 else tailG k a l := by
  induction l with
  | nil => intro k a; simp [tailG]
  | cons x l ih =>
    intro k a
    simp only [List.cons_append, tailG, ih, List.length_cons]
    split <;> first | rfl | omega
theorem tailF_take {cs : List Entry} {k : Nat} {x : Entry} (hx : cs[k]? = some x) : tailF (cs.take (k + 1)) = if x.kind ≠ 4 then k + 1 else tailF (cs.take k) := by
  obtain ⟨hk, rfl⟩ := List.getElem?_eq_some_iff.1 hx
  unfold tailF
  rw [List.take_succ_eq_append_getElem hk, tailG_snoc, List.length_take]
  split
  · omega
  · rfl

set_option maxHeartbeats 1000000 in
theorem USame_calls (ep ep' : Int) (A A' : Option Addr) (n c m d : Nat) (cs cs' : List Entry) (w : World) (h : S w 5 A n (cs.map encE)) (h' : S w 5 A' m (cs'.map encE)) (hn : n ≤ 9223372036854775807) :
    Calls Tryd.prog 53 #[.agg #[.int .i64 ep, .slice A n c], .agg #[.int .i64 ep', .slice A' m d]] w fun e w' => e = .returned (.bool (decide ((⟨ep, cs⟩ : Uni) = ⟨ep', cs'⟩))) ∧ Onto w w' := by
  have HN := Lib.hid hn
  clear hn
  by_cases hep : ep = ep'
  · have hd : (ep == ep') = true := by simpa using hep
    have hdec : decide (cs = cs') = decide ((⟨ep, cs⟩ : Uni) = ⟨ep', cs'⟩) := by subst hep; simp
    have HD := Lib.hid hdec
    clear hdec hep
    go_enter Tryd.func53, Tryd.ntmps53
    go_wp2_with fail
    refine Calls.mono (EqualE_calls A A' n m c d _ cs cs' _ ((h.new _).new _) ((h'.new _).new _) HN.out) ?_
    rintro e w' ⟨rfl, q, rfl⟩
    rw [HD.out]
    clear h h'
    go_wp2_with fail
    go_ret
    refine ⟨ret_bool (by simp), ?_⟩
    exact Onto.draws (((Below.refl _ _).alloc (Nat.le_refl _) _).alloc (by simp) _) q
  · have hd : (ep == ep') = false := by simpa using hep
    have hdec : decide ((⟨ep, cs⟩ : Uni) = ⟨ep', cs'⟩) = false := by simp [hep]
    rw [hdec]
    clear h h' hep hdec
    go_enter Tryd.func53, Tryd.ntmps53
    go_wp2_with fail
    go_ret
    exact ⟨rfl, by first | exact ((Below.refl _ _).alloc (Nat.le_refl _) _).alloc (by simp) _ | exact Onto.draws (((Below.refl _ _).alloc (Nat.le_refl _) _).alloc (by simp) _) _⟩

set_option maxHeartbeats 4000000 in
set_option maxRecDepth 100000 in
theorem UTail_calls (ep : Int) (A : Option Addr) (n c : Nat) (cs : List Entry) (w : World) (h : S w 5 A n (cs.map encE)) (hn : n ≤ 1000000000000) :
    Calls Tryd.prog 79 #[.agg #[.int .i64 ep, .slice A n c]] w fun e w' => e = .returned (.int .i64 (tailF cs : Nat)) ∧ Onto w w' := by
  have hl : cs.length = n := by have := h.len; simpa using this
  have HL := Lib.hid hl
  obtain ⟨fin, hfin⟩ : ∃ fin, fin = tailF cs := ⟨_, rfl⟩
  rw [← hfin]
  have HF := Lib.hid hfin
  clear hl hfin
  have q1 : (w.alloc (Obj.cells #[.int .i64 ep, .slice A n c] 71)).cell? ⟨w.heap.size, 1, none⟩ = some (.slice A n c) := by simp [go_sem]
  have h1 := h.new (Obj.cells #[.int .i64 ep, .slice A n c] 71)
  have h01 : Onto w (w.alloc (Obj.cells #[.int .i64 ep, .slice A n c] 71)) := (Below.refl _ _).alloc (Nat.le_refl _) _
  go_enter Tryd.func79, Tryd.ntmps79
  go_upto_region 1 with fail
  have hz : w.heap.size < (w.alloc (Obj.cells #[.int .i64 ep, .slice A n c] 71)).heap.size := by simp
  generalize w.alloc (Obj.cells #[.int .i64 ep, .slice A n c] 71) = w1 at *
  go_wp2_with fail
  go_loopw [3] (fun s wr => ∃ k : Nat, k ≤ n ∧ s = .int .i64 k ∧ Onto w1 wr ∧ Hid (fin = tailF (cs.take k))) (fun s _ => (intOf s).toNat)
  case atStart => exact ⟨n, Nat.le_refl _, rfl, Below.refl _ _, by show _ = _; rw [HF.out, List.take_of_length_le (by rw [HL.out]; omega)]⟩
  case round =>
    obtain ⟨k, hk, rfl, hbr, HT⟩ := hrel
    rcases Nat.eq_zero_or_pos k with rfl | hpos
    · have hf0 : fin = 0 := HT.out
      subst hf0
      go_wp2_with fail
      go_ret
      exact ⟨rfl, Onto.to h01 hbr⟩
    · obtain ⟨k', rfl⟩ : ∃ k', k = k' + 1 := ⟨k - 1, by omega⟩
      obtain ⟨b, off, x, rfl, hb, hx, c0, c1, c2, c3, c4⟩ := (S.onto h1 hbr).atE (i := k') (by omega)
      have q2 := cellB hbr q1
      have hz2 := World.block_lt_of_cell? _ _ q2
      simp only at hz2
      have HX := Lib.hid (tailF_take hx)
      have hkn : (k' : Int) < (n : Int) := by omega
      have hw : IntKind.i64.wrap (((k' + 1 : Nat) : Int) - 1) = (k' : Int) := by rw [IntKind.wrap_i64]; omega
      have hw' : wrap64 (((k' + 1 : Nat) : Int) - 1) = (k' : Int) := by unfold wrap64; omega
      clear hx
      by_cases h4 : x.kind ≠ 4
      · have hd : (x.kind != 4) = true := by simpa using h4
        have hst : fin = k' + 1 := by rw [HT.out, HX.out, if_pos h4]
        clear h4 HX HT
        subst hst
        go_wp2_with fail
        go_ret
        exact ⟨ret_int (by simp), Onto.to h01 hbr⟩
      · have hd : (x.kind != 4) = false := by simpa using h4
        have HST := Lib.hid (show fin = tailF (cs.take k') by rw [HT.out, HX.out, if_neg h4])
        clear h4
        go_wp2_with fail
        go_roundw
        case measure => simp [intOf] <;> omega
        case rel => exact ⟨k', by omega, by go_num, hbr, HST.out⟩
end Go.Proofs.YtdcegdonppfbkaaDoor
