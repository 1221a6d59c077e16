/- slices.Repeat of one entry, sixty times; math/bits.Mul at 1 and 60; the document's FreshUnit. -/
import Derived.Test.YtbipmoehcmighaaUnit2
import Derived.Test.YtbipmoehcmighaaRUnit
import Derived.Test.YtbipmoehcmighaaNew
namespace Go.Proofs.Ytbipmoehcmighaa
set_option linter.unusedSimpArgs false
set_option linter.unusedVariables false
open Go.RowKit

set_option maxRecDepth 100000 in
theorem Mul64_calls (w : World) : Calls Try.prog 98 #[.int .u64 1, .int .u64 60] w fun e w' => e = .returned (.tuple #[.int .u64 0, .int .u64 60]) ∧ Onto w w' := by
  go_enter Try.func98, Try.ntmps98
  go_wp2_with fail
  exact bodyPost_ret (v := .tuple #[.int .u64 0, .int .u64 60]) (by simp [results, Try.results98, go_sem]; kernel_rfl) rfl ⟨rfl, Onto.rfl' _⟩
set_option maxRecDepth 100000 in
theorem Mul_calls (w : World) : Calls Try.prog 90 #[.int .u64 1, .int .u64 60] w fun e w' => e = .returned (.tuple #[.int .u64 0, .int .u64 60]) ∧ Onto w w' := by
  go_enter Try.func90, Try.ntmps90
  go_wp2_with fail
  refine Calls.mono (Mul64_calls _) ?_
  rintro e w' ⟨rfl, hb⟩
  go_wp2_with fail
  exact bodyPost_ret (v := .tuple #[.int .u64 0, .int .u64 60]) (by simp [results, Try.results90, go_sem]) rfl ⟨rfl, hb⟩

theorem rep_len (x : Entry) (m : Nat) : (List.replicate m (encE x)).flatten.length = m * 5 := by
  induction m with
  | zero => rfl
  | succ m ih => rw [List.replicate_succ, List.flatten_cons, List.length_append, ih]; simp [encE]; omega
theorem rep_add (x : Entry) (m k : Nat) : (List.replicate (m + k) (encE x)).flatten = (List.replicate m (encE x)).flatten ++ (List.replicate k (encE x)).flatten := by
  rw [← List.replicate_append_replicate, List.flatten_append]
theorem rep_one (x : Entry) (m : Nat) : ∀ v ∈ (List.replicate m (encE x)).flatten, v.oneCell' = true := by
  intro v hv
  obtain ⟨r, hr, hv⟩ := List.mem_flatten.1 hv
  rw [(List.mem_replicate.1 hr).2] at hv
  simp [encE] at hv
  rcases hv with rfl | rfl | rfl | rfl | rfl <;> rfl
theorem rep_map (x : Entry) (m : Nat) : (List.replicate m x).map encE = List.replicate m (encE x) := by rw [List.map_replicate]

set_option maxHeartbeats 2000000 in
set_option maxRecDepth 100000 in
theorem Repeat_calls (A : Option Addr) (c : Nat) (x : Entry) (w : World) (h : S w 5 A 1 [encE x]) :
    Calls Try.prog 70 #[.slice A 1 c, .int .i64 60] w fun e w' => ∃ A', e = .returned (.slice A' 60 60) ∧ S w' 5 A' 60 ((List.replicate 60 x).map encE) ∧ Onto w w' ∧ Fresh w.heap.size A' := by
  obtain ⟨i0, hi0, hz0, hz1, hz2⟩ := info_parts infoE
  have hmk : ∀ w : World, (Instr.makeSlice 32 (.int .i64 60) (.int .i64 60)).run Try.prog w = .ok (.slice (some ⟨w.heap.size, 0, none⟩) 60 60) (w.alloc (.cells (madeCells (Value.agg #[.int .i64 0, .int .i64 0, .int .i64 0, .int .i64 0, .int .i64 0]).cells 300) 24)) := fun w => by
    have := run_makeSlice (P := Try.prog) w 32 24 i0 _ Try.underlying32 hi0 hz0 .i64 .i64 60 60 (by omega) (by omega) (by rw [hz1]; decide) (by rw [hz2]; decide) (by omega)
    rw [hz1] at this
    exact this
  have hcp : ∀ (g m : Nat) (cur : Array Value), cur.size = 300 → 1 ≤ m → m ≤ 60 → cur.toList.take (m * 5) = (List.replicate m (encE x)).flatten → ∃ cur', (∀ W : World, W.heap[g]? = some (.cells cur 24 (0, 0)) → ∀ ty dc sc, (Builtin.copy_ #[32, 32] ty #[.slice (some ⟨g, m * 5, none⟩) (60 - m) dc, .slice (some ⟨g, 0, none⟩) m sc]).run Try.prog W = .ok (.int .i64 (min m (60 - m) : Nat)) (W.setRow g cur')) ∧ cur'.size = 300 ∧ cur'.toList.take ((m + min m (60 - m)) * 5) = (List.replicate (m + min m (60 - m)) (encE x)).flatten := by
    intro g m cur hsz h1 h60 htk
    have hle : min m (60 - m) ≤ m := Nat.min_le_left _ _
    have hle2 : min m (60 - m) ≤ 60 - m := Nat.min_le_right _ _
    obtain ⟨t, ht⟩ : ∃ t, t = min m (60 - m) := ⟨_, rfl⟩
    have ht' : Nat.min m (60 - m) = t := ht.symm
    rw [← ht] at hle hle2 ⊢
    have hlen := rep_len x t
    have := fun (W : World) (hW : W.heap[g]? = some (.cells cur 24 (0, 0))) ty dc sc => run_copy_rowK (P := Try.prog) W 32 32 ty 24 g (m * 5) (60 - m) dc ⟨g, 0, none⟩ m sc cur 24 i0 (List.replicate t (encE x)).flatten Try.underlying32 hi0 hW
      (by rw [ht', hz1, hlen]) (fun j v hj => by
        have hjl := (List.getElem?_eq_some_iff.1 hj).1
        rw [hlen] at hjl
        rw [Addr.add_lit, cell_of_row W g _ _ _ _ hW, ← Array.getElem?_toList, Nat.zero_add]
        have h2 : (cur.toList.take (m * 5))[j]? = some v := by
          rw [htk, show m = t + (m - t) by omega, rep_add, List.getElem?_append_left (by rw [hlen]; exact hjl)]
          exact hj
        rw [List.getElem?_take_of_lt (by omega)] at h2
        exact h2) (by rw [hlen]; omega) (rep_one x t)
    rw [ht'] at this
    refine ⟨_, this, ?_, ?_⟩
    · rw [spliceR_size (by rw [hlen]; omega), hsz]
    · have hl1 : (cur.toList.take (m * 5)).length = m * 5 := by rw [List.length_take]; simp; omega
      rw [rep_add, ← htk, Nat.add_mul]
      simp only [spliceR]
      rw [show m * 5 + t * 5 = (cur.toList.take (m * 5) ++ (List.replicate t (encE x)).flatten).length by rw [List.length_append, hl1, hlen]]
      exact List.take_left
  have hcp0 : ∀ (W : World) (g b off : Nat) (cur : Array Value), W.heap[g]? = some (.cells cur 24 (0, 0)) → cur.size = 300 → (∀ j v, (encE x)[j]? = some v → W.cell? ⟨b, off + j, none⟩ = some v) → ∃ cur', (∀ ty dc sc, (Builtin.copy_ #[32, 32] ty #[.slice (some ⟨g, 0, none⟩) 60 dc, .slice (some ⟨b, off, none⟩) 1 sc]).run Try.prog W = .ok (.int .i64 1) (W.setRow g cur')) ∧ cur'.size = 300 ∧ cur'.toList.take (1 * 5) = (List.replicate 1 (encE x)).flatten := by
    intro W g b off cur hW hsz hc
    have := fun ty dc sc => run_copy_rowK (P := Try.prog) W 32 32 ty 24 g 0 60 dc ⟨b, off, none⟩ 1 sc cur 24 i0 (encE x) Try.underlying32 hi0 hW
      (by rw [hz1]; rfl) (fun j v hj => by rw [Addr.add_lit]; exact hc j v hj) (by simp [encE]; omega) (by simp [encE, Value.oneCell'])
    refine ⟨_, this, ?_, ?_⟩
    · rw [spliceR_size (by simp [encE]; omega), hsz]
    · simp [spliceR, encE]
  have HC := Lib.hid hcp; have HC0 := Lib.hid hcp0
  clear hi0 hz0 hz1 hz2 hcp hcp0
  obtain ⟨b, off, rfl, hb, hc⟩ := h.2.2 (by omega)
  have hc' : Hid (∀ j v, (encE x)[j]? = some v → w.cell? ⟨b, off + j, none⟩ = some v) := Lib.hid fun j v hj => by
    have := hc 0 j (encE x) v (by rfl) hj
    simpa using this
  clear hc h
  go_enter Try.func70, Try.ntmps70
  go_wp2_with fail
  refine Calls.mono (Mul_calls _) ?_
  rintro e w1 ⟨rfl, o1⟩
  go_upto_region 7 with fail
  have hg : (w1.alloc (.cells (madeCells (Value.agg #[.int .i64 0, .int .i64 0, .int .i64 0, .int .i64 0, .int .i64 0]).cells 300) 24)).heap[w1.heap.size]? = some (.cells (madeCells (Value.agg #[.int .i64 0, .int .i64 0, .int .i64 0, .int .i64 0, .int .i64 0]).cells 300) 24 (0, 0)) := hNew rfl
  have o2 : Onto w (w1.alloc (.cells (madeCells (Value.agg #[.int .i64 0, .int .i64 0, .int .i64 0, .int .i64 0, .int .i64 0]).cells 300) 24)) := Onto.new o1 _
  have hsz0 := size_madeCells (Value.agg #[.int .i64 0, .int .i64 0, .int .i64 0, .int .i64 0, .int .i64 0]).cells 300
  have hwg : w.heap.size ≤ w1.heap.size := o1.size
  change Code.wp _ _ _ _ (w1.alloc (.cells (madeCells (Value.agg #[.int .i64 0, .int .i64 0, .int .i64 0, .int .i64 0, .int .i64 0]).cells 300) 24))
  generalize (w1.alloc (.cells (madeCells (Value.agg #[.int .i64 0, .int .i64 0, .int .i64 0, .int .i64 0, .int .i64 0]).cells 300) 24)) = w2 at *
  generalize madeCells (Value.agg #[.int .i64 0, .int .i64 0, .int .i64 0, .int .i64 0, .int .i64 0]).cells 300 = cur0 at *
  generalize w1.heap.size = g at *
  obtain ⟨cur1, hr1, hs1, ht1⟩ := HC0.out w2 g b off cur0 hg hsz0 (fun j v hj => cellB o2 (hc'.out j v hj))
  have HG := Lib.hid hg; have HR1 := Lib.hid hr1; have HT : Hid (cur1.size = 300 ∧ cur1.toList.take (1 * 5) = (List.replicate 1 (encE x)).flatten) := Lib.hid ⟨hs1, ht1⟩
  clear hmk hg hr1 hs1 ht1 o1 hsz0
  go_wp2_with (with_reducible refine wpList_copy_run _ rfl (.tmp 31) (.tmp 32) _ _ rfl _ _ rfl rfl (HR1.out _ _ _) ?_)
  go_loopw [8] (fun s wr => ∃ (m : Nat) (cur : Array Value), 1 ≤ m ∧ m ≤ 60 ∧ s = .int .i64 m ∧ Hid (wr.heap[g]? = some (.cells cur 24 (0, 0))) ∧ Hid (cur.size = 300 ∧ cur.toList.take (m * 5) = (List.replicate m (encE x)).flatten) ∧ Onto w wr) (fun s _ => 60 - (intOf s).toNat)
  case atStart => exact ⟨1, cur1, Nat.le_refl _, by omega, rfl, setRow_heap _ _ _ _ _ _ HG.out, HT, below_grown o2 o2.size (grownBy_setRow _ _ _) (fun k hk => by injection hk with hk; omega)⟩
  case round =>
    obtain ⟨m, cur, h1, h60, rfl, HG2, HT2, ob⟩ := hrel
    by_cases hlt : m < 60
    · obtain ⟨cur', hr, hs', ht'⟩ := HC.out g m cur HT2.out.1 h1 h60 HT2.out.2
      have hle : min m (60 - m) ≤ 60 - m := Nat.min_le_right _ _
      have hge : 1 ≤ min m (60 - m) := by rw [Nat.le_min]; omega
      have hsl : ∀ w, (Instr.slice 32 (.slice (some ⟨g, 0, none⟩) 60 60) (some (.int .i64 (m : Int))) none none).run Try.prog w = .ok (.slice (some ⟨g, m * 5, none⟩) (60 - m) (60 - m)) w := fun w => by
        rw [run_slice_from (some ⟨g, 0, none⟩) 60 60 m Try.underlying32 Try.sizeOf24 h60 w, if_neg (by omega)]
        simp [Addr.add]; omega
      have hmi : (m : Int) ≤ 60 := by omega
      have hmi2 : (m : Int) < 60 := by omega
      generalize min m (60 - m) = t at *
      have hwr : IntKind.i64.wrap ((m : Int) + (t : Int)) = (m : Int) + (t : Int) := by rw [IntKind.wrap_i64]; omega
      have HR := Lib.hid hr; have HT' := Lib.hid (show cur'.size = 300 ∧ _ from ⟨hs', ht'⟩)
      clear hr hs' ht' HC HC0 HR1 HG HT
      go_wp2_with fail
      go_region_law (refine step_copy_run _ rfl _ _ 32 32 rfl _ _ (by simp [Act.eval, Act.put]; rfl) (by simp [Act.eval, Act.put]; rfl) (HR.out _ (by exact HG2.out) _ _ _) ?_)
      go_wp2_with fail
      go_frame
      go_roundw
      case measure => simp [intOf] <;> omega
      case rel =>
        refine ⟨_, _, _, _, _, _, _, _, _, _, _, _, _, _, ⟨m + t, cur', by omega, by omega, ?_, setRow_heap _ g cur _ _ _ HG2.out, HT', below_grown (Onto.draw ob) ob.size (grownBy_setRow _ _ _) (fun k hk => by injection hk with hk; omega)⟩, rfl⟩
        go_num
    · have hm : m = 60 := by omega
      subst hm
      have hfin : S wr 5 (some ⟨g, 0, none⟩) 60 ((List.replicate 60 x).map encE) := by
        have hlen : cur.toList = (List.replicate 60 (encE x)).flatten := by
          rw [← HT2.out.2, List.take_of_length_le]
          have := HT2.out.1
          simp; omega
        have := Sl.block (k := 5) (List.replicate 60 (encE x)) HG2.out (fun r hr => by rw [(List.mem_replicate.1 hr).2]; rfl) hlen
        rw [rep_map]
        rw [List.length_replicate] at this
        exact this
      clear HC HC0 HR1 HG HT HG2 HT2
      go_wp2_with fail
      go_ret
      exact ⟨_, rfl, hfin, ob, fun a e => by injection e with e; subst e; exact hwg⟩

set_option maxRecDepth 100000 in
/-- The document's new unit. -/
theorem Fresh_calls (w : World) : Calls Try.prog 33 #[] w fun e w' => ∃ A, e = .returned (.agg #[.int .i64 1, .slice A 60 60]) ∧ S w' 5 A 60 (newU.cells.map encE) ∧ Onto w w' ∧ Fresh w.heap.size A := by
  go_enter Try.func33, Try.ntmps33
  go_wp2_with fail
  refine Calls.mono (blank_calls _) ?_
  rintro e w1 ⟨rfl, o1⟩
  have p0 : w1.cell? ⟨w.heap.size, 0, none⟩ = some (.int .i64 0) := cellB o1 (by simp [go_sem])
  have p1 : w1.cell? ⟨w.heap.size, 1, none⟩ = some (.slice none 0 0) := cellB o1 (by simp [go_sem])
  have f0 : w1.frozen? ⟨w.heap.size, 0, none⟩ = false := frozB (v := .int .i64 0) o1 (by simp [go_sem]) (by simp [go_sem])
  have f1 : w1.frozen? ⟨w.heap.size, 1, none⟩ = false := frozB (v := .slice none 0 0) o1 (by simp [go_sem]) (by simp [go_sem])
  have o2 := Onto.to ((Onto.rfl' w).new _) o1
  clear o1
  go_wp2_with fail
  refine Calls.mono (Repeat_calls _ 1 blank _ (by
    have := Sl.one (w := w1) (t := 24) blank
    exact S.of this (by simp))) ?_
  rintro e w3 ⟨A', rfl, hs, o3, hf⟩
  have hz1 := World.block_lt_of_cell? _ _ p0
  simp only at hz1
  replace o3 := Onto.to ((Onto.rfl' w1).new _) o3
  replace f0 := frozB o3 p0 f0; replace f1 := frozB o3 p1 f1; replace p0 := cellB o3 p0; replace p1 := cellB o3 p1
  replace o2 := Onto.to o2 o3
  have hz := World.block_lt_of_cell? _ _ p0
  simp only at hz
  have ho : OffN 60 w.heap.size A' := hf.offN (by simp; omega)
  clear o3
  go_wp2_with fail
  refine bodyPost_ret (v := .agg #[.int .i64 1, .slice A' 60 60]) (by simp [results, Try.results33, go_sem, p0, p1]) rfl ⟨A', rfl, (S.off hs ho _).off ho _, Onto.put (Onto.put o2 (by simp only; omega) _) (by simp only; omega) _, fun a e => by have := hf a e; simp at this; omega⟩
end Go.Proofs.Ytbipmoehcmighaa
