/- The law BookParts: entries in two parts make what they make in one. No condition. -/
import Derived.Test.YtiphoihijalfkaaRung
import Derived.Test.YtiphoihijalfkaaOpen
namespace Go.Proofs.Ytiphoihijalfkaa
open Go.RowKit Go.ChangeShapes Go.WideShapes Go.ChangeAt

theorem Sl.take {w : World} {B k n m : Nat} {A : Option Addr} {rows : List (List Value)} (h : Sl w B k A n rows) (hm : m ≤ n) : Sl w B k A m (rows.take m) :=
  ⟨by rw [List.length_take, h.1]; omega, fun r hr => h.2.1 r (List.mem_of_mem_take hr), fun h0 => by
    obtain ⟨b, off, e, hb, hc⟩ := h.2.2 (by omega)
    refine ⟨b, off, e, hb, fun i j r u hr hu => ?_⟩
    rw [List.getElem?_take] at hr
    split at hr
    · exact hc i j r u hr hu
    · cases hr⟩
theorem Sl.cut {w : World} {B k n m c : Nat} {A : Option Addr} {rows : List (List Value)} (h : Sl w B k A n rows) (hm : m ≤ n) (hc : n ≤ c) :
    Sl w B k (if c = m then A else A.map (fun a => a.add (m * k))) (n - m) (rows.drop m) := by
  refine ⟨by rw [List.length_drop, h.1], fun r hr => h.2.1 r (List.mem_of_mem_drop hr), fun h0 => ?_⟩
  obtain ⟨b, off, rfl, hb, hcell⟩ := h.2.2 (by omega)
  rw [if_neg (by omega)]
  refine ⟨b, off + m * k, by simp [Addr.add_lit], hb, fun i j r u hr hu => ?_⟩
  rw [List.getElem?_drop] at hr
  have := hcell (m + i) j r u hr hu
  rw [show off + m * k + i * k + j = off + (m + i) * k + j by rw [Nat.add_mul]; omega]
  exact this

theorem run_slice_from {P : Program} {t e : TypeId} {size : Nat} (A : Option Addr) (n c m : Nat) (ht : P.underlying t = some (.slice e)) (hz : ∀ w, (sizeOf e).run P w = .ok size w) (hm : m ≤ n) (w : World) :
    (Instr.slice t (.slice A n c) (some (.int .i64 (m : Int))) none none).run P w = .ok (.slice (if c = m then A else A.map (fun a => a.add (m * size))) (n - m) (c - m)) w := by
  have h1 : (m : Int) ≤ (n : Int) := by omega
  simp [Instr.slice, run_underlying ht, Instr.sliceBounds, hz, go_sem, h1]
/-- A row that holds nothing of block z. -/
def OffN (n z : Nat) (A : Option Addr) : Prop := 0 < n → ∀ a, A = some a → a.block ≠ z
theorem Sl.offN {w : World} {B k n z : Nat} {A : Option Addr} {rows : List (List Value)} (h : Sl w B k A n rows) (hz : B ≤ z) : OffN n z A := fun hn a e => by
  obtain ⟨b, off, e', hb, _⟩ := h.2.2 hn
  rw [e] at e'
  injection e' with e'
  subst e'
  simp only
  omega
theorem Fresh.offN {lo n z : Nat} {A : Option Addr} (h : Fresh lo A) (hz : z < lo) : OffN n z A := fun _ a e => by have := h a e; omega
theorem Sl.setOffN {w : World} {B k n : Nat} {A : Option Addr} {rows : List (List Value)} (h : Sl w B k A n rows) {p : Addr} (ho : OffN n p.block A) (u : Value) : Sl (w.setCell p u) B k A n rows :=
  ⟨h.1, h.2.1, fun hn => by
    obtain ⟨b, off, e, hb, hc⟩ := h.2.2 hn
    have := ho hn _ e
    exact ⟨b, off, e, hb, fun i j r v hr hv => (World.cell?_setCell_other w _ _ _ (by intro e; subst e; exact this rfl)).trans (hc i j r v hr hv)⟩⟩
theorem replayB_cons {b : Book} {e : Entry} {l : List Entry} : replayB b (e :: l) = if (applyB b e).2 ≠ 0 then (Book.none, (applyB b e).2) else replayB (applyB b e).1 l := rfl
theorem stepB_len (b : Book) (e : Entry) : (stepB b e).jobs.length ≤ b.jobs.length + 1 ∧ (stepB b e).rung.length ≤ b.rung.length + 1 := by
  unfold stepB
  split
  · split
    · simp
    · simp; omega
  · split
    · split
      · simp; omega
      · simp
    · split
      · split
        · split <;> simp
        · simp
      · simp
theorem applyB_len (b : Book) (e : Entry) : (applyB b e).1.jobs.length ≤ b.jobs.length + 1 ∧ (applyB b e).1.rung.length ≤ b.rung.length + 1 := by
  unfold applyB
  split
  · simp [Book.none]
  · split
    · simp [Book.none]
    · exact stepB_len b e
theorem replayB_len {b : Book} {l : List Entry} : (replayB b l).1.jobs.length ≤ b.jobs.length + l.length ∧ (replayB b l).1.rung.length ≤ b.rung.length + l.length := by
  induction l generalizing b with
  | nil => simp [replayB]
  | cons e l ih =>
    rw [replayB_cons]
    split
    · simp [Book.none]
    · have := applyB_len b e
      have := ih (b := (applyB b e).1)
      simp only [List.length_cons]
      omega
theorem replay_len (l : List Entry) : (replay l).1.jobs.length ≤ 60 ∧ (replay l).1.rung.length ≤ 60 := by
  unfold replay
  split
  · simp [Book.none]
  · have := replayB_len (b := Book.none) (l := l)
    simp [Book.none] at this ⊢
    omega
theorem replayB_err {b : Book} {l : List Entry} (h : (replayB b l).2 ≠ 0) : (replayB b l).1 = Book.none := by
  induction l generalizing b with
  | nil => simp [replayB] at h
  | cons e l ih =>
    unfold replayB at h ⊢
    split
    · rfl
    · rename_i h1
      rw [if_neg h1] at h
      exact ih h
theorem replayB_append {b : Book} {l m : List Entry} : replayB b (l ++ m) = if (replayB b l).2 ≠ 0 then replayB b l else replayB (replayB b l).1 m := by
  induction l generalizing b with
  | nil => simp [replayB]
  | cons e l ih =>
    rw [List.cons_append, replayB_cons, replayB_cons]
    by_cases h : (applyB b e).2 ≠ 0
    · rw [if_pos h, if_pos h, if_pos h]
    · rw [if_neg h, if_neg h]
      exact ih
/-- In two parts. -/
theorem replay_parts {l : List Entry} {b : Book} {k : Nat} (h : replay l = (b, 0)) : ∃ b1, replay (l.take k) = (b1, 0) ∧ replayB b1 (l.drop k) = (b, 0) := by
  unfold replay at h
  split at h
  · cases h
  · rename_i hl
    rw [← List.take_append_drop k l, replayB_append] at h
    split at h
    · rename_i h1
      rw [h] at h1
      exact absurd rfl h1
    · rename_i h1
      refine ⟨(replayB Book.none (l.take k)).1, ?_, h⟩
      unfold replay
      rw [if_neg (by rw [List.length_take]; omega)]
      have : (replayB Book.none (l.take k)).2 = 0 := Decidable.byContradiction h1
      rw [← this]

set_option maxHeartbeats 4000000 in
set_option maxRecDepth 100000 in
theorem BookParts_walk (A : Option Addr) (n c : Nat) (l : List Entry) (k0 : Int) (w : World) (h : Sl w w.heap.size 5 A n (l.map encE)) (hnc : n ≤ c) (hcm : c ≤ maxLen) :
    Calls Try.prog 7 #[.slice A n c, .int .i64 k0] w fun e w' => e = .returned (.bool true) ∧ Below w.heap.size w w' := by
  have hl : l.length = n := by have := h.len; simpa using this
  obtain ⟨r, hr⟩ : ∃ r, r = replay l := ⟨_, rfl⟩
  have HR := Lib.hid hr
  have HL := Lib.hid hl
  have HCM := Lib.hid hcm
  clear hr hl hcm
  by_cases h0 : r.2 = 0
  · have hn60 : n ≤ 60 := by
      have e1 := HR.out
      have e2 := HL.out
      unfold replay at e1
      split at e1
      · rw [e1] at h0; simp at h0
      · omega
    obtain ⟨kn, hkn, hkle⟩ : ∃ kn : Nat, k0 % ((n : Int) + 1) = (kn : Int) ∧ kn ≤ n := by
      have h1 := Int.emod_nonneg k0 (b := (n : Int) + 1) (by omega)
      have h2 := Int.emod_lt_of_pos k0 (b := (n : Int) + 1) (by omega)
      exact ⟨(k0 % ((n : Int) + 1)).toNat, by omega, by omega⟩
    obtain ⟨b1, hp1, hp2⟩ := replay_parts (k := kn) (show replay l = (r.1, 0) by rw [← HR.out, ← h0])
    have HP1 := Lib.hid hp1; have HP2 := Lib.hid hp2; have HK := Lib.hid hkn
    have H0 := Lib.hid h0
    clear hp1 hp2 hkn h0
    have hst : Sl w w.heap.size 5 A kn ((l.take kn).map encE) := by rw [List.map_take]; exact h.take hkle
    have hsc := h.cut hkle hnc
    rw [← List.map_drop] at hsc
    go_enter Try.func7, Try.ntmps7
    go_wp2_with fail
    refine Calls.mono (Replay_calls A n c w.heap.size l _ h (Nat.le_refl _)) ?_
    rw [← HR.out, H0.out]
    rintro e w1 ⟨A1, n1, c1, A2, n2, c2, rfl, hs1, hs2, hb1, _, _⟩
    go_wp2_with fail
    refine Calls.mono (rung_calls _) ?_
    rintro e w2 ⟨rfl, hb2⟩
    have q0 : w2.cell? ⟨w1.heap.size, 0, none⟩ = some (.slice A1 n1 c1) := cellB hb2 (by simp [go_sem])
    have q1 : w2.cell? ⟨w1.heap.size, 1, none⟩ = some (.slice A2 n2 c2) := cellB hb2 (by simp [go_sem])
    have h12 : Below w1.heap.size w1 w2 := ((Below.refl _ _).alloc (Nat.le_refl _) _).trans (hb2.mono (by simp))
    have hz12 : w1.heap.size < w2.heap.size := by have := hb2.size; simp at this; omega
    have h02 : Below w.heap.size w w2 := hb1.trans (h12.mono hb1.size)
    clear hb2
    go_wp2_with fail
    refine Calls.mono (at_calls _ _ _ (by omega) (by omega)) ?_
    rintro e w3 ⟨rfl, rfl⟩
    rw [HK.out]
    go_wp2_with fail
    refine Calls.mono (Replay_calls A kn c w.heap.size (l.take kn) _ (hst.under (Nat.le_refl _) h02) h02.size) ?_
    rw [HP1.out]
    rintro e w4 ⟨A3, n3, c3, A4, n4, c4, rfl, hs3, hs4, hb4, hf3, hf4⟩
    have h04 : Below w.heap.size w w4 := h02.trans (hb4.mono h02.size)
    have h14 : Below w1.heap.size w1 w4 := h12.trans (hb4.mono (by omega))
    have q0' := cellB hb4 q0; have q1' := cellB hb4 q1
    have hz14 : w1.heap.size < w4.heap.size := by have := hb4.size; omega
    have hs1' := hs1.under (Nat.le_refl _) h14; have hs2' := hs2.under (Nat.le_refl _) h14
    clear q0 q1 hs1 hs2 hb4 h02 h12 hst
    have hkc : kn ≤ c := by omega
    have hsl := run_slice_from (P := Try.prog) A n c kn Try.underlying27 Try.sizeOf49 hkle
    obtain ⟨A', hA'⟩ : ∃ A', A' = (if c = kn then A else A.map (fun a => a.add (kn * 5))) := ⟨_, rfl⟩
    rw [← hA'] at hsl hsc
    clear hA'
    go_wp2_with fail
    have hb4' : Below w4.heap.size w4 (w4.alloc (Obj.cells #[.slice A3 n3 c3, .slice A4 n4 c4] 38)) := (Below.refl _ _).alloc (Nat.le_refl _) _
    have hlen : (l.drop kn).length = n - kn := by have := HL.out; simp; omega
    have HLen := Lib.hid hlen
    clear hlen hsl
    go_loopw [40] (fun s wr => ∃ k : Nat, ∃ b : Book, ∃ A3 n3 c3 A4 n4 c4, k ≤ n - kn ∧ s = .int .i64 k ∧ wr.cell? ⟨w4.heap.size, 0, none⟩ = some (.slice A3 n3 c3) ∧ wr.cell? ⟨w4.heap.size, 1, none⟩ = some (.slice A4 n4 c4) ∧
        wr.frozen? ⟨w4.heap.size, 0, none⟩ = false ∧ wr.frozen? ⟨w4.heap.size, 1, none⟩ = false ∧ w4.heap.size < wr.heap.size ∧ Below w4.heap.size w4 wr ∧
        Sl wr wr.heap.size 3 A3 n3 (b.jobs.map encJ) ∧ Sl wr wr.heap.size 3 A4 n4 (b.rung.map encR) ∧ OffN n3 w4.heap.size A3 ∧ OffN n4 w4.heap.size A4 ∧ Hid (replayB b ((l.drop kn).drop k) = (r.1, 0))) (fun s _ => n - kn - (intOf s).toNat)
    case atStart =>
      exact ⟨0, b1, A3, n3, c3, A4, n4, c4, Nat.zero_le _, rfl, by simp [go_sem], by simp [go_sem], by simp [go_sem], by simp [go_sem], by simp, hb4', (hs3.under (Nat.le_refl _) hb4').more (by simp), (hs4.under (Nat.le_refl _) hb4').more (by simp), hs3.offN (Nat.le_refl _), hs4.offN (Nat.le_refl _), HP2.out⟩
    case round =>
      clear hs3 hs4 hf3 hf4 hb4'
      obtain ⟨k, b, A3, n3, c3, A4, n4, c4, hk, rfl, p0, p1, f0, f1, hz, hB4, hs3, hs4, ho3, ho4, HR'⟩ := hrel
      by_cases hlt : k < n - kn
      · have hBw : Below w.heap.size w wr := h04.trans (hB4.mono h04.size)
        obtain ⟨bb, off, x, rfl, hb, hx, e0, e1, e2, e3, e4⟩ := (hsc.under (Nat.le_refl _) hBw).atE hlt
        have HX := Lib.hid hx
        have hbz : bb < wr.heap.size := by have := h04.size; have := hB4.size; omega
        clear h hsc hx hBw
        go_wp2_with fail
        refine Calls.mono (Apply_calls A3 A4 n3 c3 n4 c4 wr.heap.size b _ _ _ _ _ _ (hs3.alloc (Nat.le_refl _) _) (hs4.alloc (Nat.le_refl _) _) (by simp)) ?_
        rintro e w5 ⟨A5, n5, c5, A6, n6, c6, rfl, hs5, hs6, hb5, hf5, hf6⟩
        have hat := replayB_at (b := b) HX.out
        rw [HR'.out] at hat
        obtain ⟨rr, hr⟩ : ∃ rr, rr = applyB b ⟨x.kind, x.job, x.every, x.time, x.client⟩ := ⟨_, rfl⟩
        have hr2 : rr = applyB b x := hr
        rw [← hr] at hs5 hs6 ⊢
        rw [← hr2] at hat
        have h00 : rr.2 = 0 := by
          apply Decidable.byContradiction
          intro hne
          rw [if_pos hne] at hat
          injection hat with _ e2
          exact hne e2.symm
        rw [if_neg (by simp [h00])] at hat
        rw [h00]
        have HAt := Lib.hid hat
        clear hat hr hr2 h00
        have hbA : Below wr.heap.size wr (wr.alloc (Obj.cells #[.int .i64 x.kind, .int .i64 x.job, .int .i64 x.every, .int .i64 x.time, .int .i64 x.client] 49)) := (Below.refl _ _).alloc (Nat.le_refl _) _
        have p0' := cellB hb5 (cellB hbA p0); have p1' := cellB hb5 (cellB hbA p1); have f0' := frozB hb5 (cellB hbA p0) (frozB hbA p0 f0); have f1' := frozB hb5 (cellB hbA p1) (frozB hbA p1 f1)
        have hB45 : Below w4.heap.size w4 w5 := (hB4.alloc (by omega) _).trans (hb5.mono (by simp; omega))
        have hz5 : w4.heap.size < w5.heap.size := by have := hb5.size; simp at this; omega
        have ho5 : OffN n5 w4.heap.size A5 := hf5.offN (by simp; omega)
        have ho6 : OffN n6 w4.heap.size A6 := hf6.offN (by simp; omega)
        clear p0 p1 f0 f1 hbA hb5 e0 e1 e2 e3 e4 hs3 hs4 ho3 ho4 hB4 hf5 hf6
        go_wp2_with fail
        go_roundw
        case measure => simp [intOf]; omega
        case rel =>
          refine ⟨k + 1, rr.1, A5, n5, c5, A6, n6, c6, by omega, by go_num, by simp [go_sem, p0', p1'], by simp [go_sem, p0', p1'], by simp [go_sem, f0'], by simp [go_sem, f1'], by simpa using hz5, (hB45.setCell (by simp) _).setCell (by simp) _, ?_, ?_, ho5, ho6, HAt.out.symm⟩
          · simpa using (hs5.setOffN (p := ⟨w4.heap.size, 0, none⟩) ho5 (.slice A5 n5 c5)).setOffN (p := ⟨w4.heap.size, 1, none⟩) ho5 (.slice A6 n6 c6)
          · simpa using (hs6.setOffN (p := ⟨w4.heap.size, 0, none⟩) ho6 (.slice A5 n5 c5)).setOffN (p := ⟨w4.heap.size, 1, none⟩) ho6 (.slice A6 n6 c6)
      · have hfin : b = r.1 := by
          have := HR'.out
          rw [List.drop_eq_nil_of_le (by have := HLen.out; omega)] at this
          injection this
        have HF := Lib.hid hfin
        have q0 := cellB hB4 q0'; have q1 := cellB hB4 q1'
        have hlen := replay_len l
        rw [← HR.out] at hlen
        have hn3 := hs3.len; have hn4 := hs4.len
        simp only [List.length_map] at hn3 hn4
        have hb3 : n3 ≤ 60 := by rw [hfin] at hn3; omega
        have hb4 : n4 ≤ 60 := by rw [hfin] at hn4; omega
        clear hfin hn3 hn4 hlen
        go_wp2_with fail
        have hsz := hB4.size
        have hsA : Sl wr wr.heap.size 3 A1 n1 (r.1.jobs.map encJ) := (hs1'.under (by omega) hB4).more (by omega)
        have hsB : Sl wr wr.heap.size 3 A2 n2 (r.1.rung.map encR) := (hs2'.under (by omega) hB4).more (by omega)
        refine Calls.mono (BSame_calls A3 A4 A1 A2 n3 c3 n4 c4 n1 c1 n2 c2 wr.heap.size b.jobs r.1.jobs b.rung r.1.rung _ hs3 hs4 hsA hsB (Nat.le_refl _) (by omega) (by omega)) ?_
        rw [show decide ((⟨b.jobs, b.rung⟩ : Book) = ⟨r.1.jobs, r.1.rung⟩) = true by simp [HF.out]]
        rintro e w6 ⟨rfl, hb6⟩
        go_wp2_with fail
        go_ret
        exact ⟨rfl, (h04.trans (hB4.mono h04.size)).trans (hb6.mono (by have := h04.size; omega))⟩
  · have h0' : (r.2 != 0) = true := by simpa using h0
    have H0 := Lib.hid h0
    clear h0
    go_enter Try.func7, Try.ntmps7
    go_wp2_with fail
    refine Calls.mono (Replay_calls A n c w.heap.size l _ h (Nat.le_refl _)) ?_
    rw [← HR.out]
    rintro e w1 ⟨A1, n1, c1, A2, n2, c2, rfl, hs1, hs2, hb1, hf1, hf2⟩
    clear hs1 hs2 hf1 hf2 h
    go_wp2_with fail
    refine Calls.mono (rung_calls _) ?_
    rintro e w2 ⟨rfl, hb2⟩
    go_wp2_with fail
    refine Calls.mono (rung_calls _) ?_
    rintro e w3 ⟨rfl, hb3⟩
    go_wp2_with fail
    go_ret
    exact ⟨rfl, ((hb1.alloc hb1.size _).trans (hb2.mono (by have := hb1.size; simp; omega))).trans (hb3.mono (by have := hb1.size; have := hb2.size; simp at this; omega))⟩
set_option maxRecDepth 100000 in
theorem bookParts_lifted (os : Os) (started : os.Started) (H : Type) (enc : TypeId × Value → H) :
    ReturnsInHanded {} Try.checked os 7 .any (Rows.bookPartsSpec.pre6 enc Try.prog Try.f7 Rows.bookPartsRow.domain false) (Rows.bookPartsSpec.post enc Try.prog Try.f7 false true false false) := by
  refine returnsInHanded_of_change (C := Try.checked) own started (by kernel_rfl) Try.func7
    (ChangeSpec.witness6 (enc := enc) (C := Try.checked) false ⟨#[], #[.slice none 0 0, .int .i64 0], []⟩ 8 (by kernel_rfl) (by kernel_rfl) (by kernel_rfl) (by kernel_rfl)) ?_
  intro W base args ds gs before hval0 hW hcnd _
  have hval : ∀ (j : Nat) t v, Try.f7.params[j]? = some t → args[j]? = some v → Value.okWide Try.prog W .any base t v := hval0
  have hW' := hW
  obtain ⟨p, q, hA0, hV, rfl, hfz, hnd⟩ := hW
  have hA : DataW.TrodAll enc Try.prog W 0 (fun _ => true) true Try.f7.params.toList args.toList ds p := hA0
  rw [Try.params7] at hA hval
  obtain ⟨v0, vs0, d0, ds0, p0, q0, hargs, rfl, rfl, h0, r0⟩ := trodAll_cons hA
  obtain ⟨v1, vs1, d1, ds1, p1, q1, rfl, rfl, rfl, h1, r1⟩ := trodAll_cons r0
  obtain ⟨rfl, rfl, rfl⟩ := trodAll_nil r1
  obtain rfl : args = #[v0, v1] := by cases args; simp_all
  obtain ⟨rfl, rfl⟩ := trodVars_none hV
  have hall := hA
  obtain ⟨A0, n0, c0, l0, rfl, hnc0, hcm0, s0⟩ := open_entries (hval 0 27 v0 rfl rfl) h0
  obtain ⟨a1, rfl, rfl, rfl, wa1⟩ := open_int Try.underlying3 (hval 1 3 v1 rfl rfl) h1
  clear hA0 hval0
  refine (BookParts_walk A0 n0 c0 l0 a1 W s0 hnc0 hcm0).mono fun e W' ⟨he, bel⟩ => ?_
  subst he
  exact ⟨_, rfl, _, _, _, [], _, [], hW', trodAll_mk1 (shut_bool Try.underlying4 _), Below_trodAll (ts := [27, 3]) laidOut bel (by intro t ht; simp only [List.mem_cons, List.not_mem_nil, or_false] at ht; rcases ht with rfl | rfl <;> exact ⟨by kernel_rfl, of_decide_eq_true (by kernel_rfl)⟩) hall, rfl, bel.frame _, fun h => by cases h⟩

theorem bookParts_holds : Rows.BookPartsSaid :=
  OpenClaim.holds_of_wide 7 Try.f7 rfl rfl rfl rfl rfl rfl rfl ⟨rfl, rfl, rfl, rfl, rfl⟩ rfl rfl rfl rfl rfl (by kernel_rfl) Try.func7 (by kernel_rfl)
    (of_decide_eq_true (by kernel_rfl)) (by unfold Func.isWrapper; first | (rw [if_pos (by decide +kernel)]; kernel_rfl) | (rw [if_neg (by decide +kernel)]; exact ⟨rfl, rfl⟩))
    (fun os started H enc _ => bookParts_lifted os started H enc)

end Go.Proofs.Ytiphoihijalfkaa
