/- slices.DeleteFunc at jobs. -/
import Derived.Test.YtiphoihijalfkaaMut
namespace Go.Proofs.Ytiphoihijalfkaa
set_option linter.unusedSimpArgs false
set_option linter.unusedVariables false
open Go.RowKit

theorem M.clear {w : World} {base k n b off i : Nat} {rows : List (List Value)} {cur : Array Value} {t : TypeId} {cs : List Value} (h : M w base k (some ⟨b, off, none⟩) n rows) (hh : w.heap[b]? = some (.cells cur t (0, 0))) (hi : i ≤ n)
    (hfit : off + i * k + cs.length ≤ cur.size) : M (w.setRow b (spliceR cur (off + i * k) cs)) base k (some ⟨b, off, none⟩) i (rows.take i) := by
  have hh' := setRow_heap w b cur (spliceR cur (off + i * k) cs) _ _ hh
  have hbl : b < w.heap.size := (Array.getElem?_eq_some_iff.1 hh).1
  have hb0 : 0 < i → base ≤ b := fun hi0 => by
    obtain ⟨b', off', e, h1, _⟩ := h.2 (by omega)
    injection e with e; injection e with e1 e2 _
    omega
  refine ⟨⟨by have := h.1.len; simp; omega, fun r hr => h.1.2.1 r (List.mem_of_mem_take hr), fun hi0 => ?_⟩, fun hi0 => ⟨b, off, rfl, hb0 hi0, _, _, hh'⟩⟩
  obtain ⟨b', off', e, hb, hc⟩ := h.1.2.2 (by omega)
  injection e with e; injection e with e1 e2 _
  subst e1; subst e2
  refine ⟨b, off, rfl, by simpa using hbl, fun i0 j r u hr hu => ?_⟩
  rw [List.getElem?_take] at hr
  split at hr
  · rename_i hlt
    have := hc i0 j r u hr hu
    have hrk : r.length = k := h.1.2.1 r (List.mem_of_getElem? hr)
    have hj : j < k := by rw [← hrk]; exact (List.getElem?_eq_some_iff.1 hu).1
    rw [cell_of_row _ b _ _ _ _ hh', ← Array.getElem?_toList]
    rw [cell_of_row _ b _ _ _ _ hh, ← Array.getElem?_toList] at this
    have hle : (i0 + 1) * k ≤ i * k := Nat.mul_le_mul_right k hlt
    rw [Nat.add_mul] at hle
    show (cur.toList.take (off + i * k) ++ cs ++ _)[_]? = _
    rw [List.append_assoc, List.getElem?_append_left (by
      have h1 : off + i0 * k + j < cur.toList.length := (List.getElem?_eq_some_iff.1 this).1
      rw [List.length_take]; simp at h1 ⊢; omega), List.getElem?_take, if_pos (by omega)]
    exact this
  · cases hr
theorem M.room {w : World} {base k n b off : Nat} {rows : List (List Value)} (h : M w base k (some ⟨b, off, none⟩) n rows) (hn : 0 < n) (hk : 0 < k) : ∃ cur t, w.heap[b]? = some (.cells cur t (0, 0)) ∧ off + n * k ≤ cur.size := by
  obtain ⟨b', off', e, _, cur, t, hh⟩ := h.2 hn
  injection e with e; injection e with e1 e2 _
  subst e1; subst e2
  refine ⟨cur, t, hh, ?_⟩
  obtain ⟨b', off', e, hb, hc⟩ := h.1.2.2 hn
  injection e with e; injection e with e1 e2 _
  subst e1; subst e2
  have hl := h.1.1
  have hr : rows[n - 1]? = some rows[n - 1] := List.getElem?_eq_getElem (by omega)
  have hrk : (rows[n - 1]).length = k := h.1.2.1 _ (List.getElem_mem _)
  have := hc (n - 1) (k - 1) _ _ hr (List.getElem?_eq_getElem (by omega))
  rw [cell_of_row _ b _ _ _ _ hh] at this
  have h1 := (Array.getElem?_eq_some_iff.1 this).1
  have e : (n - 1 + 1) * k = (n - 1) * k + k := by rw [Nat.add_mul]; omega
  rw [show n - 1 + 1 = n by omega] at e
  omega
theorem filter_take_succ {α : Type} {p : α → Bool} {l : List α} {j : Nat} {x : α} (hx : l[j]? = some x) : (l.take (j + 1)).filter p = (l.take j).filter p ++ if p x = true then [x] else [] := by
  obtain ⟨hj, rfl⟩ := List.getElem?_eq_some_iff.1 hx
  rw [List.take_succ_eq_append_getElem hj, List.filter_append]
  simp only [List.filter_cons, List.filter_nil]
theorem filter_all_take {α : Type} {p : α → Bool} {l : List α} {i : Nat} (h : ∀ (j : Nat) y, j < i → l[j]? = some y → p y = true) : (l.take i).filter p = l.take i := by
  rw [List.filter_eq_self]
  intro y hy
  obtain ⟨j, hj⟩ := List.mem_iff_getElem?.1 hy
  rw [List.getElem?_take] at hj
  split at hj
  · exact h j y (by assumption) hj
  · cases hj
theorem idxI_cases {α : Type} (p : α → Bool) (l : List α) : (idxI p l = -1 ∧ ∀ (j : Nat) y, l[j]? = some y → p y = false) ∨ ∃ (i : Nat) (x : α), idxI p l = i ∧ l[i]? = some x ∧ p x = true ∧ ∀ (j : Nat) y, j < i → l[j]? = some y → p y = false := by
  unfold idxI
  cases hf : l.findIdx? p with
  | none =>
    left
    refine ⟨rfl, fun j y hy => ?_⟩
    have := List.findIdx?_eq_none_iff.1 hf y (List.mem_of_getElem? hy)
    exact this
  | some i =>
    right
    obtain ⟨hi, hp, hlt⟩ := List.findIdx?_eq_some_iff_getElem.1 hf
    refine ⟨i, l[i], rfl, List.getElem?_eq_getElem hi, hp, fun j y hj hy => ?_⟩
    obtain ⟨hj', rfl⟩ := List.getElem?_eq_some_iff.1 hy
    simpa using hlt j hj

set_option maxHeartbeats 2000000 in
set_option maxRecDepth 100000 in
theorem DeleteFunc_calls (A : Option Addr) (n c base : Nat) (l : List Job) (g : FuncId) (lb : Array Value) (p : Job → Bool) (w : World) (h : M w base 3 A n (l.map encJ)) (hn : n ≤ 1000) (hnc : n ≤ c) (hc : c ≤ maxLen)
    (eg : ∀ args w, (callFunc g args).run Try.prog w = .ok (.enter g args) w)
    (hp : ∀ (x : Job) (w' : World), w.grownBy w' (A.map (·.block)) → Calls Try.prog g (#[.agg #[.int .i64 x.id, .int .i64 x.every, .int .i64 x.next]] ++ lb) w' fun e w'' => e = .returned (.bool (p x)) ∧ Below w'.heap.size w' w'') :
    Calls Try.prog 47 #[.slice A n c, .func (.func g) #[] lb] w fun e w' => ∃ k, e = .returned (.slice A k c) ∧ k ≤ n ∧
      M w' base 3 A k ((l.filter (fun x => !p x)).map encJ) ∧ w.grownBy w' (A.map (·.block)) := by
  have hl : l.length = n := by have := h.1.len; simpa using this
  have hp' := Lib.hid hp
  have HL := Lib.hid hl
  have HCM := Lib.hid hc
  clear hp hl hc
  rcases idxI_cases p l with ⟨hi, hall⟩ | ⟨i, x, hi, hx, hpx, hbef⟩
  · have hfin : l.filter (fun x => !p x) = l := by
      rw [List.filter_eq_self]
      intro y hy
      obtain ⟨j, hj⟩ := List.mem_iff_getElem?.1 hy
      simp [hall j y hj]
    have HF := Lib.hid hfin
    have HI := Lib.hid hi
    clear hfin hi hall
    go_enter Try.func47, Try.ntmps47
    go_wp2_with fail
    refine Calls.mono (IndexFuncJ_calls A n c _ l g lb p _ h.1 (Nat.le_refl _) (by omega) eg (fun x w' hw' => hp'.out x w' (gb_of hw' _))) ?_
    rintro e w1 ⟨rfl, hb1⟩
    rw [HI.out]
    go_wp2_with fail
    go_ret
    exact ⟨n, rfl, Nat.le_refl _, by rw [HF.out]; exact h.onto hb1, gb_of hb1 _⟩
  · have hin : i < n := by have h1 : i < l.length := (List.getElem?_eq_some_iff.1 hx).1; have := HL.out; omega
    have hstart : (l.take (i + 1)).filter (fun x => !p x) = l.take i := by
      rw [filter_take_succ hx, filter_all_take (fun j y hj hy => by simp [hbef j y hj hy])]
      simp [hpx]
    have HS := Lib.hid hstart
    have HI := Lib.hid hi
    clear hstart hi hpx hbef hx
    go_enter Try.func47, Try.ntmps47
    go_wp2_with fail
    refine Calls.mono (IndexFuncJ_calls A n c _ l g lb p _ h.1 (Nat.le_refl _) (by omega) eg (fun x w' hw' => hp'.out x w' (gb_of hw' _))) ?_
    rintro e w1 ⟨rfl, hb1⟩
    rw [HI.out]
    have hM1 := h.onto hb1
    have hg1 := gb_of hb1 (A.map (·.block))
    clear hb1 h
    have hne : ((i : Int) == -1) = false := by simp <;> omega
    go_wp2_with fail
    go_loopw [5, 6] (fun s t wr => ∃ (i j : Nat) (L : List Job), i < j ∧ j ≤ n ∧ s = .int .i64 i ∧ t = .int .i64 j ∧ M wr base 3 A n (L.map encJ) ∧ w.grownBy wr (A.map (·.block)) ∧ Hid (L.take i = (l.take j).filter (fun x => !p x) ∧ L.drop j = l.drop j)) (fun _ t _ => n - (intOf t).toNat)
    case atStart => exact ⟨i, i + 1, l, by omega, by omega, rfl, by go_num, hM1, hg1, HS.out.symm, rfl⟩
    case round =>
      clear hM1 hg1 HS HI hin hne
      obtain ⟨i, j, L, hij, hjn, rfl, rfl, hM, hg, HLL⟩ := hrel
      have hLl : L.length = n := by have := hM.1.len; simpa using this
      have HLl := Lib.hid hLl
      clear hLl
      by_cases hlt : j < n
      · obtain ⟨b, off, x, rfl, hb, hx, c0, c1, c2⟩ := hM.1.atJ hlt
        have hxl : l[j]? = some x := by
          have := HLL.out.2
          have e1 : (L.drop j)[0]? = some x := by simpa using hx
          rw [this] at e1
          simpa using e1
        have HX := Lib.hid hxl
        clear hx hxl
        have hin : (i : Int) < (n : Int) := by omega
        cases hpx : p x with
        | true =>
          have HPX := Lib.hid hpx
          clear hpx
          go_wp2_with fail
          refine Calls.mono (hp'.out x _ (gb_onto hg ((Below.refl _ _).alloc (Nat.le_refl _) _))) ?_
          rintro e w2 ⟨rfl, hb2⟩
          rw [HPX.out]
          have hA : Onto wr w2 := ((Below.refl _ _).alloc (Nat.le_refl _) _).trans (hb2.mono (by simp))
          have hM2 := hM.onto hA
          have hg2 := gb_onto hg hA
          clear hM hg hb2 hA c0 c1 c2
          go_wp2_with fail
          go_roundw
          case measure => simp [intOf]; omega
          case rel =>
            refine ⟨i, j + 1, L, by omega, by omega, rfl, by go_num, hM2, hg2, ?_, ?_⟩
            · rw [HLL.out.1, filter_take_succ HX.out]; (try simp [HPX.out])
            · rw [← List.drop_drop, ← List.drop_drop, HLL.out.2]
        | false =>
          have HPX := Lib.hid hpx
          clear hpx
          go_wp2_with fail
          refine Calls.mono (hp'.out x _ (gb_onto hg ((Below.refl _ _).alloc (Nat.le_refl _) _))) ?_
          rintro e w2 ⟨rfl, hb2⟩
          rw [HPX.out]
          have hA : Onto wr w2 := ((Below.refl _ _).alloc (Nat.le_refl _) _).trans (hb2.mono (by simp))
          have hM2 := hM.onto hA
          have hg2 := gb_onto hg hA
          have v0 : w2.cell? ⟨wr.heap.size, 0, none⟩ = some (.int .i64 x.id) := cellB hb2 (by simp [go_sem])
          have v1 : w2.cell? ⟨wr.heap.size, 1, none⟩ = some (.int .i64 x.every) := cellB hb2 (by simp [go_sem])
          have v2 : w2.cell? ⟨wr.heap.size, 2, none⟩ = some (.int .i64 x.next) := cellB hb2 (by simp [go_sem])
          obtain ⟨b', off', y, e, _, _, d0, d1, d2⟩ := hM2.1.atJ (show i < n by omega)
          injection e with e; injection e with e1 e2 _
          subst e1; subst e2
          have hU : Unf w2 b := by obtain ⟨b', off', e, _, hU⟩ := hM2.2 (by omega); injection e with e; injection e with e1 e2 _; subst e1; exact hU
          have fz := hU.frozen
          clear hM hg hb2 hA c0 c1 c2
          go_wp2_with fail
          have hM3 := hM2.putJ (i := i) (by omega) x
          have hg3 := gb_put (gb_put (gb_put hg2 (p := ⟨b, off + i * 3, none⟩) rfl (.int .i64 x.id)) (p := ⟨b, off + i * 3 + 1, none⟩) rfl (.int .i64 x.every)) (p := ⟨b, off + i * 3 + 2, none⟩) rfl (.int .i64 x.next)
          clear hM2 hg2 hU fz
          go_roundw
          case measure => simp [intOf]; omega
          case rel =>
            refine ⟨i + 1, j + 1, L.set i x, by omega, by omega, by go_num, by go_num, hM3, hg3, ?_, ?_⟩
            · have hil : i < L.length := by have := HLl.out; omega
              rw [List.take_succ_eq_append_getElem (by simpa using hil), List.take_set_of_le (Nat.le_refl _), HLL.out.1, filter_take_succ HX.out]
              simp [HPX.out]
            · rw [List.drop_set_of_lt (by omega), ← List.drop_drop, ← List.drop_drop, HLL.out.2]
      · obtain rfl : j = n := by omega
        obtain ⟨b, off, x, rfl, hb, hx, _, _, _⟩ := hM.1.atJ (i := i) (by omega)
        obtain ⟨cur, t, hh, hfit⟩ := hM.room (by omega) (by omega)
        have hcl : ∀ ty, (Builtin.clear_ #[35] ty #[.slice (some ⟨b, off + i * 3, none⟩) (j - i) (c - i)]).run Try.prog wr = .ok (.tuple #[]) (wr.setRow b (spliceR cur (off + i * 3) (Builtin.zeroCells (Value.agg #[.int .i64 0, .int .i64 0, .int .i64 0]).cells (j - i)).toList)) := fun ty =>
          run_clear_rowK (P := Try.prog) wr 35 ty 46 b (off + i * 3) (j - i) (c - i) cur t (Value.agg #[.int .i64 0, .int .i64 0, .int .i64 0]) Try.underlying35 (by kernel_rfl) (by simp [Value.cells, Value.oneCell']) hh (by omega) (by simp [Value.cells]; omega)
        have hM2 := hM.clear (i := i) (cs := (Builtin.zeroCells (Value.agg #[.int .i64 0, .int .i64 0, .int .i64 0]).cells (j - i)).toList) hh (by omega) (by simp [size_zeroCells, Value.cells]; omega)
        have hg2 := gb_trans hg (grownBy_setRow wr b (spliceR cur (off + i * 3) (Builtin.zeroCells (Value.agg #[.int .i64 0, .int .i64 0, .int .i64 0]).cells (j - i)).toList))
        rw [← List.map_take, HLL.out.1, List.take_of_length_le (by have := HL.out; omega)] at hM2
        have HCl := Lib.hid hcl
        have hcn : ¬ (c = i) := by omega
        have hij' : (i : Int) ≤ (j : Int) := by omega
        have hic : (i : Int) ≤ (c : Int) := by omega
        clear hcl hM hg hh hfit hx hb
        go_wp2_with (with_reducible refine wpList_clear_run _ rfl (.tmp 38) _ rfl _ rfl (HCl.out _) ?_)
        go_wp2
        go_ret
        exact ⟨i, rfl, by omega, hM2, hg2⟩
end Go.Proofs.Ytiphoihijalfkaa
