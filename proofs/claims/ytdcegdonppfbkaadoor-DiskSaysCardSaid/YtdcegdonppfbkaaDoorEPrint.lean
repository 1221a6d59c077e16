/- entry.Print. -/
import Derived.Test.YtdcegdonppfbkaaDoorEnt
import Derived.Test.YtdcegdonppfbkaaDoorStr
import Derived.Deep.DeepCutAuto
import Derived.Deep.CutBlock
namespace Go.Proofs.YtdcegdonppfbkaaDoor
set_option linter.unusedSimpArgs false
set_option linter.unusedVariables false
open Go.RowKit

theorem EPrint_bad (x : Entry) (w : World) (hc : checkE x ≠ 0) :
    Calls Tryd.prog 12 #[.agg #[.int .i64 x.kind, .int .i64 x.job, .int .i64 x.every, .int .i64 x.time, .int .i64 x.client]] w fun e w' => e = .returned (.tuple #[str [], .int .i64 (checkE x)]) ∧ Onto w w' := by
  obtain ⟨r, hr⟩ : ∃ r, r = checkE x := ⟨_, rfl⟩
  rw [← hr] at hc ⊢
  have HR := Lib.hid hr
  clear hr
  have hb : (!decide (r = 0)) = true := by simp [hc]
  go_enter Tryd.func12, Tryd.ntmps12
  go_wp2_with fail
  refine Calls.mono (Check_calls x.kind x.job x.every x.time x.client _) ?_
  rintro e w1 ⟨rfl, b⟩
  rw [show checkE ⟨x.kind, x.job, x.every, x.time, x.client⟩ = r from HR.out.symm]
  have on : Onto w w1 := Onto.to ((Onto.rfl' w).new _) b
  clear b
  go_wp2
  refine bodyPost_ret (v := .tuple #[str [], .int .i64 r]) (by simp [results, Tryd.results12, go_sem]) rfl ⟨rfl, on⟩
/-- One of four. -/
def pick4 (k : Int) (a b c d : Value) : Value := if k = 1 then b else if k = 2 then c else if k = 3 then d else a
theorem ix4 (k : Int) (h0 : 0 ≤ k) (h3 : k ≤ 3) (a b c d : Value) (w : World) : (Instr.index 80 (.agg #[a, b, c, d]) (.int .i64 k)).run Tryd.prog w = .ok (pick4 k a b c d) w := by
  rcases (by omega : k = 0 ∨ k = 1 ∨ k = 2 ∨ k = 3) with rfl | rfl | rfl | rfl <;> kernel_rfl
theorem ix4s (k : Int) (h0 : 0 ≤ k) (h3 : k ≤ 3) (a b c d : Value) (w : World) : (Instr.index 81 (.agg #[a, b, c, d]) (.int .i64 k)).run Tryd.prog w = .ok (pick4 k a b c d) w := by
  rcases (by omega : k = 0 ∨ k = 1 ∨ k = 2 ∨ k = 3) with rfl | rfl | rfl | rfl <;> kernel_rfl
theorem pick_head (x : Entry) : pick4 x.kind (.string ⟨#[106, 117, 110, 107]⟩) (.string ⟨#[112, 117, 116]⟩) (.string ⟨#[100, 114, 111, 112]⟩) (.string ⟨#[114, 105, 110, 103]⟩) = str (headE x) := by
  unfold pick4 headE
  (repeat' split) <;> rfl
theorem S.ints {w : World} {b : Nat} {l : List Int} {t : TypeId} (h : w.heap[b]? = some (.cells (l.map fun n => Value.int .i64 n).toArray t)) : S w 1 (some ⟨b, 0, none⟩) l.length (l.map encI) := by
  have := Sl.block (k := 1) (l.map encI) h (by
    intro r hr
    obtain ⟨x, _, rfl⟩ := List.mem_map.1 hr
    rfl) (by
    clear h
    induction l with
    | nil => rfl
    | cons a l ih => simp [encI] at ih ⊢; exact ih)
  rw [List.length_map] at this
  exact this
theorem tailB_take {l : List Int} {k : Nat} {n : Int} (h : l[k]? = some n) : tailB (l.take (k + 1)) = tailB (l.take k) ++ 32 :: Lib.itoa n := by
  obtain ⟨hk, rfl⟩ := List.getElem?_eq_some_iff.1 h
  rw [List.take_succ_eq_append_getElem hk]
  simp only [tailB, List.map_append, List.flatten_append, List.map_cons, List.map_nil, List.flatten_cons, List.flatten_nil, List.append_nil]
set_option maxHeartbeats 4000000 in
theorem EPrint_ok (x : Entry) (w : World) (E : Env w) (hc : checkE x = 0) :
    Calls Tryd.prog 12 #[.agg #[.int .i64 x.kind, .int .i64 x.job, .int .i64 x.every, .int .i64 x.time, .int .i64 x.client]] w fun e w' => e = .returned (.tuple #[str (textE x), .int .i64 0]) ∧ Onto w w' := by
  have HC := Lib.hid hc
  have hk := checkE_kd hc
  have ix : ∀ a b c d w, (Instr.index 80 (.agg #[a, b, c, d]) (.int .i64 x.kind)).run Tryd.prog w = .ok (pick4 x.kind a b c d) w := fun a b c d w => ix4 _ hk.1 hk.2 a b c d w
  have ix' : ∀ w, (Instr.index 81 (.agg #[.string ⟨#[106, 117, 110, 107]⟩, .string ⟨#[112, 117, 116]⟩, .string ⟨#[100, 114, 111, 112]⟩, .string ⟨#[114, 105, 110, 103]⟩]) (.int .i64 x.kind)).run Tryd.prog w = .ok (str (headE x)) w := fun w => by
    rw [ix4s _ hk.1 hk.2, pick_head]
  clear hc hk
  go_enter Tryd.func12, Tryd.ntmps12
  go_wp2_with fail
  refine Calls.mono (Check_calls x.kind x.job x.every x.time x.client _) ?_
  rintro e w1 ⟨rfl, b⟩
  rw [show checkE ⟨x.kind, x.job, x.every, x.time, x.client⟩ = 0 from HC.out]
  have on : Onto w w1 := Onto.to ((Onto.rfl' w).new _) b
  have c0 : w1.cell? ⟨w.heap.size, 0, none⟩ = some (.int .i64 x.kind) := cellB b (by simp [go_sem])
  have c1 : w1.cell? ⟨w.heap.size, 1, none⟩ = some (.int .i64 x.job) := cellB b (by simp [go_sem])
  have c2 : w1.cell? ⟨w.heap.size, 2, none⟩ = some (.int .i64 x.every) := cellB b (by simp [go_sem])
  have c3 : w1.cell? ⟨w.heap.size, 3, none⟩ = some (.int .i64 x.time) := cellB b (by simp [go_sem])
  have c4 : w1.cell? ⟨w.heap.size, 4, none⟩ = some (.int .i64 x.client) := cellB b (by simp [go_sem])
  have E1 := E.onto on
  clear b
  generalize w.heap.size = z at *
  have k11 : ∀ o, (w1.alloc o).cell? ⟨z, 1, none⟩ = some (.int .i64 x.job) := fun o => cellA c1 o
  have k12 : ∀ o, (w1.alloc o).cell? ⟨z, 2, none⟩ = some (.int .i64 x.every) := fun o => cellA c2 o
  have k13 : ∀ o, (w1.alloc o).cell? ⟨z, 3, none⟩ = some (.int .i64 x.time) := fun o => cellA c3 o
  have k21 : ∀ o p, ((w1.alloc o).alloc p).cell? ⟨z, 1, none⟩ = some (.int .i64 x.job) := fun o p => cellA (cellA c1 o) p
  have k31 : ∀ o p q, (((w1.alloc o).alloc p).alloc q).cell? ⟨z, 1, none⟩ = some (.int .i64 x.job) := fun o p q => cellA (cellA (cellA c1 o) p) q
  have k33 : ∀ o p q, (((w1.alloc o).alloc p).alloc q).cell? ⟨z, 3, none⟩ = some (.int .i64 x.time) := fun o p q => cellA (cellA (cellA c3 o) p) q
  have k34 : ∀ o p q, (((w1.alloc o).alloc p).alloc q).cell? ⟨z, 4, none⟩ = some (.int .i64 x.client) := fun o p q => cellA (cellA (cellA c4 o) p) q
  have k40 : ∀ o p q r, ((((w1.alloc o).alloc p).alloc q).alloc r).cell? ⟨z, 0, none⟩ = some (.int .i64 x.kind) := fun o p q r => cellA (cellA (cellA (cellA c0 o) p) q) r
  go_upto_region 6 with fail
  obtain ⟨A, hA, sA⟩ : ∃ A, pick4 x.kind (.slice (some ⟨w1.heap.size, 0, none⟩) 0 0) (.slice (some ⟨w1.heap.size + 1, 0, none⟩) 3 3) (.slice (some ⟨w1.heap.size + 1 + 1, 0, none⟩) 1 1) (.slice (some ⟨w1.heap.size + 1 + 1 + 1, 0, none⟩) 3 3) = .slice A (numsE x).length (numsE x).length ∧
      S ((((w1.alloc (Obj.cells #[] 3)).alloc (Obj.cells #[.int .i64 x.job, .int .i64 x.every, .int .i64 x.time] 3)).alloc (Obj.cells #[.int .i64 x.job] 3)).alloc (Obj.cells #[.int .i64 x.job, .int .i64 x.time, .int .i64 x.client] 3)) 1 A (numsE x).length ((numsE x).map encI) := by
    unfold pick4 numsE
    by_cases h1 : x.kind = 1
    · rw [if_pos h1, if_pos h1]
      exact ⟨_, rfl, S.ints (t := 3) (hOld (hOld (hNew (by simp))))⟩
    · rw [if_neg h1, if_neg h1]
      by_cases h2 : x.kind = 2
      · rw [if_pos h2, if_pos h2]
        exact ⟨_, rfl, S.ints (t := 3) (hOld (hNew (by simp)))⟩
      · rw [if_neg h2, if_neg h2]
        by_cases h3 : x.kind = 3
        · rw [if_pos h3, if_pos h3]
          exact ⟨_, rfl, S.ints (t := 3) (hNew (by simp))⟩
        · rw [if_neg h3, if_neg h3]
          exact ⟨_, rfl, Sl.nil⟩
  have oz : Onto w1 ((((w1.alloc (Obj.cells #[] 3)).alloc (Obj.cells #[.int .i64 x.job, .int .i64 x.every, .int .i64 x.time] 3)).alloc (Obj.cells #[.int .i64 x.job] 3)).alloc (Obj.cells #[.int .i64 x.job, .int .i64 x.time, .int .i64 x.client] 3)) := ((((Onto.rfl' w1).new _).new _).new _).new _
  replace on := Onto.to on oz
  replace E1 := E1.onto oz
  rw [hA]
  clear hA c0 c1 c2 c3 c4 k11 k12 k13 k21 k31 k33 k34 k40 oz
  generalize ((((w1.alloc (Obj.cells #[] 3)).alloc (Obj.cells #[.int .i64 x.job, .int .i64 x.every, .int .i64 x.time] 3)).alloc (Obj.cells #[.int .i64 x.job] 3)).alloc (Obj.cells #[.int .i64 x.job, .int .i64 x.time, .int .i64 x.client] 3)) = w5 at *
  generalize w1.heap.size = z1
  obtain ⟨n, hn⟩ : ∃ n, n = (numsE x).length := ⟨_, rfl⟩
  rw [← hn] at sA ⊢
  have HN := Lib.hid hn
  have hbd := numsE_bounds HC.out
  have HB := Lib.hid hbd
  clear hn hbd
  go_wp2_with fail
  go_loopg [6, 8, 42] n (fun g s6 s8 s42 wr => ∃ kk : Nat, kk ≤ n ∧ n - kk ≤ g ∧ s42 = .int .i64 kk ∧ s6 = str (headE x ++ tailB ((numsE x).take kk)) ∧ Onto w wr ∧ Onto w5 wr)
  case atStart => exact ⟨0, Nat.zero_le _, by omega, rfl, by simp [tailB], on, Onto.rfl' _⟩
  case round =>
    obtain ⟨kk, hkk, hg, rfl, rfl, hon, h5⟩ := hrel
    have hn3 : n ≤ 3 := by rw [HN.out]; unfold numsE; (repeat' split) <;> simp
    have ER := E1.onto h5
    have sR := S.onto sA h5
    by_cases hlt : kk < n
    · obtain ⟨bb, off, y, rfl, hb, hy, d0⟩ := Sl.atI sR hlt
      have HY := Lib.hid hy
      have hyb := HB.out y (List.mem_of_getElem? hy)
      clear hy sR
      obtain ⟨T, hT⟩ : ∃ T, T = headE x ++ tailB ((numsE x).take kk) := ⟨_, rfl⟩
      rw [← hT]
      have HT := Lib.hid hT
      clear hT
      go_wp2_with fail
      refine Calls.mono (Itoa_calls y (by omega) (by omega) _ ER) ?_
      rintro e w6 ⟨rfl, b⟩
      have hl1 := Lib.itoa_length_le y (by omega) (by omega)
      have hl2 : T.length ≤ 100 := by
        have h1 := textE_len HC.out
        have h2 : (tailB ((numsE x).take kk)).length ≤ (tailB (numsE x)).length := by
          have e : tailB (numsE x) = tailB ((numsE x).take kk) ++ tailB ((numsE x).drop kk) := by
            unfold tailB; rw [← List.flatten_append, ← List.map_append, List.take_append_drop]
          rw [e, List.length_append]; omega
        rw [HT.out]
        unfold textE at h1
        rw [List.length_append] at h1 ⊢
        omega
      have s1 : ∀ w, (Op.stringOp .add ⟨#[32]⟩ ⟨(Lib.itoa y).toArray⟩).run Tryd.prog w = .ok (str (32 :: Lib.itoa y)) w := fun w => run_string_add_lists w [32] (Lib.itoa y) (by simp) (by omega)
      have s2 : ∀ w, (Op.stringOp .add ⟨T.toArray⟩ ⟨(32 :: Lib.itoa y).toArray⟩).run Tryd.prog w = .ok (str (T ++ 32 :: Lib.itoa y)) w := fun w => run_string_add_lists w T _ (by omega) (by simp; omega)
      clear hl1 hl2
      go_wp2_with fail
      go_roundg (n - (kk + 1))
      case measure => omega
      case rel =>
        refine ⟨kk + 1, by omega, by omega, by go_num, ?_, hon.to b, h5.to b⟩
        rw [HT.out, tailB_take HY.out, List.append_assoc]
    · have hkn : kk = n := by omega
      subst hkn
      have e : headE x ++ tailB ((numsE x).take kk) = textE x := by
        rw [HN.out, List.take_length]; rfl
      rw [e]
      clear e sR sA
      go_wp2
      refine bodyPost_ret (v := .tuple #[str (textE x), .int .i64 0]) (by simp [results, Tryd.results12, go_sem]) rfl ⟨rfl, hon⟩
theorem EPrint_calls (x : Entry) (w : World) (E : Env w) :
    Calls Tryd.prog 12 #[.agg #[.int .i64 x.kind, .int .i64 x.job, .int .i64 x.every, .int .i64 x.time, .int .i64 x.client]] w fun e w' => e = .returned (.tuple #[str (printE x).1, .int .i64 (printE x).2]) ∧ Onto w w' := by
  unfold printE
  by_cases hc : checkE x = 0
  · rw [if_neg (by simp [hc])]
    exact EPrint_ok x w E hc
  · rw [if_pos hc]
    exact EPrint_bad x w hc
end Go.Proofs.YtdcegdonppfbkaaDoor
