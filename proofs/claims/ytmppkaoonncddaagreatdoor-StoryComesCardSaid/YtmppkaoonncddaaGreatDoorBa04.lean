/- Part 4 of the proof: EPrint, EParse, Unit, Note, Frame, Open, Read, Rec, Lines, DCheck, NBackB, DPut, DSync, DCrash, DRec. -/
import Derived.Test.YtmppkaoonncddaaGreatDoorBa01
import Derived.Test.YtmppkaoonncddaaGreatDoorBa02
import Derived.Deep.DeepCutAuto
import Derived.Deep.CutBlock
import Derived.Test.YtmppkaoonncddaaGreatDoorRows
import Derived.ProofKit
import Derived.OpenShut
import Derived.ShutString
import Derived.ChangeOld
import Derived.Carry
import Derived.Deep.Slices
import Derived.Deep.Fields
import Derived.ChangeSame
import Derived.Lib.SmallJoins
import Derived.Test.YtmppkaoonncddaaGreatDoorBa03
namespace Go.Proofs.YtmppkaoonncddaaGreatDoor
section
set_option linter.unusedSimpArgs false
set_option linter.unusedVariables false
open Go.RowKit
theorem EPrint_bad (x : Entry) (w : World) (hc : checkE x ≠ 0) :
    Calls Tryz.prog 140 #[.agg #[.int .i64 x.kind, .int .i64 x.job, .int .i64 x.every, .int .i64 x.time, .int .i64 x.client]] w fun e w' => e = .returned (.tuple #[str [], .int .i64 (checkE x)]) ∧ Onto w w' := by
 obtain ⟨r, hr⟩ : ∃ r, r = checkE x := ⟨_, rfl⟩
 rw [← hr] at hc ⊢
 have HR := Lib.hid hr
 clear hr
 have hb : (!decide (r = 0)) = true := by simp [hc]
 go_enter Tryz.func140, Tryz.ntmps140
 go_wp2_with fail
 refine Calls.mono (Check_calls x.kind x.job x.every x.time x.client _) ?_
 rintro e w1 ⟨rfl, b⟩
 rw [show checkE ⟨x.kind, x.job, x.every, x.time, x.client⟩ = r from HR.out.symm]
 have on : Onto w w1 := Onto.to ((Onto.rfl' w).new _) b
 clear b
 go_wp2
 refine bodyPost_ret (v := .tuple #[str [], .int .i64 r]) (by simp [results, Tryz.results140, go_sem]) rfl ⟨rfl, on⟩
def pick4 (k : Int) (a b c d : Value) : Value := if k = 1 then b else if k = 2 then c else if k = 3 then d else a
theorem ix4 (k : Int) (h0 : 0 ≤ k) (h3 : k ≤ 3) (a b c d : Value) (w : World) : (Instr.index 203 (.agg #[a, b, c, d]) (.int .i64 k)).run Tryz.prog w = .ok (pick4 k a b c d) w := by
 rcases (by omega : k = 0 ∨ k = 1 ∨ k = 2 ∨ k = 3) with rfl | rfl | rfl | rfl <;> kernel_rfl
theorem ix4s (k : Int) (h0 : 0 ≤ k) (h3 : k ≤ 3) (a b c d : Value) (w : World) : (Instr.index 204 (.agg #[a, b, c, d]) (.int .i64 k)).run Tryz.prog w = .ok (pick4 k a b c d) w := by
 rcases (by omega : k = 0 ∨ k = 1 ∨ k = 2 ∨ k = 3) with rfl | rfl | rfl | rfl <;> kernel_rfl
theorem pick_head (x : Entry) : pick4 x.kind (.string ⟨#[106, 117, 110, 107]⟩) (.string ⟨#[112, 117, 116]⟩) (.string ⟨#[100, 114, 111, 112]⟩) (.string ⟨#[114, 105, 110, 103]⟩) = str (headE x) := by
 unfold pick4 headE
 (repeat' split) <;> rfl
theorem S.ints {w : World} {b : Nat} {l : List Int} {t : TypeId} (h : w.heap[b]? = some (.cells (l.map fun n => Value.int .i64 n).toArray t)) : S w 1 (some ⟨b, 0, none⟩) l.length (l.map encI) := by
 have := Sl.block (k := 1) (l.map encI) h (by
  intro r hr
  obtain ⟨x, _, rfl⟩ := List.mem_map.1 hr
  rfl) (by
  clear h
  induction l with
  | nil => rfl
  | cons a l ih => simp [encI] at ih ⊢; exact ih)
 rw [List.length_map] at this
 exact this
theorem tailB_take {l : List Int} {k : Nat} {n : Int} (h : l[k]? = some n) : tailB (l.take (k + 1)) = tailB (l.take k) ++ 32 :: Lib.itoa n := by
 obtain ⟨hk, rfl⟩ := List.getElem?_eq_some_iff.1 h
 rw [List.take_succ_eq_append_getElem hk]
 simp only [tailB, List.map_append, List.flatten_append, List.map_cons, List.map_nil, List.flatten_cons, List.flatten_nil, List.append_nil]
set_option maxHeartbeats 4000000 in
theorem EPrint_ok (x : Entry) (w : World) (E : Env w) (hc : checkE x = 0) :
    Calls Tryz.prog 140 #[.agg #[.int .i64 x.kind, .int .i64 x.job, .int .i64 x.every, .int .i64 x.time, .int .i64 x.client]] w fun e w' => e = .returned (.tuple #[str (textE x), .int .i64 0]) ∧ Onto w w' := by
 have HC := Lib.hid hc
 have hk := checkE_kd hc
 have ix : ∀ a b c d w, (Instr.index 203 (.agg #[a, b, c, d]) (.int .i64 x.kind)).run Tryz.prog w = .ok (pick4 x.kind a b c d) w := fun a b c d w => ix4 _ hk.1 hk.2 a b c d w
 have ix' : ∀ w, (Instr.index 204 (.agg #[.string ⟨#[106, 117, 110, 107]⟩, .string ⟨#[112, 117, 116]⟩, .string ⟨#[100, 114, 111, 112]⟩, .string ⟨#[114, 105, 110, 103]⟩]) (.int .i64 x.kind)).run Tryz.prog w = .ok (str (headE x)) w := fun w => by
  rw [ix4s _ hk.1 hk.2, pick_head]
 clear hc hk
 go_enter Tryz.func140, Tryz.ntmps140
 go_wp2_with fail
 refine Calls.mono (Check_calls x.kind x.job x.every x.time x.client _) ?_
 rintro e w1 ⟨rfl, b⟩
 rw [show checkE ⟨x.kind, x.job, x.every, x.time, x.client⟩ = 0 from HC.out]
 have on : Onto w w1 := Onto.to ((Onto.rfl' w).new _) b
 have c0 : w1.cell? ⟨w.heap.size, 0, none⟩ = some (.int .i64 x.kind) := cellB b (by simp [go_sem])
 have c1 : w1.cell? ⟨w.heap.size, 1, none⟩ = some (.int .i64 x.job) := cellB b (by simp [go_sem])
 have c2 : w1.cell? ⟨w.heap.size, 2, none⟩ = some (.int .i64 x.every) := cellB b (by simp [go_sem])
 have c3 : w1.cell? ⟨w.heap.size, 3, none⟩ = some (.int .i64 x.time) := cellB b (by simp [go_sem])
 have c4 : w1.cell? ⟨w.heap.size, 4, none⟩ = some (.int .i64 x.client) := cellB b (by simp [go_sem])
 have E1 := E.onto on
 clear b
 generalize w.heap.size = z at *
 have k11 : ∀ o, (w1.alloc o).cell? ⟨z, 1, none⟩ = some (.int .i64 x.job) := fun o => cellA c1 o
 have k12 : ∀ o, (w1.alloc o).cell? ⟨z, 2, none⟩ = some (.int .i64 x.every) := fun o => cellA c2 o
 have k13 : ∀ o, (w1.alloc o).cell? ⟨z, 3, none⟩ = some (.int .i64 x.time) := fun o => cellA c3 o
 have k21 : ∀ o p, ((w1.alloc o).alloc p).cell? ⟨z, 1, none⟩ = some (.int .i64 x.job) := fun o p => cellA (cellA c1 o) p
 have k31 : ∀ o p q, (((w1.alloc o).alloc p).alloc q).cell? ⟨z, 1, none⟩ = some (.int .i64 x.job) := fun o p q => cellA (cellA (cellA c1 o) p) q
 have k33 : ∀ o p q, (((w1.alloc o).alloc p).alloc q).cell? ⟨z, 3, none⟩ = some (.int .i64 x.time) := fun o p q => cellA (cellA (cellA c3 o) p) q
 have k34 : ∀ o p q, (((w1.alloc o).alloc p).alloc q).cell? ⟨z, 4, none⟩ = some (.int .i64 x.client) := fun o p q => cellA (cellA (cellA c4 o) p) q
 have k40 : ∀ o p q r, ((((w1.alloc o).alloc p).alloc q).alloc r).cell? ⟨z, 0, none⟩ = some (.int .i64 x.kind) := fun o p q r => cellA (cellA (cellA (cellA c0 o) p) q) r
 go_upto_region 6 with fail
 obtain ⟨A, hA, sA⟩ : ∃ A, pick4 x.kind (.slice (some ⟨w1.heap.size, 0, none⟩) 0 0) (.slice (some ⟨w1.heap.size + 1, 0, none⟩) 3 3) (.slice (some ⟨w1.heap.size + 1 + 1, 0, none⟩) 1 1) (.slice (some ⟨w1.heap.size + 1 + 1 + 1, 0, none⟩) 3 3) = .slice A (numsE x).length (numsE x).length ∧
     S ((((w1.alloc (Obj.cells #[] 3)).alloc (Obj.cells #[.int .i64 x.job, .int .i64 x.every, .int .i64 x.time] 3)).alloc (Obj.cells #[.int .i64 x.job] 3)).alloc (Obj.cells #[.int .i64 x.job, .int .i64 x.time, .int .i64 x.client] 3)) 1 A (numsE x).length ((numsE x).map encI) := by
  unfold pick4 numsE
  by_cases h1 : x.kind = 1
  · rw [if_pos h1, if_pos h1]
    exact ⟨_, rfl, S.ints (t := 3) (hOld (hOld (hNew (by simp))))⟩
  · rw [if_neg h1, if_neg h1]
    by_cases h2 : x.kind = 2
    · rw [if_pos h2, if_pos h2]
      exact ⟨_, rfl, S.ints (t := 3) (hOld (hNew (by simp)))⟩
    · rw [if_neg h2, if_neg h2]
      by_cases h3 : x.kind = 3
      · rw [if_pos h3, if_pos h3]
        exact ⟨_, rfl, S.ints (t := 3) (hNew (by simp))⟩
      · rw [if_neg h3, if_neg h3]
        exact ⟨_, rfl, Sl.nil⟩
 have oz : Onto w1 ((((w1.alloc (Obj.cells #[] 3)).alloc (Obj.cells #[.int .i64 x.job, .int .i64 x.every, .int .i64 x.time] 3)).alloc (Obj.cells #[.int .i64 x.job] 3)).alloc (Obj.cells #[.int .i64 x.job, .int .i64 x.time, .int .i64 x.client] 3)) := ((((Onto.rfl' w1).new _).new _).new _).new _
 replace on := Onto.to on oz
 replace E1 := E1.onto oz
 rw [hA]
 clear hA c0 c1 c2 c3 c4 k11 k12 k13 k21 k31 k33 k34 k40 oz
 generalize ((((w1.alloc (Obj.cells #[] 3)).alloc (Obj.cells #[.int .i64 x.job, .int .i64 x.every, .int .i64 x.time] 3)).alloc (Obj.cells #[.int .i64 x.job] 3)).alloc (Obj.cells #[.int .i64 x.job, .int .i64 x.time, .int .i64 x.client] 3)) = w5 at *
 generalize w1.heap.size = z1
 obtain ⟨n, hn⟩ : ∃ n, n = (numsE x).length := ⟨_, rfl⟩
 rw [← hn] at sA ⊢
 have HN := Lib.hid hn
 have hbd := numsE_bounds HC.out
 have HB := Lib.hid hbd
 clear hn hbd
 go_wp2_with fail
 go_loopg [6, 8, 42] n (fun g s6 s8 s42 wr => ∃ kk : Nat, kk ≤ n ∧ n - kk ≤ g ∧ s42 = .int .i64 kk ∧ s6 = str (headE x ++ tailB ((numsE x).take kk)) ∧ Onto w wr ∧ Onto w5 wr)
 case atStart => exact ⟨0, Nat.zero_le _, by omega, rfl, by simp [tailB], on, Onto.rfl' _⟩
 case round =>
  obtain ⟨kk, hkk, hg, rfl, rfl, hon, h5⟩ := hrel
  have hn3 : n ≤ 3 := by rw [HN.out]; unfold numsE; (repeat' split) <;> simp
  have ER := E1.onto h5
  have sR := S.onto sA h5
  by_cases hlt : kk < n
  · obtain ⟨bb, off, y, rfl, hb, hy, d0⟩ := Sl.atI sR hlt
    have HY := Lib.hid hy
    have hyb := HB.out y (List.mem_of_getElem? hy)
    clear hy sR
    obtain ⟨T, hT⟩ : ∃ T, T = headE x ++ tailB ((numsE x).take kk) := ⟨_, rfl⟩
    rw [← hT]
    have HT := Lib.hid hT
    clear hT
    go_wp2_with fail
    refine Calls.mono (Itoa_calls y (by omega) (by omega) _ ER) ?_
    rintro e w6 ⟨rfl, b⟩
    have hl1 := Lib.itoa_length_le y (by omega) (by omega)
    have hl2 : T.length ≤ 100 := by
     have h1 := textE_len HC.out
     have h2 : (tailB ((numsE x).take kk)).length ≤ (tailB (numsE x)).length := by
      have e : tailB (numsE x) = tailB ((numsE x).take kk) ++ tailB ((numsE x).drop kk) := by
       unfold tailB; rw [← List.flatten_append, ← List.map_append, List.take_append_drop]
      rw [e, List.length_append]; omega
     rw [HT.out]
     unfold textE at h1
     rw [List.length_append] at h1 ⊢
     omega
    have s1 : ∀ w, (Op.stringOp .add ⟨#[32]⟩ ⟨(Lib.itoa y).toArray⟩).run Tryz.prog w = .ok (str (32 :: Lib.itoa y)) w := fun w => run_string_add_lists w [32] (Lib.itoa y) (by simp) (by omega)
    have s2 : ∀ w, (Op.stringOp .add ⟨T.toArray⟩ ⟨(32 :: Lib.itoa y).toArray⟩).run Tryz.prog w = .ok (str (T ++ 32 :: Lib.itoa y)) w := fun w => run_string_add_lists w T _ (by omega) (by simp; omega)
    clear hl1 hl2
    go_wp2_with fail
    go_roundg (n - (kk + 1))
    case measure => omega
    case rel =>
     refine ⟨kk + 1, by omega, by omega, by go_num, ?_, hon.to b, h5.to b⟩
     rw [HT.out, tailB_take HY.out, List.append_assoc]
  · have hkn : kk = n := by omega
    subst hkn
    have e : headE x ++ tailB ((numsE x).take kk) = textE x := by
     rw [HN.out, List.take_length]; rfl
    rw [e]
    clear e sR sA
    go_wp2
    refine bodyPost_ret (v := .tuple #[str (textE x), .int .i64 0]) (by simp [results, Tryz.results140, go_sem]) rfl ⟨rfl, hon⟩
theorem EPrint_calls (x : Entry) (w : World) (E : Env w) :
    Calls Tryz.prog 140 #[.agg #[.int .i64 x.kind, .int .i64 x.job, .int .i64 x.every, .int .i64 x.time, .int .i64 x.client]] w fun e w' => e = .returned (.tuple #[str (printE x).1, .int .i64 (printE x).2]) ∧ Onto w w' := by
 unfold printE
 by_cases hc : checkE x = 0
 · rw [if_neg (by simp [hc])]
   exact EPrint_ok x w E hc
 · rw [if_pos hc]
   exact EPrint_bad x w hc
end
section
set_option linter.unusedSimpArgs false
set_option linter.unusedVariables false
open Go.RowKit
def EnPost (w : World) (r : Entry × Int) (e : Ending) (w' : World) : Prop := e = .returned (.tuple #[.agg #[.int .i64 r.1.kind, .int .i64 r.1.job, .int .i64 r.1.every, .int .i64 r.1.time, .int .i64 r.1.client], .int .i64 r.2]) ∧ Onto w w'
theorem S.atS {w : World} {A : Option Addr} {n : Nat} {l : List (List UInt8)} (h : S w 1 A n (l.map encS)) {i : Nat} (hi : i < n) : ∃ b off x, A = some ⟨b, off, none⟩ ∧ b < w.heap.size ∧ l[i]? = some x ∧ w.cell? ⟨b, off + i, none⟩ = some (str x) := by
 obtain ⟨b, off, x, e, hb, hx, hc⟩ := Sl.at_ h hi
 have h0 := hc 0 _ rfl
 rw [Nat.mul_one] at h0
 exact ⟨b, off, x, e, hb, hx, h0⟩
theorem sizeE : (Tryz.prog.info? 27).map (·.size) = some 5 := by kernel_rfl
theorem set3 {l : List Int} {k : Nat} {v : Int} (h : l.length = k) (hk : k < 3) : ([.int .i64 (l.getD 0 0), .int .i64 (l.getD 1 0), .int .i64 (l.getD 2 0)] : List Value).set k (.int .i64 v) = [.int .i64 ((l ++ [v]).getD 0 0), .int .i64 ((l ++ [v]).getD 1 0), .int .i64 ((l ++ [v]).getD 2 0)] := by
 subst h
 match l, hk with
 | [], _ => rfl
 | [a], _ => rfl
 | [a, b], _ => rfl
theorem cutc_le {c : UInt8} : ∀ {l p : List UInt8}, p ∈ cutc c l → p.length ≤ l.length
 | [], p, h => by simp [cutc] at h; simp [h]
 | b :: l, p, h => by
   rw [cutc] at h
   split at h
   · rcases List.mem_cons.1 h with rfl | h
     · simp
     · have := cutc_le h; simp; omega
   · rcases List.mem_cons.1 h with rfl | h
     · have := cutc_le (show (cutc c l).headD [] ∈ cutc c l by rw [cutc_eta]; simp)
       simp; simpa using this
     · have := cutc_le (List.mem_of_mem_tail h); simp; omega
theorem numsL_snoc {t : List UInt8} : ∀ {ts : List (List UInt8)} {l : List Int}, numsL ts = some l → numsL (ts ++ [t]) = (num t).map fun v => l ++ [v]
 | [], l, h => by simp [numsL] at h; subst h; simp only [List.nil_append, numsL]; cases num t <;> rfl
 | a :: ts, l, h => by
   simp only [numsL] at h
   simp only [List.cons_append, numsL]
   cases ha : num a with
   | none => rw [ha] at h; cases h
   | some v =>
     rw [ha] at h
     cases hr : numsL ts with
     | none => rw [hr] at h; cases h
     | some r =>
       rw [hr] at h
       injection h with h
       subst h
       simp only
       rw [numsL_snoc hr]
       cases num t <;> rfl
theorem numsL_none {t : List UInt8} : ∀ {ts : List (List UInt8)}, t ∈ ts → num t = none → numsL ts = none
 | [], h, _ => by simp at h
 | a :: ts, h, hn => by
   simp only [numsL]
   rcases List.mem_cons.1 h with rfl | h
   · rw [hn]
   · rw [numsL_none h hn]; cases num a <;> rfl
theorem EParse_long (s : List UInt8) (w : World) (hs : 30000 < s.length) (hm : s.length ≤ 9223372036854775807) :
    Calls Tryz.prog 137 #[str s] w (EnPost w (zeroE, 2)) := by
 have hd : ((30000 : Int) < (s.length : Int)) := by omega
 go_enter Tryz.func137, Tryz.ntmps137
 go_wp2
 refine bodyPost_ret (v := .tuple #[.agg #[.int .i64 0, .int .i64 0, .int .i64 0, .int .i64 0, .int .i64 0], .int .i64 2]) (by simp [results, Tryz.results137, go_sem]) rfl ⟨rfl, ?_⟩
 repeat (first | exact Onto.rfl' _ | refine Onto.draw ?_ | refine Onto.new ?_ _ | refine Onto.put ?_ (by simp) _)
theorem kind0 {y : List UInt8} (h : (y == [106, 117, 110, 107]) = true) : Hid (kindW y = some (0, 0)) := Lib.hid (by rw [beq_iff_eq] at h; subst h; rfl)
theorem kind1 {y : List UInt8} (h : (y == [112, 117, 116]) = true) : Hid (kindW y = some (1, 3)) := Lib.hid (by rw [beq_iff_eq] at h; subst h; rfl)
theorem kind2 {y : List UInt8} (h : (y == [100, 114, 111, 112]) = true) : Hid (kindW y = some (2, 1)) := Lib.hid (by rw [beq_iff_eq] at h; subst h; rfl)
theorem kind3 {y : List UInt8} (h : (y == [114, 105, 110, 103]) = true) : Hid (kindW y = some (3, 3)) := Lib.hid (by rw [beq_iff_eq] at h; subst h; rfl)
theorem kindN {y : List UInt8} (h0 : (y == [106, 117, 110, 107]) = false) (h1 : (y == [112, 117, 116]) = false) (h2 : (y == [100, 114, 111, 112]) = false) (h3 : (y == [114, 105, 110, 103]) = false) : kindW y = none := by
 rw [beq_eq_false_iff_ne] at h0 h1 h2 h3
 unfold kindW junkW putW dropW ringW
 rw [if_neg h0, if_neg h1, if_neg h2, if_neg h3]
set_option maxRecDepth 100000 in
set_option maxHeartbeats 4000000 in
theorem EParse_short (s : List UInt8) (w : World) (E : Env w) (hs : s.length ≤ 30000) :
    Calls Tryz.prog 137 #[str s] w (EnPost w (readWs (cutc 32 s))) := by
 have HS := Lib.hid hs
 have hd2 : decide ((30000 : Int) < (s.length : Int)) = false := by simp; omega
 obtain ⟨r, hr⟩ : ∃ r, r = readWs (cutc 32 s) := ⟨_, rfl⟩
 rw [← hr]
 have HR := Lib.hid hr
 clear hs hr
 go_enter Tryz.func137, Tryz.ntmps137
 go_wp2_with fail
 refine Calls.mono (Split_calls 32 s (by have := HS.out; omega) _ (E.new _)) ?_
 rintro e w1 ⟨A, rfl, sA, b⟩
 have on : Onto w w1 := Onto.to ((Onto.rfl' w).new _) b
 have Bz : Bx w1 w.heap.size [.int .i64 0, .int .i64 0, .int .i64 0, .int .i64 0, .int .i64 0] := (Bx.made w #[.int .i64 0, .int .i64 0, .int .i64 0, .int .i64 0, .int .i64 0] 27).onto b
 have E1 := E.onto on
 have hz := Bz.lt
 clear b
 obtain ⟨ws, hws⟩ : ∃ ws, ws = cutc 32 s := ⟨_, rfl⟩
 have hne : ws ≠ [] := hws ▸ cutc_ne 32 s
 have hlw : ∀ t ∈ ws, t.length ≤ 30000 := fun t ht => Nat.le_trans (cutc_le (hws ▸ ht)) HS.out
 rw [← hws] at sA HR ⊢
 clear hws
 obtain ⟨h, ts, rfl⟩ : ∃ h ts, ws = h :: ts := by
  cases ws with
  | nil => exact absurd rfl hne
  | cons h ts => exact ⟨h, ts, rfl⟩
 clear hne
 have HTL := Lib.hid (show ∀ t ∈ ts, t.length ≤ 30000 from fun t ht => hlw t (by simp [ht]))
 clear hlw
 generalize hzz : w.heap.size = z at *
 obtain ⟨bb, off, y, rfl, hb, hy, d0⟩ := S.atS sA (i := 0) (by simp)
 have hy : y = h := by simpa using hy.symm
 subst hy
 rw [Nat.add_zero] at d0
 have hn0 : (0 : Int) < ((y :: ts).length : Int) := by simp
 go_upto_block 0 with fail
 go_cut [5, 6] (fun s5 s6 wx => ∃ (k : Int) (m : Nat), s5 = .int .i64 k ∧ s6 = .int .i64 m ∧ wx = w1 ∧ Hid (kindW y = some (k, m)))
 case first =>
  go_wp2_with (refine wpList_put Bz [.int .i64 0, .int .i64 0, .int .i64 0, .int .i64 0, .int .i64 0] 27 _ _ (by rfl) (by rfl) (by rfl) (by rfl) (by rfl) sizeE (by rfl) ?_)
  all_goals first
   | (go_meet; first | exact ⟨0, 0, rfl, rfl, rfl, kind0 (by assumption)⟩ | exact ⟨1, 3, rfl, rfl, rfl, kind1 (by assumption)⟩ | exact ⟨2, 1, rfl, rfl, rfl, kind2 (by assumption)⟩ | exact ⟨3, 3, rfl, rfl, rfl, kind3 (by assumption)⟩)
   | skip
  have hk : kindW y = none := kindN (by assumption) (by assumption) (by assumption) (by assumption)
  have hr : r = (zeroE, 1) := by rw [HR.out]; unfold readWs; rw [List.headD_cons, hk]
  subst hr
  have hF := Bz.put (us := [.int .i64 0, .int .i64 0, .int .i64 0, .int .i64 0, .int .i64 0]) rfl
  have oF := Onto.puts (b := z) (o := 0) (us := [.int .i64 0, .int .i64 0, .int .i64 0, .int .i64 0, .int .i64 0]) (by omega) on
  generalize World.setCells _ z 0 [.int .i64 0, .int .i64 0, .int .i64 0, .int .i64 0, .int .i64 0] = wF at hF oF ⊢
  go_wp2_with fail
  have p0 := hF.at_ 0 rfl; have p1 := hF.at_ 1 rfl; have p2 := hF.at_ 2 rfl; have p3 := hF.at_ 3 rfl; have p4 := hF.at_ 4 rfl
  refine bodyPost_ret (v := .tuple #[.agg #[.int .i64 0, .int .i64 0, .int .i64 0, .int .i64 0, .int .i64 0], .int .i64 1]) (by simp [results, Tryz.results137, go_sem, p0, p1, p2, p3, p4]) rfl ⟨rfl, oF⟩
 case rest =>
  obtain ⟨k, m, rfl, rfl, rfl, HK⟩ := hcut
  obtain ⟨hm3, hkm⟩ : m ≤ 3 ∧ (m = 0 ∨ 1 ≤ m) := by
   have h := HK.out
   unfold kindW at h
   (repeat' split at h) <;> simp at h <;> omega
  by_cases hlen : ts.length = m
  · subst hlen
    have hq : ((ts.length : Int) + 1 != (ts.length : Int) + 1) = false := by simp
    obtain ⟨A', hA', sA'⟩ : ∃ A', (∀ w, (Instr.slice 200 (.slice (some ⟨bb, off, none⟩) (ts.length + 1) (ts.length + 1)) (some (.int .i64 1)) none none).run Tryz.prog w = .ok (.slice A' ts.length ts.length) w) ∧ S wc 1 A' ts.length (ts.map encS) := by
     refine ⟨_, fun w => run_slice_from (size := 1) (some ⟨bb, off, none⟩) (ts.length + 1) (ts.length + 1) 1 Tryz.underlying200 Tryz.sizeOf9 (by omega) w, ?_⟩
     have := Sl.cut (c := ts.length + 1) (m := 1) sA (by simp) (by simp)
     simpa using this
    clear hn0 hb hy d0 sA hkm
    obtain ⟨z7, hz7⟩ : ∃ z7, z7 = wc.heap.size := ⟨_, rfl⟩
    go_upto_region 17 with fail
    have B7 : Bx (wc.alloc (Obj.cells #[.int .i64 0, .int .i64 0, .int .i64 0] 202)) z7 [.int .i64 0, .int .i64 0, .int .i64 0] := by subst hz7; exact Bx.made _ _ _
    have oa : Onto wc (wc.alloc (Obj.cells #[.int .i64 0, .int .i64 0, .int .i64 0] 202)) := (Onto.rfl' _).new _
    rw [← hz7]
    generalize (wc.alloc (Obj.cells #[.int .i64 0, .int .i64 0, .int .i64 0] 202)) = w7 at *
    have E7 := E1.onto oa
    have s7 := S.onto sA' oa
    have hz7' : wc.heap.size ≤ z7 := by omega
    clear hz7
    go_wp2_with fail
    go_loopg [8, 9, 10, 11, 41] ts.length (fun g s8 s9 s10 s11 s41 wr => ∃ (kk : Nat) (l : List Int), kk ≤ ts.length ∧ ts.length - kk ≤ g ∧ s41 = .int .i64 kk ∧ Hid (numsL (ts.take kk) = some l ∧ l.length = kk) ∧
     Bx wr z7 [.int .i64 (l.getD 0 0), .int .i64 (l.getD 1 0), .int .i64 (l.getD 2 0)] ∧ Onto wc wr ∧ Env wr ∧ S wr 1 A' ts.length (ts.map encS))
    case atStart => exact ⟨0, [], Nat.zero_le _, by omega, rfl, Lib.hid ⟨rfl, rfl⟩, B7, oa, E7, s7⟩
    case round =>
     obtain ⟨kk, l, hkk, hg, rfl, HL, BR, hon, ER, sR⟩ := hrel
     by_cases hlt : kk < ts.length
     · obtain ⟨bb', off', t, rfl, hb, ht, d0⟩ := S.atS sR hlt
       have HT := Lib.hid ht
       have htl := HTL.out t (List.mem_of_getElem? ht)
       clear ht
       go_wp2_with fail
       refine Calls.mono (Atoi_calls t (by omega) _ ER) ?_
       rintro e w8 ⟨v, er, rfl, b, hres⟩
       replace BR := BR.onto b
       replace sR := S.onto sR b; replace ER := ER.onto b; replace hon := hon.to b
       have BZ := Bz.onto hon
       have ow := on.to hon
       clear b d0 s7 B7 Bz
       have sA0 := sA'
       clear sA'
       rcases hres with ⟨rfl, hok, hv0, hv1⟩ | ⟨⟨et, ep, rfl⟩, hno⟩
       · have HOK := Lib.hid hok
         clear hok
         by_cases hbt : Lib.itoa v = t
         · have hq1 : (Lib.itoa v == t) = true := by simp [hbt]
           have HBT := Lib.hid hbt
           clear hbt
           have hnum : num t = some v := by unfold num; rw [HOK.out]; simp only; rw [if_pos HBT.out]
           have HNUM := Lib.hid hnum
           clear hnum
           go_wp2_with (go_at_call 139; refine (Itoa_calls v hv0 hv1 _ ER).mono ?_; rintro e w9 ⟨rfl, b9⟩; refine Hid.out ?_)
           refine Lib.hid ?_
           replace BR := BR.onto b9
           replace sR := S.onto sR b9; replace ER := ER.onto b9; replace hon := hon.to b9
           clear b9 BZ ow
           have fr := fun o => BR.froz o
           obtain ⟨old, hold⟩ : ∃ u, w9.cell? ⟨z7, kk, none⟩ = some u := ⟨_, BR.at_ kk (List.getElem?_eq_getElem (show kk < 3 by omega))⟩
           go_wp2_with fail
           go_roundg (ts.length - (kk + 1))
           case measure => omega
           case rel =>
            have hB := BR.put1 (j := kk) (show kk < 3 by omega) (.int .i64 v)
            rw [set3 HL.out.2 (by omega)] at hB
            have ob : Onto wc (w9.setCell ⟨z7, kk, none⟩ (.int .i64 v)) := Onto.put hon hz7' _
            have oo : ∀ w, Onto w wc → Onto w (w9.setCell ⟨z7, kk, none⟩ (.int .i64 v)) := fun w h => h.to ob
            refine ⟨kk + 1, l ++ [v], by omega, by omega, by go_num, Lib.hid ⟨?_, by simp [HL.out.2]⟩, hB, ob, ?_, ?_⟩
            · rw [List.take_succ_eq_append_getElem hlt, (List.getElem?_eq_some_iff.1 HT.out).2, numsL_snoc HL.out.1, HNUM.out]; rfl
            · exact E1.onto ob
            · exact S.onto sA0 ob
         · have hq1 : (Lib.itoa v == t) = false := by simp [hbt]
           have hn : num t = none := by unfold num; rw [HOK.out]; simp only; rw [if_neg hbt]
           have hr : r = (zeroE, 1) := by rw [HR.out]; unfold readWs; rw [List.headD_cons, HK.out]; dsimp only; rw [List.tail_cons, if_neg (by simp), numsL_none (List.mem_of_getElem? HT.out) hn]
           subst hr
           clear hbt
           go_wp2_with (go_at_call 139; refine (Itoa_calls v hv0 hv1 _ ER).mono ?_; rintro e w9 ⟨rfl, b9⟩; refine Hid.out ?_)
           refine Lib.hid ?_
           replace BZ := BZ.onto b9; replace ow := ow.to b9
           clear BR sR ER hon b9
           go_wp2_with (refine wpList_put BZ [.int .i64 0, .int .i64 0, .int .i64 0, .int .i64 0, .int .i64 0] 27 _ _ (by rfl) (by rfl) (by rfl) (by rfl) (by rfl) sizeE (by rfl) ?_)
           have hF := BZ.put (us := [.int .i64 0, .int .i64 0, .int .i64 0, .int .i64 0, .int .i64 0]) rfl
           have oF := Onto.puts (b := z) (o := 0) (us := [.int .i64 0, .int .i64 0, .int .i64 0, .int .i64 0, .int .i64 0]) (by omega) ow
           generalize World.setCells _ z 0 [.int .i64 0, .int .i64 0, .int .i64 0, .int .i64 0, .int .i64 0] = wF at hF oF ⊢
           go_wp2_with fail
           have p0 := hF.at_ 0 rfl; have p1 := hF.at_ 1 rfl; have p2 := hF.at_ 2 rfl; have p3 := hF.at_ 3 rfl; have p4 := hF.at_ 4 rfl
           refine bodyPost_ret (v := .tuple #[.agg #[.int .i64 0, .int .i64 0, .int .i64 0, .int .i64 0, .int .i64 0], .int .i64 1]) (by simp [results, Tryz.results137, go_sem, p0, p1, p2, p3, p4]) rfl ⟨rfl, oF⟩
       · have hn : num t = none := by
          rcases num_case t with ⟨v, h1, _⟩ | ⟨_, h2⟩
          · exact absurd h1 (hno v)
          · exact h2
         have hr : r = (zeroE, 1) := by rw [HR.out]; unfold readWs; rw [List.headD_cons, HK.out]; dsimp only; rw [List.tail_cons, if_neg (by simp), numsL_none (List.mem_of_getElem? HT.out) hn]
         subst hr
         go_wp2_with (refine wpList_put BZ [.int .i64 0, .int .i64 0, .int .i64 0, .int .i64 0, .int .i64 0] 27 _ _ (by rfl) (by rfl) (by rfl) (by rfl) (by rfl) sizeE (by rfl) ?_)
         have hF := BZ.put (us := [.int .i64 0, .int .i64 0, .int .i64 0, .int .i64 0, .int .i64 0]) rfl
         have oF := Onto.puts (b := z) (o := 0) (us := [.int .i64 0, .int .i64 0, .int .i64 0, .int .i64 0, .int .i64 0]) (by omega) ow
         generalize World.setCells _ z 0 [.int .i64 0, .int .i64 0, .int .i64 0, .int .i64 0, .int .i64 0] = wF at hF oF ⊢
         go_wp2_with fail
         have p0 := hF.at_ 0 rfl; have p1 := hF.at_ 1 rfl; have p2 := hF.at_ 2 rfl; have p3 := hF.at_ 3 rfl; have p4 := hF.at_ 4 rfl
         refine bodyPost_ret (v := .tuple #[.agg #[.int .i64 0, .int .i64 0, .int .i64 0, .int .i64 0, .int .i64 0], .int .i64 1]) (by simp [results, Tryz.results137, go_sem, p0, p1, p2, p3, p4]) rfl ⟨rfl, oF⟩
     · have hkn : kk = ts.length := by omega
       subst hkn
       rw [List.take_length] at HL
       have HLL := Lib.hid HL.out.2
       replace HL := Lib.hid HL.out.1
       obtain ⟨n0, hn0⟩ : ∃ n, n = l.getD 0 0 := ⟨_, rfl⟩
       obtain ⟨n1, hn1⟩ : ∃ n, n = l.getD 1 0 := ⟨_, rfl⟩
       obtain ⟨n2, hn2⟩ : ∃ n, n = l.getD 2 0 := ⟨_, rfl⟩
       rw [← hn0, ← hn1, ← hn2] at BR
       have HN0 := Lib.hid hn0; have HN1 := Lib.hid hn1; have HN2 := Lib.hid hn2
       clear hn0 hn1 hn2 hkk hg hlt
       have BZ := Bz.onto hon
       have ow := on.to hon
       have g0 := BR.at_ 0 rfl
       clear Bz sA' s7 B7 sR
       go_upto_region 26 with fail
       have oc : Onto wr (wr.alloc (Obj.cells #[.int .i64 k, .int .i64 n0, .int .i64 0, .int .i64 0, .int .i64 0] 27)) := (Onto.rfl' _).new _
       have B12 : Bx (wr.alloc (Obj.cells #[.int .i64 k, .int .i64 n0, .int .i64 0, .int .i64 0, .int .i64 0] 27)) wr.heap.size [.int .i64 k, .int .i64 n0, .int .i64 0, .int .i64 0, .int .i64 0] := Bx.made _ _ _
       have h12 : z7 < wr.heap.size := BR.lt
       generalize (wr.alloc (Obj.cells #[.int .i64 k, .int .i64 n0, .int .i64 0, .int .i64 0, .int .i64 0] 27)) = w12 at *
       generalize hz12 : wr.heap.size = z12 at *
       clear g0
       have BZr := BZ; have owr := ow
       replace BZ := BZ.onto oc; replace ow := ow.to oc; replace BR := BR.onto oc
       have hk4 : k = 0 ∨ k = 1 ∨ k = 2 ∨ k = 3 := by
        have h := HK.out
        unfold kindW at h
        (repeat' split at h) <;> simp at h <;> omega
       by_cases hk1 : k = 1
       · subst hk1
         have hrr : entE 1 l = ⟨1, n0, n1, n2, 0⟩ := by rw [HN0.out, HN1.out, HN2.out]; rfl
         have HRR := Lib.hid hrr
         clear hrr hk4
         have g1 := BR.at_ 1 rfl; have g2 := BR.at_ 2 rfl
         have b0 := B12.at_ 0 rfl; have b2 := B12.at_ 2 rfl; have b3 := B12.at_ 3 rfl
         have fz := fun o => B12.froz o
         have hne : z7 ≠ z12 := by omega
         have gn : ∀ u, (w12.setCell ⟨z12, 2, none⟩ u).cell? ⟨z12, 3, none⟩ = some (.int .i64 0) := fun u => (B12.put1 (j := 2) (by simp) u).at_ 3 rfl
         have gm : ∀ u, (w12.setCell ⟨z12, 3, none⟩ u).cell? ⟨z12, 2, none⟩ = some (.int .i64 0) := fun u => (B12.put1 (j := 3) (by simp) u).at_ 2 rfl
         go_upto_region 27 with fail
         go_cut [] (fun wx => Bx wx z12 [.int .i64 1, .int .i64 n0, .int .i64 n1, .int .i64 n2, .int .i64 0] ∧ Onto wr wx)
         case first =>
          go_region_held3 (fun w' => w'.cell? ⟨z7, 1, none⟩ = some (.int .i64 n1) ∧ w'.cell? ⟨z7, 2, none⟩ = some (.int .i64 n2))
           (first | exact ⟨g1, g2⟩ | exact ⟨(BR.off1 (p := ⟨z12, 2, none⟩) hne _).draw.at_ 1 rfl, (BR.off1 (p := ⟨z12, 2, none⟩) hne _).draw.at_ 2 rfl⟩ | exact ⟨(BR.off1 (p := ⟨z12, 3, none⟩) hne _).draw.at_ 1 rfl, (BR.off1 (p := ⟨z12, 3, none⟩) hne _).draw.at_ 2 rfl⟩ | exact ⟨((BR.off1 (p := ⟨z12, 2, none⟩) hne _).off1 (p := ⟨z12, 3, none⟩) hne _).draw.at_ 1 rfl, ((BR.off1 (p := ⟨z12, 2, none⟩) hne _).off1 (p := ⟨z12, 3, none⟩) hne _).draw.at_ 2 rfl⟩ | exact ⟨((BR.off1 (p := ⟨z12, 3, none⟩) hne _).off1 (p := ⟨z12, 2, none⟩) hne _).draw.at_ 1 rfl, ((BR.off1 (p := ⟨z12, 3, none⟩) hne _).off1 (p := ⟨z12, 2, none⟩) hne _).draw.at_ 2 rfl⟩ | fail)
           (first | fail)
          all_goals go_wp2_with fail
          all_goals
           go_meet
           exact ⟨((B12.put1 (j := 2) (by simp) _).put1 (j := 3) (by simp) _).draw, (Onto.put (Onto.put oc (by show wr.heap.size ≤ z12; omega) _) (by show wr.heap.size ≤ z12; omega) _).draw⟩
         case rest =>
          obtain ⟨B12', ow12'⟩ := hcut
          clear B12 g1 g2 b0 b2 b3 fz gn gm BR BZ ow
          have B12 := B12'; have BZ := BZr.onto ow12'; have ow := owr.to ow12'
          clear B12' ow12' BZr owr oc
          have hr : r = if checkE ⟨1, n0, n1, n2, 0⟩ ≠ 0 then (zeroE, checkE ⟨1, n0, n1, n2, 0⟩) else (⟨1, n0, n1, n2, 0⟩, 0) := by
           rw [HR.out]; unfold readWs; rw [List.headD_cons, HK.out]; dsimp only; rw [List.tail_cons, if_neg (by simp), HL.out]
           dsimp only
           rw [HRR.out]
          obtain ⟨q, hqq⟩ : ∃ q, q = checkE ⟨1, n0, n1, n2, 0⟩ := ⟨_, rfl⟩
          rw [← hqq] at hr
          have HQ := Lib.hid hqq; have HRQ := Lib.hid hr
          clear hqq hr
          have b0 := B12.at_ 0 rfl; have b1 := B12.at_ 1 rfl; have b2 := B12.at_ 2 rfl; have b3 := B12.at_ 3 rfl; have b4 := B12.at_ 4 rfl
          go_wp2_with fail
          refine Calls.mono (Check_calls 1 n0 n1 n2 0 _) ?_
          rintro e w13 ⟨rfl, b⟩
          rw [show checkE ⟨1, n0, n1, n2, 0⟩ = q from HQ.out.symm]
          replace BZ := BZ.onto b; replace ow := ow.to b; replace B12 := B12.onto b
          clear b b0 b1 b2 b3 b4
          by_cases hq0 : q = 0
          · have hr := HRQ.out
            rw [if_neg (by simp [hq0])] at hr
            subst hr
            have hq1 : (q == 0) = true := by simp [hq0]
            have hq2 : (q != 0) = false := by simp [hq0]
            have b0 := B12.at_ 0 rfl; have b1 := B12.at_ 1 rfl; have b2 := B12.at_ 2 rfl; have b3 := B12.at_ 3 rfl; have b4 := B12.at_ 4 rfl
            clear hq0 HRQ
            go_wp2_with (refine wpList_put BZ [.int .i64 1, .int .i64 n0, .int .i64 n1, .int .i64 n2, .int .i64 0] 27 _ _ (by rfl) (by rfl) (by rfl) (by rfl) (by rfl) sizeE (by rfl) ?_)
            have hF := BZ.put (us := [.int .i64 1, .int .i64 n0, .int .i64 n1, .int .i64 n2, .int .i64 0]) rfl
            have oF := Onto.puts (b := z) (o := 0) (us := [.int .i64 1, .int .i64 n0, .int .i64 n1, .int .i64 n2, .int .i64 0]) (by omega) ow
            generalize World.setCells _ z 0 [.int .i64 1, .int .i64 n0, .int .i64 n1, .int .i64 n2, .int .i64 0] = wF at hF oF ⊢
            go_wp2_with fail
            have p0 := hF.at_ 0 rfl; have p1 := hF.at_ 1 rfl; have p2 := hF.at_ 2 rfl; have p3 := hF.at_ 3 rfl; have p4 := hF.at_ 4 rfl
            refine bodyPost_ret (v := .tuple #[.agg #[.int .i64 1, .int .i64 n0, .int .i64 n1, .int .i64 n2, .int .i64 0], .int .i64 0]) (by simp [results, Tryz.results137, go_sem, p0, p1, p2, p3, p4]) rfl ⟨rfl, oF⟩
          · have hr := HRQ.out
            rw [if_pos hq0] at hr
            subst hr
            have hq1 : (q == 0) = false := by simp [hq0]
            have hq2 : (q != 0) = true := by simp [hq0]
            clear hq0 B12 HRQ
            go_wp2_with (refine wpList_put BZ [.int .i64 0, .int .i64 0, .int .i64 0, .int .i64 0, .int .i64 0] 27 _ _ (by rfl) (by rfl) (by rfl) (by rfl) (by rfl) sizeE (by rfl) ?_)
            have hF := BZ.put (us := [.int .i64 0, .int .i64 0, .int .i64 0, .int .i64 0, .int .i64 0]) rfl
            have oF := Onto.puts (b := z) (o := 0) (us := [.int .i64 0, .int .i64 0, .int .i64 0, .int .i64 0, .int .i64 0]) (by omega) ow
            generalize World.setCells _ z 0 [.int .i64 0, .int .i64 0, .int .i64 0, .int .i64 0, .int .i64 0] = wF at hF oF ⊢
            go_wp2_with fail
            have p0 := hF.at_ 0 rfl; have p1 := hF.at_ 1 rfl; have p2 := hF.at_ 2 rfl; have p3 := hF.at_ 3 rfl; have p4 := hF.at_ 4 rfl
            refine bodyPost_ret (v := .tuple #[.agg #[.int .i64 0, .int .i64 0, .int .i64 0, .int .i64 0, .int .i64 0], .int .i64 q]) (by simp [results, Tryz.results137, go_sem, p0, p1, p2, p3, p4]) rfl ⟨rfl, oF⟩
       · by_cases hk3 : k = 3
         · subst hk3
           have hrr : entE 3 l = ⟨3, n0, 0, n1, n2⟩ := by rw [HN0.out, HN1.out, HN2.out]; rfl
           have HRR := Lib.hid hrr
           clear hrr hk4 hk1
           have g1 := BR.at_ 1 rfl; have g2 := BR.at_ 2 rfl
           have b0 := B12.at_ 0 rfl; have b3 := B12.at_ 3 rfl; have b4 := B12.at_ 4 rfl
           have fz := fun o => B12.froz o
           have hne : z7 ≠ z12 := by omega
           have gn : ∀ u, (w12.setCell ⟨z12, 3, none⟩ u).cell? ⟨z12, 4, none⟩ = some (.int .i64 0) := fun u => (B12.put1 (j := 3) (by simp) u).at_ 4 rfl
           have gm : ∀ u, (w12.setCell ⟨z12, 4, none⟩ u).cell? ⟨z12, 3, none⟩ = some (.int .i64 0) := fun u => (B12.put1 (j := 4) (by simp) u).at_ 3 rfl
           go_upto_region 29 with fail
           go_cut [] (fun wx => Bx wx z12 [.int .i64 3, .int .i64 n0, .int .i64 0, .int .i64 n1, .int .i64 n2] ∧ Onto wr wx)
           case first =>
            go_region_held3 (fun w' => w'.cell? ⟨z7, 1, none⟩ = some (.int .i64 n1) ∧ w'.cell? ⟨z7, 2, none⟩ = some (.int .i64 n2))
             (first | exact ⟨g1, g2⟩ | exact ⟨(BR.off1 (p := ⟨z12, 3, none⟩) hne _).draw.at_ 1 rfl, (BR.off1 (p := ⟨z12, 3, none⟩) hne _).draw.at_ 2 rfl⟩ | exact ⟨(BR.off1 (p := ⟨z12, 4, none⟩) hne _).draw.at_ 1 rfl, (BR.off1 (p := ⟨z12, 4, none⟩) hne _).draw.at_ 2 rfl⟩ | exact ⟨((BR.off1 (p := ⟨z12, 3, none⟩) hne _).off1 (p := ⟨z12, 4, none⟩) hne _).draw.at_ 1 rfl, ((BR.off1 (p := ⟨z12, 3, none⟩) hne _).off1 (p := ⟨z12, 4, none⟩) hne _).draw.at_ 2 rfl⟩ | exact ⟨((BR.off1 (p := ⟨z12, 4, none⟩) hne _).off1 (p := ⟨z12, 3, none⟩) hne _).draw.at_ 1 rfl, ((BR.off1 (p := ⟨z12, 4, none⟩) hne _).off1 (p := ⟨z12, 3, none⟩) hne _).draw.at_ 2 rfl⟩ | fail)
             (first | fail)
            all_goals go_wp2_with fail
            all_goals
             go_meet
             exact ⟨((B12.put1 (j := 3) (by simp) _).put1 (j := 4) (by simp) _).draw, (Onto.put (Onto.put oc (by show wr.heap.size ≤ z12; omega) _) (by show wr.heap.size ≤ z12; omega) _).draw⟩
           case rest =>
            obtain ⟨B12', ow12'⟩ := hcut
            clear B12 g1 g2 b0 b3 b4 fz gn gm BR BZ ow
            have B12 := B12'; have BZ := BZr.onto ow12'; have ow := owr.to ow12'
            clear B12' ow12' BZr owr oc
            have hr : r = if checkE ⟨3, n0, 0, n1, n2⟩ ≠ 0 then (zeroE, checkE ⟨3, n0, 0, n1, n2⟩) else (⟨3, n0, 0, n1, n2⟩, 0) := by
             rw [HR.out]; unfold readWs; rw [List.headD_cons, HK.out]; dsimp only; rw [List.tail_cons, if_neg (by simp), HL.out]
             dsimp only
             rw [HRR.out]
            obtain ⟨q, hqq⟩ : ∃ q, q = checkE ⟨3, n0, 0, n1, n2⟩ := ⟨_, rfl⟩
            rw [← hqq] at hr
            have HQ := Lib.hid hqq; have HRQ := Lib.hid hr
            clear hqq hr
            have b0 := B12.at_ 0 rfl; have b1 := B12.at_ 1 rfl; have b2 := B12.at_ 2 rfl; have b3 := B12.at_ 3 rfl; have b4 := B12.at_ 4 rfl
            go_wp2_with fail
            refine Calls.mono (Check_calls 3 n0 0 n1 n2 _) ?_
            rintro e w13 ⟨rfl, b⟩
            rw [show checkE ⟨3, n0, 0, n1, n2⟩ = q from HQ.out.symm]
            replace BZ := BZ.onto b; replace ow := ow.to b; replace B12 := B12.onto b
            clear b b0 b1 b2 b3 b4
            by_cases hq0 : q = 0
            · have hr := HRQ.out
              rw [if_neg (by simp [hq0])] at hr
              subst hr
              have hq1 : (q == 0) = true := by simp [hq0]
              have hq2 : (q != 0) = false := by simp [hq0]
              have b0 := B12.at_ 0 rfl; have b1 := B12.at_ 1 rfl; have b2 := B12.at_ 2 rfl; have b3 := B12.at_ 3 rfl; have b4 := B12.at_ 4 rfl
              clear hq0 HRQ
              go_wp2_with (refine wpList_put BZ [.int .i64 3, .int .i64 n0, .int .i64 0, .int .i64 n1, .int .i64 n2] 27 _ _ (by rfl) (by rfl) (by rfl) (by rfl) (by rfl) sizeE (by rfl) ?_)
              have hF := BZ.put (us := [.int .i64 3, .int .i64 n0, .int .i64 0, .int .i64 n1, .int .i64 n2]) rfl
              have oF := Onto.puts (b := z) (o := 0) (us := [.int .i64 3, .int .i64 n0, .int .i64 0, .int .i64 n1, .int .i64 n2]) (by omega) ow
              generalize World.setCells _ z 0 [.int .i64 3, .int .i64 n0, .int .i64 0, .int .i64 n1, .int .i64 n2] = wF at hF oF ⊢
              go_wp2_with fail
              have p0 := hF.at_ 0 rfl; have p1 := hF.at_ 1 rfl; have p2 := hF.at_ 2 rfl; have p3 := hF.at_ 3 rfl; have p4 := hF.at_ 4 rfl
              refine bodyPost_ret (v := .tuple #[.agg #[.int .i64 3, .int .i64 n0, .int .i64 0, .int .i64 n1, .int .i64 n2], .int .i64 0]) (by simp [results, Tryz.results137, go_sem, p0, p1, p2, p3, p4]) rfl ⟨rfl, oF⟩
            · have hr := HRQ.out
              rw [if_pos hq0] at hr
              subst hr
              have hq1 : (q == 0) = false := by simp [hq0]
              have hq2 : (q != 0) = true := by simp [hq0]
              clear hq0 B12 HRQ
              go_wp2_with (refine wpList_put BZ [.int .i64 0, .int .i64 0, .int .i64 0, .int .i64 0, .int .i64 0] 27 _ _ (by rfl) (by rfl) (by rfl) (by rfl) (by rfl) sizeE (by rfl) ?_)
              have hF := BZ.put (us := [.int .i64 0, .int .i64 0, .int .i64 0, .int .i64 0, .int .i64 0]) rfl
              have oF := Onto.puts (b := z) (o := 0) (us := [.int .i64 0, .int .i64 0, .int .i64 0, .int .i64 0, .int .i64 0]) (by omega) ow
              generalize World.setCells _ z 0 [.int .i64 0, .int .i64 0, .int .i64 0, .int .i64 0, .int .i64 0] = wF at hF oF ⊢
              go_wp2_with fail
              have p0 := hF.at_ 0 rfl; have p1 := hF.at_ 1 rfl; have p2 := hF.at_ 2 rfl; have p3 := hF.at_ 3 rfl; have p4 := hF.at_ 4 rfl
              refine bodyPost_ret (v := .tuple #[.agg #[.int .i64 0, .int .i64 0, .int .i64 0, .int .i64 0, .int .i64 0], .int .i64 q]) (by simp [results, Tryz.results137, go_sem, p0, p1, p2, p3, p4]) rfl ⟨rfl, oF⟩
         · have hrr : entE k l = ⟨k, n0, 0, 0, 0⟩ := by unfold entE; rw [if_neg hk1, if_neg hk1, if_neg hk3, if_neg hk3, HN0.out]
           have HRR := Lib.hid hrr
           have hd1 : (k == 1) = false := by simp [hk1]
           have hd3 : (k == 3) = false := by simp [hk3]
           clear hrr hk4 hk1 hk3 BZr owr BR
           have hr : r = if checkE ⟨k, n0, 0, 0, 0⟩ ≠ 0 then (zeroE, checkE ⟨k, n0, 0, 0, 0⟩) else (⟨k, n0, 0, 0, 0⟩, 0) := by
            rw [HR.out]; unfold readWs; rw [List.headD_cons, HK.out]; dsimp only; rw [List.tail_cons, if_neg (by simp), HL.out]
            dsimp only
            rw [HRR.out]
           obtain ⟨q, hqq⟩ : ∃ q, q = checkE ⟨k, n0, 0, 0, 0⟩ := ⟨_, rfl⟩
           rw [← hqq] at hr
           have HQ := Lib.hid hqq; have HRQ := Lib.hid hr
           clear hqq hr
           have b0 := B12.at_ 0 rfl; have b1 := B12.at_ 1 rfl; have b2 := B12.at_ 2 rfl; have b3 := B12.at_ 3 rfl; have b4 := B12.at_ 4 rfl
           go_wp2_with fail
           refine Calls.mono (Check_calls k n0 0 0 0 _) ?_
           rintro e w13 ⟨rfl, b⟩
           rw [show checkE ⟨k, n0, 0, 0, 0⟩ = q from HQ.out.symm]
           replace BZ := BZ.onto b; replace ow := ow.to b; replace B12 := B12.onto b
           clear b b0 b1 b2 b3 b4
           by_cases hq0 : q = 0
           · have hr := HRQ.out
             rw [if_neg (by simp [hq0])] at hr
             subst hr
             have hq1 : (q == 0) = true := by simp [hq0]
             have hq2 : (q != 0) = false := by simp [hq0]
             have b0 := B12.at_ 0 rfl; have b1 := B12.at_ 1 rfl; have b2 := B12.at_ 2 rfl; have b3 := B12.at_ 3 rfl; have b4 := B12.at_ 4 rfl
             clear hq0 HRQ
             go_wp2_with (refine wpList_put BZ [.int .i64 k, .int .i64 n0, .int .i64 0, .int .i64 0, .int .i64 0] 27 _ _ (by rfl) (by rfl) (by rfl) (by rfl) (by rfl) sizeE (by rfl) ?_)
             have hF := BZ.put (us := [.int .i64 k, .int .i64 n0, .int .i64 0, .int .i64 0, .int .i64 0]) rfl
             have oF := Onto.puts (b := z) (o := 0) (us := [.int .i64 k, .int .i64 n0, .int .i64 0, .int .i64 0, .int .i64 0]) (by omega) ow
             generalize World.setCells _ z 0 [.int .i64 k, .int .i64 n0, .int .i64 0, .int .i64 0, .int .i64 0] = wF at hF oF ⊢
             go_wp2_with fail
             have p0 := hF.at_ 0 rfl; have p1 := hF.at_ 1 rfl; have p2 := hF.at_ 2 rfl; have p3 := hF.at_ 3 rfl; have p4 := hF.at_ 4 rfl
             refine bodyPost_ret (v := .tuple #[.agg #[.int .i64 k, .int .i64 n0, .int .i64 0, .int .i64 0, .int .i64 0], .int .i64 0]) (by simp [results, Tryz.results137, go_sem, p0, p1, p2, p3, p4]) rfl ⟨rfl, oF⟩
           · have hr := HRQ.out
             rw [if_pos hq0] at hr
             subst hr
             have hq1 : (q == 0) = false := by simp [hq0]
             have hq2 : (q != 0) = true := by simp [hq0]
             clear hq0 B12 HRQ
             go_wp2_with (refine wpList_put BZ [.int .i64 0, .int .i64 0, .int .i64 0, .int .i64 0, .int .i64 0] 27 _ _ (by rfl) (by rfl) (by rfl) (by rfl) (by rfl) sizeE (by rfl) ?_)
             have hF := BZ.put (us := [.int .i64 0, .int .i64 0, .int .i64 0, .int .i64 0, .int .i64 0]) rfl
             have oF := Onto.puts (b := z) (o := 0) (us := [.int .i64 0, .int .i64 0, .int .i64 0, .int .i64 0, .int .i64 0]) (by omega) ow
             generalize World.setCells _ z 0 [.int .i64 0, .int .i64 0, .int .i64 0, .int .i64 0, .int .i64 0] = wF at hF oF ⊢
             go_wp2_with fail
             have p0 := hF.at_ 0 rfl; have p1 := hF.at_ 1 rfl; have p2 := hF.at_ 2 rfl; have p3 := hF.at_ 3 rfl; have p4 := hF.at_ 4 rfl
             refine bodyPost_ret (v := .tuple #[.agg #[.int .i64 0, .int .i64 0, .int .i64 0, .int .i64 0, .int .i64 0], .int .i64 q]) (by simp [results, Tryz.results137, go_sem, p0, p1, p2, p3, p4]) rfl ⟨rfl, oF⟩
  · have hq : ((ts.length : Int) + 1 != (m : Int) + 1) = true := by simp; omega
    have hr : r = (zeroE, 1) := by rw [HR.out]; unfold readWs; rw [List.headD_cons, HK.out]; dsimp only; rw [List.tail_cons, if_pos hlen]
    subst hr
    go_wp2_with (refine wpList_put Bz [.int .i64 0, .int .i64 0, .int .i64 0, .int .i64 0, .int .i64 0] 27 _ _ (by rfl) (by rfl) (by rfl) (by rfl) (by rfl) sizeE (by rfl) ?_)
    have hF := Bz.put (us := [.int .i64 0, .int .i64 0, .int .i64 0, .int .i64 0, .int .i64 0]) rfl
    have oF := Onto.puts (b := z) (o := 0) (us := [.int .i64 0, .int .i64 0, .int .i64 0, .int .i64 0, .int .i64 0]) (by omega) on
    generalize World.setCells _ z 0 [.int .i64 0, .int .i64 0, .int .i64 0, .int .i64 0, .int .i64 0] = wF at hF oF ⊢
    go_wp2_with fail
    have p0 := hF.at_ 0 rfl; have p1 := hF.at_ 1 rfl; have p2 := hF.at_ 2 rfl; have p3 := hF.at_ 3 rfl; have p4 := hF.at_ 4 rfl
    refine bodyPost_ret (v := .tuple #[.agg #[.int .i64 0, .int .i64 0, .int .i64 0, .int .i64 0, .int .i64 0], .int .i64 1]) (by simp [results, Tryz.results137, go_sem, p0, p1, p2, p3, p4]) rfl ⟨rfl, oF⟩
theorem EParse_calls (s : List UInt8) (w : World) (E : Env w) (hm : s.length ≤ 9223372036854775807) :
    Calls Tryz.prog 137 #[str s] w (EnPost w (parseE s)) := by
 unfold parseE
 by_cases h : 30000 < s.length
 · rw [if_pos h]; exact EParse_long s w h hm
 · rw [if_neg h]; exact EParse_short s w E (by omega)
end
section
set_option linter.unusedSimpArgs false
set_option linter.unusedVariables false
open Go.RowKit
theorem encE_one (l : List Entry) : ∀ r ∈ l.map encE, ∀ u ∈ r, u.oneCell' = true := by
 intro r hr u hu
 obtain ⟨x, _, rfl⟩ := List.mem_map.1 hr
 simp [encE] at hu
 rcases hu with rfl | rfl | rfl | rfl | rfl <;> rfl
set_option maxHeartbeats 4000000 in
theorem NCheck_calls (k a ep : Int) (x : Entry) (w : World) :
    Calls Tryz.prog 129 #[.agg #[.int .i64 k, .int .i64 a, .int .i64 ep, .int .i64 x.kind, .int .i64 x.job, .int .i64 x.every, .int .i64 x.time, .int .i64 x.client]] w fun e w' => e = .returned (.int .i64 (checkR ⟨k, a, ep, x⟩)) ∧ Onto w w' := by
 obtain ⟨r, hr⟩ : ∃ r, r = checkR ⟨k, a, ep, x⟩ := ⟨_, rfl⟩
 rw [← hr]
 unfold checkR at hr
 simp only [ne_eq, entry_eq_iff, zeroE] at hr
 go_enter Tryz.func129, Tryz.ntmps129
 have hne := neqE
 have HR := Lib.hid hr
 clear hr
 go_wp2_with (go_at_call 65; refine Calls.mono (Check_calls x.kind x.job x.every x.time x.client _) ?_; rintro e w2 ⟨rfl, hb2⟩)
 all_goals
  go_ret
  refine ⟨ret_int ?_, ?_⟩
  · rw [HR.out]
    clear HR hne
    (try simp only [beq_iff_eq, beq_eq_false_iff_ne, bne_iff_ne, bne_eq_false_iff_eq, ne_eq, Bool.and_eq_true, Bool.and_eq_false_iff, Bool.not_eq_true', Bool.not_eq_false', Bool.or_eq_true, Bool.or_eq_false_iff, decide_eq_true_eq, decide_eq_false_iff_not] at *)
    (repeat' split) <;> first | rfl | omega
  · repeat (first | exact Below.refl _ _ | exact Onto.to (by repeat (first | exact Below.refl _ _ | refine Below.alloc ?_ (by simp <;> omega) _)) hb2 | refine below_drewN ?_ _ | refine Below.alloc ?_ (by simp <;> omega) _)
set_option maxHeartbeats 4000000 in
set_option maxRecDepth 100000 in
theorem UCheck_calls (ep : Int) (A : Option Addr) (n c : Nat) (cs : List Entry) (w : World) (h : S w 5 A n (cs.map encE)) :
    Calls Tryz.prog 128 #[.agg #[.int .i64 ep, .slice A n c]] w fun e w' => e = .returned (.int .i64 (checkU ep cs)) ∧ Onto w w' := by
 have hl : cs.length = n := by have := h.len; simpa using this
 obtain ⟨r, hr⟩ : ∃ r, r = checkU ep cs := ⟨_, rfl⟩
 rw [← hr]
 unfold checkU at hr
 by_cases h1 : ep < 1 ∨ 20 < ep
 · rw [if_pos h1] at hr
   subst hr
   clear h hl
   by_cases h2 : ep < 1
   all_goals
    go_enter Tryz.func128, Tryz.ntmps128
    go_wp2_with fail
    any_goals
     go_ret
     exact ⟨rfl, by first | exact (Below.refl _ _).alloc (Nat.le_refl _) _ | exact Onto.draws ((Below.refl _ _).alloc (Nat.le_refl _) _) _⟩
   all_goals (exfalso; omega)
 · rw [if_neg h1] at hr
   by_cases h60 : n = 60
   · rw [if_neg (by omega)] at hr
     have hd1 : decide (ep < 1) = false := by simp; omega
     have hd2 : decide (20 < ep) = false := by simp; omega
     have hn1 : ¬ ep < 1 := by omega
     have hn2 : ¬ 20 < ep := by omega
     have HR := Lib.hid hr; have HL := Lib.hid hl
     subst h60
     clear hr h1 hl
     go_enter Tryz.func128, Tryz.ntmps128
     have heq := eqlE
     go_wp2_with fail
     go_loopw [21] (fun s wr => ∃ k : Nat, k ≤ 60 ∧ s = .int .i64 k ∧ Onto w wr ∧ Hid (checkCs cs = checkCs (cs.drop k))) (fun s _ => 60 - (intOf s).toNat)
     case atStart => exact ⟨0, by omega, rfl, (Below.refl _ _).alloc (Nat.le_refl _) _, by simp [Hid]⟩
     case round =>
      obtain ⟨k, hk, rfl, hbr, HK⟩ := hrel
      by_cases hlt : k < 60
      · obtain ⟨b, off, x, rfl, hb, hx, c0, c1, c2, c3, c4⟩ := (h.onto hbr).atE hlt
        have HC := Lib.hid (checkCs_at hx)
        have hal : Onto wr (wr.alloc (Obj.cells #[.int .i64 x.kind, .int .i64 x.job, .int .i64 x.every, .int .i64 x.time, .int .i64 x.client] 27)) := (Below.refl _ _).alloc (Nat.le_refl _) _
        clear hx
        by_cases hbl : x = blank
        · have hcs := HC.out
          rw [if_pos hbl] at hcs
          have HCS := Lib.hid hcs
          clear hcs HC
          have hd : (x.kind == 4 && x.job == 0 && x.every == 0 && x.time == 0 && x.client == 0) = true := by subst hbl; rfl
          clear hbl
          go_wp2_with fail
          go_roundw
          case measure => simp [intOf] <;> omega
          case rel => exact ⟨k + 1, by omega, by go_num, Onto.to hbr hal, by show _ = _; rw [HK.out, HCS.out]⟩
        · have hcs := HC.out
          rw [if_neg hbl] at hcs
          have HCS := Lib.hid hcs
          have hd : (x.kind == 4 && x.job == 0 && x.every == 0 && x.time == 0 && x.client == 0) = false := by
           refine Bool.eq_false_iff.2 fun h => hbl ?_
           simp at h
           rw [entry_eq_iff]
           simp [blank]
           omega
          clear hbl hcs HC
          go_wp2_with fail
          refine Calls.mono (Check_calls x.kind x.job x.every x.time x.client _) ?_
          rintro e w2 ⟨rfl, hb2⟩
          obtain ⟨q, hq⟩ : ∃ q, q = checkE ⟨x.kind, x.job, x.every, x.time, x.client⟩ := ⟨_, rfl⟩
          have hq' : checkE x = q := hq.symm
          rw [← hq]
          have hcs := HCS.out
          rw [hq'] at hcs
          have HCS' := Lib.hid hcs
          clear hcs HCS hq hq'
          have h2 := (Onto.to hbr hal).to hb2
          by_cases hq0 : q = 0
          · subst hq0
            go_wp2_with fail
            go_roundw
            case measure => simp [intOf] <;> omega
            case rel => exact ⟨k + 1, by omega, by go_num, h2, by show _ = _; rw [HK.out, HCS'.out]; rfl⟩
          · have hq1 : (q != 0) = true := by simpa using hq0
            go_wp2_with fail
            go_ret
            exact ⟨ret_int (by rw [HR.out, HK.out, HCS'.out, if_pos hq0]), h2⟩
      · obtain rfl : k = 60 := by omega
        have hfin : (0 : Int) = r := by rw [HR.out, HK.out, List.drop_eq_nil_of_le (by have := HL.out; omega)]; rfl
        have HF := Lib.hid hfin
        clear hfin
        go_wp2_with fail
        go_ret
        exact ⟨ret_int HF.out, hbr⟩
   · have hd1 : decide (ep < 1) = false := by simp; omega
     have hd2 : decide (20 < ep) = false := by simp; omega
     have hn1 : ¬ ep < 1 := by omega
     have hn2 : ¬ 20 < ep := by omega
     have hnn : ((n : Int) != 60) = true := by simp; omega
     have hnn' : ¬ ((n : Int) = 60) := by omega
     rw [if_pos (by omega)] at hr
     subst hr
     clear h h1 hl h60
     go_enter Tryz.func128, Tryz.ntmps128
     go_wp2_with fail
     go_ret
     exact ⟨rfl, by first | exact (Below.refl _ _).alloc (Nat.le_refl _) _ | exact Onto.draws ((Below.refl _ _).alloc (Nat.le_refl _) _) _⟩
end
section
set_option linter.unusedSimpArgs false
set_option linter.unusedVariables false
open Go.RowKit
theorem sizeR : (Tryz.prog.info? 160).map (·.size) = some 8 := by kernel_rfl
def RnPost (w : World) (r : Rec × Int) (e : Ending) (w' : World) : Prop := e = .returned (.tuple #[.agg #[.int .i64 r.1.kind, .int .i64 r.1.at_, .int .i64 r.1.epoch, .int .i64 r.1.e.kind, .int .i64 r.1.e.job, .int .i64 r.1.e.every, .int .i64 r.1.e.time, .int .i64 r.1.e.client], .int .i64 r.2]) ∧ Onto w w'
set_option maxHeartbeats 4000000 in
theorem Number_calls (s : List UInt8) (hs : s.length ≤ 281474976710656) (w : World) (E : Env w) :
    Calls Tryz.prog 136 #[str s] w fun e w' => ∃ n : Int, e = .returned (.tuple #[.int .i64 n, .bool (num s).isSome]) ∧ Onto w w' ∧ ((num s).isSome = true → num s = some n) := by
 go_enter Tryz.func136, Tryz.ntmps136
 go_wp2_with fail
 refine Calls.mono (Atoi_calls s hs _ E) ?_
 rintro e w8 ⟨v, er, rfl, on, hres⟩
 rcases hres with ⟨rfl, hok, hv0, hv1⟩ | ⟨⟨et, ep, rfl⟩, hno⟩
 · have hnum : num s = if Lib.itoa v = s then some v else none := by unfold num; rw [hok]
   have HNUM := Lib.hid hnum
   clear hok hnum
   go_wp2_with (go_at_call 139; refine (Itoa_calls v hv0 hv1 _ (E.onto on)).mono ?_; rintro e w9 ⟨rfl, b9⟩; refine Hid.out ?_)
   refine Lib.hid ?_
   replace on := on.to b9
   clear b9
   by_cases hbt : Lib.itoa v = s
   · have hq1 : (Lib.itoa v == s) = true := by simp [hbt]
     have hn : num s = some v := by rw [HNUM.out, if_pos hbt]
     clear hbt
     have HN := Lib.hid hn
     clear hn
     go_wp2_with fail
     refine bodyPost_ret (v := .tuple #[.int .i64 v, .bool true]) (by simp [results, Tryz.results136, go_sem]) rfl ⟨v, by rw [HN.out]; rfl, on, fun _ => HN.out⟩
   · have hq1 : (Lib.itoa v == s) = false := by simp [hbt]
     have hn : num s = none := by rw [HNUM.out, if_neg hbt]
     clear hbt
     have HN := Lib.hid hn
     clear hn
     go_wp2_with fail
     refine bodyPost_ret (v := .tuple #[.int .i64 v, .bool false]) (by simp [results, Tryz.results136, go_sem]) rfl ⟨v, by rw [HN.out]; rfl, on, fun h => by rw [HN.out] at h; cases h⟩
 · have hn : num s = none := by
    rcases num_case s with ⟨v, h1, _⟩ | ⟨_, h2⟩
    · exact absurd h1 (hno v)
    · exact h2
   have HN := Lib.hid hn
   clear hn hno
   go_wp2_with fail
   refine bodyPost_ret (v := .tuple #[.int .i64 v, .bool false]) (by simp [results, Tryz.results136, go_sem]) rfl ⟨v, by rw [HN.out]; rfl, on, fun h => by rw [HN.out] at h; cases h⟩
set_option maxHeartbeats 4000000 in
theorem NPrint_calls (k a ep : Int) (x : Entry) (w : World) (E : Env w) :
    Calls Tryz.prog 133 #[.agg #[.int .i64 k, .int .i64 a, .int .i64 ep, .int .i64 x.kind, .int .i64 x.job, .int .i64 x.every, .int .i64 x.time, .int .i64 x.client]] w fun e w' => e = .returned (.tuple #[str (printR ⟨k, a, ep, x⟩).1, .int .i64 (printR ⟨k, a, ep, x⟩).2]) ∧ Onto w w' := by
 obtain ⟨q, hq⟩ : ∃ q, q = checkR ⟨k, a, ep, x⟩ := ⟨_, rfl⟩
 obtain ⟨r, hr⟩ : ∃ r, r = printR ⟨k, a, ep, x⟩ := ⟨_, rfl⟩
 rw [← hr]
 unfold printR at hr
 rw [← hq] at hr
 have HQ := Lib.hid hq
 have HR := Lib.hid hr
 clear hq hr
 go_enter Tryz.func133, Tryz.ntmps133
 go_wp2_with fail
 refine Calls.mono (NCheck_calls k a ep x _) ?_
 rintro e w1 ⟨rfl, b⟩
 rw [show checkR ⟨k, a, ep, x⟩ = q from HQ.out.symm]
 have on : Onto w w1 := Onto.to ((Onto.rfl' w).new _) b
 have B : Bx w1 w.heap.size [.int .i64 k, .int .i64 a, .int .i64 ep, .int .i64 x.kind, .int .i64 x.job, .int .i64 x.every, .int .i64 x.time, .int .i64 x.client] := (Bx.made w #[.int .i64 k, .int .i64 a, .int .i64 ep, .int .i64 x.kind, .int .i64 x.job, .int .i64 x.every, .int .i64 x.time, .int .i64 x.client] 160).onto b
 have E1 := E.onto on
 clear b
 generalize w.heap.size = z at *
 by_cases hq0 : q = 0
 · have hr := HR.out
   rw [if_neg (by simp [hq0])] at hr
   subst hr
   have hc : checkR ⟨k, a, ep, x⟩ = 0 := by rw [← HQ.out, hq0]
   have HC := Lib.hid hc
   subst hq0
   clear hc HQ
   have b0 := B.at_ 0 rfl; have b1 := B.at_ 1 rfl; have b2 := B.at_ 2 rfl; have b3 := B.at_ 3 rfl; have b4 := B.at_ 4 rfl; have b5 := B.at_ 5 rfl; have b6 := B.at_ 6 rfl; have b7 := B.at_ 7 rfl
   by_cases hk : k = 2
   · subst hk
     obtain ⟨h1, h2, _⟩ := cR_seal HC.out rfl
     try dsimp only at h1 h2
     have hl := Lib.itoa_length_le ep (by omega) (by omega)
     have s1 : ∀ w, (Op.stringOp .add ⟨#[115, 101, 97, 108, 32]⟩ ⟨(Lib.itoa ep).toArray⟩).run Tryz.prog w = .ok (str (sealW ++ Lib.itoa ep)) w := fun w => run_string_add_lists w [115, 101, 97, 108, 32] (Lib.itoa ep) (by simp) (by omega)
     go_wp2_with (go_at_call 139; refine (Itoa_calls ep (by omega) (by omega) _ E1).mono ?_; rintro e w9 ⟨rfl, b9⟩; refine Hid.out ?_)
     refine Lib.hid ?_
     replace on := on.to b9
     clear b9 hl
     go_wp2_with fail
     refine bodyPost_ret (v := .tuple #[str (sealW ++ Lib.itoa ep), .int .i64 0]) (by simp [results, Tryz.results133, go_sem]) rfl ⟨?_, on⟩
     try dsimp only
     unfold textR
     rw [if_pos rfl]
   · have hkb : (k == 2) = false := by simp [hk]
     obtain ⟨h0, h1, h2, h3, h4⟩ := cR_write HC.out hk
     try dsimp only at h0 h1 h2 h3 h4
     have hpr : printE x = (textE x, 0) := by unfold printE; rw [if_neg (by simp [h4])]
     have htl := textE_len h4
     have HPR := Lib.hid hpr
     subst h0
     have htx : textR ⟨1, a, ep, x⟩ = Lib.itoa a ++ colonW ++ textE x := by unfold textR; exact if_neg (by simp)
     have HTX := Lib.hid htx
     clear hpr h4 h3 hk htx
     go_wp2_with fail
     refine Calls.mono (EPrint_calls x _ E1) ?_
     rw [HPR.out]
     rintro e w2 ⟨rfl, b⟩
     replace on := on.to b; replace E1 := E1.onto b; replace B := B.onto b
     clear b b0 b1 b2 b3 b4 b5 b6 b7
     have b1 := B.at_ 1 rfl
     try dsimp only
     have hl := Lib.itoa_length_le a (by omega) (by omega)
     have s1 : ∀ w, (Op.stringOp .add ⟨(Lib.itoa a).toArray⟩ ⟨#[58, 32]⟩).run Tryz.prog w = .ok (str (Lib.itoa a ++ [58, 32])) w := fun w => run_string_add_lists w (Lib.itoa a) [58, 32] (by omega) (by simp)
     have s2 : ∀ w, (Op.stringOp .add ⟨(Lib.itoa a ++ [58, 32]).toArray⟩ ⟨(textE x).toArray⟩).run Tryz.prog w = .ok (str (Lib.itoa a ++ [58, 32] ++ textE x)) w := fun w => run_string_add_lists w _ _ (by rw [List.length_append]; simp; omega) (by omega)
     have s3 : ∀ w, (Op.stringOp .add ⟨(Lib.itoa a).toArray⟩ ⟨#[58, 32]⟩).run Tryz.prog w = .ok (.string ⟨(Lib.itoa a ++ [58, 32]).toArray⟩) w := s1
     obtain ⟨I, hI⟩ : ∃ I, I = Lib.itoa a := ⟨_, rfl⟩
     obtain ⟨J, hJ⟩ : ∃ J, J = Lib.itoa a ++ [58, 32] := ⟨_, rfl⟩
     obtain ⟨T, hT⟩ : ∃ T, T = Lib.itoa a ++ [58, 32] ++ textE x := ⟨_, rfl⟩
     rw [← hT] at s2
     rw [← hJ] at s1 s2
     rw [← hI] at s1
     have HI := Lib.hid hI; have HT := Lib.hid hT
     clear hI hJ hT s3 htl hl
     go_wp2_with (go_at_call 139; refine (Itoa_calls a (by omega) (by omega) _ E1).mono ?_; rw [show Lib.itoa a = I from HI.out.symm]; rintro e w9 ⟨rfl, b9⟩; refine Hid.out ?_)
     refine Lib.hid ?_
     replace on := on.to b9
     clear b9
     go_wp2_with fail
     refine bodyPost_ret (v := .tuple #[str T, .int .i64 0]) (by simp [results, Tryz.results133, go_sem]) rfl ⟨?_, on⟩
     rw [HTX.out, HT.out]
     rfl
 · have hr := HR.out
   rw [if_pos hq0] at hr
   subst hr
   have hq1 : (q == 0) = false := by simp [hq0]
   have hq2 : (q != 0) = true := by simp [hq0]
   clear hq0
   go_wp2_with fail
   refine bodyPost_ret (v := .tuple #[str [], .int .i64 q]) (by simp [results, Tryz.results133, go_sem]) rfl ⟨rfl, on⟩
theorem cut_len (s sep : List UInt8) : (Lib.cut s sep).1.length ≤ s.length ∧ (Lib.cut s sep).2.1.length ≤ s.length := by
 unfold Lib.cut
 split
 · exact ⟨by simp; omega, by simp⟩
 · simp
set_option maxRecDepth 100000 in
set_option maxHeartbeats 4000000 in
theorem NParse_short (s : List UInt8) (w : World) (E : Env w) (hs : s.length ≤ 30000) :
    Calls Tryz.prog 126 #[str s] w (RnPost w (readR s)) := by
 have HS := Lib.hid hs
 have hd2 : decide ((30000 : Int) < (s.length : Int)) = false := by simp; omega
 obtain ⟨r, hr⟩ : ∃ r, r = readR s := ⟨_, rfl⟩
 rw [← hr]
 have HR := Lib.hid hr
 clear hs hr
 go_enter Tryz.func126, Tryz.ntmps126
 go_upto_region 4 with fail
 have Bz : Bx ((w.alloc (Obj.cells #[.int .i64 0, .int .i64 0, .int .i64 0, .int .i64 0, .int .i64 0, .int .i64 0, .int .i64 0, .int .i64 0] 160)).alloc (Obj.cells #[.int .i64 0, .int .i64 0, .int .i64 0, .int .i64 0, .int .i64 0, .int .i64 0, .int .i64 0, .int .i64 0] 160)) w.heap.size [.int .i64 0, .int .i64 0, .int .i64 0, .int .i64 0, .int .i64 0, .int .i64 0, .int .i64 0, .int .i64 0] := (Bx.made w _ _).new _
 have B4 : Bx ((w.alloc (Obj.cells #[.int .i64 0, .int .i64 0, .int .i64 0, .int .i64 0, .int .i64 0, .int .i64 0, .int .i64 0, .int .i64 0] 160)).alloc (Obj.cells #[.int .i64 0, .int .i64 0, .int .i64 0, .int .i64 0, .int .i64 0, .int .i64 0, .int .i64 0, .int .i64 0] 160)) (w.heap.size + 1) [.int .i64 0, .int .i64 0, .int .i64 0, .int .i64 0, .int .i64 0, .int .i64 0, .int .i64 0, .int .i64 0] := by
  have := Bx.made (w.alloc (Obj.cells #[.int .i64 0, .int .i64 0, .int .i64 0, .int .i64 0, .int .i64 0, .int .i64 0, .int .i64 0, .int .i64 0] 160)) #[.int .i64 0, .int .i64 0, .int .i64 0, .int .i64 0, .int .i64 0, .int .i64 0, .int .i64 0, .int .i64 0] 160
  simpa using this
 have on : Onto w ((w.alloc (Obj.cells #[.int .i64 0, .int .i64 0, .int .i64 0, .int .i64 0, .int .i64 0, .int .i64 0, .int .i64 0, .int .i64 0] 160)).alloc (Obj.cells #[.int .i64 0, .int .i64 0, .int .i64 0, .int .i64 0, .int .i64 0, .int .i64 0, .int .i64 0, .int .i64 0] 160)) := ((Onto.rfl' w).new _).new _
 generalize ((w.alloc (Obj.cells #[.int .i64 0, .int .i64 0, .int .i64 0, .int .i64 0, .int .i64 0, .int .i64 0, .int .i64 0, .int .i64 0] 160)).alloc (Obj.cells #[.int .i64 0, .int .i64 0, .int .i64 0, .int .i64 0, .int .i64 0, .int .i64 0, .int .i64 0, .int .i64 0] 160)) = w1 at *
 obtain ⟨z4, hz4⟩ : ∃ z4, z4 = w.heap.size + 1 := ⟨_, rfl⟩
 obtain ⟨z, hz⟩ : ∃ z, z = w.heap.size := ⟨_, rfl⟩
 rw [← hz4] at B4 ⊢
 rw [← hz] at Bz ⊢
 have hzz : z ≠ z4 := by omega
 have hz4' : w.heap.size ≤ z4 := by omega
 have hz' : w.heap.size ≤ z := by omega
 clear hz4 hz
 have E1 := E.onto on
 obtain ⟨t, ht⟩ : ∃ t, t = (if sealW.isPrefixOf s then s.drop sealW.length else s) := ⟨_, rfl⟩
 go_wp2_with fail
 refine Calls.mono (CutPrefix_calls s [115, 101, 97, 108, 32] _) ?_
 rw [show (if ([115, 101, 97, 108, 32] : List UInt8).isPrefixOf s then s.drop ([115, 101, 97, 108, 32] : List UInt8).length else s) = t from ht.symm]
 rintro e w2 ⟨rfl, b⟩
 replace Bz := Bz.onto b; replace on := on.to b; replace B4 := B4.onto b; replace E1 := E1.onto b
 clear b
 by_cases hp : sealW.isPrefixOf s = true
 · have hpb : (([115, 101, 97, 108, 32] : List UInt8).isPrefixOf s) = true := hp
   rw [if_pos hp] at ht
   have htl : t.length ≤ 30000 := by rw [ht]; have := HS.out; simp; omega
   have HP := Lib.hid hp; have HT := Lib.hid ht
   clear hp ht
   rw [hpb]
   clear hpb
   go_wp2_with fail
   refine Calls.mono (Number_calls t (by omega) _ E1) ?_
   rintro e w3 ⟨n, rfl, b, hn⟩
   replace Bz := Bz.onto b; replace on := on.to b; replace B4 := B4.onto b; replace E1 := E1.onto b
   clear b
   cases hnt : num t with
   | none =>
     rw [show (none : Option Int).isSome = false from rfl]
     clear hn
     have hr : r = (zeroR, 1) := by rw [HR.out]; unfold readR; rw [if_pos HP.out, show s.drop 5 = t from HT.out.symm, hnt]
     subst hr
     go_wp2_with (refine wpList_put Bz [.int .i64 0, .int .i64 0, .int .i64 0, .int .i64 0, .int .i64 0, .int .i64 0, .int .i64 0, .int .i64 0] 160 _ _ (by rfl) (by rfl) (by rfl) (by rfl) (by rfl) sizeR (by rfl) ?_)
     have hF := Bz.put (us := [.int .i64 0, .int .i64 0, .int .i64 0, .int .i64 0, .int .i64 0, .int .i64 0, .int .i64 0, .int .i64 0]) rfl
     have oF := Onto.puts (b := z) (o := 0) (us := [.int .i64 0, .int .i64 0, .int .i64 0, .int .i64 0, .int .i64 0, .int .i64 0, .int .i64 0, .int .i64 0]) hz' on
     generalize World.setCells _ z 0 [.int .i64 0, .int .i64 0, .int .i64 0, .int .i64 0, .int .i64 0, .int .i64 0, .int .i64 0, .int .i64 0] = wF at hF oF ⊢
     go_wp2_with fail
     have p0 := hF.at_ 0 rfl; have p1 := hF.at_ 1 rfl; have p2 := hF.at_ 2 rfl; have p3 := hF.at_ 3 rfl; have p4 := hF.at_ 4 rfl; have p5 := hF.at_ 5 rfl; have p6 := hF.at_ 6 rfl; have p7 := hF.at_ 7 rfl
     refine bodyPost_ret (v := .tuple #[.agg #[.int .i64 0, .int .i64 0, .int .i64 0, .int .i64 0, .int .i64 0, .int .i64 0, .int .i64 0, .int .i64 0], .int .i64 1]) (by simp [results, Tryz.results126, go_sem, p0, p1, p2, p3, p4, p5, p6, p7]) rfl ⟨rfl, oF⟩
   | some v =>
     rw [hnt] at hn
     have hv : v = n := by have := hn rfl; injection this
     subst hv
     have HN := Lib.hid hnt
     clear hn hnt
     rw [show (some v : Option Int).isSome = true from rfl]
     go_upto_region 18 with (refine wpList_put B4 [.int .i64 2, .int .i64 0, .int .i64 v, .int .i64 0, .int .i64 0, .int .i64 0, .int .i64 0, .int .i64 0] 160 _ _ (by rfl) (by rfl) (by rfl) (by rfl) (by rfl) sizeR (by rfl) ?_)
     have B4' := B4.put (us := [.int .i64 2, .int .i64 0, .int .i64 v, .int .i64 0, .int .i64 0, .int .i64 0, .int .i64 0, .int .i64 0]) rfl
     replace Bz := Bz.off (b := z4) (o := 0) (us := [.int .i64 2, .int .i64 0, .int .i64 v, .int .i64 0, .int .i64 0, .int .i64 0, .int .i64 0, .int .i64 0]) hzz
     replace on := Onto.puts (b := z4) (o := 0) (us := [.int .i64 2, .int .i64 0, .int .i64 v, .int .i64 0, .int .i64 0, .int .i64 0, .int .i64 0, .int .i64 0]) hz4' on
     clear B4
     have B4 := B4'
     clear B4' E1
     generalize World.setCells _ z4 0 [.int .i64 2, .int .i64 0, .int .i64 v, .int .i64 0, .int .i64 0, .int .i64 0, .int .i64 0, .int .i64 0] = w5 at B4 Bz on ⊢
     have hr : r = finR ⟨2, 0, v, ⟨0, 0, 0, 0, 0⟩⟩ := by rw [HR.out]; unfold readR; rw [if_pos HP.out, show s.drop 5 = t from HT.out.symm, HN.out]; rfl
     obtain ⟨q, hqq⟩ : ∃ q, q = checkR ⟨2, 0, v, ⟨0, 0, 0, 0, 0⟩⟩ := ⟨_, rfl⟩
     unfold finR at hr
     rw [← hqq] at hr
     have HQ := Lib.hid hqq; have HRQ := Lib.hid hr
     clear hqq hr
     have b0 := B4.at_ 0 rfl; have b1 := B4.at_ 1 rfl; have b2 := B4.at_ 2 rfl; have b3 := B4.at_ 3 rfl; have b4 := B4.at_ 4 rfl; have b5 := B4.at_ 5 rfl; have b6 := B4.at_ 6 rfl; have b7 := B4.at_ 7 rfl
     go_wp2_with fail
     refine Calls.mono (NCheck_calls 2 0 v ⟨0, 0, 0, 0, 0⟩ _) ?_
     rintro e wk ⟨rfl, b⟩
     rw [show checkR ⟨2, 0, v, ⟨0, 0, 0, 0, 0⟩⟩ = q from HQ.out.symm]
     replace Bz := Bz.onto b; replace on := on.to b; replace B4 := B4.onto b
     clear b b0 b1 b2 b3 b4 b5 b6 b7
     by_cases hq0 : q = 0
     · have hr := HRQ.out
       rw [if_neg (by simp [hq0])] at hr
       subst hr
       have hq1 : (q == 0) = true := by simp [hq0]
       have hq2 : (q != 0) = false := by simp [hq0]
       have b0 := B4.at_ 0 rfl; have b1 := B4.at_ 1 rfl; have b2 := B4.at_ 2 rfl; have b3 := B4.at_ 3 rfl; have b4 := B4.at_ 4 rfl; have b5 := B4.at_ 5 rfl; have b6 := B4.at_ 6 rfl; have b7 := B4.at_ 7 rfl
       clear hq0 HRQ
       go_wp2_with (refine wpList_put Bz [.int .i64 2, .int .i64 0, .int .i64 v, .int .i64 0, .int .i64 0, .int .i64 0, .int .i64 0, .int .i64 0] 160 _ _ (by rfl) (by rfl) (by rfl) (by rfl) (by rfl) sizeR (by rfl) ?_)
       have hF := Bz.put (us := [.int .i64 2, .int .i64 0, .int .i64 v, .int .i64 0, .int .i64 0, .int .i64 0, .int .i64 0, .int .i64 0]) rfl
       have oF := Onto.puts (b := z) (o := 0) (us := [.int .i64 2, .int .i64 0, .int .i64 v, .int .i64 0, .int .i64 0, .int .i64 0, .int .i64 0, .int .i64 0]) hz' on
       generalize World.setCells _ z 0 [.int .i64 2, .int .i64 0, .int .i64 v, .int .i64 0, .int .i64 0, .int .i64 0, .int .i64 0, .int .i64 0] = wF at hF oF ⊢
       go_wp2_with fail
       have p0 := hF.at_ 0 rfl; have p1 := hF.at_ 1 rfl; have p2 := hF.at_ 2 rfl; have p3 := hF.at_ 3 rfl; have p4 := hF.at_ 4 rfl; have p5 := hF.at_ 5 rfl; have p6 := hF.at_ 6 rfl; have p7 := hF.at_ 7 rfl
       refine bodyPost_ret (v := .tuple #[.agg #[.int .i64 2, .int .i64 0, .int .i64 v, .int .i64 0, .int .i64 0, .int .i64 0, .int .i64 0, .int .i64 0], .int .i64 0]) (by simp [results, Tryz.results126, go_sem, p0, p1, p2, p3, p4, p5, p6, p7]) rfl ⟨rfl, oF⟩
     · have hr := HRQ.out
       rw [if_pos hq0] at hr
       subst hr
       have hq1 : (q == 0) = false := by simp [hq0]
       have hq2 : (q != 0) = true := by simp [hq0]
       clear hq0 B4 HRQ
       go_wp2_with (refine wpList_put Bz [.int .i64 0, .int .i64 0, .int .i64 0, .int .i64 0, .int .i64 0, .int .i64 0, .int .i64 0, .int .i64 0] 160 _ _ (by rfl) (by rfl) (by rfl) (by rfl) (by rfl) sizeR (by rfl) ?_)
       have hF := Bz.put (us := [.int .i64 0, .int .i64 0, .int .i64 0, .int .i64 0, .int .i64 0, .int .i64 0, .int .i64 0, .int .i64 0]) rfl
       have oF := Onto.puts (b := z) (o := 0) (us := [.int .i64 0, .int .i64 0, .int .i64 0, .int .i64 0, .int .i64 0, .int .i64 0, .int .i64 0, .int .i64 0]) hz' on
       generalize World.setCells _ z 0 [.int .i64 0, .int .i64 0, .int .i64 0, .int .i64 0, .int .i64 0, .int .i64 0, .int .i64 0, .int .i64 0] = wF at hF oF ⊢
       go_wp2_with fail
       have p0 := hF.at_ 0 rfl; have p1 := hF.at_ 1 rfl; have p2 := hF.at_ 2 rfl; have p3 := hF.at_ 3 rfl; have p4 := hF.at_ 4 rfl; have p5 := hF.at_ 5 rfl; have p6 := hF.at_ 6 rfl; have p7 := hF.at_ 7 rfl
       refine bodyPost_ret (v := .tuple #[.agg #[.int .i64 0, .int .i64 0, .int .i64 0, .int .i64 0, .int .i64 0, .int .i64 0, .int .i64 0, .int .i64 0], .int .i64 q]) (by simp [results, Tryz.results126, go_sem, p0, p1, p2, p3, p4, p5, p6, p7]) rfl ⟨rfl, oF⟩
 · have hpb : (([115, 101, 97, 108, 32] : List UInt8).isPrefixOf s) = false := (Bool.not_eq_true _).mp hp
   rw [if_neg hp] at ht
   subst ht
   have HP := Lib.hid hp
   clear hp
   rw [hpb]
   clear hpb
   obtain ⟨a, ha⟩ : ∃ a, a = (Lib.cut t [58, 32]).1 := ⟨_, rfl⟩
   obtain ⟨c, hc⟩ : ∃ a, a = (Lib.cut t [58, 32]).2.1 := ⟨_, rfl⟩
   obtain ⟨k, hk⟩ : ∃ a, a = (Lib.cut t [58, 32]).2.2 := ⟨_, rfl⟩
   have hal : a.length ≤ 30000 := by rw [ha]; have := (cut_len t [58, 32]).1; have := HS.out; omega
   have hcl : c.length ≤ 30000 := by rw [hc]; have := (cut_len t [58, 32]).2; have := HS.out; omega
   go_wp2_with fail
   refine Calls.mono (Cut_calls t [58, 32] (by have := HS.out; omega) _ E1) ?_
   rw [← ha, ← hc, ← hk]
   have HA := Lib.hid ha; have HCC := Lib.hid hc; have HK := Lib.hid hk
   clear ha hc hk
   rintro e w3 ⟨rfl, b⟩
   replace Bz := Bz.onto b; replace on := on.to b; replace B4 := B4.onto b; replace E1 := E1.onto b
   clear b
   go_wp2_with fail
   refine Calls.mono (Number_calls a (by omega) _ E1) ?_
   rintro e w4 ⟨n, rfl, b, hn⟩
   replace Bz := Bz.onto b; replace on := on.to b; replace B4 := B4.onto b; replace E1 := E1.onto b
   clear b
   cases k with
   | false =>
     clear hn
     have hr : r = (zeroR, 1) := by rw [HR.out]; unfold readR; rw [if_neg HP.out, if_pos (show (Lib.cut t colonW).2.2 = false from HK.out.symm)]
     subst hr
     go_wp2_with (refine wpList_put Bz [.int .i64 0, .int .i64 0, .int .i64 0, .int .i64 0, .int .i64 0, .int .i64 0, .int .i64 0, .int .i64 0] 160 _ _ (by rfl) (by rfl) (by rfl) (by rfl) (by rfl) sizeR (by rfl) ?_)
     have hF := Bz.put (us := [.int .i64 0, .int .i64 0, .int .i64 0, .int .i64 0, .int .i64 0, .int .i64 0, .int .i64 0, .int .i64 0]) rfl
     have oF := Onto.puts (b := z) (o := 0) (us := [.int .i64 0, .int .i64 0, .int .i64 0, .int .i64 0, .int .i64 0, .int .i64 0, .int .i64 0, .int .i64 0]) hz' on
     generalize World.setCells _ z 0 [.int .i64 0, .int .i64 0, .int .i64 0, .int .i64 0, .int .i64 0, .int .i64 0, .int .i64 0, .int .i64 0] = wF at hF oF ⊢
     go_wp2_with fail
     have p0 := hF.at_ 0 rfl; have p1 := hF.at_ 1 rfl; have p2 := hF.at_ 2 rfl; have p3 := hF.at_ 3 rfl; have p4 := hF.at_ 4 rfl; have p5 := hF.at_ 5 rfl; have p6 := hF.at_ 6 rfl; have p7 := hF.at_ 7 rfl
     refine bodyPost_ret (v := .tuple #[.agg #[.int .i64 0, .int .i64 0, .int .i64 0, .int .i64 0, .int .i64 0, .int .i64 0, .int .i64 0, .int .i64 0], .int .i64 1]) (by simp [results, Tryz.results126, go_sem, p0, p1, p2, p3, p4, p5, p6, p7]) rfl ⟨rfl, oF⟩
   | true =>
     have hr0 : r = (match num a with | none => (zeroR, 1) | some n => if (readWs (cutc 32 c)).2 ≠ 0 then (zeroR, (readWs (cutc 32 c)).2) else finR ⟨1, n, 0, (readWs (cutc 32 c)).1⟩) := by
      rw [HR.out]; unfold readR
      rw [if_neg HP.out, if_neg (show ¬ (Lib.cut t colonW).2.2 = false by rw [show (Lib.cut t colonW).2.2 = true from HK.out.symm]; simp), HA.out, HCC.out]
      rfl
     have HR0 := Lib.hid hr0
     clear hr0
     cases hnt : num a with
     | none =>
       rw [show (none : Option Int).isSome = false from rfl]
       clear hn
       have hr : r = (zeroR, 1) := by rw [HR0.out, hnt]
       subst hr
       go_wp2_with (refine wpList_put Bz [.int .i64 0, .int .i64 0, .int .i64 0, .int .i64 0, .int .i64 0, .int .i64 0, .int .i64 0, .int .i64 0] 160 _ _ (by rfl) (by rfl) (by rfl) (by rfl) (by rfl) sizeR (by rfl) ?_)
       have hF := Bz.put (us := [.int .i64 0, .int .i64 0, .int .i64 0, .int .i64 0, .int .i64 0, .int .i64 0, .int .i64 0, .int .i64 0]) rfl
       have oF := Onto.puts (b := z) (o := 0) (us := [.int .i64 0, .int .i64 0, .int .i64 0, .int .i64 0, .int .i64 0, .int .i64 0, .int .i64 0, .int .i64 0]) hz' on
       generalize World.setCells _ z 0 [.int .i64 0, .int .i64 0, .int .i64 0, .int .i64 0, .int .i64 0, .int .i64 0, .int .i64 0, .int .i64 0] = wF at hF oF ⊢
       go_wp2_with fail
       have p0 := hF.at_ 0 rfl; have p1 := hF.at_ 1 rfl; have p2 := hF.at_ 2 rfl; have p3 := hF.at_ 3 rfl; have p4 := hF.at_ 4 rfl; have p5 := hF.at_ 5 rfl; have p6 := hF.at_ 6 rfl; have p7 := hF.at_ 7 rfl
       refine bodyPost_ret (v := .tuple #[.agg #[.int .i64 0, .int .i64 0, .int .i64 0, .int .i64 0, .int .i64 0, .int .i64 0, .int .i64 0, .int .i64 0], .int .i64 1]) (by simp [results, Tryz.results126, go_sem, p0, p1, p2, p3, p4, p5, p6, p7]) rfl ⟨rfl, oF⟩
     | some v =>
       rw [hnt] at hn
       have hv : v = n := by have := hn rfl; injection this
       subst hv
       have HN := Lib.hid hnt
       clear hn hnt
       rw [show (some v : Option Int).isSome = true from rfl]
       have hpc : parseE c = readWs (cutc 32 c) := by unfold parseE; rw [if_neg (by omega)]
       obtain ⟨x, hx⟩ : ∃ x, x = (readWs (cutc 32 c)).1 := ⟨_, rfl⟩
       obtain ⟨g, hg⟩ : ∃ x, x = (readWs (cutc 32 c)).2 := ⟨_, rfl⟩
       go_wp2_with fail
       refine Calls.mono (EParse_calls c _ E1 (by omega)) ?_
       rw [hpc]
       rintro e w5 ⟨rfl, b⟩
       rw [← hx, ← hg]
       have HX := Lib.hid hx; have HG := Lib.hid hg
       replace Bz := Bz.onto b; replace on := on.to b; replace B4 := B4.onto b
       clear b hx hg hpc E1
       go_upto_region 15 with fail
       have ob := (Onto.rfl' w5).new (Obj.cells #[.int .i64 x.kind, .int .i64 x.job, .int .i64 x.every, .int .i64 x.time, .int .i64 x.client] 27)
       have BE : Bx (w5.alloc (Obj.cells #[.int .i64 x.kind, .int .i64 x.job, .int .i64 x.every, .int .i64 x.time, .int .i64 x.client] 27)) w5.heap.size [.int .i64 x.kind, .int .i64 x.job, .int .i64 x.every, .int .i64 x.time, .int .i64 x.client] := Bx.made _ _ _
       replace Bz := Bz.onto ob; replace on := on.to ob; replace B4 := B4.onto ob
       generalize (w5.alloc (Obj.cells #[.int .i64 x.kind, .int .i64 x.job, .int .i64 x.every, .int .i64 x.time, .int .i64 x.client] 27)) = w6 at *
       generalize w5.heap.size = ze at *
       by_cases hg0 : g = 0
       · have hgb : (g == 0) = true := by simp [hg0]
         have hgn : (g != 0) = false := by simp [hg0]
         have HG0 := Lib.hid hg0
         clear hg0
         have e0 := BE.at_ 0 rfl; have e1 := BE.at_ 1 rfl; have e2 := BE.at_ 2 rfl; have e3 := BE.at_ 3 rfl; have e4 := BE.at_ 4 rfl
         go_upto_region 18 with (refine wpList_put B4 [.int .i64 1, .int .i64 v, .int .i64 0, .int .i64 x.kind, .int .i64 x.job, .int .i64 x.every, .int .i64 x.time, .int .i64 x.client] 160 _ _ (by rfl) (by rfl) (by rfl) (by rfl) (by rfl) sizeR (by rfl) ?_)
         have B4' := B4.put (us := [.int .i64 1, .int .i64 v, .int .i64 0, .int .i64 x.kind, .int .i64 x.job, .int .i64 x.every, .int .i64 x.time, .int .i64 x.client]) rfl
         replace Bz := Bz.off (b := z4) (o := 0) (us := [.int .i64 1, .int .i64 v, .int .i64 0, .int .i64 x.kind, .int .i64 x.job, .int .i64 x.every, .int .i64 x.time, .int .i64 x.client]) hzz
         replace on := Onto.puts (b := z4) (o := 0) (us := [.int .i64 1, .int .i64 v, .int .i64 0, .int .i64 x.kind, .int .i64 x.job, .int .i64 x.every, .int .i64 x.time, .int .i64 x.client]) hz4' on
         clear B4 BE e0 e1 e2 e3 e4
         have B4 := B4'
         clear B4'
         generalize World.setCells _ z4 0 [.int .i64 1, .int .i64 v, .int .i64 0, .int .i64 x.kind, .int .i64 x.job, .int .i64 x.every, .int .i64 x.time, .int .i64 x.client] = w7 at B4 Bz on ⊢
         have hr : r = finR ⟨1, v, 0, ⟨x.kind, x.job, x.every, x.time, x.client⟩⟩ := by rw [HR0.out, HN.out]; dsimp only; rw [← HG.out, if_neg (by simp [HG0.out]), ← HX.out]
         obtain ⟨q, hqq⟩ : ∃ q, q = checkR ⟨1, v, 0, ⟨x.kind, x.job, x.every, x.time, x.client⟩⟩ := ⟨_, rfl⟩
         unfold finR at hr
         rw [← hqq] at hr
         have HQ := Lib.hid hqq; have HRQ := Lib.hid hr
         clear hqq hr
         have b0 := B4.at_ 0 rfl; have b1 := B4.at_ 1 rfl; have b2 := B4.at_ 2 rfl; have b3 := B4.at_ 3 rfl; have b4 := B4.at_ 4 rfl; have b5 := B4.at_ 5 rfl; have b6 := B4.at_ 6 rfl; have b7 := B4.at_ 7 rfl
         go_wp2_with fail
         refine Calls.mono (NCheck_calls 1 v 0 x _) ?_
         rintro e wk ⟨rfl, b⟩
         rw [show checkR ⟨1, v, 0, ⟨x.kind, x.job, x.every, x.time, x.client⟩⟩ = q from HQ.out.symm]
         replace Bz := Bz.onto b; replace on := on.to b; replace B4 := B4.onto b
         clear b b0 b1 b2 b3 b4 b5 b6 b7
         by_cases hq0 : q = 0
         · have hr := HRQ.out
           rw [if_neg (by simp [hq0])] at hr
           subst hr
           have hq1 : (q == 0) = true := by simp [hq0]
           have hq2 : (q != 0) = false := by simp [hq0]
           have b0 := B4.at_ 0 rfl; have b1 := B4.at_ 1 rfl; have b2 := B4.at_ 2 rfl; have b3 := B4.at_ 3 rfl; have b4 := B4.at_ 4 rfl; have b5 := B4.at_ 5 rfl; have b6 := B4.at_ 6 rfl; have b7 := B4.at_ 7 rfl
           clear hq0 HRQ
           go_wp2_with (refine wpList_put Bz [.int .i64 1, .int .i64 v, .int .i64 0, .int .i64 x.kind, .int .i64 x.job, .int .i64 x.every, .int .i64 x.time, .int .i64 x.client] 160 _ _ (by rfl) (by rfl) (by rfl) (by rfl) (by rfl) sizeR (by rfl) ?_)
           have hF := Bz.put (us := [.int .i64 1, .int .i64 v, .int .i64 0, .int .i64 x.kind, .int .i64 x.job, .int .i64 x.every, .int .i64 x.time, .int .i64 x.client]) rfl
           have oF := Onto.puts (b := z) (o := 0) (us := [.int .i64 1, .int .i64 v, .int .i64 0, .int .i64 x.kind, .int .i64 x.job, .int .i64 x.every, .int .i64 x.time, .int .i64 x.client]) hz' on
           generalize World.setCells _ z 0 [.int .i64 1, .int .i64 v, .int .i64 0, .int .i64 x.kind, .int .i64 x.job, .int .i64 x.every, .int .i64 x.time, .int .i64 x.client] = wF at hF oF ⊢
           go_wp2_with fail
           have p0 := hF.at_ 0 rfl; have p1 := hF.at_ 1 rfl; have p2 := hF.at_ 2 rfl; have p3 := hF.at_ 3 rfl; have p4 := hF.at_ 4 rfl; have p5 := hF.at_ 5 rfl; have p6 := hF.at_ 6 rfl; have p7 := hF.at_ 7 rfl
           refine bodyPost_ret (v := .tuple #[.agg #[.int .i64 1, .int .i64 v, .int .i64 0, .int .i64 x.kind, .int .i64 x.job, .int .i64 x.every, .int .i64 x.time, .int .i64 x.client], .int .i64 0]) (by simp [results, Tryz.results126, go_sem, p0, p1, p2, p3, p4, p5, p6, p7]) rfl ⟨rfl, oF⟩
         · have hr := HRQ.out
           rw [if_pos hq0] at hr
           subst hr
           have hq1 : (q == 0) = false := by simp [hq0]
           have hq2 : (q != 0) = true := by simp [hq0]
           clear hq0 B4 HRQ
           go_wp2_with (refine wpList_put Bz [.int .i64 0, .int .i64 0, .int .i64 0, .int .i64 0, .int .i64 0, .int .i64 0, .int .i64 0, .int .i64 0] 160 _ _ (by rfl) (by rfl) (by rfl) (by rfl) (by rfl) sizeR (by rfl) ?_)
           have hF := Bz.put (us := [.int .i64 0, .int .i64 0, .int .i64 0, .int .i64 0, .int .i64 0, .int .i64 0, .int .i64 0, .int .i64 0]) rfl
           have oF := Onto.puts (b := z) (o := 0) (us := [.int .i64 0, .int .i64 0, .int .i64 0, .int .i64 0, .int .i64 0, .int .i64 0, .int .i64 0, .int .i64 0]) hz' on
           generalize World.setCells _ z 0 [.int .i64 0, .int .i64 0, .int .i64 0, .int .i64 0, .int .i64 0, .int .i64 0, .int .i64 0, .int .i64 0] = wF at hF oF ⊢
           go_wp2_with fail
           have p0 := hF.at_ 0 rfl; have p1 := hF.at_ 1 rfl; have p2 := hF.at_ 2 rfl; have p3 := hF.at_ 3 rfl; have p4 := hF.at_ 4 rfl; have p5 := hF.at_ 5 rfl; have p6 := hF.at_ 6 rfl; have p7 := hF.at_ 7 rfl
           refine bodyPost_ret (v := .tuple #[.agg #[.int .i64 0, .int .i64 0, .int .i64 0, .int .i64 0, .int .i64 0, .int .i64 0, .int .i64 0, .int .i64 0], .int .i64 q]) (by simp [results, Tryz.results126, go_sem, p0, p1, p2, p3, p4, p5, p6, p7]) rfl ⟨rfl, oF⟩
       · have hgb : (g == 0) = false := by simp [hg0]
         have hgn : (g != 0) = true := by simp [hg0]
         have hr : r = (zeroR, g) := by rw [HR0.out, HN.out]; dsimp only; rw [← HG.out, if_pos hg0]
         subst hr
         clear hg0
         go_wp2_with (refine wpList_put Bz [.int .i64 0, .int .i64 0, .int .i64 0, .int .i64 0, .int .i64 0, .int .i64 0, .int .i64 0, .int .i64 0] 160 _ _ (by rfl) (by rfl) (by rfl) (by rfl) (by rfl) sizeR (by rfl) ?_)
         have hF := Bz.put (us := [.int .i64 0, .int .i64 0, .int .i64 0, .int .i64 0, .int .i64 0, .int .i64 0, .int .i64 0, .int .i64 0]) rfl
         have oF := Onto.puts (b := z) (o := 0) (us := [.int .i64 0, .int .i64 0, .int .i64 0, .int .i64 0, .int .i64 0, .int .i64 0, .int .i64 0, .int .i64 0]) hz' on
         generalize World.setCells _ z 0 [.int .i64 0, .int .i64 0, .int .i64 0, .int .i64 0, .int .i64 0, .int .i64 0, .int .i64 0, .int .i64 0] = wF at hF oF ⊢
         go_wp2_with fail
         have p0 := hF.at_ 0 rfl; have p1 := hF.at_ 1 rfl; have p2 := hF.at_ 2 rfl; have p3 := hF.at_ 3 rfl; have p4 := hF.at_ 4 rfl; have p5 := hF.at_ 5 rfl; have p6 := hF.at_ 6 rfl; have p7 := hF.at_ 7 rfl
         refine bodyPost_ret (v := .tuple #[.agg #[.int .i64 0, .int .i64 0, .int .i64 0, .int .i64 0, .int .i64 0, .int .i64 0, .int .i64 0, .int .i64 0], .int .i64 g]) (by simp [results, Tryz.results126, go_sem, p0, p1, p2, p3, p4, p5, p6, p7]) rfl ⟨rfl, oF⟩
theorem NParse_long (s : List UInt8) (w : World) (hs : 30000 < s.length) (hm : s.length ≤ 9223372036854775807) :
    Calls Tryz.prog 126 #[str s] w (RnPost w (zeroR, 2)) := by
 have hd : ((30000 : Int) < (s.length : Int)) := by omega
 have hd2 : decide ((30000 : Int) < (s.length : Int)) = true := by simp; omega
 go_enter Tryz.func126, Tryz.ntmps126
 go_wp2
 refine bodyPost_ret (v := .tuple #[.agg #[.int .i64 0, .int .i64 0, .int .i64 0, .int .i64 0, .int .i64 0, .int .i64 0, .int .i64 0, .int .i64 0], .int .i64 2]) (by simp [results, Tryz.results126, go_sem]) rfl ⟨rfl, ?_⟩
 repeat (first | exact Onto.rfl' _ | refine Onto.draw ?_ | refine Onto.new ?_ _ | refine Onto.put ?_ (by simp) _)
theorem NParse_calls (s : List UInt8) (w : World) (E : Env w) (hm : s.length ≤ 9223372036854775807) :
    Calls Tryz.prog 126 #[str s] w (RnPost w (parseR s)) := by
 unfold parseR
 by_cases h : 30000 < s.length
 · rw [if_pos h]; exact NParse_long s w h hm
 · rw [if_neg h]; exact NParse_short s w E (by omega)
end
section
set_option linter.unusedSimpArgs false
set_option linter.unusedVariables false
open Go.ChangeShapes Go.WideShapes Go.ChangeAt Go.RowKit
theorem own : ownKnob Tryz.prog.godebug = none := by kernel_rfl
theorem laidOut : laidOutB Tryz.prog = true := by kernel_rfl
theorem Below_trodAll {H : Type} {enc : TypeId × Value → H} {P : Program} (hl : laidOutB P = true) {W W' : World} (hb : Below W.heap.size W W') : ∀ {ts : List TypeId} {vs : List Value} {ds : List (DataW H)} {ps : List MemPlace},
    (∀ t ∈ ts, P.readableRec t = true ∧ t < P.types.size) → DataW.TrodAll enc P W 0 (fun _ => true) true ts vs ds ps →
    DataW.TrodAll enc P W' 0 (fun b => decide (b < W.heap.size)) true ts vs ds ps
 | [], vs, ds, ps, _, h => by
   obtain ⟨rfl, rfl, rfl⟩ := trodAll_nil h
   exact trodAll_mk0
 | t :: ts, vs, ds, ps, hts, h => by
   obtain ⟨v, vs', d, ds', p, q, rfl, rfl, rfl, h0, hr⟩ := trodAll_cons h
   have ht := hts t (by simp)
   have lt : ∀ x ∈ p, x.block < W.heap.size := by obtain ⟨m, hm⟩ := h0; exact DataW.trod_lt m _ _ _ hm
   exact trodAll_cons_mk (Below.trod hl ht.1 ht.2 h0 hb lt) (Below_trodAll hl hb (fun t' h' => hts t' (by simp [h'])) hr)
end
section
set_option linter.unusedSimpArgs false
set_option linter.unusedVariables false
open Go.ChangeShapes Go.WideShapes Go.ChangeAt Go.RowKit Go.Deep Go.Joins
theorem choose_list {α : Type} {p : Nat → α → Prop} : ∀ (n : Nat), (∀ i, i < n → ∃ x, p i x) → ∃ l : List α, l.length = n ∧ ∀ i x, l[i]? = some x → p i x
 | 0, _ => ⟨[], rfl, by simp⟩
 | n + 1, h => by
   obtain ⟨l, hl, hp⟩ := choose_list n (fun i hi => h i (by omega))
   obtain ⟨x, hx⟩ := h n (by omega)
   refine ⟨l ++ [x], by simp [hl], fun i y hy => ?_⟩
   rcases Nat.lt_or_ge i n with h1 | h1
   · rw [List.getElem?_append_left (by omega)] at hy
     exact hp i y hy
   · rw [List.getElem?_append_right (by omega)] at hy
     have : i - l.length = 0 := by
      rcases Nat.eq_zero_or_pos (i - l.length) with h2 | h2
      · exact h2
      · rw [List.getElem?_eq_none (by simp; omega)] at hy; cases hy
     rw [this] at hy
     simp at hy
     subst hy
     rw [show i = n by omega]
     exact hx
section
variable {H : Type} {enc : TypeId × Value → H} {P : Program} {w : World} {spare : Nat → Bool} {held : Bool}
end
end
section
set_option linter.unusedSimpArgs false
set_option linter.unusedVariables false
open Go.ChangeShapes Go.WideShapes Go.ChangeAt Go.RowKit Go.Deep Go.Joins
def Reads (w : World) (t : TypeId) (cs : List Value) : Prop :=
 ∃ (H : Type) (enc : TypeId × Value → H) (spare : Nat → Bool) (held : Bool) (fuel : Nat) (y : DataW H × List MemPlace), DataW.trod enc Tryz.prog w 0 spare held fuel t cs = some y
def I64 (z : Int) : Prop := -9223372036854775808 ≤ z ∧ z ≤ 9223372036854775807
theorem reads_int {w : World} {cs : List Value} (h : Reads w 3 cs) : ∃ z, cs = [.int .i64 z] ∧ I64 z := by
 obtain ⟨H, enc, spare, held, fuel, y, h⟩ := h
 obtain ⟨k, e, _, hw⟩ := DataW.trod_int Tryz.underlying3 h
 refine ⟨k, e, ?_⟩
 simp [Lit.wf, IntKind.min, IntKind.max, IntKind.signed, IntKind.bits] at hw
 unfold I64
 omega
def allF (p : Field → Prop) : List Field → Prop
 | [] => True
 | f :: l => p f ∧ allF p l
theorem allF_of {p : Field → Prop} : ∀ {l : List Field}, (∀ (i : Nat) (f : Field), l[i]? = some f → p f) → allF p l
 | [], _ => trivial
 | f :: l, h => ⟨h 0 f rfl, allF_of fun i g hg => h (i + 1) g (by simpa using hg)⟩
theorem reads_struct {w : World} {t : TypeId} {fs : List Field} {cs : List Value} (ht : Tryz.prog.underlying t = some (.struct fs.toArray)) (h : Reads w t cs) :
    cs.length = Tryz.prog.cellsOf t ∧ allF (fun f => Reads w f.type ((cs.drop f.offset).take (Tryz.prog.cellsOf f.type))) fs := by
 obtain ⟨H, enc, spare, held, fuel, y, h⟩ := h
 obtain ⟨xs, n, rfl, hx, hl, hlen, hf⟩ := DataW.trod_struct ht h
 refine ⟨hl, allF_of fun i f hi => ?_⟩
 have hi' : fs.toArray[i]? = some f := by simpa using hi
 have hlt : i < xs.length := by rw [hlen]; exact (Array.getElem?_eq_some_iff.1 hi').1
 exact ⟨H, enc, spare, held, n, xs[i], (hf i f hi').trans (List.getElem?_eq_getElem hlt)⟩
theorem reads_rows {w : World} {t e k : Nat} {α : Type} (en : α → List Value) (R : α → Prop) (ht : Tryz.prog.underlying t = some (.slice e)) (hC : Tryz.prog.cellsOf e = k) (hk0 : 0 < k) (hen : ∀ x, (en x).length = k)
    (hdec : ∀ cs, cs.length = k → Reads w e cs → ∃ x : α, cs = en x ∧ R x) {cs : List Value} (h : Reads w t cs) :
    ∃ (A : Option Addr) (n c : Nat) (l : List α), cs = [.slice A n c] ∧ n ≤ c ∧ c ≤ maxLen ∧ (∀ x ∈ l, R x) ∧ Sl w w.heap.size k A n (l.map en) := by
 obtain ⟨H, enc, spare, held, fuel, y, hf⟩ := h
 rcases open_slice ht hf with ⟨hcs, _⟩ | ⟨a, len, cap, m, n, D, Pl, hcs, _, hl, hm, hmm, _, hi⟩
 · exact ⟨none, 0, 0, [], hcs, Nat.le_refl _, by unfold maxLen; omega, by simp, Sl.nil⟩
 · have hml : len ≤ m := by rw [hmm]; split <;> omega
   have hrow : ∀ i, i < len → ∃ x : α, R x ∧ ∀ j u, (en x)[j]? = some u → w.cell? (a.add (i * k + j)) = some u := by
    intro i hil
    obtain ⟨cs', hc, ht'⟩ := hi i (by omega)
    rw [hC] at hc
    obtain ⟨_, hcl, hat⟩ := World.cells?_some hc
    obtain ⟨x, rfl, hR⟩ := hdec cs' hcl ⟨H, enc, spare, held, n, _, ht'⟩
    refine ⟨x, hR, fun j u hu => ?_⟩
    have hjl : j < k := by rw [← hen x]; exact (List.getElem?_eq_some_iff.1 hu).1
    have hcell := hat j hjl
    rw [← Go.Deep.add_add, hcell, hu]
   obtain ⟨l, hll, hlp⟩ := choose_list len hrow
   refine ⟨some a, len, cap, l, hcs, hl, hm, fun x hx => ?_, by simpa using hll, by
    intro r hr
    obtain ⟨y, _, rfl⟩ := List.mem_map.1 hr
    exact hen y, fun hpos => ?_⟩
   · obtain ⟨i, hi'⟩ := List.mem_iff_getElem?.1 hx
     exact (hlp i x hi').1
   have hx0 := (hlp 0 _ (List.getElem?_eq_getElem (by omega))).2 0 _ (List.getElem?_eq_getElem (by rw [hen]; omega))
   obtain ⟨b, off, spot⟩ := a
   have hspot : spot = none := by simpa [Addr.add] using World.cell?_spot hx0
   subst hspot
   refine ⟨b, off, rfl, by simpa [Addr.add] using World.block_lt_of_cell? w _ hx0, fun i j r u hr hu => ?_⟩
   rw [List.getElem?_map] at hr
   cases hy : l[i]? with
   | none => rw [hy] at hr; simp at hr
   | some y =>
     rw [hy] at hr
     simp at hr
     subst hr
     have := (hlp i y hy).2 j u hu
     rw [Addr.add_lit, ← Nat.add_assoc] at this
     exact this
theorem cells_int : Tryz.prog.cellsOf 3 = 1 := by kernel_rfl
theorem cells_entry : Tryz.prog.cellsOf 27 = 5 := by kernel_rfl
set_option maxRecDepth 100000 in
theorem reads_entry {w : World} {cs : List Value} (h : Reads w 27 cs) : ∃ x, cs = encE x ∧ (I64 x.kind ∧ I64 x.job ∧ I64 x.every ∧ I64 x.time ∧ I64 x.client) := by
 obtain ⟨hl, hf⟩ := reads_struct Tryz.underlying27 h
 rw [cells_entry] at hl
 match cs, hl with
 | [c0, c1, c2, c3, c4], _ =>
   simp only [allF, cells_int] at hf
   obtain ⟨h0, h1, h2, h3, h4, _⟩ := hf
   obtain ⟨z0, e0, i0⟩ := reads_int h0; obtain ⟨z1, e1, i1⟩ := reads_int h1; obtain ⟨z2, e2, i2⟩ := reads_int h2; obtain ⟨z3, e3, i3⟩ := reads_int h3; obtain ⟨z4, e4, i4⟩ := reads_int h4
   simp at e0 e1 e2 e3 e4
   exact ⟨⟨z0, z1, z2, z3, z4⟩, by simp [encE, e0, e1, e2, e3, e4], i0, i1, i2, i3, i4⟩
theorem reads_of {H : Type} {enc : TypeId × Value → H} {w : World} {t : TypeId} {spare : Nat → Bool} {held : Bool} {v : Value} {d : DataW H} {p : List MemPlace} (h : DataW.Trod enc Tryz.prog w 0 spare held t v d p) : Reads w t v.cells.toList := by
 obtain ⟨fuel, hf⟩ := h
 exact ⟨H, enc, spare, held, fuel, _, hf⟩
end
section
set_option linter.unusedSimpArgs false
set_option linter.unusedVariables false
open Go.ChangeShapes Go.WideShapes Go.ChangeAt Go.RowKit Go.Deep Go.Joins
def encQ (r : Rec) : List Value := [.int .i64 r.kind, .int .i64 r.at_, .int .i64 r.epoch, .int .i64 r.e.kind, .int .i64 r.e.job, .int .i64 r.e.every, .int .i64 r.e.time, .int .i64 r.e.client]
theorem S.atQ {w : World} {A : Option Addr} {n : Nat} {l : List Rec} (h : S w 8 A n (l.map encQ)) {i : Nat} (hi : i < n) : ∃ b off x, A = some ⟨b, off, none⟩ ∧ b < w.heap.size ∧ l[i]? = some x ∧
    w.cell? ⟨b, off + i * 8, none⟩ = some (.int .i64 x.kind) ∧ w.cell? ⟨b, off + i * 8 + 1, none⟩ = some (.int .i64 x.at_) ∧ w.cell? ⟨b, off + i * 8 + 2, none⟩ = some (.int .i64 x.epoch) ∧
    w.cell? ⟨b, off + i * 8 + 3, none⟩ = some (.int .i64 x.e.kind) ∧ w.cell? ⟨b, off + i * 8 + 4, none⟩ = some (.int .i64 x.e.job) ∧ w.cell? ⟨b, off + i * 8 + 5, none⟩ = some (.int .i64 x.e.every) ∧ w.cell? ⟨b, off + i * 8 + 6, none⟩ = some (.int .i64 x.e.time) ∧ w.cell? ⟨b, off + i * 8 + 7, none⟩ = some (.int .i64 x.e.client) := by
 obtain ⟨b, off, x, e, hb, hx, hc⟩ := Sl.at_ h hi
 exact ⟨b, off, x, e, hb, hx, by simpa using hc 0 _ rfl, hc 1 _ rfl, hc 2 _ rfl, hc 3 _ rfl, hc 4 _ rfl, hc 5 _ rfl, hc 6 _ rfl, hc 7 _ rfl⟩
end
section
set_option linter.unusedSimpArgs false
set_option linter.unusedVariables false
open Go.RowKit
theorem cut_nl (s : List UInt8) : (∃ t r, s = t ++ 10 :: r ∧ (10 : UInt8) ∉ t ∧ Lib.cut s [10] = (t, r, true)) ∨ ((10 : UInt8) ∉ s ∧ Lib.cut s [10] = (s, [], false)) := by
 rw [cut_one]
 by_cases h : (10 : UInt8) ∈ s
 · obtain ⟨t, r, e, ht⟩ := List.eq_append_cons_of_mem h
   refine .inl ⟨t, r, e, ht, ?_⟩
   rw [if_pos h, e, cutc_append ht]
   simp [joinc_cutc]
 · exact .inr ⟨h, by rw [if_neg h]⟩
theorem infoQ : (Tryz.prog.info? 160).map (fun i => (i.zero, i.size, i.bytes)) = some (some (.agg #[.int .i64 0, .int .i64 0, .int .i64 0, .int .i64 0, .int .i64 0, .int .i64 0, .int .i64 0, .int .i64 0]), 8, 64) := by kernel_rfl
theorem encQ_one (l : List Rec) : ∀ r ∈ l.map encQ, ∀ u ∈ r, u.oneCell' = true := by
 intro r hr u hu
 obtain ⟨x, _, rfl⟩ := List.mem_map.1 hr
 simp [encQ] at hu
 rcases hu with rfl | rfl | rfl | rfl | rfl | rfl | rfl | rfl <;> rfl
theorem Sl.oneQ {w : World} {t : TypeId} (x : Rec) : Sl (w.alloc (Obj.cells #[.int .i64 x.kind, .int .i64 x.at_, .int .i64 x.epoch, .int .i64 x.e.kind, .int .i64 x.e.job, .int .i64 x.e.every, .int .i64 x.e.time, .int .i64 x.e.client] t)) (w.heap.size + 1) 8 (some ⟨w.heap.size, 0, none⟩) 1 [encQ x] := by
 have := Sl.block (k := 8) (w := w.alloc (Obj.cells #[.int .i64 x.kind, .int .i64 x.at_, .int .i64 x.epoch, .int .i64 x.e.kind, .int .i64 x.e.job, .int .i64 x.e.every, .int .i64 x.e.time, .int .i64 x.e.client] t)) [encQ x] (hNew rfl) (by simp [encQ]) (by rfl)
 simpa using this
set_option maxHeartbeats 4000000 in
set_option maxRecDepth 100000 in
theorem Lines_calls (s : List UInt8) (most : Nat) (hs : s.length ≤ 60000) (hm : most ≤ 200) (w : World) (E : Env w) :
    Calls Tryz.prog 112 #[str s, .int .i64 most] w fun e w' => ∃ A n c, e = .returned (.tuple #[.slice A n c, .int .i64 (linesK s most).2.1, .int .i64 (linesK s most).2.2]) ∧ Own w' w.heap.size 160 8 (.slice A n c) n ((linesK s most).1.map encQ) ∧ Onto w w' := by
 obtain ⟨L, hL⟩ : ∃ L, L = linesK s most := ⟨_, rfl⟩
 rw [← hL]
 have hL0 : L = linesP parseR most [] 0 (cutc 10 s) := hL
 have HL0 := Lib.hid hL0
 clear hL hL0
 go_enter Tryz.func112, Tryz.ntmps112
 go_wp2_with fail
 go_loopg [0, 7] s.length (fun g s0 s7 wr => ∃ (rest : List UInt8) (acc : List Rec) (k c : Nat) (A : Option Addr), s0 = str rest ∧ s7 = .slice A acc.length c ∧ rest.length ≤ g ∧ k + rest.length = s.length ∧ acc.length ≤ most ∧ acc.length ≤ c ∧ Hid (L = linesP parseR most acc k (cutc 10 rest)) ∧ Hid (Own wr w.heap.size 160 8 (.slice A acc.length c) acc.length (acc.map encQ)) ∧ Onto w wr)
 case atStart => exact ⟨s, [], 0, 0, none, rfl, rfl, by omega, by omega, by simp, by simp, HL0, Own.nil _ _ _ _, Onto.rfl' w⟩
 case round =>
  obtain ⟨rest, acc, k, c, A, rfl, rfl, hg, hk, hnm, hnc, HL, HO, on⟩ := hrel
  have hw1 : wrap64 ((s.length : Int) - (rest.length : Int)) = (k : Int) := by unfold wrap64; omega
  by_cases h0 : rest = []
  · subst h0
    have hl : L = (acc, k, 0) := by rw [HL.out, show cutc 10 [] = [[]] from rfl, linesP_one, if_pos rfl]
    have hks : (s.length : Int) = (k : Int) := by simp at hk; omega
    have ON := Lib.hid on; have HLL := Lib.hid hl
    clear on hl
    go_wp2_with fail
    refine bodyPost_ret (v := .tuple #[.slice A acc.length c, .int .i64 (k : Int), .int .i64 0]) (by simp [results, Tryz.results112, go_sem] <;> first | omega | (refine ⟨by omega, ?_⟩; omega)) rfl ⟨A, acc.length, c, by rw [HLL.out], by rw [HLL.out]; exact HO.out, ON.out⟩
  · have hq1 : (rest == []) = false := by simp [h0]
    have hq2 : (rest != []) = true := by simp [h0]
    have hrl : rest.length ≤ 60000 := by omega
    have H0 := Lib.hid h0
    clear h0
    go_wp2_with fail
    refine Calls.mono (Cut_calls rest [10] (by omega) _ (E.onto on)) ?_
    rcases cut_nl rest with ⟨t, r, hr, ht, hcut⟩ | ⟨hno, hcut⟩
    · rw [hcut]
      have hrl2 : rest.length = t.length + 1 + r.length := by rw [hr]; simp; omega
      have hl : L = if (parseR t).2 ≠ 0 then (acc, k, (parseR t).2) else if most ≤ acc.length then (acc, k, 2) else linesP parseR most (acc ++ [(parseR t).1]) (k + t.length + 1) (cutc 10 r) := by
       rw [HL.out, hr, cutc_append ht, linesP_cons (cutc_ne _ _)]
      have HLL := Lib.hid hl
      clear hl hr ht hcut HL
      rintro e w1 ⟨rfl, b⟩
      replace on := on.to b
      have HO1 := Lib.hid (HO.out.below b)
      clear HO b
      obtain ⟨x, hx⟩ : ∃ x, x = (parseR t).1 := ⟨_, rfl⟩
      obtain ⟨g2, hg2⟩ : ∃ x, x = (parseR t).2 := ⟨_, rfl⟩
      go_wp2_with fail
      refine Calls.mono (NParse_calls t _ (E.onto on) (by omega)) ?_
      rw [← hg2, ← hx] at HLL
      rintro e w2 ⟨rfl, b⟩
      rw [← hx, ← hg2]
      clear hx hg2
      replace on := on.to b
      have HO2 := Lib.hid (HO1.out.below b)
      clear HO1 b
      go_upto_region 8 with fail
      have ob := (Onto.rfl' w2).new (Obj.cells #[.int .i64 x.kind, .int .i64 x.at_, .int .i64 x.epoch, .int .i64 x.e.kind, .int .i64 x.e.job, .int .i64 x.e.every, .int .i64 x.e.time, .int .i64 x.e.client] 160)
      have BE : Bx (w2.alloc (Obj.cells #[.int .i64 x.kind, .int .i64 x.at_, .int .i64 x.epoch, .int .i64 x.e.kind, .int .i64 x.e.job, .int .i64 x.e.every, .int .i64 x.e.time, .int .i64 x.e.client] 160)) w2.heap.size [.int .i64 x.kind, .int .i64 x.at_, .int .i64 x.epoch, .int .i64 x.e.kind, .int .i64 x.e.job, .int .i64 x.e.every, .int .i64 x.e.time, .int .i64 x.e.client] := Bx.made _ _ _
      replace on := on.to ob
      have HO3 := Lib.hid (HO2.out.below ob)
      clear HO2 ob
      generalize (w2.alloc (Obj.cells #[.int .i64 x.kind, .int .i64 x.at_, .int .i64 x.epoch, .int .i64 x.e.kind, .int .i64 x.e.job, .int .i64 x.e.every, .int .i64 x.e.time, .int .i64 x.e.client] 160)) = w3 at *
      generalize w2.heap.size = z2 at *
      have x0 := BE.at_ 0 rfl; have x1 := BE.at_ 1 rfl; have x2 := BE.at_ 2 rfl; have x3 := BE.at_ 3 rfl; have x4 := BE.at_ 4 rfl; have x5 := BE.at_ 5 rfl; have x6 := BE.at_ 6 rfl; have x7 := BE.at_ 7 rfl
      clear BE
      have ON := Lib.hid on
      clear on
      by_cases hg0 : g2 = 0
      · by_cases hmn : most ≤ acc.length
        · have hmm : (acc.length : Int) = (most : Int) := by omega
          have hl : L = (acc, k, 2) := by rw [HLL.out, if_neg (by simp [hg0]), if_pos hmn]
          have HF := Lib.hid hl
          clear hl HLL
          subst hg0
          go_wp2_with fail
          refine bodyPost_ret (v := .tuple #[.slice A acc.length c, .int .i64 (k : Int), .int .i64 2]) (by simp [results, Tryz.results112, go_sem] <;> first | omega | (refine ⟨by omega, ?_⟩; omega)) rfl ⟨A, acc.length, c, by rw [HF.out], by rw [HF.out]; exact HO3.out, ON.out⟩
        · have hmm : ¬ (acc.length : Int) = (most : Int) := by omega
          have hl : L = linesP parseR most (acc ++ [x]) (k + t.length + 1) (cutc 10 r) := by rw [HLL.out, if_neg (by simp [hg0]), if_neg hmn]
          have HF := Lib.hid hl
          clear hl HLL
          subst hg0
          obtain ⟨i0, hi0, hzz0, hzz1, hzz2⟩ := info_parts infoQ
          have HI0 := Lib.hid hi0; have HZ0 := Lib.hid hzz0; have HZ1 := Lib.hid hzz1; have HZ2 := Lib.hid hzz2
          clear hi0 hzz0 hzz1 hzz2
          have HNEW := Lib.hid (Sl.oneQ (w := w3) (t := 160) x)
          have hal : Onto w3 (w3.alloc (Obj.cells #[.int .i64 x.kind, .int .i64 x.at_, .int .i64 x.epoch, .int .i64 x.e.kind, .int .i64 x.e.job, .int .i64 x.e.every, .int .i64 x.e.time, .int .i64 x.e.client] 160)) := (Onto.rfl' w3).new _
          have HAL := Lib.hid hal
          clear hal
          go_wp2_with (at_builtin; refine wpList_append_sl _ rfl _ _ 139 rfl w.heap.size 160 i0 _ 8 64 Tryz.underlying139 HI0.out HZ0.out HZ1.out HZ2.out rfl (by decide) (.slice A acc.length c) acc.length (acc.map encQ) rfl (HO3.out.below HAL.out) _ (some ⟨w3.heap.size, 0, none⟩) 1 1 [encQ x] rfl HNEW.out (by simpa using encQ_one [x]) (by unfold maxLen; omega) (by omega) (ON.out.to HAL.out).size ?_)
          intro v8 w8 own8 grow8 hv8
          obtain ⟨A8, c8, rfl, hc8, _⟩ := own8.slice
          have hB8 : Onto w w8 := below_grown (ON.out.to HAL.out) (ON.out.to HAL.out).size grow8 (fun g hg => by have := (HO3.out.1.lt g hg).1; omega)
          have HO8 := Lib.hid own8
          clear grow8 hv8 own8 HO3 HNEW HAL x0 x1 x2 x3 x4 x5 x6 x7
          go_wp2_with fail
          go_roundg r.length
          case measure => omega
          case rel =>
           refine ⟨r, acc ++ [x], k + t.length + 1, c8, A8, rfl, by simp, Nat.le_refl _, by omega, by simp; omega, ?_, HF, ?_, hB8⟩
           · have := HO8.out.le_cap; simp; omega
           · refine Lib.hid ?_
             rw [List.map_append, List.length_append]
             exact HO8.out
      · have hgb : (g2 == 0) = false := by simp [hg0]
        have hgn : (g2 != 0) = true := by simp [hg0]
        have hl : L = (acc, k, g2) := by rw [HLL.out, if_pos hg0]
        have HF := Lib.hid hl
        clear hl HLL hg0
        go_wp2_with fail
        refine bodyPost_ret (v := .tuple #[.slice A acc.length c, .int .i64 (k : Int), .int .i64 g2]) (by simp [results, Tryz.results112, go_sem] <;> first | omega | (refine ⟨by omega, ?_⟩; omega)) rfl ⟨A, acc.length, c, by rw [HF.out], by rw [HF.out]; exact HO3.out, ON.out⟩
    · rw [hcut]
      have hl : L = (acc, k, 9) := by rw [HL.out, cutc_self hno, linesP_one, if_neg H0.out]
      have HF := Lib.hid hl
      clear hl hcut hno HL
      rintro e w1 ⟨rfl, b⟩
      replace on := on.to b
      have HO1 := Lib.hid (HO.out.below b)
      clear HO b
      have ON := Lib.hid on
      clear on
      go_wp2_with fail
      refine bodyPost_ret (v := .tuple #[.slice A acc.length c, .int .i64 (k : Int), .int .i64 9]) (by simp [results, Tryz.results112, go_sem] <;> first | omega | (refine ⟨by omega, ?_⟩; omega)) rfl ⟨A, acc.length, c, by rw [HF.out], by rw [HF.out]; exact HO1.out, ON.out⟩
end
section
set_option linter.unusedSimpArgs false
set_option linter.unusedVariables false
open Go.RowKit
structure DK (w : World) (A : Option Addr) (n c : Nat) (A' : Option Addr) (m d : Nat) (x : Dsk) : Prop where
 safe : S w 1 A n (x.safe.map encB)
 wait : S w 1 A' m (x.wait.map encB)
 n_le : n ≤ c
 c_le : c ≤ maxLen
 m_le : m ≤ d
 d_le : d ≤ maxLen
theorem DK.onto {w w' : World} {A A' : Option Addr} {n c m d : Nat} {x : Dsk} (h : DK w A n c A' m d x) (b : Onto w w') : DK w' A n c A' m d x := ⟨h.safe.onto b, h.wait.onto b, h.n_le, h.c_le, h.m_le, h.d_le⟩
theorem DK.n_eq {w : World} {A A' : Option Addr} {n c m d : Nat} {x : Dsk} (h : DK w A n c A' m d x) : n = x.safe.length := by have := h.safe.len; simpa using this.symm
theorem DK.m_eq {w : World} {A A' : Option Addr} {n c m d : Nat} {x : Dsk} (h : DK w A n c A' m d x) : m = x.wait.length := by have := h.wait.len; simpa using this.symm
theorem DK.none_ (w : World) : DK w none 0 0 none 0 0 noK := ⟨Sl.nil, Sl.nil, by omega, by simp [maxLen], by omega, by simp [maxLen]⟩
set_option maxHeartbeats 4000000 in
set_option maxRecDepth 100000 in
theorem DCheck_calls (A A' : Option Addr) (n c m d : Nat) (x : Dsk) (w : World) (E : Env w) (K : DK w A n c A' m d x) :
    Calls Tryz.prog 90 #[.agg #[.slice A n c, .slice A' m d]] w fun e w' => e = .returned (.int .i64 (checkK x)) ∧ Onto w w' := by
 obtain ⟨q, hq⟩ : ∃ q, q = checkK x := ⟨_, rfl⟩
 rw [← hq]
 have hn := K.n_eq; have hm := K.m_eq
 have hq0 : q = if 30000 < n ∨ 30000 < n + m then 2 else (linesK x.safe 160).2.2 := by rw [hq, hn, hm]; rfl
 have hnb : n ≤ 9223372036854775807 := by have := K.n_le; have := K.c_le; unfold maxLen at *; omega
 have hmb : m ≤ 9223372036854775807 := by have := K.m_le; have := K.d_le; unfold maxLen at *; omega
 have HN := Lib.hid hn; have HM := Lib.hid hm; have HQ := Lib.hid hq0
 clear hn hm hq hq0
 go_enter Tryz.func90, Tryz.ntmps90
 go_upto_region 1 with fail
 have on : Onto w (w.alloc (Obj.cells #[.slice A n c, .slice A' m d] 47)) := (Onto.rfl' w).new _
 have B : Bx (w.alloc (Obj.cells #[.slice A n c, .slice A' m d] 47)) w.heap.size [.slice A n c, .slice A' m d] := Bx.made _ _ _
 generalize (w.alloc (Obj.cells #[.slice A n c, .slice A' m d] 47)) = w1 at *
 generalize w.heap.size = z at B ⊢
 have b0 := B.at_ 0 rfl; have b1 := B.at_ 1 rfl
 by_cases h1 : 30000 < n
 · have hd : decide ((30000 : Int) < (n : Int)) = true := by simp; omega
   have h1' : (30000 : Int) < (n : Int) := by omega
   have hqq : q = 2 := by rw [HQ.out, if_pos (.inl h1)]
   subst hqq
   clear h1
   go_wp2_with fail
   go_ret
   exact ⟨ret_int rfl, on⟩
 · have h1' : ¬ (30000 : Int) < (n : Int) := by omega
   have hw : wrap64 ((30000 : Int) - (n : Int)) = 30000 - (n : Int) := by unfold wrap64; omega
   by_cases h2 : 30000 < n + m
   · have h2' : (30000 : Int) - (n : Int) < (m : Int) := by omega
     have hqq : q = 2 := by rw [HQ.out, if_pos (.inr h2)]
     subst hqq
     clear h1 h2
     go_wp2_with fail
     go_ret
     exact ⟨ret_int rfl, on⟩
   · have h2' : ¬ (30000 : Int) - (n : Int) < (m : Int) := by omega
     have hqq : q = (linesK x.safe 160).2.2 := by rw [HQ.out, if_neg (by omega)]
     have cv := conv_bytes (c := c) (K.safe.onto on)
     have E1 := E.onto on
     have hsl : x.safe.length ≤ 60000 := by rw [← HN.out]; omega
     have HQQ := Lib.hid hqq; have ON := Lib.hid on
     clear h1 h2 hqq on
     go_wp2_with fail
     refine Calls.mono (Lines_calls x.safe 160 hsl (by omega) _ E1) ?_
     rintro e w2 ⟨A1, n1, c1, rfl, _, b⟩
     have ON2 := Lib.hid (ON.out.to b)
     clear b b0 b1 B
     rw [show (linesK x.safe 160).2.2 = q from HQQ.out.symm]
     go_wp2_with fail
     go_ret
     exact ⟨ret_int rfl, ON2.out⟩
end
section
set_option linter.unusedSimpArgs false
set_option linter.unusedVariables false
open Go.RowKit
theorem printR_len (x : Rec) : (printR x).1.length ≤ 100 := by
 unfold printR
 split
 · simp
 · rename_i h
   exact textR_len (Decidable.not_not.1 h)
end
section
set_option linter.unusedSimpArgs false
set_option linter.unusedVariables false
open Go.RowKit
attribute [local go_sem ↓] Go.wp_at_zero Go.wp_at_succ
theorem sizeD : (Tryz.prog.info? 47).map (·.size) = some 2 := by kernel_rfl
theorem Live.litNl {w0 w : World} {L : List (Option Ent)} (h : Live w0 w L) {i : Nat} (hi : i < L.length) : Live w0 (w.alloc (.cells #[.int .u8 10] 5)) (L.set i (some ⟨.slice (some ⟨w.heap.size, 0, none⟩) 1 1, 5, 1, 1, [encB 10]⟩)) := h.litB hi 10
def DnPost (w : World) (q : Dsk × Int) (e : Ending) (w' : World) : Prop := ∃ F k i F' l j, e = .returned (.tuple #[.agg #[.slice F k i, .slice F' l j], .int .i64 q.2]) ∧ DK w' F k i F' l j q.1 ∧ Fresh w.heap.size F ∧ Fresh w.heap.size F' ∧ Onto w w'
theorem DnPost.bad {w w' : World} {q : Int} {v : Value} (h : v = .tuple #[.agg #[.slice none 0 0, .slice none 0 0], .int .i64 q]) (on : Onto w w') : DnPost w (noK, q) (.returned v) w' := ⟨none, 0, 0, none, 0, 0, by rw [h], DK.none_ _, Fresh.none_ _, Fresh.none_ _, on⟩
theorem decB (x : Dsk) (h : checkK x = 0) : x.safe.length + x.wait.length ≤ 30000 := (checkK_iff.1 h).1
set_option maxHeartbeats 8000000 in
set_option maxRecDepth 100000 in
theorem DPut_calls (A A' : Option Addr) (n c m d : Nat) (x : Dsk) (r : Rec) (w : World) (E : Env w) (K : DK w A n c A' m d x) :
    Calls Tryz.prog 123 #[.agg #[.slice A n c, .slice A' m d], .agg #[.int .i64 r.kind, .int .i64 r.at_, .int .i64 r.epoch, .int .i64 r.e.kind, .int .i64 r.e.job, .int .i64 r.e.every, .int .i64 r.e.time, .int .i64 r.e.client]] w (DnPost w (putK x r)) := by
 obtain ⟨g, hg⟩ : ∃ g, g = checkK x := ⟨_, rfl⟩
 obtain ⟨T, hT⟩ : ∃ T, T = (printR r).1 := ⟨_, rfl⟩
 obtain ⟨h, hh⟩ : ∃ h, h = (printR r).2 := ⟨_, rfl⟩
 obtain ⟨q, hq⟩ : ∃ q, q = putK x r := ⟨_, rfl⟩
 rw [← hq]
 unfold putK at hq
 rw [← hg, ← hT, ← hh, ← K.n_eq, ← K.m_eq] at hq
 have hTl : T.length ≤ 100 := hT ▸ printR_len r
 have HG := Lib.hid hg; have HT := Lib.hid hT; have HH := Lib.hid hh; have HQ := Lib.hid hq
 clear hg hT hh hq
 go_enter Tryz.func123, Tryz.ntmps123
 go_upto_region 1 with fail
 have B2 : Bx (((w.alloc (Obj.cells #[.slice A n c, .slice A' m d] 47)).alloc (Obj.cells #[.int .i64 r.kind, .int .i64 r.at_, .int .i64 r.epoch, .int .i64 r.e.kind, .int .i64 r.e.job, .int .i64 r.e.every, .int .i64 r.e.time, .int .i64 r.e.client] 160)).alloc (Obj.cells #[.slice none 0 0, .slice none 0 0] 47)) w.heap.size [.slice A n c, .slice A' m d] := by
  have := (((Bx.made w #[.slice A n c, .slice A' m d] 47).new (Obj.cells #[.int .i64 r.kind, .int .i64 r.at_, .int .i64 r.epoch, .int .i64 r.e.kind, .int .i64 r.e.job, .int .i64 r.e.every, .int .i64 r.e.time, .int .i64 r.e.client] 160)).new (Obj.cells #[.slice none 0 0, .slice none 0 0] 47))
  simpa using this
 have B3 : Bx (((w.alloc (Obj.cells #[.slice A n c, .slice A' m d] 47)).alloc (Obj.cells #[.int .i64 r.kind, .int .i64 r.at_, .int .i64 r.epoch, .int .i64 r.e.kind, .int .i64 r.e.job, .int .i64 r.e.every, .int .i64 r.e.time, .int .i64 r.e.client] 160)).alloc (Obj.cells #[.slice none 0 0, .slice none 0 0] 47)) (w.heap.size + 1) [.int .i64 r.kind, .int .i64 r.at_, .int .i64 r.epoch, .int .i64 r.e.kind, .int .i64 r.e.job, .int .i64 r.e.every, .int .i64 r.e.time, .int .i64 r.e.client] := by
  have := ((Bx.made (w.alloc (Obj.cells #[.slice A n c, .slice A' m d] 47)) #[.int .i64 r.kind, .int .i64 r.at_, .int .i64 r.epoch, .int .i64 r.e.kind, .int .i64 r.e.job, .int .i64 r.e.every, .int .i64 r.e.time, .int .i64 r.e.client] 160).new (Obj.cells #[.slice none 0 0, .slice none 0 0] 47))
  simpa using this
 have Bz : Bx (((w.alloc (Obj.cells #[.slice A n c, .slice A' m d] 47)).alloc (Obj.cells #[.int .i64 r.kind, .int .i64 r.at_, .int .i64 r.epoch, .int .i64 r.e.kind, .int .i64 r.e.job, .int .i64 r.e.every, .int .i64 r.e.time, .int .i64 r.e.client] 160)).alloc (Obj.cells #[.slice none 0 0, .slice none 0 0] 47)) (w.heap.size + 2) [.slice none 0 0, .slice none 0 0] := by
  have := (Bx.made ((w.alloc (Obj.cells #[.slice A n c, .slice A' m d] 47)).alloc (Obj.cells #[.int .i64 r.kind, .int .i64 r.at_, .int .i64 r.epoch, .int .i64 r.e.kind, .int .i64 r.e.job, .int .i64 r.e.every, .int .i64 r.e.time, .int .i64 r.e.client] 160)) #[.slice none 0 0, .slice none 0 0] 47)
  simpa using this
 have on : Onto w (((w.alloc (Obj.cells #[.slice A n c, .slice A' m d] 47)).alloc (Obj.cells #[.int .i64 r.kind, .int .i64 r.at_, .int .i64 r.epoch, .int .i64 r.e.kind, .int .i64 r.e.job, .int .i64 r.e.every, .int .i64 r.e.time, .int .i64 r.e.client] 160)).alloc (Obj.cells #[.slice none 0 0, .slice none 0 0] 47)) := (((Onto.rfl' w).new _).new _).new _
 generalize (((w.alloc (Obj.cells #[.slice A n c, .slice A' m d] 47)).alloc (Obj.cells #[.int .i64 r.kind, .int .i64 r.at_, .int .i64 r.epoch, .int .i64 r.e.kind, .int .i64 r.e.job, .int .i64 r.e.every, .int .i64 r.e.time, .int .i64 r.e.client] 160)).alloc (Obj.cells #[.slice none 0 0, .slice none 0 0] 47)) = w1 at *
 have hz' : w.heap.size ≤ w.heap.size + 2 := by omega
 have hzz : w.heap.size ≠ w.heap.size + 2 := by omega
 generalize w.heap.size + 2 = z at Bz hz' hzz ⊢
 generalize w.heap.size + 1 = z3 at B3 ⊢
 generalize hz2 : w.heap.size = z2 at B2 hzz ⊢
 clear hz2
 have b0 := B2.at_ 0 rfl; have b1 := B2.at_ 1 rfl
 go_wp2_with fail
 refine Calls.mono (DCheck_calls A A' n c m d x _ (E.onto on) (K.onto on)) ?_
 rintro e w2 ⟨rfl, b⟩
 rw [show checkK x = g from HG.out.symm]
 replace on := on.to b; replace B2 := B2.onto b; replace B3 := B3.onto b; replace Bz := Bz.onto b
 clear b b0 b1
 by_cases hg0 : g = 0
 · have hbd : n + m ≤ 30000 := by rw [K.n_eq, K.m_eq]; exact decB x (by rw [← HG.out, hg0])
   have hn : n ≤ 30000 := by omega
   have hm : m ≤ 30000 := by omega
   have hq := HQ.out
   rw [if_neg (by simp [hg0])] at hq
   replace HQ := Lib.hid hq
   subst hg0
   clear hq
   have r0 := B3.at_ 0 rfl; have r1 := B3.at_ 1 rfl; have r2 := B3.at_ 2 rfl; have r3 := B3.at_ 3 rfl; have r4 := B3.at_ 4 rfl; have r5 := B3.at_ 5 rfl; have r6 := B3.at_ 6 rfl; have r7 := B3.at_ 7 rfl
   go_wp2_with fail
   refine Calls.mono (NPrint_calls r.kind r.at_ r.epoch r.e _ (E.onto on)) ?_
   rw [show (printR ⟨r.kind, r.at_, r.epoch, r.e⟩).1 = T from HT.out.symm, show (printR ⟨r.kind, r.at_, r.epoch, r.e⟩).2 = h from HH.out.symm]
   rintro e w3 ⟨rfl, b⟩
   replace on := on.to b; replace B2 := B2.onto b; replace Bz := Bz.onto b
   clear b r0 r1 r2 r3 r4 r5 r6 r7 B3
   by_cases hh0 : h = 0
   · have hq := HQ.out
     rw [if_neg (by simp [hh0])] at hq
     replace HQ := Lib.hid hq
     subst hh0
     clear hq
     have b0 := B2.at_ 0 rfl; have b1 := B2.at_ 1 rfl
     by_cases hf : 30000 < n + m + (T.length + 1)
     · have hd : (30000 : Int) - (n : Int) - (m : Int) < (T.length : Int) + 1 := by omega
       have hq := HQ.out
       rw [if_pos hf] at hq
       subst hq
       clear hf b0 b1
       have b0 := B2.at_ 0 rfl; have b1 := B2.at_ 1 rfl
       go_wp2_with (refine wpList_put Bz [.slice none 0 0, .slice none 0 0] 47 _ _ (by rfl) (by rfl) (by rfl) (by rfl) (by rfl) sizeD (by rfl) ?_)
       have hF := Bz.put (us := [.slice none 0 0, .slice none 0 0]) rfl
       have oF := Onto.puts (b := z) (o := 0) (us := [.slice none 0 0, .slice none 0 0]) hz' on
       generalize World.setCells _ z 0 [.slice none 0 0, .slice none 0 0] = wF at hF oF ⊢
       go_wp2_with fail
       have p0 := hF.at_ 0 rfl; have p1 := hF.at_ 1 rfl
       refine bodyPost_ret (v := .tuple #[.agg #[.slice none 0 0, .slice none 0 0], .int .i64 2]) (by simp [results, Tryz.results123, go_sem, p0, p1]) rfl (DnPost.bad rfl oF)
     · have hd : ¬ (30000 : Int) - (n : Int) - (m : Int) < (T.length : Int) + 1 := by omega
       have hq := HQ.out
       rw [if_neg hf] at hq
       subst hq
       clear hf
       go_upto_region 9 with fail
       have K3 := K.onto on
       have LV := Live.start w3 3
       have zb0 := Bz.at_ 0 rfl; have zb1 := Bz.at_ 1 rfl
       go_region_held3 (fun w' => w'.cell? ⟨z2, 0, none⟩ = some (.slice A n c) ∧ w'.cell? ⟨z2, 1, none⟩ = some (.slice A' m d))
        (first | exact ⟨cellB (Live.on (by with_reducible (first | exact LV | exact LV.draw | exact LV.litNl (i := 2) (by simp) | exact LV.draw.litNl (i := 2) (by simp) | exact (LV.litNl (i := 2) (by simp)).draw))) b0, cellB (Live.on (by with_reducible (first | exact LV | exact LV.draw | exact LV.litNl (i := 2) (by simp) | exact LV.draw.litNl (i := 2) (by simp) | exact (LV.litNl (i := 2) (by simp)).draw))) b1⟩ | exact ⟨(((B2.onto (Live.on (by with_reducible (first | exact LV | exact LV.draw | exact LV.litNl (i := 2) (by simp) | exact LV.draw.litNl (i := 2) (by simp) | exact (LV.litNl (i := 2) (by simp)).draw)))).off1 (p := ⟨z, 0, none⟩) hzz _).off1 (p := ⟨z, 1, none⟩) hzz _).at_ 0 rfl, (((B2.onto (Live.on (by with_reducible (first | exact LV | exact LV.draw | exact LV.litNl (i := 2) (by simp) | exact LV.draw.litNl (i := 2) (by simp) | exact (LV.litNl (i := 2) (by simp)).draw)))).off1 (p := ⟨z, 0, none⟩) hzz _).off1 (p := ⟨z, 1, none⟩) hzz _).at_ 1 rfl⟩ | fail)
        (first
         | (go_at_call 82; refine Calls.mono (CloneB_live (by with_reducible (first | exact LV | exact LV.draw | exact LV.litNl (i := 2) (by simp) | exact LV.draw.litNl (i := 2) (by simp) | exact (LV.litNl (i := 2) (by simp)).draw)) 0 (by simp) A n c x.safe K3.safe (by omega)) ?_; rintro e w6 ⟨A1, c1, rfl, LV⟩; have Z := Bz.onto LV.on; have p0 := Z.at_ 0 rfl; have p1 := Z.at_ 1 rfl; have f0 := Z.froz 0; have f1 := Z.froz 1; clear Z)
         | (go_at_call 82; refine Calls.mono (CloneB_live (by with_reducible (first | exact LV | exact LV.draw | exact LV.litNl (i := 2) (by simp) | exact LV.draw.litNl (i := 2) (by simp) | exact (LV.litNl (i := 2) (by simp)).draw)) 1 (by simp) A' m d x.wait K3.wait (by omega)) ?_; rintro e w7 ⟨A2, c2, rfl, LV⟩; have Z := Bz.onto LV.on; have p0 := Z.at_ 0 rfl; have p1 := Z.at_ 1 rfl; have f0 := Z.froz 0; have f1 := Z.froz 1; clear Z)
         | (refine step_app_str_live (by with_reducible (first | exact LV | exact LV.draw | exact LV.litNl (i := 2) (by simp) | exact LV.draw.litNl (i := 2) (by simp) | exact (LV.litNl (i := 2) (by simp)).draw)) (by rfl) _ _ (by rfl) 1 (.slice A2 m c2) m (x.wait.map encB) (by rfl) (by rfl) T (by rfl) (by omega) ?_; intro A3 c3 w8 LV; have Z := Bz.onto LV.on; have p0 := Z.at_ 0 rfl; have p1 := Z.at_ 1 rfl; have f0 := Z.froz 0; have f1 := Z.froz 1; clear Z)
         | (refine step_app_sl_live (by with_reducible (first | exact LV | exact LV.draw | exact LV.litNl (i := 2) (by simp) | exact LV.draw.litNl (i := 2) (by simp) | exact (LV.litNl (i := 2) (by simp)).draw)) (by rfl) _ _ 45 (by rfl) 5 1 1 (.int .u8 0) rinfoB Tryz.underlying45 rfl (by omega) 1 (.slice A3 (m + T.length) c3) (m + T.length) (x.wait.map encB ++ T.map encB) (by rfl) (by rfl) _ 1 1 [encB 10] (by rfl) (Live.sl (i := 2) (by with_reducible (first | exact LV | exact LV.draw | exact LV.litNl (i := 2) (by simp) | exact LV.draw.litNl (i := 2) (by simp) | exact (LV.litNl (i := 2) (by simp)).draw)) (by rfl)) (encB_one [10]) (by unfold maxLen; omega) (by omega) ?_; intro A5 c5 w9 LV; have Z := Bz.onto LV.on; have p0 := Z.at_ 0 rfl; have p1 := Z.at_ 1 rfl; have f0 := Z.froz 0; have f1 := Z.froz 1; clear Z)
         | fail)
       all_goals
        have hz3 : z < w3.heap.size := Bz.lt
        have o1 : Own _ w3.heap.size 5 1 (.slice A1 n c1) n (x.safe.map encB) := LV.own 0 _ rfl
        have o2 : Own _ w3.heap.size 5 1 (.slice A5 (m + T.length + 1) c5) (m + T.length + 1) (x.wait.map encB ++ T.map encB ++ [encB 10]) := LV.own 1 _ rfl
        have on9 := on.to LV.on
        have HO1 := Lib.hid o1; have HO2 := Lib.hid o2; have HON := Lib.hid on9
        clear o1 o2 on9 LV
        go_wp2_with fail
        refine bodyPost_ret (v := .tuple #[.agg #[.slice A1 n c1, .slice A5 (m + T.length + 1) c5], .int .i64 0]) (by simp [results, Tryz.results123, go_sem, p0, p1]) rfl ⟨A1, n, c1, A5, m + T.length + 1, c5, rfl, ⟨((HO1.out.setCell (p := ⟨z, 0, none⟩) hz3 _).setCell (p := ⟨z, 1, none⟩) hz3 _).sl, ?_, HO1.out.le_cap, HO1.out.cap_max, HO2.out.le_cap, HO2.out.cap_max⟩, HO1.out.fresh on.size, HO2.out.fresh on.size, (HON.out.put hz' _).put hz' _⟩
        rw [show (⟨x.safe, x.wait ++ T ++ [10]⟩ : Dsk).wait.map encB = x.wait.map encB ++ T.map encB ++ [encB 10] by simp]
        exact ((HO2.out.setCell (p := ⟨z, 0, none⟩) hz3 _).setCell (p := ⟨z, 1, none⟩) hz3 _).sl
   · have hq := HQ.out
     rw [if_pos hh0] at hq
     subst hq
     have hh1 : (h == 0) = false := by simp [hh0]
     have hh2 : (h != 0) = true := by simp [hh0]
     clear hh0
     go_wp2_with (refine wpList_put Bz [.slice none 0 0, .slice none 0 0] 47 _ _ (by rfl) (by rfl) (by rfl) (by rfl) (by rfl) sizeD (by rfl) ?_)
     have hF := Bz.put (us := [.slice none 0 0, .slice none 0 0]) rfl
     have oF := Onto.puts (b := z) (o := 0) (us := [.slice none 0 0, .slice none 0 0]) hz' on
     generalize World.setCells _ z 0 [.slice none 0 0, .slice none 0 0] = wF at hF oF ⊢
     go_wp2_with fail
     have p0 := hF.at_ 0 rfl; have p1 := hF.at_ 1 rfl
     refine bodyPost_ret (v := .tuple #[.agg #[.slice none 0 0, .slice none 0 0], .int .i64 h]) (by simp [results, Tryz.results123, go_sem, p0, p1]) rfl (DnPost.bad rfl oF)
 · have hq := HQ.out
   rw [if_pos hg0] at hq
   subst hq
   have hg1 : (g == 0) = false := by simp [hg0]
   have hg2 : (g != 0) = true := by simp [hg0]
   clear hg0
   go_wp2_with (refine wpList_put Bz [.slice none 0 0, .slice none 0 0] 47 _ _ (by rfl) (by rfl) (by rfl) (by rfl) (by rfl) sizeD (by rfl) ?_)
   have hF := Bz.put (us := [.slice none 0 0, .slice none 0 0]) rfl
   have oF := Onto.puts (b := z) (o := 0) (us := [.slice none 0 0, .slice none 0 0]) hz' on
   generalize World.setCells _ z 0 [.slice none 0 0, .slice none 0 0] = wF at hF oF ⊢
   go_wp2_with fail
   have p0 := hF.at_ 0 rfl; have p1 := hF.at_ 1 rfl
   refine bodyPost_ret (v := .tuple #[.agg #[.slice none 0 0, .slice none 0 0], .int .i64 g]) (by simp [results, Tryz.results123, go_sem, p0, p1]) rfl (DnPost.bad rfl oF)
end
section
set_option linter.unusedSimpArgs false
set_option linter.unusedVariables false
open Go.RowKit
attribute [local go_sem ↓] Go.wp_at_zero Go.wp_at_succ
theorem Own.puts {base E k n z : Nat} {v : Value} {rows : List (List Value)} (hz : z < base) : ∀ {us : List Value} {o : Nat} {w : World}, Own w base E k v n rows → Own (w.setCells z o us) base E k v n rows
 | [], _, _, h => h
 | u :: us, o, w, h => by rw [World.setCells]; exact Own.puts hz (h.setCell (by simpa using hz) u)
theorem DK.one {w : World} {base n m c : Nat} {A : Option Addr} {a b : List UInt8} (h : Own w base 5 1 (.slice A (n + m) c) (n + m) (a.map encB ++ b.map encB)) : DK w A (n + m) c none 0 0 ⟨a ++ b, []⟩ :=
 ⟨by rw [show (⟨a ++ b, []⟩ : Dsk).safe.map encB = a.map encB ++ b.map encB by simp]; exact h.sl, Sl.nil, h.le_cap, h.cap_max, by omega, by simp [maxLen]⟩
set_option maxHeartbeats 8000000 in
set_option maxRecDepth 100000 in
theorem DSync_calls (A A' : Option Addr) (n c m d : Nat) (x : Dsk) (w : World) (E : Env w) (K : DK w A n c A' m d x) :
    Calls Tryz.prog 124 #[.agg #[.slice A n c, .slice A' m d]] w (DnPost w (syncK x)) := by
 obtain ⟨g, hg⟩ : ∃ g, g = checkK x := ⟨_, rfl⟩
 obtain ⟨h, hh⟩ : ∃ h, h = checkK ⟨x.safe ++ x.wait, []⟩ := ⟨_, rfl⟩
 obtain ⟨q, hq⟩ : ∃ q, q = syncK x := ⟨_, rfl⟩
 rw [← hq]
 unfold syncK at hq
 rw [← hg, ← hh] at hq
 have HG := Lib.hid hg; have HH := Lib.hid hh; have HQ := Lib.hid hq
 clear hg hh hq
 go_enter Tryz.func124, Tryz.ntmps124
 go_upto_region 1 with fail
 have B2 : Bx ((w.alloc (Obj.cells #[.slice A n c, .slice A' m d] 47)).alloc (Obj.cells #[.slice none 0 0, .slice none 0 0] 47)) w.heap.size [.slice A n c, .slice A' m d] := by
  have := ((Bx.made w #[.slice A n c, .slice A' m d] 47).new (Obj.cells #[.slice none 0 0, .slice none 0 0] 47))
  simpa using this
 have Bz : Bx ((w.alloc (Obj.cells #[.slice A n c, .slice A' m d] 47)).alloc (Obj.cells #[.slice none 0 0, .slice none 0 0] 47)) (w.heap.size + 1) [.slice none 0 0, .slice none 0 0] := by
  have := (Bx.made (w.alloc (Obj.cells #[.slice A n c, .slice A' m d] 47)) #[.slice none 0 0, .slice none 0 0] 47)
  simpa using this
 have on : Onto w ((w.alloc (Obj.cells #[.slice A n c, .slice A' m d] 47)).alloc (Obj.cells #[.slice none 0 0, .slice none 0 0] 47)) := ((Onto.rfl' w).new _).new _
 generalize ((w.alloc (Obj.cells #[.slice A n c, .slice A' m d] 47)).alloc (Obj.cells #[.slice none 0 0, .slice none 0 0] 47)) = w1 at *
 have hz' : w.heap.size ≤ w.heap.size + 1 := by omega
 have hzz : w.heap.size ≠ w.heap.size + 1 := by omega
 generalize w.heap.size + 1 = z at Bz hz' hzz ⊢
 generalize hz2 : w.heap.size = z2 at B2 hzz ⊢
 clear hz2
 have b0 := B2.at_ 0 rfl; have b1 := B2.at_ 1 rfl
 go_wp2_with fail
 refine Calls.mono (DCheck_calls A A' n c m d x _ (E.onto on) (K.onto on)) ?_
 rintro e w2 ⟨rfl, b⟩
 rw [show checkK x = g from HG.out.symm]
 replace on := on.to b; replace B2 := B2.onto b; replace Bz := Bz.onto b
 have hs2 := on.size
 clear b b0 b1
 by_cases hg0 : g = 0
 · have hbd : n + m ≤ 30000 := by rw [K.n_eq, K.m_eq]; exact decB x (by rw [← HG.out, hg0])
   have hn : n ≤ 30000 := by omega
   have hm : m ≤ 30000 := by omega
   have hq := HQ.out
   rw [if_neg (by simp [hg0])] at hq
   replace HQ := Lib.hid hq
   have HG0 := Lib.hid hg0
   subst hg0
   clear hq
   have b0 := B2.at_ 0 rfl; have b1 := B2.at_ 1 rfl
   have hzw : z < w2.heap.size := Bz.lt
   go_wp2_with fail
   refine Calls.mono (ConcatB_calls _ A A' n c m d _ 2 (x.safe.map encB) (x.wait.map encB) (by simp [go_sem]) (by simp [go_sem]) ((K.onto on).safe.new _) ((K.onto on).wait.new _) (encB_one _) (encB_one _) (by omega)) ?_
   rintro e w3 ⟨A1, c1, rfl, own1, b⟩
   have b3 : Onto w2 w3 := Onto.to ((Onto.rfl' w2).new _) b
   replace on := on.to b3; replace Bz := Bz.onto b3
   have o1 : Own w3 w2.heap.size 5 1 (.slice A1 (n + m) c1) (n + m) (x.safe.map encB ++ x.wait.map encB) := own1.lower (by simp)
   clear b b3 own1 b0 b1 B2
   go_upto_region 5 with fail
   have on5 := (Onto.rfl' w3).new (Obj.cells #[.slice A1 (n + m) c1, .slice none 0 0] 47)
   have B5 : Bx (w3.alloc (Obj.cells #[.slice A1 (n + m) c1, .slice none 0 0] 47)) w3.heap.size [.slice A1 (n + m) c1, .slice none 0 0] := Bx.made _ _ _
   replace on := on.to on5; replace Bz := Bz.onto on5; replace o1 := o1.below on5
   clear on5
   generalize (w3.alloc (Obj.cells #[.slice A1 (n + m) c1, .slice none 0 0] 47)) = w5 at *
   generalize w3.heap.size = z5 at *
   have b0 := B5.at_ 0 rfl; have b1 := B5.at_ 1 rfl
   go_wp2_with fail
   refine Calls.mono (DCheck_calls A1 none (n + m) c1 0 0 ⟨x.safe ++ x.wait, []⟩ _ (E.onto on) (DK.one o1)) ?_
   rintro e w6 ⟨rfl, b⟩
   rw [show checkK ⟨x.safe ++ x.wait, []⟩ = h from HH.out.symm]
   replace on := on.to b; replace B5 := B5.onto b; replace Bz := Bz.onto b; replace o1 := o1.below b
   clear b b0 b1
   by_cases hh0 : h = 0
   · have hq := HQ.out
     rw [if_neg (by simp [hh0])] at hq
     subst hq
     subst hh0
     have b0 := B5.at_ 0 rfl; have b1 := B5.at_ 1 rfl
     have HO := Lib.hid o1
     clear o1
     go_wp2_with (refine wpList_put Bz [.slice A1 (n + m) c1, .slice none 0 0] 47 _ _ (by rfl) (by rfl) (by rfl) (by rfl) (by rfl) sizeD (by rfl) ?_)
     have hF := Bz.put (us := [.slice A1 (n + m) c1, .slice none 0 0]) rfl
     have oF := Onto.puts (b := z) (o := 0) (us := [.slice A1 (n + m) c1, .slice none 0 0]) hz' on
     have HOF := Lib.hid (Own.puts (us := [.slice A1 (n + m) c1, .slice none 0 0]) (o := 0) hzw HO.out)
     clear HO
     generalize World.setCells _ z 0 [.slice A1 (n + m) c1, .slice none 0 0] = wF at hF oF HOF ⊢
     go_wp2_with fail
     have p0 := hF.at_ 0 rfl; have p1 := hF.at_ 1 rfl
     refine bodyPost_ret (v := .tuple #[.agg #[.slice A1 (n + m) c1, .slice none 0 0], .int .i64 0]) (by simp [results, Tryz.results124, go_sem, p0, p1]) rfl ⟨A1, n + m, c1, none, 0, 0, rfl, DK.one HOF.out, HOF.out.fresh hs2, Fresh.none_ _, oF⟩
   · have hq := HQ.out
     rw [if_pos hh0] at hq
     subst hq
     have hg1 : (h == 0) = false := by simp [hh0]
     have hg2 : (h != 0) = true := by simp [hh0]
     clear hh0
     go_wp2_with (refine wpList_put Bz [.slice none 0 0, .slice none 0 0] 47 _ _ (by rfl) (by rfl) (by rfl) (by rfl) (by rfl) sizeD (by rfl) ?_)
     have hF := Bz.put (us := [.slice none 0 0, .slice none 0 0]) rfl
     have oF := Onto.puts (b := z) (o := 0) (us := [.slice none 0 0, .slice none 0 0]) hz' on
     generalize World.setCells _ z 0 [.slice none 0 0, .slice none 0 0] = wF at hF oF ⊢
     go_wp2_with fail
     have p0 := hF.at_ 0 rfl; have p1 := hF.at_ 1 rfl
     refine bodyPost_ret (v := .tuple #[.agg #[.slice none 0 0, .slice none 0 0], .int .i64 h]) (by simp [results, Tryz.results124, go_sem, p0, p1]) rfl (DnPost.bad rfl oF)
 · have hq := HQ.out
   rw [if_pos hg0] at hq
   subst hq
   have hg1 : (g == 0) = false := by simp [hg0]
   have hg2 : (g != 0) = true := by simp [hg0]
   clear hg0
   go_wp2_with (refine wpList_put Bz [.slice none 0 0, .slice none 0 0] 47 _ _ (by rfl) (by rfl) (by rfl) (by rfl) (by rfl) sizeD (by rfl) ?_)
   have hF := Bz.put (us := [.slice none 0 0, .slice none 0 0]) rfl
   have oF := Onto.puts (b := z) (o := 0) (us := [.slice none 0 0, .slice none 0 0]) hz' on
   generalize World.setCells _ z 0 [.slice none 0 0, .slice none 0 0] = wF at hF oF ⊢
   go_wp2_with fail
   have p0 := hF.at_ 0 rfl; have p1 := hF.at_ 1 rfl
   refine bodyPost_ret (v := .tuple #[.agg #[.slice none 0 0, .slice none 0 0], .int .i64 g]) (by simp [results, Tryz.results124, go_sem, p0, p1]) rfl (DnPost.bad rfl oF)
end
section
set_option linter.unusedSimpArgs false
set_option linter.unusedVariables false
open Go.RowKit
attribute [local go_sem ↓] Go.wp_at_zero Go.wp_at_succ
set_option maxHeartbeats 8000000 in
set_option maxRecDepth 100000 in
theorem DCrash_calls (A A' : Option Addr) (n c m d : Nat) (x : Dsk) (k : Int) (w : World) (E : Env w) (K : DK w A n c A' m d x) :
    Calls Tryz.prog 132 #[.agg #[.slice A n c, .slice A' m d], .int .i64 k] w (DnPost w (crashK x k)) := by
 obtain ⟨g, hg⟩ : ∃ g, g = checkK x := ⟨_, rfl⟩
 obtain ⟨q, hq⟩ : ∃ q, q = crashK x k := ⟨_, rfl⟩
 rw [← hq]
 unfold crashK at hq
 rw [← hg, ← K.m_eq] at hq
 have HG := Lib.hid hg; have HQ := Lib.hid hq
 clear hg hq
 go_enter Tryz.func132, Tryz.ntmps132
 go_upto_region 1 with fail
 have B2 : Bx ((w.alloc (Obj.cells #[.slice A n c, .slice A' m d] 47)).alloc (Obj.cells #[.slice none 0 0, .slice none 0 0] 47)) w.heap.size [.slice A n c, .slice A' m d] := by
  have := ((Bx.made w #[.slice A n c, .slice A' m d] 47).new (Obj.cells #[.slice none 0 0, .slice none 0 0] 47))
  simpa using this
 have Bz : Bx ((w.alloc (Obj.cells #[.slice A n c, .slice A' m d] 47)).alloc (Obj.cells #[.slice none 0 0, .slice none 0 0] 47)) (w.heap.size + 1) [.slice none 0 0, .slice none 0 0] := by
  have := (Bx.made (w.alloc (Obj.cells #[.slice A n c, .slice A' m d] 47)) #[.slice none 0 0, .slice none 0 0] 47)
  simpa using this
 have on : Onto w ((w.alloc (Obj.cells #[.slice A n c, .slice A' m d] 47)).alloc (Obj.cells #[.slice none 0 0, .slice none 0 0] 47)) := ((Onto.rfl' w).new _).new _
 generalize ((w.alloc (Obj.cells #[.slice A n c, .slice A' m d] 47)).alloc (Obj.cells #[.slice none 0 0, .slice none 0 0] 47)) = w1 at *
 have hz' : w.heap.size ≤ w.heap.size + 1 := by omega
 have hzz : w.heap.size ≠ w.heap.size + 1 := by omega
 generalize w.heap.size + 1 = z at Bz hz' hzz ⊢
 generalize hz2 : w.heap.size = z2 at B2 hzz ⊢
 clear hz2
 have b0 := B2.at_ 0 rfl; have b1 := B2.at_ 1 rfl
 go_wp2_with fail
 refine Calls.mono (DCheck_calls A A' n c m d x _ (E.onto on) (K.onto on)) ?_
 rintro e w2 ⟨rfl, b⟩
 rw [show checkK x = g from HG.out.symm]
 replace on := on.to b; replace B2 := B2.onto b; replace Bz := Bz.onto b
 have hs2 := on.size
 clear b b0 b1
 by_cases hg0 : g = 0
 · have hbd : n + m ≤ 30000 := by rw [K.n_eq, K.m_eq]; exact decB x (by rw [← HG.out, hg0])
   have hn : n ≤ 30000 := by omega
   have hm : m ≤ 30000 := by omega
   have hq := HQ.out
   rw [if_neg (by simp [hg0])] at hq
   replace HQ := Lib.hid hq
   have HG0 := Lib.hid hg0
   subst hg0
   clear hq
   have b0 := B2.at_ 0 rfl; have b1 := B2.at_ 1 rfl
   have hmd : m ≤ d := K.m_le
   have hdm : d ≤ 9223372036854775807 := by have := K.d_le; unfold maxLen at this; omega
   by_cases hk0 : k < 0
   · have hq := HQ.out
     rw [if_pos (.inl hk0)] at hq
     subst hq
     go_wp2_with (refine wpList_put Bz [.slice none 0 0, .slice none 0 0] 47 _ _ (by rfl) (by rfl) (by rfl) (by rfl) (by rfl) sizeD (by rfl) ?_)
     have hF := Bz.put (us := [.slice none 0 0, .slice none 0 0]) rfl
     have oF := Onto.puts (b := z) (o := 0) (us := [.slice none 0 0, .slice none 0 0]) hz' on
     generalize World.setCells _ z 0 [.slice none 0 0, .slice none 0 0] = wF at hF oF ⊢
     go_wp2_with fail
     have p0 := hF.at_ 0 rfl; have p1 := hF.at_ 1 rfl
     refine bodyPost_ret (v := .tuple #[.agg #[.slice none 0 0, .slice none 0 0], .int .i64 3]) (by simp [results, Tryz.results132, go_sem, p0, p1]) rfl (DnPost.bad rfl oF)
   · by_cases hk1 : (m : Int) < k
     · have hq := HQ.out
       rw [if_pos (.inr hk1)] at hq
       subst hq
       go_wp2_with (refine wpList_put Bz [.slice none 0 0, .slice none 0 0] 47 _ _ (by rfl) (by rfl) (by rfl) (by rfl) (by rfl) sizeD (by rfl) ?_)
       have hF := Bz.put (us := [.slice none 0 0, .slice none 0 0]) rfl
       have oF := Onto.puts (b := z) (o := 0) (us := [.slice none 0 0, .slice none 0 0]) hz' on
       generalize World.setCells _ z 0 [.slice none 0 0, .slice none 0 0] = wF at hF oF ⊢
       go_wp2_with fail
       have p0 := hF.at_ 0 rfl; have p1 := hF.at_ 1 rfl
       refine bodyPost_ret (v := .tuple #[.agg #[.slice none 0 0, .slice none 0 0], .int .i64 3]) (by simp [results, Tryz.results132, go_sem, p0, p1]) rfl (DnPost.bad rfl oF)
     · have hq := HQ.out
       rw [if_neg (by omega)] at hq
       subst hq
       obtain ⟨j, rfl⟩ : ∃ j : Nat, k = (j : Int) := ⟨k.toNat, by omega⟩
       have hj : j ≤ m := by omega
       have i0 : (0 : Int) ≤ (j : Int) := by omega
       have i1 : (j : Int) ≤ (d : Int) := by omega
       have i2 : ¬ (m : Int) < (j : Int) := hk1
       have i3 : ¬ (j : Int) < 0 := hk0
       clear hk0 hk1
       go_upto_region 6 with fail
       have K3 := K.onto on
       have hsj : S w2 1 A' j ((x.wait.take j).map encB) := by rw [List.map_take]; exact Sl.take K3.wait hj
       have LV := Live.start w2 2
       have zb0 := Bz.at_ 0 rfl; have zb1 := Bz.at_ 1 rfl
       go_region_held3 (fun w' => w'.cell? ⟨z2, 0, none⟩ = some (.slice A n c) ∧ w'.cell? ⟨z2, 1, none⟩ = some (.slice A' m d))
        (first | exact ⟨cellB (Live.on (by with_reducible (first | exact LV | exact LV.draw))) b0, cellB (Live.on (by with_reducible (first | exact LV | exact LV.draw))) b1⟩ | exact ⟨(((B2.onto (Live.on (by with_reducible (first | exact LV | exact LV.draw)))).off1 (p := ⟨z, 0, none⟩) hzz _).off1 (p := ⟨z, 1, none⟩) hzz _).at_ 0 rfl, (((B2.onto (Live.on (by with_reducible (first | exact LV | exact LV.draw)))).off1 (p := ⟨z, 0, none⟩) hzz _).off1 (p := ⟨z, 1, none⟩) hzz _).at_ 1 rfl⟩ | fail)
        (first
         | (go_at_call 82; refine Calls.mono (CloneB_live (by with_reducible (first | exact LV | exact LV.draw)) 0 (by simp) A n c x.safe K3.safe (by omega)) ?_; rintro e w6 ⟨A1, c1, rfl, LV⟩; have Z := Bz.onto LV.on; have p0 := Z.at_ 0 rfl; have p1 := Z.at_ 1 rfl; have f0 := Z.froz 0; have f1 := Z.froz 1; clear Z)
         | (go_at_call 82; refine Calls.mono (CloneB_live (by with_reducible (first | exact LV | exact LV.draw)) 1 (by simp) A' j d (x.wait.take j) hsj (by omega)) ?_; rintro e w7 ⟨A2, c2, rfl, LV⟩; have Z := Bz.onto LV.on; have p0 := Z.at_ 0 rfl; have p1 := Z.at_ 1 rfl; have f0 := Z.froz 0; have f1 := Z.froz 1; clear Z)
         | fail)
       all_goals
        have hz3 : z < w2.heap.size := Bz.lt
        have o1 : Own _ w2.heap.size 5 1 (.slice A1 n c1) n (x.safe.map encB) := LV.own 0 _ rfl
        have o2 : Own _ w2.heap.size 5 1 (.slice A2 j c2) j ((x.wait.take j).map encB) := LV.own 1 _ rfl
        have on9 := on.to LV.on
        have HO1 := Lib.hid o1; have HO2 := Lib.hid o2; have HON := Lib.hid on9
        clear o1 o2 on9 LV
        go_wp2_with fail
        refine bodyPost_ret (v := .tuple #[.agg #[.slice A1 n c1, .slice A2 j c2], .int .i64 0]) (by simp [results, Tryz.results132, go_sem, p0, p1]) rfl ⟨A1, n, c1, A2, j, c2, rfl, ⟨((HO1.out.setCell (p := ⟨z, 0, none⟩) hz3 _).setCell (p := ⟨z, 1, none⟩) hz3 _).sl, ?_, HO1.out.le_cap, HO1.out.cap_max, HO2.out.le_cap, HO2.out.cap_max⟩, HO1.out.fresh hs2, HO2.out.fresh hs2, (HON.out.put hz' _).put hz' _⟩
        rw [Int.toNat_natCast]
        exact ((HO2.out.setCell (p := ⟨z, 0, none⟩) hz3 _).setCell (p := ⟨z, 1, none⟩) hz3 _).sl
 · have hq := HQ.out
   rw [if_pos hg0] at hq
   subst hq
   have hg1 : (g == 0) = false := by simp [hg0]
   have hg2 : (g != 0) = true := by simp [hg0]
   clear hg0
   go_wp2_with (refine wpList_put Bz [.slice none 0 0, .slice none 0 0] 47 _ _ (by rfl) (by rfl) (by rfl) (by rfl) (by rfl) sizeD (by rfl) ?_)
   have hF := Bz.put (us := [.slice none 0 0, .slice none 0 0]) rfl
   have oF := Onto.puts (b := z) (o := 0) (us := [.slice none 0 0, .slice none 0 0]) hz' on
   generalize World.setCells _ z 0 [.slice none 0 0, .slice none 0 0] = wF at hF oF ⊢
   go_wp2_with fail
   have p0 := hF.at_ 0 rfl; have p1 := hF.at_ 1 rfl
   refine bodyPost_ret (v := .tuple #[.agg #[.slice none 0 0, .slice none 0 0], .int .i64 g]) (by simp [results, Tryz.results132, go_sem, p0, p1]) rfl (DnPost.bad rfl oF)
end
section
set_option linter.unusedSimpArgs false
set_option linter.unusedVariables false
open Go.RowKit
attribute [local go_sem ↓] Go.wp_at_zero Go.wp_at_succ
theorem Live.litP {w0 w : World} {L : List (Option Ent)} (h : Live w0 w L) {i : Nat} (hi : i < L.length) {A A' : Option Addr} {n c m d : Nat} : Live w0 (w.alloc (.cells #[.slice A n c, .slice A' m d] 45)) (L.set i (some ⟨.slice (some ⟨w.heap.size, 0, none⟩) 2 2, 45, 1, 2, [[.slice A n c], [.slice A' m d]]⟩)) :=
 h.lit hi _ _ _ _ _ (by simp) rfl (by simp) (by simp [maxLen])
theorem ConcatB_live {w0 w : World} {L : List (Option Ent)} (LV : Live w0 w L) (i p : Nat) (hi : i < L.length) (A A' : Option Addr) (n c m d : Nat) (Z E : Nat) (l l' : List UInt8) (h : S w0 1 A n (l.map encB)) (h' : S w0 1 A' m (l'.map encB)) (hn : n + m ≤ 140737488355328)
    (hp : L[p]? = some (some ⟨.slice (some ⟨Z, 0, none⟩) 2 2, E, 1, 2, [[.slice A n c], [.slice A' m d]]⟩)) :
    Calls Tryz.prog 113 #[.slice (some ⟨Z, 0, none⟩) 2 2] w fun e w' => ∃ A1 c1, e = .returned (.slice A1 (n + m) c1) ∧ Live w0 w' (L.set i (some ⟨.slice A1 (n + m) c1, 5, 1, n + m, l.map encB ++ l'.map encB⟩)) := by
 obtain ⟨b, off, e, _, hc⟩ := (Live.sl LV hp).2.2 (by omega)
 injection e with e
 injection e with e1 e2 _
 subst e1; subst e2
 refine Calls.mono (ConcatB_calls w A A' n c m d Z 2 (l.map encB) (l'.map encB) (by simpa using hc 0 0 _ _ rfl rfl) (by simpa using hc 1 0 _ _ rfl rfl) (h.onto LV.on) (h'.onto LV.on) (encB_one _) (encB_one _) (by omega)) ?_
 rintro e w' ⟨A1, c1, rfl, ho, hb⟩
 exact ⟨A1, c1, rfl, LV.add hi ho hb⟩
def RvPost (w : World) (q : Dsk × List Rec × Int) (e : Ending) (w' : World) : Prop := ∃ F k i F' l j B b y, e = .returned (.tuple #[.agg #[.slice F k i, .slice F' l j], .slice B b y, .int .i64 q.2.2]) ∧ DK w' F k i F' l j q.1 ∧ S w' 8 B b (q.2.1.map encQ) ∧ b ≤ y ∧ y ≤ maxLen ∧ Fresh w.heap.size F ∧ Fresh w.heap.size F' ∧ Fresh w.heap.size B ∧ Onto w w'
theorem RvPost.bad {w w' : World} {q : Int} {v : Value} (h : v = .tuple #[.agg #[.slice none 0 0, .slice none 0 0], .slice none 0 0, .int .i64 q]) (on : Onto w w') : RvPost w (noK, [], q) (.returned v) w' := ⟨none, 0, 0, none, 0, 0, none, 0, 0, by rw [h], DK.none_ _, Sl.nil, by omega, by simp [maxLen], Fresh.none_ _, Fresh.none_ _, Fresh.none_ _, on⟩
set_option maxHeartbeats 8000000 in
set_option maxRecDepth 100000 in
theorem DRecover_calls (A A' : Option Addr) (n c m d : Nat) (x : Dsk) (w : World) (E : Env w) (K : DK w A n c A' m d x) :
    Calls Tryz.prog 91 #[.agg #[.slice A n c, .slice A' m d]] w (RvPost w (recoverK x)) := by
 obtain ⟨g, hg⟩ : ∃ g, g = checkK x := ⟨_, rfl⟩
 obtain ⟨q, hq⟩ : ∃ q, q = recoverK x := ⟨_, rfl⟩
 rw [← hq]
 unfold recoverK at hq
 rw [← hg] at hq
 have HG := Lib.hid hg; have HQ := Lib.hid hq
 clear hg hq
 go_enter Tryz.func91, Tryz.ntmps91
 go_upto_region 1 with fail
 have B2 : Bx ((w.alloc (Obj.cells #[.slice A n c, .slice A' m d] 47)).alloc (Obj.cells #[.slice none 0 0, .slice none 0 0] 47)) w.heap.size [.slice A n c, .slice A' m d] := by
  have := ((Bx.made w #[.slice A n c, .slice A' m d] 47).new (Obj.cells #[.slice none 0 0, .slice none 0 0] 47))
  simpa using this
 have Bz : Bx ((w.alloc (Obj.cells #[.slice A n c, .slice A' m d] 47)).alloc (Obj.cells #[.slice none 0 0, .slice none 0 0] 47)) (w.heap.size + 1) [.slice none 0 0, .slice none 0 0] := by
  have := (Bx.made (w.alloc (Obj.cells #[.slice A n c, .slice A' m d] 47)) #[.slice none 0 0, .slice none 0 0] 47)
  simpa using this
 have on : Onto w ((w.alloc (Obj.cells #[.slice A n c, .slice A' m d] 47)).alloc (Obj.cells #[.slice none 0 0, .slice none 0 0] 47)) := ((Onto.rfl' w).new _).new _
 generalize ((w.alloc (Obj.cells #[.slice A n c, .slice A' m d] 47)).alloc (Obj.cells #[.slice none 0 0, .slice none 0 0] 47)) = w1 at *
 have hz' : w.heap.size ≤ w.heap.size + 1 := by omega
 have hzz : w.heap.size ≠ w.heap.size + 1 := by omega
 generalize w.heap.size + 1 = z at Bz hz' hzz ⊢
 generalize hz2 : w.heap.size = z2 at B2 hzz ⊢
 clear hz2
 have b0 := B2.at_ 0 rfl; have b1 := B2.at_ 1 rfl
 go_wp2_with fail
 refine Calls.mono (DCheck_calls A A' n c m d x _ (E.onto on) (K.onto on)) ?_
 rintro e w2 ⟨rfl, b⟩
 rw [show checkK x = g from HG.out.symm]
 replace on := on.to b; replace B2 := B2.onto b; replace Bz := Bz.onto b
 have hs2 := on.size
 clear b b0 b1
 by_cases hg0 : g = 0
 · have hbd : n + m ≤ 30000 := by rw [K.n_eq, K.m_eq]; exact decB x (by rw [← HG.out, hg0])
   have hn : n ≤ 30000 := by omega
   have hm : m ≤ 30000 := by omega
   have hq := HQ.out
   rw [if_neg (by simp [hg0])] at hq
   replace HQ := Lib.hid hq
   have HG0 := Lib.hid hg0
   subst hg0
   clear hq
   have hq := HQ.out
   have hmd : m ≤ d := K.m_le
   have hdm : d ≤ 9223372036854775807 := by have := K.d_le; unfold maxLen at this; omega
   have E2 := E.onto on; have K2 := K.onto on
   have b0 := B2.at_ 0 rfl; have b1 := B2.at_ 1 rfl
   have cv := conv_bytes (c := c) K2.safe
   have hsl : x.safe.length ≤ 60000 := by rw [← K.n_eq]; omega
   have hwl : x.wait.length ≤ 60000 := by rw [← K.m_eq]; omega
   obtain ⟨l, hl⟩ : ∃ l, l = (linesK x.safe 160).1 := ⟨_, rfl⟩
   have hl1 : l.length ≤ 160 := by rw [hl]; exact (linesK_read x.safe 160).2.1
   have HL := Lib.hid hl
   unfold backK recsK at hq
   rw [← hl] at hq
   replace HQ := Lib.hid hq
   clear hl hq
   go_wp2_with fail
   refine Calls.mono (Lines_calls x.safe 160 hsl (by omega) _ E2) ?_
   rintro e w3 ⟨A1, n1, c1, rfl, own1, b⟩
   rw [show (linesK x.safe 160).1 = l from HL.out.symm] at own1
   have hn1 : n1 = l.length := by have := own1.2.1; simpa using this.symm
   subst hn1
   obtain ⟨most, hmost⟩ : ∃ most : Nat, most = 160 - l.length := ⟨_, rfl⟩
   have hmi : (160 : Int) - (l.length : Int) = (most : Int) := by omega
   have hq := HQ.out
   rw [← hmost] at hq
   obtain ⟨k, hk⟩ : ∃ k, k = (linesK x.wait most).1 := ⟨_, rfl⟩
   obtain ⟨j, hj⟩ : ∃ j, j = (linesK x.wait most).2.1 := ⟨_, rfl⟩
   have hj1 : j ≤ m := by
    obtain ⟨_, _, h3, h4, _⟩ := linesK_read x.wait most
    have h5 := congrArg List.length h4
    rw [← h3, ← hj, List.length_take] at h5
    rw [K.m_eq]; omega
   have hk1 : l.length + k.length ≤ 160 := by have := (linesK_read x.wait most).2.1; rw [← hk] at this; omega
   rw [← hk, ← hj] at hq
   have HQ2 := Lib.hid hq; have HK := Lib.hid hk; have HJ := Lib.hid hj
   have LV0 := (Live.start w2 4).add (i := 0) (by simp) own1 b
   have LVH := Lib.hid LV0
   have HB := Lib.hid b
   have hm160 : most ≤ 160 := by omega
   clear hq hk hj HQ own1 b0 b1 cv LV0 hmost
   have b0 := cellB b (B2.at_ 0 rfl); have b1 := cellB b (B2.at_ 1 rfl)
   have cv := conv_bytes (c := d) (K2.wait.onto b)
   have E3 := E2.onto b
   clear b
   go_wp2_with fail
   refine Calls.mono (Lines_calls x.wait most hwl (by omega) _ E3) ?_
   rintro e w4 ⟨A2, n2, c2, rfl, own2, b⟩
   rw [show (linesK x.wait most).1 = k from HK.out.symm] at own2
   rw [show (linesK x.wait most).2.1 = j from HJ.out.symm]
   have hn2 : n2 = k.length := by have := own2.2.1; simpa using this.symm
   subst hn2
   have LV := LVH.out.add (i := 3) (by simp) own2 b
   clear b0 b1 cv E3 own2 b HB LVH
   have i0 : (0 : Int) ≤ (j : Int) := by omega
   have i1 : (j : Int) ≤ (d : Int) := by omega
   go_upto_region 6 with fail
   have hsj : S w2 1 A' j ((x.wait.take j).map encB) := by rw [List.map_take]; exact Sl.take K2.wait hj1
   have b0 := B2.at_ 0 rfl; have b1 := B2.at_ 1 rfl
   have B4 := Bz.onto LV.on
   have zb0 := B4.at_ 0 rfl; have zb1 := B4.at_ 1 rfl
   clear B4
   go_region_held3 (fun w' => w'.cell? ⟨z2, 0, none⟩ = some (.slice A n c) ∧ w'.cell? ⟨z2, 1, none⟩ = some (.slice A' m d))
    (first | exact ⟨cellB (Live.on (by with_reducible (first | exact LV | exact LV.draw | exact LV.litP (i := 1) (by simp) | exact LV.draw.litP (i := 1) (by simp) | exact (LV.litP (i := 1) (by simp)).draw))) b0, cellB (Live.on (by with_reducible (first | exact LV | exact LV.draw | exact LV.litP (i := 1) (by simp) | exact LV.draw.litP (i := 1) (by simp) | exact (LV.litP (i := 1) (by simp)).draw))) b1⟩ | exact ⟨(((B2.onto (Live.on (by with_reducible (first | exact LV | exact LV.draw | exact LV.litP (i := 1) (by simp) | exact LV.draw.litP (i := 1) (by simp) | exact (LV.litP (i := 1) (by simp)).draw)))).off1 (p := ⟨z, 0, none⟩) hzz _).off1 (p := ⟨z, 1, none⟩) hzz _).at_ 0 rfl, (((B2.onto (Live.on (by with_reducible (first | exact LV | exact LV.draw | exact LV.litP (i := 1) (by simp) | exact LV.draw.litP (i := 1) (by simp) | exact (LV.litP (i := 1) (by simp)).draw)))).off1 (p := ⟨z, 0, none⟩) hzz _).off1 (p := ⟨z, 1, none⟩) hzz _).at_ 1 rfl⟩ | fail)
    (first
     | (go_at_call 113; refine Calls.mono (ConcatB_live (by with_reducible (first | exact LV | exact LV.draw | exact LV.litP (i := 1) (by simp) | exact LV.draw.litP (i := 1) (by simp) | exact (LV.litP (i := 1) (by simp)).draw)) 2 1 (by simp) A A' n c j d _ _ x.safe (x.wait.take j) K2.safe hsj (by omega) (by rfl)) ?_; rintro e w6 ⟨A3, c3, rfl, LV⟩; have Z := Bz.onto LV.on; have p0 := Z.at_ 0 rfl; have p1 := Z.at_ 1 rfl; have f0 := Z.froz 0; have f1 := Z.froz 1; clear Z)
     | (refine step_app_sl_live (by with_reducible (first | exact LV | exact LV.draw | exact LV.litP (i := 1) (by simp) | exact LV.draw.litP (i := 1) (by simp) | exact (LV.litP (i := 1) (by simp)).draw)) (by rfl) _ _ 139 (by rfl) 160 8 64 _ infoQ Tryz.underlying139 rfl (by omega) 0 (.slice A1 l.length c1) l.length (l.map encQ) (by rfl) (by rfl) A2 k.length c2 (k.map encQ) (by rfl) (Live.sl (i := 3) (by with_reducible (first | exact LV | exact LV.draw | exact LV.litP (i := 1) (by simp) | exact LV.draw.litP (i := 1) (by simp) | exact (LV.litP (i := 1) (by simp)).draw)) (by rfl)) (encQ_one _) (by unfold maxLen; omega) (by omega) ?_; intro A5 c5 w9 LV; have Z := Bz.onto LV.on; have p0 := Z.at_ 0 rfl; have p1 := Z.at_ 1 rfl; have f0 := Z.froz 0; have f1 := Z.froz 1; clear Z)
     | fail)
   all_goals
    have hz3 : z < w2.heap.size := Bz.lt
    have o1 : Own _ w2.heap.size 5 1 (.slice A3 (n + j) c3) (n + j) (x.safe.map encB ++ (x.wait.take j).map encB) := LV.own 2 _ rfl
    have o2 : Own _ w2.heap.size 160 8 (.slice A5 (l.length + k.length) c5) (l.length + k.length) (l.map encQ ++ k.map encQ) := LV.own 0 _ rfl
    have on9 := on.to LV.on
    have HO1 := Lib.hid o1; have HO2 := Lib.hid o2; have HON := Lib.hid on9
    have hq := HQ2.out
    subst hq
    clear o1 o2 on9 LV
    go_wp2_with fail
    refine bodyPost_ret (v := .tuple #[.agg #[.slice A3 (n + j) c3, .slice none 0 0], .slice A5 (l.length + k.length) c5, .int .i64 0]) (by simp [results, Tryz.results91, go_sem, p0, p1]) rfl ⟨A3, n + j, c3, none, 0, 0, A5, l.length + k.length, c5, rfl, DK.one ((HO1.out.setCell (p := ⟨z, 0, none⟩) hz3 _).setCell (p := ⟨z, 1, none⟩) hz3 _), ?_, HO2.out.le_cap, HO2.out.cap_max, HO1.out.fresh hs2, Fresh.none_ _, HO2.out.fresh hs2, (HON.out.put hz' _).put hz' _⟩
    rw [List.map_append]
    exact ((HO2.out.setCell (p := ⟨z, 0, none⟩) hz3 _).setCell (p := ⟨z, 1, none⟩) hz3 _).sl
 · have hq := HQ.out
   rw [if_pos hg0] at hq
   subst hq
   have hg1 : (g == 0) = false := by simp [hg0]
   have hg2 : (g != 0) = true := by simp [hg0]
   clear hg0
   go_wp2_with (refine wpList_put Bz [.slice none 0 0, .slice none 0 0] 47 _ _ (by rfl) (by rfl) (by rfl) (by rfl) (by rfl) sizeD (by rfl) ?_)
   have hF := Bz.put (us := [.slice none 0 0, .slice none 0 0]) rfl
   have oF := Onto.puts (b := z) (o := 0) (us := [.slice none 0 0, .slice none 0 0]) hz' on
   generalize World.setCells _ z 0 [.slice none 0 0, .slice none 0 0] = wF at hF oF ⊢
   go_wp2_with fail
   have p0 := hF.at_ 0 rfl; have p1 := hF.at_ 1 rfl
   refine bodyPost_ret (v := .tuple #[.agg #[.slice none 0 0, .slice none 0 0], .slice none 0 0, .int .i64 g]) (by simp [results, Tryz.results91, go_sem, p0, p1]) rfl (RvPost.bad rfl oF)
end
end Go.Proofs.YtmppkaoonncddaaGreatDoor
