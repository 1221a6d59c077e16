/- Part 8 of the proof: RowsW, RowsHN, Err, ReadU, ReadD, ReadB, ReadCl, WMem, WRead, LaidW. -/
import Derived.Test.YtmppkaoonncddaaGreatDoorProg
import Derived.Test.YtmppkaoonncddaaGreatDoorBa02
import Derived.Lib.AppendZerosOnto
import Derived.Lib.SliceRun
import Derived.Test.YtmppkaoonncddaaGreatDoorBa05
import Derived.Test.YtmppkaoonncddaaGreatDoorBa04
import Derived.Test.YtmppkaoonncddaaGreatDoorBa01
import Derived.Test.YtmppkaoonncddaaGreatDoorBa06
import Derived.Test.YtmppkaoonncddaaGreatDoorBa03
import Derived.Test.YtmppkaoonncddaaGreatDoorRows
import Derived.Test.YtmppkaoonncddaaGreatDoorShelf
import Derived.Stop.LaidErr
import Derived.Stop.Joined
import Derived.Handed
import Derived.Lay
import Derived.SizedLaws
namespace Go.Proofs.YtmppkaoonncddaaGreatDoor
section
set_option linter.unusedSimpArgs false
set_option linter.unusedVariables false
open Go.RowKit
theorem rinfoD : (Tryz.prog.info? 49).map (fun i => (i.zero, i.size, i.bytes)) = some (some (.agg #[.int .i64 0, .slice none 0 0, .slice none 0 0, .slice none 0 0, .bool false]), 5, 88) := by kernel_rfl
set_option maxHeartbeats 1000000 in
theorem CloneD_calls (w : World) (A : Option Addr) (n c B : Nat) (hB : B ≤ w.heap.size) (rows : List (List Value)) (h : Sl w B 5 A n rows) (h1 : ∀ r ∈ rows, ∀ u ∈ r, u.oneCell' = true) (hn : n * 88 ≤ 140737488355328) :
    Calls Tryz.prog 79 #[.slice A n c] w fun e w' => ∃ A' c', e = .returned (.slice A' n c') ∧ Own w' w.heap.size 49 5 (.slice A' n c') n rows ∧ Onto w w' := by
 obtain ⟨i0, hi0, hz0, hz1, hz2⟩ := info_parts rinfoD
 have hnm : n ≤ maxLen := by unfold maxLen; omega
 cases A with
 | none =>
   have h0 : n = 0 := by
    rcases Nat.eq_zero_or_pos n with h0 | h0
    · exact h0
    · obtain ⟨b, off, e, _⟩ := h.2.2 h0
      cases e
   subst h0
   have hr : rows = [] := List.eq_nil_of_length_eq_zero h.1
   subst hr
   clear h h1 hi0 hz0 hz1 hz2 hnm hn
   have hs : ∀ w, (binOp .eql 22 (.slice none 0 c) (.slice none 0 0)).run Tryz.prog w = .ok (.bool true) w := fun w => by kernel_rfl
   go_enter Tryz.func79, Tryz.ntmps79
   go_wp2
   go_ret
   exact ⟨none, 0, rfl, Own.nil _ _ _ _, Below.refl _ _⟩
 | some a =>
   have hs : ∀ w, (binOp .eql 22 (.slice (some a) n c) (.slice none 0 0)).run Tryz.prog w = .ok (.bool false) w := fun w => by kernel_rfl
   have HN := Lib.hid hn; have HM := Lib.hid hnm; have H1 := Lib.hid h1; have H := Lib.hid h; clear hn hnm h1 h
   have HI := Lib.hid hi0; have HZ0 := Lib.hid hz0; have HZ1 := Lib.hid hz1; have HZ2 := Lib.hid hz2; clear hi0 hz0 hz1 hz2
   go_enter Tryz.func79, Tryz.ntmps79
   go_wp2_with (at_builtin; refine wpList_append_sl _ rfl _ _ 22 rfl w.heap.size 49 i0 _ 5 88 Tryz.underlying22 HI.out HZ0.out HZ1.out HZ2.out rfl (by decide) _ 0 [] rfl ?c1 B (some a) n c rows rfl ?c2 H1.out ?c3 ?c4 ?c5 ?_)
   case c1 => exact ⟨World.ownsRow_made _ _ _ (Nat.le_refl _) (by simp [maxLen]) (by simp), rfl, by simp⟩
   case c2 => exact H.out.keep fun p hp => World.cell?_alloc_lt w _ p (by omega)
   case c3 => rw [Nat.zero_add]; exact HM.out
   case c4 => rw [Nat.zero_add]; exact HN.out
   case c5 => simp
   intro v' w' hown hgrow hblk
   obtain ⟨A', c', rfl, _, _⟩ := hown.slice
   go_wp2
   go_ret
   refine ⟨A', c', rfl, hown, ?_⟩
   exact ((Below.refl _ _).alloc (Nat.le_refl _) _).grown hgrow (by simp) (by simp [Value.ownBlock])
theorem rinfoC : (Tryz.prog.info? 41).map (fun i => (i.zero, i.size, i.bytes)) = some (some (.agg #[.int .i64 0, .int .i64 0, .int .i64 0, .int .i64 0, .int .i64 0, .int .i64 0, .int .i64 0, .int .i64 0, .int .i64 0, .int .i64 0, .slice none 0 0, .slice none 0 0]), 12, 128) := by kernel_rfl
set_option maxHeartbeats 1000000 in
theorem CloneC_calls (w : World) (A : Option Addr) (n c B : Nat) (hB : B ≤ w.heap.size) (rows : List (List Value)) (h : Sl w B 12 A n rows) (h1 : ∀ r ∈ rows, ∀ u ∈ r, u.oneCell' = true) (hn : n * 128 ≤ 140737488355328) :
    Calls Tryz.prog 80 #[.slice A n c] w fun e w' => ∃ A' c', e = .returned (.slice A' n c') ∧ Own w' w.heap.size 41 12 (.slice A' n c') n rows ∧ Onto w w' := by
 obtain ⟨i0, hi0, hz0, hz1, hz2⟩ := info_parts rinfoC
 have hnm : n ≤ maxLen := by unfold maxLen; omega
 cases A with
 | none =>
   have h0 : n = 0 := by
    rcases Nat.eq_zero_or_pos n with h0 | h0
    · exact h0
    · obtain ⟨b, off, e, _⟩ := h.2.2 h0
      cases e
   subst h0
   have hr : rows = [] := List.eq_nil_of_length_eq_zero h.1
   subst hr
   clear h h1 hi0 hz0 hz1 hz2 hnm hn
   have hs : ∀ w, (binOp .eql 23 (.slice none 0 c) (.slice none 0 0)).run Tryz.prog w = .ok (.bool true) w := fun w => by kernel_rfl
   go_enter Tryz.func80, Tryz.ntmps80
   go_wp2
   go_ret
   exact ⟨none, 0, rfl, Own.nil _ _ _ _, Below.refl _ _⟩
 | some a =>
   have hs : ∀ w, (binOp .eql 23 (.slice (some a) n c) (.slice none 0 0)).run Tryz.prog w = .ok (.bool false) w := fun w => by kernel_rfl
   have HN := Lib.hid hn; have HM := Lib.hid hnm; have H1 := Lib.hid h1; have H := Lib.hid h; clear hn hnm h1 h
   have HI := Lib.hid hi0; have HZ0 := Lib.hid hz0; have HZ1 := Lib.hid hz1; have HZ2 := Lib.hid hz2; clear hi0 hz0 hz1 hz2
   go_enter Tryz.func80, Tryz.ntmps80
   go_wp2_with (at_builtin; refine wpList_append_sl _ rfl _ _ 23 rfl w.heap.size 41 i0 _ 12 128 Tryz.underlying23 HI.out HZ0.out HZ1.out HZ2.out rfl (by decide) _ 0 [] rfl ?c1 B (some a) n c rows rfl ?c2 H1.out ?c3 ?c4 ?c5 ?_)
   case c1 => exact ⟨World.ownsRow_made _ _ _ (Nat.le_refl _) (by simp [maxLen]) (by simp), rfl, by simp⟩
   case c2 => exact H.out.keep fun p hp => World.cell?_alloc_lt w _ p (by omega)
   case c3 => rw [Nat.zero_add]; exact HM.out
   case c4 => rw [Nat.zero_add]; exact HN.out
   case c5 => simp
   intro v' w' hown hgrow hblk
   obtain ⟨A', c', rfl, _, _⟩ := hown.slice
   go_wp2
   go_ret
   refine ⟨A', c', rfl, hown, ?_⟩
   exact ((Below.refl _ _).alloc (Nat.le_refl _) _).grown hgrow (by simp) (by simp [Value.ownBlock])
end
section
set_option linter.unusedSimpArgs false
set_option linter.unusedVariables false
open Go.RowKit
structure Pt where
 A : Option Addr
 n : Nat
 c : Nat
 rows : List (List Value)
def lenP (l : List Pt) : Nat := (l.map Pt.n).sum
def rowsP (l : List Pt) : List (List Value) := (l.map Pt.rows).flatten
theorem lenP_append (a b : List Pt) : lenP (a ++ b) = lenP a + lenP b := by simp [lenP]
theorem lenP_succ {l : List Pt} {i : Nat} {p : Pt} (h : l[i]? = some p) : lenP (l.take (i + 1)) = lenP (l.take i) + p.n := by
 obtain ⟨hi, rfl⟩ := List.getElem?_eq_some_iff.1 h
 rw [List.take_succ_eq_append_getElem hi, lenP_append]
 simp [lenP]
theorem rowsP_succ {l : List Pt} {i : Nat} {p : Pt} (h : l[i]? = some p) : rowsP (l.take (i + 1)) = rowsP (l.take i) ++ p.rows := by
 obtain ⟨hi, rfl⟩ := List.getElem?_eq_some_iff.1 h
 rw [List.take_succ_eq_append_getElem hi]
 unfold rowsP
 rw [List.map_append, List.flatten_append]
 simp
theorem lenP_le (l : List Pt) (i : Nat) : lenP (l.take i) ≤ lenP l := by
 have h := lenP_append (l.take i) (l.drop i)
 rw [List.take_append_drop] at h
 omega
theorem rinfoN : (Tryz.prog.info? 30).map (fun i => (i.zero, i.size, i.bytes)) = some (some (.int .i64 0), 1, 8) := by kernel_rfl
theorem zerosN (n : Nat) : (Builtin.zeroCells ((.int .i64 0 : Value)).cells n).size = n * 1 := by simp [Builtin.zeroCells, Value.cells]
set_option maxHeartbeats 2000000 in
theorem GrowN_calls (w : World) (n : Nat) (hn : n * 8 ≤ 140737488355328) :
    Calls Tryz.prog 60 #[.slice none 0 0, .int .i64 n] w fun e w' => ∃ A' c', e = .returned (.slice A' 0 c') ∧ Own w' w.heap.size 30 1 (.slice A' 0 c') 0 [] ∧ Onto w w' := by
 obtain ⟨i0, hi0, hz0, hz1, hz2⟩ := info_parts rinfoN
 have h1 : ¬ ((n : Int) < 0) := by omega
 have h3 : wrap64 ((n : Int) - 0) = (n : Int) := by unfold wrap64; omega
 rcases Nat.eq_zero_or_pos n with hn0 | hn0
 · subst hn0
   clear hi0 hz0 hz1 hz2 hn
   go_enter Tryz.func60, Tryz.ntmps60
   go_wp2
   go_ret
   exact ⟨none, 0, rfl, Own.nil _ _ _ _, Below.refl _ _⟩
 · have hd : (0 : Int) < (n : Int) := by omega
   have hgc : n ≤ grownCap w n 0 30 := grownCap_ge w _ _ _
   have hgm : grownCap w n 0 30 ≤ maxLen := grownCap_le_maxLen w n 0 30 (by unfold maxLen; omega)
   have hrz : ∀ ty, (Builtin.append_ #[54, 3] ty #[.slice none 0 0, .int .i64 (n : Int)]).run Tryz.prog w =
       .ok (.slice (some ⟨w.heap.size, 0, none⟩) n (grownCap w n 0 30)) (w.drew.alloc (.cells (#[] ++ Builtin.zeroCells ((.int .i64 0 : Value)).cells n ++ Builtin.zeroCells ((.int .i64 0 : Value)).cells (grownCap w n 0 30 - n)) 30)) := fun ty => by
    have h := Lib.run_append_grow_zeros w 54 3 ty 30 i0 _ .i64 .i64 Tryz.underlying54 Tryz.underlying3 hi0 hz0 none 0 0 [] (run_firstCells_none w.drew i0.size 0 0 0) n hn0 (by omega) (by omega) (by omega)
     (by rw [hz2]; omega) (by rw [Nat.zero_add, hz2]; exact growslice_fits (by omega) (by omega))
    rw [Nat.zero_add] at h
    exact h
   have hown : (w.drew.alloc (.cells (#[] ++ Builtin.zeroCells ((.int .i64 0 : Value)).cells n ++ Builtin.zeroCells ((.int .i64 0 : Value)).cells (grownCap w n 0 30 - n)) 30)).ownsRow w.heap.size 30 1 (.slice (some ⟨w.drew.heap.size, 0, none⟩) 0 (grownCap w n 0 30)) 0 [] := World.ownsRow_made w.drew _ _ (Nat.le_refl _) hgm (by
    simp only [Array.size_append, zerosN]
    simp
    omega)
   have HOWN := Lib.hid hown
   have hon : Onto w (w.drew.alloc (.cells (#[] ++ Builtin.zeroCells ((.int .i64 0 : Value)).cells n ++ Builtin.zeroCells ((.int .i64 0 : Value)).cells (grownCap w n 0 30 - n)) 30)) := (Onto.draw (Onto.rfl' w)).new _
   have HON := Lib.hid hon
   unfold maxLen at hgm
   clear hi0 hz0 hz1 hz2 hn hown hon
   generalize (w.drew.alloc (.cells (#[] ++ Builtin.zeroCells ((.int .i64 0 : Value)).cells n ++ Builtin.zeroCells ((.int .i64 0 : Value)).cells (grownCap w n 0 30 - n)) 30)) = w1 at *
   generalize grownCap w n 0 30 = G at *
   go_enter Tryz.func60, Tryz.ntmps60
   go_wp2_with (at_builtin; refine Lib.wpList_append_run _ rfl _ _ _ _ rfl _ _ rfl rfl _ _ (hrz _) ?_)
   all_goals (go_ret; exact ⟨some ⟨w.heap.size, 0, none⟩, G, rfl, ⟨HOWN.out, rfl, by simp⟩, HON.out⟩)
set_option maxHeartbeats 4000000 in
set_option maxRecDepth 100000 in
theorem ConcatNN_calls (w : World) (ps : List Pt) (Z y : Nat) (hz : ∀ i p, ps[i]? = some p → w.cell? ⟨Z, i, none⟩ = some (.slice p.A p.n p.c))
    (h : ∀ p ∈ ps, Sl w w.heap.size 1 p.A p.n p.rows) (h1 : ∀ p ∈ ps, ∀ r ∈ p.rows, ∀ u ∈ r, u.oneCell' = true) (hZ : Z < w.heap.size) (hp : ps.length ≤ 1000) (hn : lenP ps * 8 ≤ 140737488355328) :
    Calls Tryz.prog 23 #[.slice (some ⟨Z, 0, none⟩) ps.length y] w fun e w' => ∃ A1 c1, e = .returned (.slice A1 (lenP ps) c1) ∧ Own w' w.heap.size 30 1 (.slice A1 (lenP ps) c1) (lenP ps) (rowsP ps) ∧ Onto w w' := by
 have HH := Lib.hid h; have H1 := Lib.hid h1; have HN := Lib.hid hn; have HZ := Lib.hid hz
 obtain ⟨N, hN⟩ : ∃ N, N = ps.length := ⟨_, rfl⟩
 obtain ⟨M, hM⟩ : ∃ M, M = lenP ps := ⟨_, rfl⟩
 have HLE := Lib.hid (fun i => lenP_le ps i)
 rw [← hN] at hp ⊢; rw [← hM] at hn ⊢
 have HNN := Lib.hid hN; have HMM := Lib.hid hM
 have hM0 : M ≤ 140737488355328 := by omega
 clear h h1 hz hN hM
 have hnm : M ≤ maxLen := by unfold maxLen; omega
 have HNM := Lib.hid hnm
 clear hnm
 obtain ⟨i0, hi0, hq0, hq1, hq2⟩ := info_parts rinfoN
 have HI := Lib.hid hi0; have HQ0 := Lib.hid hq0; have HQ1 := Lib.hid hq1; have HQ2 := Lib.hid hq2; clear hi0 hq0 hq1 hq2
 go_enter Tryz.func23, Tryz.ntmps23
 go_wp2_with fail
 go_loopg [3, 11] N (fun g s3 s11 wr => ∃ i : Nat, i ≤ N ∧ N - i ≤ g ∧ w = wr ∧ s11 = .int .i64 i ∧ s3 = .int .i64 ((lenP (ps.take i) : Nat) : Int))
 case atStart => exact ⟨0, Nat.zero_le _, Nat.le_refl _, rfl, rfl, by simp [lenP]⟩
 case round =>
  obtain ⟨i, hi, hg, rfl, rfl, rfl⟩ := hrel
  by_cases hlt : i < N
  · obtain ⟨p, hpi⟩ : ∃ p, ps[i]? = some p := ⟨_, List.getElem?_eq_getElem (by rw [← HNN.out]; exact hlt)⟩
    have hc := HZ.out i p hpi
    have hs := lenP_succ hpi
    have hle : lenP (ps.take (i + 1)) ≤ M := by rw [HMM.out]; exact HLE.out _
    obtain ⟨a1, ha1⟩ : ∃ a1, a1 = lenP (ps.take (i + 1)) := ⟨_, rfl⟩
    rw [← ha1] at hs hle
    generalize lenP (ps.take i) = a0 at *
    obtain ⟨q, hq⟩ : ∃ q, q = p.n := ⟨_, rfl⟩
    rw [← hq] at hs hc
    have hlt0 : ¬ ((a1 : Int) < 0) := by omega
    have hsum : wrap64 ((a0 : Int) + (q : Int)) = (a1 : Int) := by unfold wrap64; omega
    have hsum' : IntKind.i64.wrap ((a0 : Int) + (q : Int)) = (a1 : Int) := by clear hsum; rw [IntKind.wrap_i64]; omega
    have HA1 := Lib.hid ha1
    clear ha1 hq
    clear hpi hs
    go_wp2_with fail
    go_roundg (N - (i + 1))
    case measure => omega
    case rel => exact ⟨i + 1, by omega, Nat.le_refl _, rfl, by go_num, by rw [← HA1.out]⟩
  · obtain rfl : i = N := by omega
    have hall : lenP (ps.take i) = M := by have h1 := HNN.out; have h2 := HMM.out; rw [h2, h1, List.take_length]
    rw [hall]
    clear hall
    go_wp2_with fail
    refine Calls.mono (GrowN_calls _ M hn) ?_
    rintro e w1 ⟨A1, c1, rfl, ow, on⟩
    have HOW := Lib.hid ow
    clear ow
    go_wp2_with fail
    go_loopg [6, 27] i (fun g s6 s27 wr => Onto w wr ∧ ∃ (j : Nat) (A2 : Option Addr) (c2 : Nat), j ≤ i ∧ i - j ≤ g ∧ s27 = .int .i64 j ∧ s6 = .slice A2 (lenP (ps.take j)) c2 ∧ Hid (Own wr w.heap.size 30 1 (.slice A2 (lenP (ps.take j)) c2) (lenP (ps.take j)) (rowsP (ps.take j))))
    case atStart => exact ⟨on, 0, A1, c1, Nat.zero_le _, Nat.le_refl _, rfl, by simp [lenP], by simpa [lenP, rowsP] using HOW⟩
    case round =>
     obtain ⟨on2, j, A2, c2, hj, hg2, rfl, rfl, HO⟩ := hrel
     by_cases hlt2 : j < i
     · obtain ⟨p, hpi⟩ : ∃ p, ps[j]? = some p := ⟨_, List.getElem?_eq_getElem (by rw [← HNN.out]; exact hlt2)⟩
       have hm := List.mem_of_getElem? hpi
       have u0 : wr.cell? ⟨Z, j, none⟩ = some (.slice p.A p.n p.c) := by rw [on2.cell hZ]; exact HZ.out j p hpi
       have hs := lenP_succ hpi
       have hrw := rowsP_succ hpi
       have hle : lenP (ps.take (j + 1)) ≤ M := by rw [HMM.out]; exact HLE.out _
       have hb : lenP (ps.take j) + p.n ≤ M := by omega
       have HS := Lib.hid hs; have HRW := Lib.hid hrw; have HB := Lib.hid hb
       clear hpi hs hrw hle hb
       go_wp2_with (at_builtin; refine wpList_append_sl _ rfl _ _ 54 rfl w.heap.size 30 i0 _ 1 8 Tryz.underlying54 HI.out HQ0.out HQ1.out HQ2.out rfl (by decide) _ (lenP (ps.take j)) (rowsP (ps.take j)) rfl HO.out w.heap.size p.A p.n p.c p.rows rfl (Sl.under (HH.out p hm) (Nat.le_refl _) on2) (H1.out p hm) (by have h1 := HNM.out; have h2 := HB.out; omega) (by have h2 := HB.out; omega) on2.size ?_)
       intro v8 w8 own8 grow8 hv8
       obtain ⟨A8, c8, rfl, _, _⟩ := own8.slice
       have hB8 : Onto w w8 := below_grown on2 on2.size grow8 (fun g hg => by have := (HO.out.1.lt g hg).1; omega)
       rw [← HS.out, ← HRW.out] at own8
       have HO8 := Lib.hid own8
       rw [← HS.out]
       clear grow8 hv8 own8 HO u0 on2 hm
       go_wp2_with fail
       go_roundg (i - (j + 1))
       case measure => omega
       case rel => exact ⟨hB8, j + 1, A8, c8, by omega, Nat.le_refl _, by go_num, rfl, HO8⟩
     · obtain rfl : j = i := by omega
       have hall : ps.take j = ps := by have h1 := HNN.out; rw [h1, List.take_length]
       have HB2 := Lib.hid on2
       rw [hall, ← HMM.out] at HO
       rw [hall, ← HMM.out]
       clear on2 hall
       go_wp2_with fail
       go_ret
       exact ⟨A2, c2, rfl, HO.out, HB2.out⟩
end
section
set_option linter.unusedSimpArgs false
set_option linter.unusedVariables false
open Go.RowKit
set_option maxHeartbeats 1000000 in
set_option maxRecDepth 100000 in
theorem IndexFuncN_calls (A : Option Addr) (n c B : Nat) (l : List Int) (g : FuncId) (lb : Array Value) (p : Int → Bool) (w : World) (h : Sl w B 1 A n (l.map encI)) (hB : B ≤ w.heap.size) (hn : n ≤ 9223372036854775807)
    (eg : ∀ args w, (callFunc g args).run Tryz.prog w = .ok (.enter g args) w)
    (hp : ∀ (x : Int) (w' : World), Below w.heap.size w w' → Calls Tryz.prog g (#[.int .i64 x] ++ lb) w' fun e w'' => e = .returned (.bool (p x)) ∧ Below w'.heap.size w' w'') :
    Calls Tryz.prog 89 #[.slice A n c, .func (.func g) #[] lb] w fun e w' => e = .returned (.int .i64 (idxI p l)) ∧ Below w.heap.size w w' := by
 have hp' := Lib.hid hp
 clear hp
 go_enter Tryz.func89, Tryz.ntmps89
 go_wp2
 go_loopw [8] (fun s wr => ∃ i : Nat, i ≤ n ∧ s = .int .i64 i ∧ Below w.heap.size w wr ∧ Hid (∀ j y, j < i → l[j]? = some y → p y = false)) (fun s _ => n - (intOf s).toNat)
 case atStart => exact ⟨0, Nat.zero_le _, rfl, Below.refl _ _, fun j y hj => absurd hj (Nat.not_lt_zero _)⟩
 case round =>
  obtain ⟨i, hi, rfl, hbel, H⟩ := hrel
  by_cases hlt : i < n
  · obtain ⟨b, off, x, rfl, hb, hx, c0⟩ := (h.below (hbel.mono hB)).atI hlt
    have HX := Lib.hid hx
    have hl := h.len
    simp at hl
    have HL := Lib.hid hl
    clear h hx hl
    cases hpx : p x with
    | true =>
      have HPX := Lib.hid hpx
      clear hpx
      go_wp2_with fail
      refine Calls.mono (hp'.out x _ hbel) ?_
      rintro e w' ⟨rfl, hw'⟩
      rw [HPX.out]
      go_wp2
      go_ret
      refine ⟨ret_int ?_, hbel.trans (hw'.mono hbel.size)⟩
      exact (idxI_at HX.out HPX.out H.out).symm
    | false =>
      have HPX := Lib.hid hpx
      clear hpx
      go_wp2_with fail
      refine Calls.mono (hp'.out x _ hbel) ?_
      rintro e w' ⟨rfl, hw'⟩
      rw [HPX.out]
      go_wp2
      go_roundw
      case measure => simp [intOf]; omega
      case rel =>
       refine ⟨i + 1, by omega, by go_num, hbel.trans (hw'.mono hbel.size), fun j y hj hy => ?_⟩
       by_cases e : j = i
       · subst e
         have := HX.out.symm.trans hy
         injection this with this
         subst this
         exact HPX.out
       · exact H.out j y (by omega) hy
  · obtain rfl : i = n := by omega
    have hl := h.len
    simp at hl
    have hfin : idxI p l = -1 := idxI_none (fun j y hy => H.out j y (by have := (List.getElem?_eq_some_iff.1 hy).1; omega) hy)
    have HF := Lib.hid hfin
    clear h hl hfin
    go_wp2
    go_ret
    exact ⟨ret_int HF.out.symm, hbel⟩
set_option maxHeartbeats 1000000 in
theorem ContainsFuncN_calls (A : Option Addr) (n c : Nat) (l : List Int) (g : FuncId) (p : Int → Bool) (w : World) (h : S w 1 A n (l.map encI)) (hn : n ≤ 9223372036854775807)
    (eg : ∀ args w, (callFunc g args).run Tryz.prog w = .ok (.enter g args) w)
    (hp : ∀ (x : Int) (w' : World), Onto w w' → Calls Tryz.prog g #[.int .i64 x] w' fun e w'' => e = .returned (.bool (p x)) ∧ Onto w' w'') :
    Calls Tryz.prog 51 #[.slice A n c, .func (.func g) #[] #[]] w fun e w' => e = .returned (.bool (decide (0 ≤ idxI p l))) ∧ Onto w w' := by
 have hp' := Lib.hid hp
 clear hp
 obtain ⟨q, hq⟩ : ∃ q, q = idxI p l := ⟨_, rfl⟩
 rw [← hq]
 have HQ := Lib.hid hq
 clear hq
 go_enter Tryz.func51, Tryz.ntmps51
 go_wp2_with fail
 refine Calls.mono (IndexFuncN_calls A n c _ l g #[] p _ h (Nat.le_refl _) hn eg (fun x w' hw' => hp'.out x w' hw')) ?_
 rw [← HQ.out]
 rintro e w' ⟨rfl, b⟩
 go_wp2_with fail
 go_ret
 exact ⟨by first | rfl | simp, b⟩
theorem tlOf_calls (k c : Int) (w : World) : Calls Tryz.prog 61 #[.int .i64 k, .int .i64 c] w fun e w' => e = .returned (.agg #[.int .i64 k, .int .i64 c, .int .i64 0, .int .i64 0, .int .i64 0, .int .i64 0, .int .i64 0, .int .i64 0, .int .i64 0, .int .i64 0]) ∧ Onto w w' := by
 go_enter Tryz.func61, Tryz.ntmps61
 go_wp2_with fail
 refine bodyPost_ret (v := .agg #[.int .i64 k, .int .i64 c, .int .i64 0, .int .i64 0, .int .i64 0, .int .i64 0, .int .i64 0, .int .i64 0, .int .i64 0, .int .i64 0]) (by simp [results, Tryz.results61, go_sem]) rfl ?_
 exact ⟨rfl, by repeat (first | exact Below.refl _ _ | refine Onto.put ?_ (by simp) _ | refine Onto.new ?_ _)⟩
theorem tlBad_calls (x : Int) (w : World) : Calls Tryz.prog 62 #[.int .i64 x] w fun e w' => e = .returned (.bool (decide (x ≠ 0))) ∧ Onto w w' := by
 by_cases h0 : x = 0
 · subst h0
   go_enter Tryz.func62, Tryz.ntmps62
   go_wp2_with fail
   go_ret
   exact ⟨by simp, Onto.rfl' _⟩
 · have hd : (x != 0) = true := by simpa using h0
   go_enter Tryz.func62, Tryz.ntmps62
   go_wp2_with fail
   go_ret
   exact ⟨by simp [h0], Onto.rfl' _⟩
end
section
set_option linter.unusedSimpArgs false
set_option linter.unusedVariables false
open Go.ChangeShapes Go.WideShapes Go.ChangeAt Go.RowKit Go.Deep Go.Joins
end
section
set_option linter.unusedSimpArgs false
set_option linter.unusedVariables false
open Go.ChangeShapes Go.WideShapes Go.ChangeAt Go.RowKit Go.Deep Go.Joins
structure DV where
 A : Option Addr
 n : Nat
 c : Nat
 A' : Option Addr
 m : Nat
 d : Nat
 x : Dsk
end
section
set_option linter.unusedSimpArgs false
set_option linter.unusedVariables false
open Go.ChangeShapes Go.WideShapes Go.ChangeAt Go.RowKit Go.Deep Go.Joins
end
section
set_option linter.unusedSimpArgs false
set_option linter.unusedVariables false
open Go.ChangeShapes Go.WideShapes Go.ChangeAt Go.RowKit Go.Deep Go.Joins
end
section
set_option linter.unusedSimpArgs false
set_option linter.unusedVariables false
open Go.RowKit
theorem Onto.sz {w w' : World} (h : Onto w w') : w.heap.size ≤ w'.heap.size := h.size
theorem Bx.grown {w w' : World} {z : Nat} {vs : List Value} {row : Option Nat} (h : Bx w z vs) (hg : w.grownBy w' row) (hne : some z ≠ row) : Bx w' z vs := ⟨fun j v hv => grow_cell hg (h.cells j v hv) hne, h.unf.grown hg hne⟩
theorem S.grown {w w' : World} {k n : Nat} {A : Option Addr} {rows : List (List Value)} {row : Option Nat} (h : S w k A n rows) (hg : w.grownBy w' row) (hne : ∀ b, row = some b → OffN n b A) : S w' k A n rows :=
 ⟨h.1, h.2.1, fun hn => by
  obtain ⟨b, off, e, hb, hc⟩ := h.2.2 hn
  exact ⟨b, off, e, Nat.lt_of_lt_of_le hb hg.size, fun i j r u hr hu => grow_cell hg (hc i j r u hr hu) (fun e' => hne b e'.symm hn _ e rfl)⟩⟩
theorem DK.grown {w w' : World} {A A' : Option Addr} {n c m d : Nat} {x : Dsk} {row : Option Nat} (h : DK w A n c A' m d x) (hg : w.grownBy w' row) (h1 : ∀ b, row = some b → OffN n b A) (h2 : ∀ b, row = some b → OffN m b A') : DK w' A n c A' m d x :=
 ⟨h.safe.grown hg h1, h.wait.grown hg h2, h.n_le, h.c_le, h.m_le, h.d_le⟩
theorem DK.puts {w : World} {A A' : Option Addr} {n c m d z : Nat} {x : Dsk} (h : DK w A n c A' m d x) (h1 : OffN n z A) (h2 : OffN m z A') {us : List Value} {o : Nat} : DK (w.setCells z o us) A n c A' m d x :=
 ⟨put_S (w := w) h1 h.safe, put_S (w := w) h2 h.wait, h.n_le, h.c_le, h.m_le, h.d_le⟩
abbrev Turn (w w' : World) (z : Nat) : Prop := w.grownBy w' (some z)
theorem Turn.rfl' (w : World) (z : Nat) : Turn w w z := gb_onto (World.grownBy.refl w _) (Onto.rfl' w)
theorem Turn.of {w w' : World} (h : Onto w w') (z : Nat) : Turn w w' z := gb_onto (World.grownBy.refl w _) h
theorem Turn.onto {w w' w'' : World} {z : Nat} (h : Turn w w' z) (b : Onto w' w'') : Turn w w'' z := gb_onto h b
theorem Turn.put {w w' : World} {z : Nat} (h : Turn w w' z) {p : Addr} (hp : p.block = z) (u : Value) : Turn w (w'.setCell p u) z := gb_put h hp u
theorem Turn.puts {w : World} {z : Nat} : ∀ {us : List Value} {o : Nat} {w' : World}, Turn w w' z → Turn w (w'.setCells z o us) z
 | [], _, _, h => h
 | u :: r, o, w', h => by rw [World.setCells]; exact Turn.puts (h.put rfl u)
theorem Turn.to {w w' w'' : World} {z : Nat} (h : Turn w w' z) (h' : Turn w' w'' z) (hz : z < w.heap.size) : Turn w w'' z := World.grownBy.andThen h h' (fun g hg => .inr hg)
theorem Turn.up {w0 w w' : World} {z : Nat} (on : Onto w0 w) (h : Turn w w' z) (hz : w0.heap.size ≤ z) : Onto w0 w' := below_grown on on.size h (fun g hg => by injection hg with hg; omega)
structure NV where
 x : Nod
 A : Option Addr
 n : Nat
 c : Nat
 F : Option Addr
 k : Nat
 i : Nat
 G : Option Addr
 l : Nat
 j : Nat
def encN (v : NV) : List Value := [.int .i64 v.x.u.ep, .slice v.A v.n v.c, .slice v.F v.k v.i, .slice v.G v.l v.j, .bool v.x.up]
structure NV.In (w : World) (v : NV) : Prop where
 cells : S w 5 v.A v.n (v.x.u.cells.map encE)
 disk : DK w v.F v.k v.i v.G v.l v.j v.x.d
 le : v.n ≤ v.c
 max : v.c ≤ maxLen
structure NV.off (z : Nat) (v : NV) : Prop where
 a : OffN v.n z v.A
 f : OffN v.k z v.F
 g : OffN v.l z v.G
structure CV where
 x : Cli
 A : Option Addr
 n : Nat
 c : Nat
 G : Option Addr
 m : Nat
 d : Nat
def encC (v : CV) : List Value := [.int .i64 v.x.epoch, .int .i64 v.x.doing, .int .i64 v.x.e.kind, .int .i64 v.x.e.job, .int .i64 v.x.e.every, .int .i64 v.x.e.time, .int .i64 v.x.e.client, .int .i64 v.x.at_, .int .i64 v.x.link, .int .i64 v.x.played, .slice v.A v.n v.c, .slice v.G v.m v.d]
structure CV.In (w : World) (v : CV) : Prop where
 jobs : S w 3 v.A v.n (v.x.b.jobs.map encJ)
 rung : S w 3 v.G v.m (v.x.b.rung.map encR)
 le : v.n ≤ v.c
 le' : v.m ≤ v.d
structure CV.off (z : Nat) (v : CV) : Prop where
 a : OffN v.n z v.A
 g : OffN v.m z v.G
section
variable {w w' : World} {v : NV} {c : CV} {z o : Nat} {us : List Value}
theorem NV.In.onto (h : v.In w) (b : Onto w w') : v.In w' := ⟨h.cells.onto b, h.disk.onto b, h.le, h.max⟩
theorem NV.In.puts (h : v.In w) (f : v.off z) : v.In (w.setCells z o us) := ⟨put_S (w := w) f.a h.cells, h.disk.puts f.f f.g, h.le, h.max⟩
theorem NV.In.grown (h : v.In w) (b : Turn w w' z) (f : v.off z) : v.In w' :=
 ⟨h.cells.grown b (fun g e => by injection e with e; subst e; exact f.a), h.disk.grown b (fun g e => by injection e with e; subst e; exact f.f) (fun g e => by injection e with e; subst e; exact f.g), h.le, h.max⟩
theorem NV.In.put (h : v.In w) {p : Addr} (f : v.off p.block) (u : Value) : v.In (w.setCell p u) := ⟨S.off h.cells f.a u, ⟨S.off h.disk.safe f.f u, S.off h.disk.wait f.g u, h.disk.n_le, h.disk.c_le, h.disk.m_le, h.disk.d_le⟩, h.le, h.max⟩
theorem CV.In.put (h : c.In w) {p : Addr} (f : c.off p.block) (u : Value) : c.In (w.setCell p u) := ⟨S.off h.jobs f.a u, S.off h.rung f.g u, h.le, h.le'⟩
theorem CV.In.onto (h : c.In w) (b : Onto w w') : c.In w' := ⟨h.jobs.onto b, h.rung.onto b, h.le, h.le'⟩
theorem CV.In.puts (h : c.In w) (f : c.off z) : c.In (w.setCells z o us) := ⟨put_S (w := w) f.a h.jobs, put_S (w := w) f.g h.rung, h.le, h.le'⟩
theorem CV.In.grown (h : c.In w) (b : Turn w w' z) (f : c.off z) : c.In w' :=
 ⟨h.jobs.grown b (fun g e => by injection e with e; subst e; exact f.a), h.rung.grown b (fun g e => by injection e with e; subst e; exact f.g), h.le, h.le'⟩
theorem NV.In.away (h : v.In w) (hz : w.heap.size ≤ z) : v.off z := ⟨h.cells.offN hz, h.disk.safe.offN hz, h.disk.wait.offN hz⟩
theorem CV.In.away (h : c.In w) (hz : w.heap.size ≤ z) : c.off z := ⟨h.jobs.offN hz, h.rung.offN hz⟩
end
structure WR (w : World) (A : Option Addr) (n : Nat) (C : Option Addr) (m : Nat) (ns : List NV) (cs : List CV) : Prop where
 nr : S w 5 A n (ns.map encN)
 cr : S w 12 C m (cs.map encC)
 ni : ∀ v ∈ ns, v.In w
 ci : ∀ v ∈ cs, v.In w
abbrev nods (ns : List NV) : List Nod := ns.map NV.x
abbrev clis (cs : List CV) : List Cli := cs.map CV.x
abbrev wor (ns : List NV) (tip : Int) (cs : List CV) (time : Int) : Wor := ⟨nods ns, tip, clis cs, time⟩
section
variable {w w' : World} {A C : Option Addr} {n m : Nat} {ns : List NV} {cs : List CV}
theorem WR.onto (h : WR w A n C m ns cs) (b : Onto w w') : WR w' A n C m ns cs := ⟨h.nr.onto b, h.cr.onto b, fun v hv => (h.ni v hv).onto b, fun v hv => (h.ci v hv).onto b⟩
theorem WR.new (h : WR w A n C m ns cs) (o : Obj) : WR (w.alloc o) A n C m ns cs := h.onto ((Onto.rfl' w).new o)
theorem WR.nlen (h : WR w A n C m ns cs) : ns.length = n := by have := h.nr.len; simpa using this
theorem WR.clen (h : WR w A n C m ns cs) : cs.length = m := by have := h.cr.len; simpa using this
theorem WR.atN (h : WR w A n C m ns cs) {i : Nat} (hi : i < n) : ∃ b off v, A = some ⟨b, off, none⟩ ∧ b < w.heap.size ∧ ns[i]? = some v ∧ v.In w ∧
    w.cell? ⟨b, off + i * 5, none⟩ = some (.int .i64 v.x.u.ep) ∧ w.cell? ⟨b, off + i * 5 + 1, none⟩ = some (.slice v.A v.n v.c) ∧ w.cell? ⟨b, off + i * 5 + 2, none⟩ = some (.slice v.F v.k v.i) ∧ w.cell? ⟨b, off + i * 5 + 3, none⟩ = some (.slice v.G v.l v.j) ∧ w.cell? ⟨b, off + i * 5 + 4, none⟩ = some (.bool v.x.up) := by
 obtain ⟨b, off, x, e, hb, hx, hc⟩ := h.nr.at_ hi
 exact ⟨b, off, x, e, hb, hx, h.ni x (List.mem_of_getElem? hx), hc 0 _ rfl, hc 1 _ rfl, hc 2 _ rfl, hc 3 _ rfl, hc 4 _ rfl⟩
theorem WR.atC (h : WR w A n C m ns cs) {i : Nat} (hi : i < m) : ∃ b off v, C = some ⟨b, off, none⟩ ∧ b < w.heap.size ∧ cs[i]? = some v ∧ v.In w ∧
    w.cell? ⟨b, off + i * 12, none⟩ = some (.int .i64 v.x.epoch) ∧ w.cell? ⟨b, off + i * 12 + 1, none⟩ = some (.int .i64 v.x.doing) ∧ w.cell? ⟨b, off + i * 12 + 2, none⟩ = some (.int .i64 v.x.e.kind) ∧ w.cell? ⟨b, off + i * 12 + 3, none⟩ = some (.int .i64 v.x.e.job) ∧ w.cell? ⟨b, off + i * 12 + 4, none⟩ = some (.int .i64 v.x.e.every) ∧ w.cell? ⟨b, off + i * 12 + 5, none⟩ = some (.int .i64 v.x.e.time) ∧ w.cell? ⟨b, off + i * 12 + 6, none⟩ = some (.int .i64 v.x.e.client) ∧ w.cell? ⟨b, off + i * 12 + 7, none⟩ = some (.int .i64 v.x.at_) ∧ w.cell? ⟨b, off + i * 12 + 8, none⟩ = some (.int .i64 v.x.link) ∧ w.cell? ⟨b, off + i * 12 + 9, none⟩ = some (.int .i64 v.x.played) ∧ w.cell? ⟨b, off + i * 12 + 10, none⟩ = some (.slice v.A v.n v.c) ∧ w.cell? ⟨b, off + i * 12 + 11, none⟩ = some (.slice v.G v.m v.d) := by
 obtain ⟨b, off, x, e, hb, hx, hc⟩ := h.cr.at_ hi
 exact ⟨b, off, x, e, hb, hx, h.ci x (List.mem_of_getElem? hx), hc 0 _ rfl, hc 1 _ rfl, hc 2 _ rfl, hc 3 _ rfl, hc 4 _ rfl, hc 5 _ rfl, hc 6 _ rfl, hc 7 _ rfl, hc 8 _ rfl, hc 9 _ rfl, hc 10 _ rfl, hc 11 _ rfl⟩
end
abbrev Rx (w : World) (z : Nat) (rows : List (List Value)) : Prop := Bx w z rows.flatten
section
variable {w : World} {z k i : Nat} {rows : List (List Value)} {r : List Value}
theorem Rx.at_ (h : Rx w z rows) (hk : ∀ r ∈ rows, r.length = k) (hr : rows[i]? = some r) (j : Nat) {u : Value} (hu : r[j]? = some u) : w.cell? ⟨z, i * k + j, none⟩ = some u :=
 Bx.at_ h _ (flatten_at hk i j r u hr hu)
theorem Rx.s (h : Rx w z rows) (hk : ∀ r ∈ rows, r.length = k) : S w k (some ⟨z, 0, none⟩) rows.length rows :=
 ⟨rfl, hk, fun _ => ⟨z, 0, rfl, Bx.lt h, fun i j r u hr hu => by rw [Nat.zero_add]; exact Rx.at_ h hk hr j hu⟩⟩
theorem setMany_get : ∀ (us vs : List Value) (o i : Nat), o + us.length ≤ vs.length → (setMany vs o us)[i]? = if o ≤ i ∧ i < o + us.length then us[i - o]? else vs[i]?
 | [], vs, o, i, _ => by rw [setMany, if_neg (by simp <;> omega)]
 | u :: r, vs, o, i, h => by
   simp only [List.length_cons] at h
   rw [setMany, setMany_get r _ _ _ (by simp; omega)]
   by_cases h1 : o + 1 ≤ i ∧ i < o + 1 + r.length
   · rw [if_pos h1, if_pos (by simp; omega), show i - o = (i - (o + 1)) + 1 by omega, List.getElem?_cons_succ]
   · rw [if_neg h1, List.getElem?_set]
     by_cases h2 : o = i
     · subst h2
       rw [if_pos rfl, if_pos (by omega), if_pos (by simp), Nat.sub_self]; rfl
     · rw [if_neg h2, if_neg (by simp; omega)]
theorem flatten_set : ∀ {rows : List (List Value)} {i : Nat} {r us : List Value}, (∀ r ∈ rows, r.length = k) → rows[i]? = some r → us.length = k → setMany rows.flatten (i * k) us = (rows.set i us).flatten := by
 intro rows i r us hk hr hu
 have hi : i < rows.length := (List.getElem?_eq_some_iff.1 hr).1
 have hl := flatten_length hk
 have hk' : ∀ r ∈ rows.set i us, r.length = k := fun r hr => by
  rcases List.mem_or_eq_of_mem_set hr with h | rfl
  · exact hk r h
  · exact hu
 have hl' := flatten_length hk'
 have hik : i * k + k ≤ rows.length * k := by have := Nat.mul_le_mul_right k hi; rw [Nat.succ_mul] at this; exact this
 rcases Nat.eq_zero_or_pos k with h0 | hpos
 · subst h0
   obtain rfl : us = [] := List.eq_nil_of_length_eq_zero hu
   rw [setMany, List.eq_nil_of_length_eq_zero (l := rows.flatten) (by rw [hl]; simp), List.eq_nil_of_length_eq_zero (l := (rows.set i []).flatten) (by rw [hl']; simp)]
 refine list_eq_of (by rw [setMany_length, hl, hl', List.length_set]) fun j hj => ?_
 rw [setMany_length, hl] at hj
 rw [setMany_get _ _ _ _ (by rw [hl, hu]; exact hik), hu]
 have hq : j / k < rows.length := Nat.div_lt_of_lt_mul (by rw [Nat.mul_comm]; exact hj)
 have hm : j % k < k := Nat.mod_lt _ hpos
 have hdm : j / k * k + j % k = j := by rw [Nat.mul_comm]; exact Nat.div_add_mod j k
 by_cases hin : i * k ≤ j ∧ j < i * k + k
 · rw [if_pos hin]
   have e : us[j - i * k]? = some us[j - i * k] := List.getElem?_eq_getElem (by omega)
   have := flatten_at hk' i (j - i * k) us us[j - i * k] (by rw [List.getElem?_set, if_pos rfl, if_pos hi]) e
   rw [show i * k + (j - i * k) = j by omega] at this
   rw [this, e]
 · rw [if_neg hin]
   have hne : i ≠ j / k := by
    rintro rfl
    exact hin ⟨by omega, by omega⟩
   have hr0 : rows[j / k]? = some rows[j / k] := List.getElem?_eq_getElem hq
   have hlr : rows[j / k].length = k := hk _ (List.getElem_mem hq)
   have hu0 : rows[j / k][j % k]? = some (rows[j / k][j % k]'(by omega)) := List.getElem?_eq_getElem (by omega)
   have h1 := flatten_at hk _ _ _ _ hr0 hu0
   have h2 := flatten_at hk' (j / k) (j % k) _ _ (by rw [List.getElem?_set, if_neg hne]; exact hr0) hu0
   rw [hdm] at h1 h2
   rw [h1, h2]
theorem flatten_set1 {rows : List (List Value)} {i j : Nat} {r : List Value} {u : Value} (hk : ∀ r ∈ rows, r.length = k) (hr : rows[i]? = some r) (hj : j < k) : rows.flatten.set (i * k + j) u = (rows.set i (r.set j u)).flatten := by
 have hi : i < rows.length := (List.getElem?_eq_some_iff.1 hr).1
 have hrk : r.length = k := hk r (List.mem_of_getElem? hr)
 have hl := flatten_length hk
 have hk' : ∀ x ∈ rows.set i (r.set j u), x.length = k := fun x hx => by
  rcases List.mem_or_eq_of_mem_set hx with h | rfl
  · exact hk x h
  · simpa using hrk
 have hl' := flatten_length hk'
 have hik : i * k + k ≤ rows.length * k := by have := Nat.mul_le_mul_right k hi; rw [Nat.succ_mul] at this; exact this
 refine list_eq_of (by rw [List.length_set, hl, hl', List.length_set]) fun m hm => ?_
 rw [List.length_set, hl] at hm
 have hq : m / k < rows.length := Nat.div_lt_of_lt_mul (by rw [Nat.mul_comm]; exact hm)
 have hmk : m % k < k := Nat.mod_lt _ (by omega)
 have hdm : m / k * k + m % k = m := by rw [Nat.mul_comm]; exact Nat.div_add_mod m k
 have hr0 : rows[m / k]? = some rows[m / k] := List.getElem?_eq_getElem hq
 have hlr : rows[m / k].length = k := hk _ (List.getElem_mem hq)
 have hu0 : rows[m / k][m % k]? = some (rows[m / k][m % k]'(by omega)) := List.getElem?_eq_getElem (by omega)
 have h1 := flatten_at hk _ _ _ _ hr0 hu0
 rw [hdm] at h1
 by_cases e : i = m / k
 · subst e
   rw [hr] at hr0
   injection hr0 with hr0
   subst hr0
   rw [List.getElem?_set]
   by_cases e2 : j = m % k
   · subst e2
     rw [if_pos hdm, if_pos (by rw [hl]; omega)]
     have h2 := flatten_at hk' (m / k) (m % k) (rows[m / k].set (m % k) u) u (by rw [List.getElem?_set, if_pos rfl, if_pos hi]) (by rw [List.getElem?_set, if_pos rfl, if_pos (by omega)])
     rw [hdm] at h2
     exact h2.symm
   · rw [if_neg (by omega), h1]
     have h2 := flatten_at hk' (m / k) (m % k) (rows[m / k].set j u) _ (by rw [List.getElem?_set, if_pos rfl, if_pos hi]) (by rw [List.getElem?_set, if_neg e2]; exact hu0)
     rw [hdm] at h2
     exact h2.symm
 · have hne : ¬ i * k + j = m := fun e' => e (by rw [← e', Nat.mul_comm, Nat.mul_add_div (by omega), Nat.div_eq_of_lt hj]; rfl)
   rw [List.getElem?_set, if_neg hne, h1]
   have h2 := flatten_at hk' (m / k) (m % k) _ _ (by rw [List.getElem?_set, if_neg e]; exact hr0) hu0
   rw [hdm] at h2
   exact h2.symm
theorem set_self {rows : List (List Value)} {i : Nat} {r : List Value} (hr : rows[i]? = some r) : rows.set i r = rows := by
 obtain ⟨h, rfl⟩ := List.getElem?_eq_some_iff.1 hr
 exact List.set_getElem_self h
theorem Rx.cell1 (h : Rx w z (rows.set i r)) (hk : ∀ x ∈ rows, x.length = k) (hi : i < rows.length) (hr : r.length = k) {j : Nat} (hj : j < k) (u : Value) : Rx (w.setCell ⟨z, i * k + j, none⟩ u) z (rows.set i (r.set j u)) := by
 have hk' : ∀ x ∈ rows.set i r, x.length = k := fun x hx => by
  rcases List.mem_or_eq_of_mem_set hx with h | rfl
  · exact hk x h
  · exact hr
 have hik : i * k + k ≤ rows.length * k := by have := Nat.mul_le_mul_right k hi; rw [Nat.succ_mul] at this; exact this
 have h1 := Bx.put1 (j := i * k + j) h (by rw [flatten_length hk', List.length_set]; omega) u
 rw [flatten_set1 (r := r) hk' (by rw [List.getElem?_set, if_pos rfl, if_pos hi]) hj, List.set_set] at h1
 exact h1
theorem Rx.put (h : Rx w z rows) (hk : ∀ r ∈ rows, r.length = k) (hr : rows[i]? = some r) {us : List Value} (hu : us.length = k) : Rx (w.setCells z (i * k) us) z (rows.set i us) := by
 have hi : i < rows.length := (List.getElem?_eq_some_iff.1 hr).1
 have hik : i * k + k ≤ rows.length * k := by have := Nat.mul_le_mul_right k hi; rw [Nat.succ_mul] at this; exact this
 have := Bx.putM (us := us) (o := i * k) h (by rw [flatten_length hk, hu]; exact hik)
 rw [flatten_set hk hr hu] at this
 exact this
end
theorem encN_len (ns : List NV) : ∀ r ∈ ns.map encN, r.length = 5 := fun r hr => by obtain ⟨v, _, rfl⟩ := List.mem_map.1 hr; rfl
theorem encC_len (cs : List CV) : ∀ r ∈ cs.map encC, r.length = 12 := fun r hr => by obtain ⟨v, _, rfl⟩ := List.mem_map.1 hr; rfl
structure NV.fresh (lo : Nat) (v : NV) : Prop where
 a : Fresh lo v.A
 f : Fresh lo v.F
 g : Fresh lo v.G
structure CV.fresh (lo : Nat) (v : CV) : Prop where
 a : Fresh lo v.A
 g : Fresh lo v.G
theorem NV.fresh.off {lo z : Nat} {v : NV} (h : v.fresh lo) (hz : z < lo) : v.off z := ⟨h.a.offN hz, h.f.offN hz, h.g.offN hz⟩
theorem CV.fresh.off {lo z : Nat} {v : CV} (h : v.fresh lo) (hz : z < lo) : v.off z := ⟨h.a.offN hz, h.g.offN hz⟩
structure WF (w0 w : World) (nb cN cb cC : Nat) (ns : List NV) (cs : List CV) : Prop where
 nr : Rx w nb (ns.map encN)
 cr : Rx w cb (cs.map encC)
 nl : ns.length = 3
 cl : cs.length = 3
 ni : ∀ v ∈ ns, v.In w ∧ v.off nb ∧ v.off cb
 ci : ∀ v ∈ cs, v.In w ∧ v.off nb ∧ v.off cb
 hn : w0.heap.size ≤ nb
 hc : w0.heap.size ≤ cb
 nc : nb ≠ cb
 kN : 3 ≤ cN ∧ cN ≤ maxLen
 kC : 3 ≤ cC ∧ cC ≤ maxLen
 on : Onto w0 w
section
variable {w0 w w' : World} {z nb cN cb cC : Nat} {ns : List NV} {cs : List CV} {tip time : Int}
theorem WF.onto (h : WF w0 w nb cN cb cC ns cs) (b : Onto w w') : WF w0 w' nb cN cb cC ns cs :=
 ⟨Bx.onto h.nr b, Bx.onto h.cr b, h.nl, h.cl, fun v hv => ⟨(h.ni v hv).1.onto b, (h.ni v hv).2⟩, fun v hv => ⟨(h.ci v hv).1.onto b, (h.ci v hv).2⟩, h.hn, h.hc, h.nc, h.kN, h.kC, h.on.to b⟩
theorem WF.wr (h : WF w0 w nb cN cb cC ns cs) : WR w (some ⟨nb, 0, none⟩) 3 (some ⟨cb, 0, none⟩) 3 ns cs :=
 ⟨by have := Rx.s h.nr (encN_len ns); rw [List.length_map, h.nl] at this; exact this, by have := Rx.s h.cr (encC_len cs); rw [List.length_map, h.cl] at this; exact this, fun v hv => (h.ni v hv).1, fun v hv => (h.ci v hv).1⟩
theorem WF.setN (h : WF w0 w nb cN cb cC ns cs) {k : Nat} {v : NV} (t : Turn w w' nb) (hr : Rx w' nb ((ns.set k v).map encN)) (hv : v.In w' ∧ v.off nb ∧ v.off cb) : WF w0 w' nb cN cb cC (ns.set k v) cs :=
 ⟨hr, Bx.grown h.cr t (by intro e; injection e with e; exact h.nc e.symm), by rw [List.length_set, h.nl], h.cl,
  fun u hu => by
   rcases List.mem_or_eq_of_mem_set hu with hu | rfl
   · exact ⟨(h.ni u hu).1.grown t (h.ni u hu).2.1, (h.ni u hu).2⟩
   · exact hv, fun u hu => ⟨(h.ci u hu).1.grown t (h.ci u hu).2.1, (h.ci u hu).2⟩, h.hn, h.hc, h.nc, h.kN, h.kC, Turn.up h.on t h.hn⟩
theorem WF.setC (h : WF w0 w nb cN cb cC ns cs) {k : Nat} {v : CV} (t : Turn w w' cb) (hr : Rx w' cb ((cs.set k v).map encC)) (hv : v.In w' ∧ v.off nb ∧ v.off cb) : WF w0 w' nb cN cb cC ns (cs.set k v) :=
 ⟨Bx.grown h.nr t (by intro e; injection e with e; exact h.nc e), hr, h.nl, by rw [List.length_set, h.cl],
  fun u hu => ⟨(h.ni u hu).1.grown t (h.ni u hu).2.2, (h.ni u hu).2⟩, fun u hu => by
   rcases List.mem_or_eq_of_mem_set hu with hu | rfl
   · exact ⟨(h.ci u hu).1.grown t (h.ci u hu).2.2, (h.ci u hu).2⟩
   · exact hv, h.hn, h.hc, h.nc, h.kN, h.kC, Turn.up h.on t h.hc⟩
theorem WF.turn (h : WF w0 w nb cN cb cC ns cs) (t : Turn w w' z) (hz : w0.heap.size ≤ z) (zn : z ≠ nb) (zc : z ≠ cb) (hn : ∀ v ∈ ns, v.off z) (hc : ∀ v ∈ cs, v.off z) : WF w0 w' nb cN cb cC ns cs :=
 ⟨Bx.grown h.nr t (by intro e; injection e with e; exact zn e.symm), Bx.grown h.cr t (by intro e; injection e with e; exact zc e.symm), h.nl, h.cl,
  fun u hu => ⟨(h.ni u hu).1.grown t (hn u hu), (h.ni u hu).2⟩, fun u hu => ⟨(h.ci u hu).1.grown t (hc u hu), (h.ci u hu).2⟩, h.hn, h.hc, h.nc, h.kN, h.kC, Turn.up h.on t hz⟩
theorem WF.atN (h : WF w0 w nb cN cb cC ns cs) {i : Nat} (hi : i < 3) : ∃ v, ns[i]? = some v ∧ v.In w ∧ v.off nb ∧ v.off cb ∧
    w.cell? ⟨nb, i * 5, none⟩ = some (.int .i64 v.x.u.ep) ∧ w.cell? ⟨nb, i * 5 + 1, none⟩ = some (.slice v.A v.n v.c) ∧ w.cell? ⟨nb, i * 5 + 2, none⟩ = some (.slice v.F v.k v.i) ∧ w.cell? ⟨nb, i * 5 + 3, none⟩ = some (.slice v.G v.l v.j) ∧ w.cell? ⟨nb, i * 5 + 4, none⟩ = some (.bool v.x.up) := by
 have hi' : i < ns.length := by rw [h.nl]; exact hi
 have hx : ns[i]? = some ns[i] := List.getElem?_eq_getElem hi'
 have hr : (ns.map encN)[i]? = some (encN ns[i]) := by rw [List.getElem?_map, hx]; rfl
 have hm := h.ni _ (List.getElem_mem hi')
 exact ⟨ns[i], hx, hm.1, hm.2.1, hm.2.2, Rx.at_ h.nr (encN_len ns) hr 0 rfl, Rx.at_ h.nr (encN_len ns) hr 1 rfl, Rx.at_ h.nr (encN_len ns) hr 2 rfl, Rx.at_ h.nr (encN_len ns) hr 3 rfl, Rx.at_ h.nr (encN_len ns) hr 4 rfl⟩
theorem WF.atC (h : WF w0 w nb cN cb cC ns cs) {i : Nat} (hi : i < 3) : ∃ v, cs[i]? = some v ∧ v.In w ∧ v.off nb ∧ v.off cb ∧
    ∀ j u, (encC v)[j]? = some u → w.cell? ⟨cb, i * 12 + j, none⟩ = some u := by
 have hi' : i < cs.length := by rw [h.cl]; exact hi
 have hx : cs[i]? = some cs[i] := List.getElem?_eq_getElem hi'
 have hr : (cs.map encC)[i]? = some (encC cs[i]) := by rw [List.getElem?_map, hx]; rfl
 have hm := h.ci _ (List.getElem_mem hi')
 exact ⟨cs[i], hx, hm.1, hm.2.1, hm.2.2, fun j u hu => Rx.at_ h.cr (encC_len cs) hr j hu⟩
end
structure Kp (K w : World) (z nb cb : Nat) : Prop where
 size : K.heap.size ≤ w.heap.size
 block : ∀ b, b < K.heap.size → b ≠ z → b ≠ nb → b ≠ cb → w.heap[b]? = K.heap[b]?
section
variable {K w w' : World} {z nb cb b : Nat}
theorem Kp.rfl' (w : World) (z nb cb : Nat) : Kp w w z nb cb := ⟨Nat.le_refl _, fun _ _ _ _ _ => rfl⟩
theorem Kp.onto (h : Kp K w z nb cb) (b : Onto w w') : Kp K w' z nb cb := ⟨Nat.le_trans h.size b.size, fun i hi h1 h2 h3 => (b.block i (Nat.lt_of_lt_of_le hi h.size)).trans (h.block i hi h1 h2 h3)⟩
theorem Kp.turn (h : Kp K w z nb cb) (t : Turn w w' b) (hb : b = z ∨ b = nb ∨ b = cb ∨ K.heap.size ≤ b) : Kp K w' z nb cb :=
 ⟨Nat.le_trans h.size t.size, fun i hi h1 h2 h3 => (t.block i (Nat.lt_of_lt_of_le hi h.size) (by intro e; injection e with e; omega)).trans (h.block i hi h1 h2 h3)⟩
theorem Kp.far (h : Kp K w z nb cb) (t : Turn w w' b) (hb : K.heap.size ≤ b) : Kp K w' z nb cb := h.turn t (.inr (.inr (.inr hb)))
end
structure WM (K w0 w : World) (z nb cN cb cC : Nat) (ns : List NV) (tip : Int) (cs : List CV) (time : Int) : Prop where
 bx : Bx w z [.slice (some ⟨nb, 0, none⟩) 3 cN, .int .i64 tip, .slice (some ⟨cb, 0, none⟩) 3 cC, .int .i64 time]
 f : WF w0 w nb cN cb cC ns cs
 nz : ∀ v ∈ ns, v.off z
 cz : ∀ v ∈ cs, v.off z
 hz : w0.heap.size ≤ z
 zn : z ≠ nb
 zc : z ≠ cb
 kp : Kp K w z nb cb
 fN : ∀ v ∈ ns, ∀ b, b < w0.heap.size → v.off b
 fC : ∀ v ∈ cs, ∀ b, b < w0.heap.size → v.off b
section
variable {K w0 w w' : World} {z nb cN cb cC : Nat} {ns : List NV} {cs : List CV} {tip time : Int}
theorem WM.onto (h : WM K w0 w z nb cN cb cC ns tip cs time) (b : Onto w w') : WM K w0 w' z nb cN cb cC ns tip cs time := ⟨h.bx.onto b, h.f.onto b, h.nz, h.cz, h.hz, h.zn, h.zc, h.kp.onto b, h.fN, h.fC⟩
theorem WM.setN (h : WM K w0 w z nb cN cb cC ns tip cs time) {k : Nat} {v : NV} (t : Turn w w' nb) (hr : Rx w' nb ((ns.set k v).map encN)) (hv : v.In w' ∧ v.off nb ∧ v.off cb) (hz : v.off z) (hf : ∀ b, b < w0.heap.size → v.off b) : WM K w0 w' z nb cN cb cC (ns.set k v) tip cs time :=
 ⟨h.bx.grown t (by intro e; injection e with e; exact h.zn e), h.f.setN t hr hv, fun u hu => by
  rcases List.mem_or_eq_of_mem_set hu with hu | rfl
  · exact h.nz u hu
  · exact hz, h.cz, h.hz, h.zn, h.zc, h.kp.turn t (.inr (.inl rfl)), fun u hu => by
  rcases List.mem_or_eq_of_mem_set hu with hu | rfl
  · exact h.fN u hu
  · exact hf, h.fC⟩
theorem WM.setC (h : WM K w0 w z nb cN cb cC ns tip cs time) {k : Nat} {v : CV} (t : Turn w w' cb) (hr : Rx w' cb ((cs.set k v).map encC)) (hv : v.In w' ∧ v.off nb ∧ v.off cb) (hz : v.off z) (hf : ∀ b, b < w0.heap.size → v.off b) : WM K w0 w' z nb cN cb cC ns tip (cs.set k v) time :=
 ⟨h.bx.grown t (by intro e; injection e with e; exact h.zc e), h.f.setC t hr hv, h.nz, fun u hu => by
  rcases List.mem_or_eq_of_mem_set hu with hu | rfl
  · exact h.cz u hu
  · exact hz, h.hz, h.zn, h.zc, h.kp.turn t (.inr (.inr (.inl rfl))), h.fN, fun u hu => by
  rcases List.mem_or_eq_of_mem_set hu with hu | rfl
  · exact h.fC u hu
  · exact hf⟩
theorem WM.setZ (h : WM K w0 w z nb cN cb cC ns tip cs time) {tip' time' : Int} (t : Turn w w' z) (hb : Bx w' z [.slice (some ⟨nb, 0, none⟩) 3 cN, .int .i64 tip', .slice (some ⟨cb, 0, none⟩) 3 cC, .int .i64 time']) : WM K w0 w' z nb cN cb cC ns tip' cs time' :=
 ⟨hb, h.f.turn t h.hz h.zn h.zc h.nz h.cz, h.nz, h.cz, h.hz, h.zn, h.zc, h.kp.turn t (.inl rfl), h.fN, h.fC⟩
end
end
section
set_option linter.unusedSimpArgs false
set_option linter.unusedVariables false
open Go.ChangeShapes Go.WideShapes Go.ChangeAt Go.RowKit Go.Deep Go.Joins
theorem cells_hap : Tryz.prog.cellsOf 29 = 10 := by kernel_rfl
def encH (x : Hap) : List Value := [.int .i64 x.kind, .int .i64 x.client, .int .i64 x.n, .int .i64 x.job, .int .i64 x.epoch, .int .i64 x.e.kind, .int .i64 x.e.job, .int .i64 x.e.every, .int .i64 x.e.time, .int .i64 x.e.client]
set_option maxRecDepth 100000 in
theorem reads_hap {w : World} {cs : List Value} (h : Reads w 29 cs) : ∃ x : Hap, cs = encH x ∧ True := by
 obtain ⟨hl, hf⟩ := reads_struct Tryz.underlying29 h
 rw [cells_hap] at hl
 match cs, hl with
 | [c0, c1, c2, c3, c4, c5, c6, c7, c8, c9], _ =>
   simp only [allF, cells_int, cells_entry] at hf
   obtain ⟨h0, h1, h2, h3, h4, h5, _⟩ := hf
   obtain ⟨z0, e0, _⟩ := reads_int h0; obtain ⟨z1, e1, _⟩ := reads_int h1; obtain ⟨z2, e2, _⟩ := reads_int h2
   obtain ⟨z3, e3, _⟩ := reads_int h3; obtain ⟨z4, e4, _⟩ := reads_int h4
   obtain ⟨y, e5, _⟩ := reads_entry h5
   simp [encE] at e0 e1 e2 e3 e4 e5
   obtain ⟨rfl, rfl, rfl, rfl, rfl⟩ := e5
   subst e0 e1 e2 e3 e4
   exact ⟨⟨z0, z1, z2, z3, z4, y⟩, rfl, trivial⟩
theorem reads_haps {w : World} {cs : List Value} (h : Reads w 53 cs) : ∃ (A : Option Addr) (n c : Nat) (l : List Hap), cs = [.slice A n c] ∧ n ≤ c ∧ c ≤ maxLen ∧ S w 10 A n (l.map encH) := by
 obtain ⟨A, n, c, l, e, hnc, hcm, _, hs⟩ := reads_rows encH (fun _ => True) Tryz.underlying53 cells_hap (by omega) (fun _ => rfl) (fun _ _ h => reads_hap h) h
 exact ⟨A, n, c, l, e, hnc, hcm, hs⟩
end
section
set_option linter.unusedSimpArgs false
set_option linter.unusedVariables false
open Go.ChangeShapes Go.WideShapes Go.ChangeAt Go.RowKit
theorem handed_shaped {H : Type} {enc : TypeId × Value → H} {a : Assume} {C : Checked} {os : Os} {f : FuncId} {fn : Func} {s : ChangeSpec} {conds : List PathCond} {apart fresh handsOn again : Bool} {X : World → Array Value → Prop}
    (hX : ∀ (w w' : World) (args : Array Value), w.heap = w'.heap → X w args → X w' args)
    (own : ownKnob C.prog.godebug = none) (started : os.Started) (noInit : C.prog.inits.idxOf? f = none) (hfn : C.prog.funcs[f]? = some fn)
    (witness : ∃ (w : World) (tape : Tape) (i : Input), w.os = os ∧ (w.forCall tape i).Shaped C.prog ∧ i.vars = [] ∧ Input.okWide C.prog (w.forCall tape i) .any w.heap.size f i ∧
     ((s.pre enc C.prog fn conds apart (w.forCall tape i).memory i.args ∧ X (w.forCall tape i).memory i.args) ∧ sizedMet enc C.prog fn (OpenSpec.ofChange s) apart (w.forCall tape i).memory i.args) ∧ a.holds C.prog (lone (Frame.enter C.prog f i.args .normal) [] (w.forCall tape i)))
    (contract : ∀ (W : World) (base : Nat) (args : Array Value) (ds gs : List (DataW H)) (before : List MemPlace),
     (∀ (j : Nat) t v, fn.params[j]? = some t → args[j]? = some v → Value.okWide C.prog W .any base t v) →
     DataW.Whole enc C.prog fn.params.toList s.vars apart W args.toList ds gs before →
     (DataW.weightsEach C.prog (fn.params.toList ++ s.plain.varTypes C.prog) (ds ++ gs)).all (· ≤ reachBytes) = true → X W args → W.ShapedOpen C.prog →
     Calls C.prog f args W fun e W' => ∃ v, e = .returned v ∧ s.post enc C.prog fn apart fresh handsOn again W args v W') :
    ReturnsInHanded a C os f .any (fun w args => (s.pre enc C.prog fn conds apart w args ∧ X w args) ∧ sizedMet enc C.prog fn (OpenSpec.ofChange s) apart w args) (s.post enc C.prog fn apart fresh handsOn again) := by
 refine returnsInHanded_of_calls own started noInit witness ?_
 intro w tape i _ hsh _ hok hpre hholds
 obtain ⟨_, _, _, fn', hfn', _, _, _, _, hval⟩ := hok
 have e : fn' = fn := Option.some.inj (hfn'.symm.trans hfn)
 subst e
 obtain ⟨⟨⟨ds, gs, before, hw, hc⟩, hx⟩, hz⟩ := hpre
 have hw' := DataW.Whole.of_heap (w' := w.forCall tape i) (by rfl) hw
 refine (contract (w.forCall tape i) w.heap.size i.args ds gs before hval hw' (hz.weights hw) (hX _ _ _ (by rfl) hx) hsh).mono fun e W' ⟨v, he, hp⟩ => ?_
 subst he
 exact ChangeSpec.post_blind hp
def laidS : List (String × DataW Unit) := Rows.worldStandsRow.laid
theorem pow10_data : (Rows.laid_internal_strconv_uint64pow10 : DataW Unit) = Lib.tabData .u64 Lib.pow10Tab := by kernel_rfl
theorem star_name : "*" ++ "errors.errorString" = "*errors.errorString" := by decide
theorem row_err (u : TypeId) (h : Tryz.prog.typeName? 3 u = some "*errors.errorString") : u = 243 :=
 typeName_ptr_named (nm := "errors.errorString") (by rw [star_name]; kernel_rfl) (by kernel_rfl) (by decide) u (by rw [star_name]; exact h)
theorem env_of {W : World} (hL : laidMet Tryz.prog laidS W) (hS : W.ShapedOpen Tryz.prog) : Env W := by
 have h3 : laidMet Tryz.prog (("internal/strconv.uint64pow10", Lib.tabData .u64 Lib.pow10Tab) :: laidS.drop 3) W := by
  have : laidMet Tryz.prog (laidS.drop 2) W := hL.tail.tail
  have e : laidS.drop 2 = ("internal/strconv.uint64pow10", Lib.tabData .u64 Lib.pow10Tab) :: laidS.drop 3 := by rw [← pow10_data]; rfl
  rw [← e]; exact this
 have h5 : laidMet Tryz.prog (laidS.drop 4) W := h3.tail.tail
 have h6 : laidMet Tryz.prog (laidS.drop 5) W := h5.tail
 obtain ⟨a0, s0, hv0, -, -, -⟩ := laid_sentinel (n := "strconv.ErrRange") h5 (by kernel_rfl : Tryz.prog.globalNamed "strconv.ErrRange" = some 2) (by kernel_rfl) Tryz.underlying197 row_err Tryz.underlying243 Tryz.underlying245 rfl rfl Tryz.underlying9 (by kernel_rfl) (by kernel_rfl)
 obtain ⟨a1, s1, hv1, -, -, -⟩ := laid_sentinel (n := "strconv.ErrSyntax") h6 (by kernel_rfl : Tryz.prog.globalNamed "strconv.ErrSyntax" = some 1) (by kernel_rfl) Tryz.underlying197 row_err Tryz.underlying243 Tryz.underlying245 rfl rfl Tryz.underlying9 (by kernel_rfl) (by kernel_rfl)
 refine ⟨Lib.tabIs_of_head (g := 3) (t := 237) (e := 222) (n := 20) (by kernel_rfl) (by kernel_rfl) Tryz.underlying237 Tryz.underlying222 (by kernel_rfl) (by kernel_rfl) h3, ?_, ?_, ?_⟩
 · exact Tryz.laysM143.s1_3 W hS
 · have := World.var?_cell (by kernel_rfl : Tryz.prog.globalNamed "strconv.ErrSyntax" = some 1) hv1 0
   exact ⟨_, _, by simpa using this⟩
 · have := World.var?_cell (by kernel_rfl : Tryz.prog.globalNamed "strconv.ErrRange" = some 2) hv0 0
   exact ⟨_, _, by simpa using this⟩
end
end Go.Proofs.YtmppkaoonncddaaGreatDoor
