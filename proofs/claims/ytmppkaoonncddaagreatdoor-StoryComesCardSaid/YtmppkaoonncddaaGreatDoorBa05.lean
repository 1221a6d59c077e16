/- Part 5 of the proof: Unit2, New, New2, URep, Chain, Eq1, Clone1, Book, Client, Find, Client2, Client3, Insert, Delete. -/
import Derived.Test.YtmppkaoonncddaaGreatDoorBa04
import Derived.Test.YtmppkaoonncddaaGreatDoorBa03
import Derived.Test.YtmppkaoonncddaaGreatDoorProg
import Derived.Test.YtmppkaoonncddaaGreatDoorBa01
import Derived.Test.YtmppkaoonncddaaGreatDoorBa02
import Derived.Deep.RegionLaw
namespace Go.Proofs.YtmppkaoonncddaaGreatDoor
section
set_option linter.unusedSimpArgs false
set_option linter.unusedVariables false
open Go.RowKit
theorem M.off {w : World} {base k n : Nat} {A : Option Addr} {rows : List (List Value)} (h : M w base k A n rows) {p : Addr} (hp : p.block < base) (u : Value) : M (w.setCell p u) base k A n rows :=
 ⟨S.off h.1 (fun hn a e => by
  obtain ⟨b, off, e', h1, _⟩ := h.2 hn
  rw [e] at e'; injection e' with e'; subst e'
  simp only
  omega) u, fun hn => by obtain ⟨b, off, e, h1, h2⟩ := h.2 hn; exact ⟨b, off, e, h1, h2.put _ _⟩⟩
theorem M.putE {w : World} {base n b off i : Nat} {l : List Entry} (h : M w base 5 (some ⟨b, off, none⟩) n (l.map encE)) (hi : i < n) (x : Entry) :
    M (((((w.setCell ⟨b, off + i * 5, none⟩ (.int .i64 x.kind)).setCell ⟨b, off + i * 5 + 1, none⟩ (.int .i64 x.job)).setCell ⟨b, off + i * 5 + 2, none⟩ (.int .i64 x.every)).setCell ⟨b, off + i * 5 + 3, none⟩ (.int .i64 x.time)).setCell ⟨b, off + i * 5 + 4, none⟩ (.int .i64 x.client)) base 5 (some ⟨b, off, none⟩) n ((l.set i x).map encE) := by
 have hl : l.length = n := by have := h.1.len; simpa using this
 have hli : (l.map encE)[i]? = some (encE l[i]) := by simp [List.getElem?_eq_getElem (show i < l.length by omega)]
 have h1 := h.put (j := 0) hli (by simp [encE]) (.int .i64 x.kind)
 have h2 := h1.put (i := i) (j := 1) (r := (encE l[i]).set 0 (.int .i64 x.kind)) (by rw [List.getElem?_set]; simp; omega) (by simp [encE]) (.int .i64 x.job)
 have h3 := h2.put (i := i) (j := 2) (r := ((encE l[i]).set 0 (.int .i64 x.kind)).set 1 (.int .i64 x.job)) (by rw [List.getElem?_set]; simp; omega) (by simp [encE]) (.int .i64 x.every)
 have h4 := h3.put (i := i) (j := 3) (r := (((encE l[i]).set 0 (.int .i64 x.kind)).set 1 (.int .i64 x.job)).set 2 (.int .i64 x.every)) (by rw [List.getElem?_set]; simp; omega) (by simp [encE]) (.int .i64 x.time)
 have h5 := h4.put (i := i) (j := 4) (r := ((((encE l[i]).set 0 (.int .i64 x.kind)).set 1 (.int .i64 x.job)).set 2 (.int .i64 x.every)).set 3 (.int .i64 x.time)) (by rw [List.getElem?_set]; simp; omega) (by simp [encE]) (.int .i64 x.client)
 simpa [encE, List.map_set] using h5
set_option maxHeartbeats 1000000 in
theorem UCopy_calls (ep : Int) (A : Option Addr) (n c : Nat) (cs : List Entry) (w : World) (h : S w 5 A n (cs.map encE)) (hn : n ≤ 100000) :
    Calls Tryz.prog 81 #[.agg #[.int .i64 ep, .slice A n c]] w fun e w' => ∃ A' c', e = .returned (.agg #[.int .i64 ep, .slice A' n c']) ∧ M w' w.heap.size 5 A' n (cs.map encE) ∧ Onto w w' ∧ n ≤ c' ∧ c' ≤ maxLen := by
 go_enter Tryz.func81, Tryz.ntmps81
 go_wp2_with fail
 refine Calls.mono (CloneE_calls _ A n c _ (Nat.le_refl _) (cs.map encE) ((h.new _).new _) (encE_one cs) (by omega)) ?_
 rintro e w2 ⟨A', c', rfl, hown, hb⟩
 have q0 : w2.cell? ⟨w.heap.size, 0, none⟩ = some (.int .i64 ep) := cellB hb (by simp [go_sem])
 have q1 : w2.cell? ⟨w.heap.size, 1, none⟩ = some (.slice A n c) := cellB hb (by simp [go_sem])
 have f1 : w2.frozen? ⟨w.heap.size, 1, none⟩ = false := frozB hb (v := .slice A n c) (by simp [go_sem]) (by simp [go_sem])
 have p0 : w2.cell? ⟨w.heap.size + 1, 0, none⟩ = some (.int .i64 0) := cellB hb (by simp [go_sem])
 have p1 : w2.cell? ⟨w.heap.size + 1, 1, none⟩ = some (.slice none 0 0) := cellB hb (by simp [go_sem])
 have g0 : w2.frozen? ⟨w.heap.size + 1, 0, none⟩ = false := frozB hb (v := .int .i64 0) (by simp [go_sem]) (by simp [go_sem])
 have g1 : w2.frozen? ⟨w.heap.size + 1, 1, none⟩ = false := frozB hb (v := .slice none 0 0) (by simp [go_sem]) (by simp [go_sem])
 have hz : w.heap.size + 1 < w2.heap.size := World.block_lt_of_cell? _ _ p0
 have h2 : Onto w w2 := (((Below.refl _ _).alloc (Nat.le_refl _) _).alloc (by simp) _).trans (hb.mono (by simp; omega))
 have hm := hown.m
 have hc1 := hown.le_cap; have hc2 := hown.cap_max
 simp only [World.size_alloc] at hm
 have HM := Lib.hid hm
 clear hb h hm hown
 go_wp2_with fail
 refine bodyPost_ret (v := .agg #[.int .i64 ep, .slice A' n c']) (by simp [results, Tryz.results81, go_sem, q0, q1, p0, p1]) rfl ⟨A', c', rfl, ?_, ?_, hc1, hc2⟩
 · refine M.lower (base := w.heap.size + 1 + 1) ?_ (by omega)
   repeat (first | exact HM.out | refine M.off ?_ (by first | omega | (simp; done) | (simp; omega)) _)
 · repeat (first | exact h2 | refine Onto.put ?_ (by first | omega | (simp; done) | (simp; omega)) _)
def UPost (w : World) (u : Uni) (err : Int) (e : Ending) (w' : World) : Prop :=
 ∃ A n c, e = .returned (.tuple #[.agg #[.int .i64 u.ep, .slice A n c], .int .i64 err]) ∧ S w' 5 A n (u.cells.map encE) ∧ Onto w w' ∧ n ≤ c ∧ c ≤ maxLen ∧ Fresh w.heap.size A
theorem M.fresh {w : World} {base k n lo : Nat} {A : Option Addr} {rows : List (List Value)} (h : M w base k A n rows) (hn : 0 < n) (hl : lo ≤ base) : Fresh lo A := fun a e => by
 obtain ⟨b, off, e', h1, _⟩ := h.2 hn
 rw [e] at e'; injection e' with e'; subst e'
 simp only
 omega
set_option maxHeartbeats 4000000 in
set_option maxRecDepth 100000 in
theorem UNext_calls (ep : Int) (A : Option Addr) (n c : Nat) (cs : List Entry) (k a p : Int) (x : Entry) (w : World) (h : S w 5 A n (cs.map encE)) :
    Calls Tryz.prog 114 #[.agg #[.int .i64 ep, .slice A n c], .agg #[.int .i64 k, .int .i64 a, .int .i64 p, .int .i64 x.kind, .int .i64 x.job, .int .i64 x.every, .int .i64 x.time, .int .i64 x.client]] w (UPost w (nextU ⟨ep, cs⟩ ⟨k, a, p, x⟩).1 (nextU ⟨ep, cs⟩ ⟨k, a, p, x⟩).2) := by
 have hl : cs.length = n := by have := h.len; simpa using this
 obtain ⟨q, hq⟩ : ∃ q, q = checkU ep cs := ⟨_, rfl⟩
 obtain ⟨q2, hq2⟩ : ∃ q2, q2 = checkR ⟨k, a, p, x⟩ := ⟨_, rfl⟩
 obtain ⟨r, hr⟩ : ∃ r, r = nextU ⟨ep, cs⟩ ⟨k, a, p, x⟩ := ⟨_, rfl⟩
 rw [← hr]
 unfold nextU at hr
 simp only [← hq, ← hq2] at hr
 have HQ := Lib.hid hq; have HQ2 := Lib.hid hq2
 by_cases h0 : q = 0
 · rw [if_neg (by simp [h0])] at hr
   have hg := checkU_iff.1 (h0 ▸ hq.symm)
   have hn : n = 60 := by rw [← hl]; exact hg.len
   subst hn
   by_cases h20 : q2 = 0
   · rw [if_neg (by simp [h20])] at hr
     have HG := Lib.hid hg
     subst h0; subst h20
     have HR := Lib.hid hr
     clear hr hq hq2 hg
     go_enter Tryz.func114, Tryz.ntmps114
     go_wp2_with fail
     have h1 := ((h.new (Obj.cells #[.int .i64 ep, .slice A 60 c] 44)).new (Obj.cells #[.int .i64 k, .int .i64 a, .int .i64 p, .int .i64 x.kind, .int .i64 x.job, .int .i64 x.every, .int .i64 x.time, .int .i64 x.client] 160)).new (Obj.cells #[.int .i64 0, .slice none 0 0] 44)
     refine Calls.mono (UCheck_calls ep A 60 c cs _ h1) ?_
     rw [← HQ.out]
     rintro e w1 ⟨rfl, hb1⟩
     have q0a : w1.cell? ⟨w.heap.size, 0, none⟩ = some (.int .i64 ep) := cellB hb1 (by simp [go_sem])
     have q1a : w1.cell? ⟨w.heap.size, 1, none⟩ = some (.slice A 60 c) := cellB hb1 (by simp [go_sem])
     have r0a : w1.cell? ⟨w.heap.size + 1, 0, none⟩ = some (.int .i64 k) := cellB hb1 (by simp [go_sem])
     have r1a : w1.cell? ⟨w.heap.size + 1, 1, none⟩ = some (.int .i64 a) := cellB hb1 (by simp [go_sem])
     have r2a : w1.cell? ⟨w.heap.size + 1, 2, none⟩ = some (.int .i64 p) := cellB hb1 (by simp [go_sem])
     have r3a : w1.cell? ⟨w.heap.size + 1, 3, none⟩ = some (.int .i64 x.kind) := cellB hb1 (by simp [go_sem])
     have r4a : w1.cell? ⟨w.heap.size + 1, 4, none⟩ = some (.int .i64 x.job) := cellB hb1 (by simp [go_sem])
     have r5a : w1.cell? ⟨w.heap.size + 1, 5, none⟩ = some (.int .i64 x.every) := cellB hb1 (by simp [go_sem])
     have r6a : w1.cell? ⟨w.heap.size + 1, 6, none⟩ = some (.int .i64 x.time) := cellB hb1 (by simp [go_sem])
     have r7a : w1.cell? ⟨w.heap.size + 1, 7, none⟩ = some (.int .i64 x.client) := cellB hb1 (by simp [go_sem])
     have p0a : w1.cell? ⟨w.heap.size + 1 + 1, 0, none⟩ = some (.int .i64 0) := cellB hb1 (by simp [go_sem])
     have p1a : w1.cell? ⟨w.heap.size + 1 + 1, 1, none⟩ = some (.slice none 0 0) := cellB hb1 (by simp [go_sem])
     have fq0a : w1.frozen? ⟨w.heap.size, 0, none⟩ = false := frozB hb1 (v := .int .i64 ep) (by simp [go_sem]) (by simp [go_sem])
     have fq1a : w1.frozen? ⟨w.heap.size, 1, none⟩ = false := frozB hb1 (v := .slice A 60 c) (by simp [go_sem]) (by simp [go_sem])
     have fp0a : w1.frozen? ⟨w.heap.size + 1 + 1, 0, none⟩ = false := frozB hb1 (v := .int .i64 0) (by simp [go_sem]) (by simp [go_sem])
     have fp1a : w1.frozen? ⟨w.heap.size + 1 + 1, 1, none⟩ = false := frozB hb1 (v := .slice none 0 0) (by simp [go_sem]) (by simp [go_sem])
     have h01 : Onto w w1 := ((((Below.refl _ _).alloc (Nat.le_refl _) _).alloc (by simp) _).alloc (by simp; omega) _).trans (hb1.mono (by simp; omega))
     have h1' := h1.onto hb1
     clear hb1 h h1
     go_wp2_with fail
     refine Calls.mono (NCheck_calls k a p x _) ?_
     rw [← HQ2.out]
     rintro e w2 ⟨rfl, hb2⟩
     have q0b := cellB hb2 q0a; have q1b := cellB hb2 q1a; have r0b := cellB hb2 r0a; have r1b := cellB hb2 r1a; have r2b := cellB hb2 r2a; have r3b := cellB hb2 r3a; have r4b := cellB hb2 r4a; have r5b := cellB hb2 r5a; have r6b := cellB hb2 r6a; have r7b := cellB hb2 r7a; have p0b := cellB hb2 p0a; have p1b := cellB hb2 p1a
     have fq0b := frozB hb2 q0a fq0a; have fq1b := frozB hb2 q1a fq1a; have fp0b := frozB hb2 p0a fp0a; have fp1b := frozB hb2 p1a fp1a
     clear q0a q1a r0a r1a r2a r3a r4a r5a r6a r7a p0a p1a fq0a fq1a fp0a fp1a
     have h2 := h1'.onto hb2; have h02 := h01.to hb2
     clear hb2 h1' h01
     go_wp2_with fail
     have hz : w.heap.size + 1 + 1 < w2.heap.size := World.block_lt_of_cell? _ _ p0b
     refine Calls.mono (UCopy_calls ep A 60 c cs _ h2 (by omega)) ?_
     rintro e w3 ⟨A', c', rfl, hm, hb3, hc1, hc2⟩
     have q0c := cellB hb3 q0b; have q1c := cellB hb3 q1b; have r0c := cellB hb3 r0b; have r1c := cellB hb3 r1b; have r2c := cellB hb3 r2b; have r3c := cellB hb3 r3b; have r4c := cellB hb3 r4b; have r5c := cellB hb3 r5b; have r6c := cellB hb3 r6b; have r7c := cellB hb3 r7b; have p0c := cellB hb3 p0b; have p1c := cellB hb3 p1b
     have fq0c := frozB hb3 q0b fq0b; have fq1c := frozB hb3 q1b fq1b; have fp0c := frozB hb3 p0b fp0b; have fp1c := frozB hb3 p1b fp1b
     clear q0b q1b r0b r1b r2b r3b r4b r5b r6b r7b p0b p1b fq0b fq1b fp0b fp1b
     have h03 := h02.to hb3
     have hz3 : w.heap.size + 1 + 1 < w3.heap.size := World.block_lt_of_cell? _ _ p0c
     clear hb3 h2 h02
     go_upto_region 8 with fail
     have hm4 : M ((w3.setCell ⟨w.heap.size, 0, none⟩ (.int .i64 ep)).setCell ⟨w.heap.size, 1, none⟩ (.slice A' 60 c')) w2.heap.size 5 A' 60 (cs.map encE) := M.off (M.off hm (by simp; omega) _) (by simp; omega) _
     have h04 : Onto w ((w3.setCell ⟨w.heap.size, 0, none⟩ (.int .i64 ep)).setCell ⟨w.heap.size, 1, none⟩ (.slice A' 60 c')) := (h03.put (by simp) _).put (by simp) _
     have q0d : ((w3.setCell ⟨w.heap.size, 0, none⟩ (.int .i64 ep)).setCell ⟨w.heap.size, 1, none⟩ (.slice A' 60 c')).cell? ⟨w.heap.size, 0, none⟩ = some (.int .i64 ep) := by simp [go_sem, q0c, q1c]
     have q1d : ((w3.setCell ⟨w.heap.size, 0, none⟩ (.int .i64 ep)).setCell ⟨w.heap.size, 1, none⟩ (.slice A' 60 c')).cell? ⟨w.heap.size, 1, none⟩ = some (.slice A' 60 c') := by simp [go_sem, q0c, q1c]
     have r0d : ((w3.setCell ⟨w.heap.size, 0, none⟩ (.int .i64 ep)).setCell ⟨w.heap.size, 1, none⟩ (.slice A' 60 c')).cell? ⟨w.heap.size + 1, 0, none⟩ = some (.int .i64 k) := by simp [go_sem, r0c]
     have r1d : ((w3.setCell ⟨w.heap.size, 0, none⟩ (.int .i64 ep)).setCell ⟨w.heap.size, 1, none⟩ (.slice A' 60 c')).cell? ⟨w.heap.size + 1, 1, none⟩ = some (.int .i64 a) := by simp [go_sem, r1c]
     have r2d : ((w3.setCell ⟨w.heap.size, 0, none⟩ (.int .i64 ep)).setCell ⟨w.heap.size, 1, none⟩ (.slice A' 60 c')).cell? ⟨w.heap.size + 1, 2, none⟩ = some (.int .i64 p) := by simp [go_sem, r2c]
     have r3d : ((w3.setCell ⟨w.heap.size, 0, none⟩ (.int .i64 ep)).setCell ⟨w.heap.size, 1, none⟩ (.slice A' 60 c')).cell? ⟨w.heap.size + 1, 3, none⟩ = some (.int .i64 x.kind) := by simp [go_sem, r3c]
     have r4d : ((w3.setCell ⟨w.heap.size, 0, none⟩ (.int .i64 ep)).setCell ⟨w.heap.size, 1, none⟩ (.slice A' 60 c')).cell? ⟨w.heap.size + 1, 4, none⟩ = some (.int .i64 x.job) := by simp [go_sem, r4c]
     have r5d : ((w3.setCell ⟨w.heap.size, 0, none⟩ (.int .i64 ep)).setCell ⟨w.heap.size, 1, none⟩ (.slice A' 60 c')).cell? ⟨w.heap.size + 1, 5, none⟩ = some (.int .i64 x.every) := by simp [go_sem, r5c]
     have r6d : ((w3.setCell ⟨w.heap.size, 0, none⟩ (.int .i64 ep)).setCell ⟨w.heap.size, 1, none⟩ (.slice A' 60 c')).cell? ⟨w.heap.size + 1, 6, none⟩ = some (.int .i64 x.time) := by simp [go_sem, r6c]
     have r7d : ((w3.setCell ⟨w.heap.size, 0, none⟩ (.int .i64 ep)).setCell ⟨w.heap.size, 1, none⟩ (.slice A' 60 c')).cell? ⟨w.heap.size + 1, 7, none⟩ = some (.int .i64 x.client) := by simp [go_sem, r7c]
     have p0d : ((w3.setCell ⟨w.heap.size, 0, none⟩ (.int .i64 ep)).setCell ⟨w.heap.size, 1, none⟩ (.slice A' 60 c')).cell? ⟨w.heap.size + 1 + 1, 0, none⟩ = some (.int .i64 0) := by simp [go_sem, p0c]
     have p1d : ((w3.setCell ⟨w.heap.size, 0, none⟩ (.int .i64 ep)).setCell ⟨w.heap.size, 1, none⟩ (.slice A' 60 c')).cell? ⟨w.heap.size + 1 + 1, 1, none⟩ = some (.slice none 0 0) := by simp [go_sem, p1c]
     have fq0d : ((w3.setCell ⟨w.heap.size, 0, none⟩ (.int .i64 ep)).setCell ⟨w.heap.size, 1, none⟩ (.slice A' 60 c')).frozen? ⟨w.heap.size, 0, none⟩ = false := by simp [fq0c]
     have fq1d : ((w3.setCell ⟨w.heap.size, 0, none⟩ (.int .i64 ep)).setCell ⟨w.heap.size, 1, none⟩ (.slice A' 60 c')).frozen? ⟨w.heap.size, 1, none⟩ = false := by simp [fq1c]
     have fp0d : ((w3.setCell ⟨w.heap.size, 0, none⟩ (.int .i64 ep)).setCell ⟨w.heap.size, 1, none⟩ (.slice A' 60 c')).frozen? ⟨w.heap.size + 1 + 1, 0, none⟩ = false := by simp [fp0c]
     have fp1d : ((w3.setCell ⟨w.heap.size, 0, none⟩ (.int .i64 ep)).setCell ⟨w.heap.size, 1, none⟩ (.slice A' 60 c')).frozen? ⟨w.heap.size + 1 + 1, 1, none⟩ = false := by simp [fp1c]
     have hz4 : w.heap.size + 1 + 1 < ((w3.setCell ⟨w.heap.size, 0, none⟩ (.int .i64 ep)).setCell ⟨w.heap.size, 1, none⟩ (.slice A' 60 c')).heap.size := by simp; omega
     clear q0c q1c r0c r1c r2c r3c r4c r5c r6c r7c p0c p1c fq0c fq1c fp0c fp1c h03 hm hz3
     generalize ((w3.setCell ⟨w.heap.size, 0, none⟩ (.int .i64 ep)).setCell ⟨w.heap.size, 1, none⟩ (.slice A' 60 c')) = w4 at *
     have hm := hm4
     clear hm4
     have HM := Lib.hid hm
     have HR0 := HR.out
     clear HR
     by_cases hk : k = 2
     · rw [if_pos hk] at HR0
       by_cases hle : p ≤ ep
       · rw [if_pos hle] at HR0
         have HR := Lib.hid HR0
         subst hk
         clear HR0 hm
         go_wp2_with fail
         refine bodyPost_ret (v := .tuple #[.agg #[.int .i64 0, .slice none 0 0], .int .i64 8]) (by simp [results, Tryz.results114, go_sem, p0d, p1d]) rfl ?_
         rw [HR.out]
         refine ⟨none, 0, 0, rfl, Sl.nil, ?_, Nat.le_refl _, by unfold maxLen; omega, fun a e => by cases e⟩
         repeat (first | exact h04 | refine Onto.put ?_ (by first | omega | (simp; done) | (simp; omega)) _)
       · rw [if_neg hle] at HR0
         have HR := Lib.hid HR0
         subst hk
         clear HR0 hm
         go_wp2_with fail
         refine bodyPost_ret (v := .tuple #[.agg #[.int .i64 p, .slice A' 60 c'], .int .i64 0]) (by simp [results, Tryz.results114, go_sem, q0d, q1d, p0d, p1d]) rfl ?_
         rw [HR.out]
         refine ⟨A', 60, c', rfl, ?_, ?_, hc1, hc2, HM.out.fresh (by omega) (by omega)⟩
         · refine M.sl (base := w2.heap.size) ?_
           repeat (first | exact HM.out | refine M.off ?_ (by first | omega | (simp; done) | (simp; omega)) _)
         · repeat (first | exact h04 | refine Onto.put ?_ (by first | omega | (simp; done) | (simp; omega)) _)
     · rw [if_neg hk] at HR0
       obtain ⟨hk1, ha0, ha1, hp0, hx⟩ := checkR_write HQ2.out.symm hk
       dsimp only at hk1 ha0 ha1 hp0 hx
       obtain ⟨j, rfl⟩ : ∃ j : Nat, a = j := ⟨a.toNat, by omega⟩
       obtain ⟨b, off, y, rfl, hb, hy, e0, e1, e2, e3, e4⟩ := hm.sl.atE (i := j) (by omega)
       have hya := cellAt_eq hy
       simp only [Int.toNat_natCast, hya] at HR0
       obtain ⟨b', off', hA', hbase, hunf⟩ := hm.2 (by omega)
       injection hA' with hA'
       injection hA' with hb1 hb2 hb3
       subst hb1; subst hb2
       by_cases hy4 : y.kind = 4
       · rw [if_neg (by simp [hy4])] at HR0
         have HR := Lib.hid HR0; have HY := Lib.hid hy
         have hd : (y.kind != 4) = false := by simp [hy4]
         clear HR0 hm hya hy
         have u0 := hunf.frozen (off + j * 5); have u1 := hunf.frozen (off + j * 5 + 1); have u2 := hunf.frozen (off + j * 5 + 2); have u3 := hunf.frozen (off + j * 5 + 3); have u4 := hunf.frozen (off + j * 5 + 4)
         have HU := Lib.hid hunf
         clear hunf
         go_upto_region 16 with fail
         have hm5 : M (((((w4.setCell ⟨b, off + j * 5, none⟩ (.int .i64 x.kind)).setCell ⟨b, off + j * 5 + 1, none⟩ (.int .i64 x.job)).setCell ⟨b, off + j * 5 + 2, none⟩ (.int .i64 x.every)).setCell ⟨b, off + j * 5 + 3, none⟩ (.int .i64 x.time)).setCell ⟨b, off + j * 5 + 4, none⟩ (.int .i64 x.client)) w2.heap.size 5 (some ⟨b, off, none⟩) 60 ((cs.set j x).map encE) := M.putE HM.out (by omega) x
         have hbw : w.heap.size ≤ b := by omega
         have h05 : Onto w (((((w4.setCell ⟨b, off + j * 5, none⟩ (.int .i64 x.kind)).setCell ⟨b, off + j * 5 + 1, none⟩ (.int .i64 x.job)).setCell ⟨b, off + j * 5 + 2, none⟩ (.int .i64 x.every)).setCell ⟨b, off + j * 5 + 3, none⟩ (.int .i64 x.time)).setCell ⟨b, off + j * 5 + 4, none⟩ (.int .i64 x.client)) := ((((h04.put hbw _).put hbw _).put hbw _).put hbw _).put hbw _
         have hne : ∀ i o u, ∀ W : World, (W.setCell ⟨b, i, none⟩ u).cell? ⟨w.heap.size, o, none⟩ = W.cell? ⟨w.heap.size, o, none⟩ := fun i o u W => World.cell?_setCell_other W _ _ _ (by intro e; injection e with e; omega)
         have hne2 : ∀ i o u, ∀ W : World, (W.setCell ⟨b, i, none⟩ u).cell? ⟨w.heap.size + 1 + 1, o, none⟩ = W.cell? ⟨w.heap.size + 1 + 1, o, none⟩ := fun i o u W => World.cell?_setCell_other W _ _ _ (by intro e; injection e with e; omega)
         have q0f : (((((w4.setCell ⟨b, off + j * 5, none⟩ (.int .i64 x.kind)).setCell ⟨b, off + j * 5 + 1, none⟩ (.int .i64 x.job)).setCell ⟨b, off + j * 5 + 2, none⟩ (.int .i64 x.every)).setCell ⟨b, off + j * 5 + 3, none⟩ (.int .i64 x.time)).setCell ⟨b, off + j * 5 + 4, none⟩ (.int .i64 x.client)).cell? ⟨w.heap.size, 0, none⟩ = some (.int .i64 ep) := by rw [hne, hne, hne, hne, hne]; exact q0d
         have q1f : (((((w4.setCell ⟨b, off + j * 5, none⟩ (.int .i64 x.kind)).setCell ⟨b, off + j * 5 + 1, none⟩ (.int .i64 x.job)).setCell ⟨b, off + j * 5 + 2, none⟩ (.int .i64 x.every)).setCell ⟨b, off + j * 5 + 3, none⟩ (.int .i64 x.time)).setCell ⟨b, off + j * 5 + 4, none⟩ (.int .i64 x.client)).cell? ⟨w.heap.size, 1, none⟩ = some (.slice (some ⟨b, off, none⟩) 60 c') := by rw [hne, hne, hne, hne, hne]; exact q1d
         have p0f : (((((w4.setCell ⟨b, off + j * 5, none⟩ (.int .i64 x.kind)).setCell ⟨b, off + j * 5 + 1, none⟩ (.int .i64 x.job)).setCell ⟨b, off + j * 5 + 2, none⟩ (.int .i64 x.every)).setCell ⟨b, off + j * 5 + 3, none⟩ (.int .i64 x.time)).setCell ⟨b, off + j * 5 + 4, none⟩ (.int .i64 x.client)).cell? ⟨w.heap.size + 1 + 1, 0, none⟩ = some (.int .i64 0) := by rw [hne2, hne2, hne2, hne2, hne2]; exact p0d
         have p1f : (((((w4.setCell ⟨b, off + j * 5, none⟩ (.int .i64 x.kind)).setCell ⟨b, off + j * 5 + 1, none⟩ (.int .i64 x.job)).setCell ⟨b, off + j * 5 + 2, none⟩ (.int .i64 x.every)).setCell ⟨b, off + j * 5 + 3, none⟩ (.int .i64 x.time)).setCell ⟨b, off + j * 5 + 4, none⟩ (.int .i64 x.client)).cell? ⟨w.heap.size + 1 + 1, 1, none⟩ = some (.slice none 0 0) := by rw [hne2, hne2, hne2, hne2, hne2]; exact p1d
         have fp0f : (((((w4.setCell ⟨b, off + j * 5, none⟩ (.int .i64 x.kind)).setCell ⟨b, off + j * 5 + 1, none⟩ (.int .i64 x.job)).setCell ⟨b, off + j * 5 + 2, none⟩ (.int .i64 x.every)).setCell ⟨b, off + j * 5 + 3, none⟩ (.int .i64 x.time)).setCell ⟨b, off + j * 5 + 4, none⟩ (.int .i64 x.client)).frozen? ⟨w.heap.size + 1 + 1, 0, none⟩ = false := by simp [fp0d]
         have fp1f : (((((w4.setCell ⟨b, off + j * 5, none⟩ (.int .i64 x.kind)).setCell ⟨b, off + j * 5 + 1, none⟩ (.int .i64 x.job)).setCell ⟨b, off + j * 5 + 2, none⟩ (.int .i64 x.every)).setCell ⟨b, off + j * 5 + 3, none⟩ (.int .i64 x.time)).setCell ⟨b, off + j * 5 + 4, none⟩ (.int .i64 x.client)).frozen? ⟨w.heap.size + 1 + 1, 1, none⟩ = false := by simp [fp1d]
         have hz5 : w.heap.size + 1 + 1 < (((((w4.setCell ⟨b, off + j * 5, none⟩ (.int .i64 x.kind)).setCell ⟨b, off + j * 5 + 1, none⟩ (.int .i64 x.job)).setCell ⟨b, off + j * 5 + 2, none⟩ (.int .i64 x.every)).setCell ⟨b, off + j * 5 + 3, none⟩ (.int .i64 x.time)).setCell ⟨b, off + j * 5 + 4, none⟩ (.int .i64 x.client)).heap.size := by simp; omega
         clear q0d q1d r0d r1d r2d r3d r4d r5d r6d r7d p0d p1d fq0d fq1d fp0d fp1d h04 HM hz4 e0 e1 e2 e3 e4 u0 u1 u2 u3 u4 HU hb hne hne2
         generalize (((((w4.setCell ⟨b, off + j * 5, none⟩ (.int .i64 x.kind)).setCell ⟨b, off + j * 5 + 1, none⟩ (.int .i64 x.job)).setCell ⟨b, off + j * 5 + 2, none⟩ (.int .i64 x.every)).setCell ⟨b, off + j * 5 + 3, none⟩ (.int .i64 x.time)).setCell ⟨b, off + j * 5 + 4, none⟩ (.int .i64 x.client)) = w5 at *
         go_wp2_with fail
         refine bodyPost_ret (v := .tuple #[.agg #[.int .i64 ep, .slice (some ⟨b, off, none⟩) 60 c'], .int .i64 0]) (by simp [results, Tryz.results114, go_sem, q0f, q1f, p0f, p1f]) rfl ?_
         rw [HR.out]
         refine ⟨some ⟨b, off, none⟩, 60, c', rfl, ?_, ?_, hc1, hc2, hm5.fresh (by omega) (by omega)⟩
         · refine M.sl (base := w2.heap.size) ?_
           refine M.off (M.off hm5 ?_ _) ?_ _
           all_goals (first | omega | (simp; done) | (simp; omega))
         · repeat (first | exact h05 | refine Onto.put ?_ (by first | omega | (simp; done) | (simp; omega)) _)
       · rw [if_pos hy4] at HR0
         have HR := Lib.hid HR0; have HY := Lib.hid hy
         have hd : (y.kind != 4) = true := by simpa using hy4
         clear HR0 hm hya hy
         go_wp2_with fail
         refine bodyPost_ret (v := .tuple #[.agg #[.int .i64 0, .slice none 0 0], .int .i64 6]) (by simp [results, Tryz.results114, go_sem, p0d, p1d]) rfl ?_
         rw [HR.out]
         refine ⟨none, 0, 0, rfl, Sl.nil, ?_, Nat.le_refl _, by unfold maxLen; omega, fun a e => by cases e⟩
         repeat (first | exact h04 | refine Onto.put ?_ (by first | omega | (simp; done) | (simp; omega)) _)
   · have hq1 : (q2 != 0) = true := by simpa using h20
     have HG := Lib.hid hg
     rw [if_pos h20] at hr
     have HR := Lib.hid hr
     subst h0
     clear hr hq hq2 hg
     go_enter Tryz.func114, Tryz.ntmps114
     go_wp2_with fail
     have h1 := ((h.new (Obj.cells #[.int .i64 ep, .slice A 60 c] 44)).new (Obj.cells #[.int .i64 k, .int .i64 a, .int .i64 p, .int .i64 x.kind, .int .i64 x.job, .int .i64 x.every, .int .i64 x.time, .int .i64 x.client] 160)).new (Obj.cells #[.int .i64 0, .slice none 0 0] 44)
     refine Calls.mono (UCheck_calls ep A 60 c cs _ h1) ?_
     rw [← HQ.out]
     rintro e w1 ⟨rfl, hb1⟩
     have q0a : w1.cell? ⟨w.heap.size, 0, none⟩ = some (.int .i64 ep) := cellB hb1 (by simp [go_sem])
     have q1a : w1.cell? ⟨w.heap.size, 1, none⟩ = some (.slice A 60 c) := cellB hb1 (by simp [go_sem])
     have r0a : w1.cell? ⟨w.heap.size + 1, 0, none⟩ = some (.int .i64 k) := cellB hb1 (by simp [go_sem])
     have r1a : w1.cell? ⟨w.heap.size + 1, 1, none⟩ = some (.int .i64 a) := cellB hb1 (by simp [go_sem])
     have r2a : w1.cell? ⟨w.heap.size + 1, 2, none⟩ = some (.int .i64 p) := cellB hb1 (by simp [go_sem])
     have r3a : w1.cell? ⟨w.heap.size + 1, 3, none⟩ = some (.int .i64 x.kind) := cellB hb1 (by simp [go_sem])
     have r4a : w1.cell? ⟨w.heap.size + 1, 4, none⟩ = some (.int .i64 x.job) := cellB hb1 (by simp [go_sem])
     have r5a : w1.cell? ⟨w.heap.size + 1, 5, none⟩ = some (.int .i64 x.every) := cellB hb1 (by simp [go_sem])
     have r6a : w1.cell? ⟨w.heap.size + 1, 6, none⟩ = some (.int .i64 x.time) := cellB hb1 (by simp [go_sem])
     have r7a : w1.cell? ⟨w.heap.size + 1, 7, none⟩ = some (.int .i64 x.client) := cellB hb1 (by simp [go_sem])
     have p0a : w1.cell? ⟨w.heap.size + 1 + 1, 0, none⟩ = some (.int .i64 0) := cellB hb1 (by simp [go_sem])
     have p1a : w1.cell? ⟨w.heap.size + 1 + 1, 1, none⟩ = some (.slice none 0 0) := cellB hb1 (by simp [go_sem])
     have fq0a : w1.frozen? ⟨w.heap.size, 0, none⟩ = false := frozB hb1 (v := .int .i64 ep) (by simp [go_sem]) (by simp [go_sem])
     have fq1a : w1.frozen? ⟨w.heap.size, 1, none⟩ = false := frozB hb1 (v := .slice A 60 c) (by simp [go_sem]) (by simp [go_sem])
     have fp0a : w1.frozen? ⟨w.heap.size + 1 + 1, 0, none⟩ = false := frozB hb1 (v := .int .i64 0) (by simp [go_sem]) (by simp [go_sem])
     have fp1a : w1.frozen? ⟨w.heap.size + 1 + 1, 1, none⟩ = false := frozB hb1 (v := .slice none 0 0) (by simp [go_sem]) (by simp [go_sem])
     have h01 : Onto w w1 := ((((Below.refl _ _).alloc (Nat.le_refl _) _).alloc (by simp) _).alloc (by simp; omega) _).trans (hb1.mono (by simp; omega))
     have h1' := h1.onto hb1
     clear hb1 h h1
     go_wp2_with fail
     refine Calls.mono (NCheck_calls k a p x _) ?_
     rw [← HQ2.out]
     rintro e w2 ⟨rfl, hb2⟩
     have q0c := cellB hb2 q0a; have q1c := cellB hb2 q1a; have r0c := cellB hb2 r0a; have r1c := cellB hb2 r1a; have r2c := cellB hb2 r2a; have r3c := cellB hb2 r3a; have r4c := cellB hb2 r4a; have r5c := cellB hb2 r5a; have r6c := cellB hb2 r6a; have r7c := cellB hb2 r7a; have p0c := cellB hb2 p0a; have p1c := cellB hb2 p1a
     have fq0c := frozB hb2 q0a fq0a; have fq1c := frozB hb2 q1a fq1a; have fp0c := frozB hb2 p0a fp0a; have fp1c := frozB hb2 p1a fp1a
     clear q0a q1a r0a r1a r2a r3a r4a r5a r6a r7a p0a p1a fq0a fq1a fp0a fp1a
     have h03 := h01.to hb2
     clear h01 hb2 h1'
     go_wp2_with fail
     refine bodyPost_ret (v := .tuple #[.agg #[.int .i64 0, .slice none 0 0], .int .i64 q2]) (by simp [results, Tryz.results114, go_sem, p0c, p1c]) rfl ?_
     rw [HR.out]
     refine ⟨none, 0, 0, rfl, Sl.nil, ?_, Nat.le_refl _, by unfold maxLen; omega, fun a e => by cases e⟩
     repeat (first | exact h03 | refine Onto.put ?_ (by first | omega | (simp; done) | (simp; omega)) _)
 · rw [if_pos h0] at hr
   have hq0 : (q != 0) = true := by simpa using h0
   have HR := Lib.hid hr
   clear hr hq hq2
   go_enter Tryz.func114, Tryz.ntmps114
   go_wp2_with fail
   refine Calls.mono (UCheck_calls ep A n c cs _ (((h.new _).new _).new _)) ?_
   rw [← HQ.out]
   rintro e w1 ⟨rfl, hb1⟩
   have p0 : w1.cell? ⟨w.heap.size + 1 + 1, 0, none⟩ = some (.int .i64 0) := cellB hb1 (by simp [go_sem])
   have p1 : w1.cell? ⟨w.heap.size + 1 + 1, 1, none⟩ = some (.slice none 0 0) := cellB hb1 (by simp [go_sem])
   have g0 : w1.frozen? ⟨w.heap.size + 1 + 1, 0, none⟩ = false := frozB hb1 (v := .int .i64 0) (by simp [go_sem]) (by simp [go_sem])
   have g1 : w1.frozen? ⟨w.heap.size + 1 + 1, 1, none⟩ = false := frozB hb1 (v := .slice none 0 0) (by simp [go_sem]) (by simp [go_sem])
   have h01 : Onto w w1 := ((((Below.refl _ _).alloc (Nat.le_refl _) _).alloc (by simp) _).alloc (by simp; omega) _).trans (hb1.mono (by simp; omega))
   clear hb1 h
   go_wp2_with fail
   refine bodyPost_ret (v := .tuple #[.agg #[.int .i64 0, .slice none 0 0], .int .i64 q]) (by simp [results, Tryz.results114, go_sem, p0, p1]) rfl ?_
   rw [HR.out]
   refine ⟨none, 0, 0, rfl, Sl.nil, ?_, Nat.le_refl _, by unfold maxLen; omega, fun a e => by cases e⟩
   repeat (first | exact h01 | refine Onto.put ?_ (by first | omega | (simp; done) | (simp; omega)) _)
end
section
set_option linter.unusedSimpArgs false
set_option linter.unusedVariables false
open Go.RowKit
theorem Sl.one {w : World} {t : TypeId} (x : Entry) : Sl (w.alloc (Obj.cells #[.int .i64 x.kind, .int .i64 x.job, .int .i64 x.every, .int .i64 x.time, .int .i64 x.client] t)) (w.heap.size + 1) 5 (some ⟨w.heap.size, 0, none⟩) 1 [encE x] := by
 have := Sl.block (k := 5) (w := w.alloc (Obj.cells #[.int .i64 x.kind, .int .i64 x.job, .int .i64 x.every, .int .i64 x.time, .int .i64 x.client] t)) [encE x] (hNew rfl) (by simp [encE]) (by rfl)
 simpa using this
end
section
set_option linter.unusedSimpArgs false
set_option linter.unusedVariables false
open Go.RowKit
set_option maxHeartbeats 4000000 in
set_option maxRecDepth 100000 in
theorem UNew2_calls (w : World) : Calls Tryz.prog 86 #[] w fun e w' => ∃ A c, e = .returned (.agg #[.int .i64 1, .slice A 60 c]) ∧ S w' 5 A 60 (newU.cells.map encE) ∧ Onto w w' ∧ 60 ≤ c ∧ c ≤ maxLen ∧ Fresh w.heap.size A := by
 go_enter Tryz.func86, Tryz.ntmps86
 go_wp2_with fail
 go_loopw [3] (fun s wr => ∃ (k : Nat) (A : Option Addr) (c : Nat), k ≤ 60 ∧ s = .int .i64 k ∧ Hid (Own wr (w.heap.size + 2) 27 5 (.slice A k c) k ((List.replicate k blank).map encE)) ∧ wr.cell? ⟨w.heap.size + 1, 0, none⟩ = some (.int .i64 1) ∧ wr.cell? ⟨w.heap.size + 1, 1, none⟩ = some (.slice A k c) ∧
  wr.frozen? ⟨w.heap.size + 1, 1, none⟩ = false ∧ wr.cell? ⟨w.heap.size, 0, none⟩ = some (.int .i64 0) ∧ wr.cell? ⟨w.heap.size, 1, none⟩ = some (.slice none 0 0) ∧ wr.frozen? ⟨w.heap.size, 0, none⟩ = false ∧ wr.frozen? ⟨w.heap.size, 1, none⟩ = false ∧ Onto w wr) (fun s _ => 60 - (intOf s).toNat)
 case atStart =>
  refine ⟨0, none, 0, by omega, rfl, Own.nil _ _ _ _, by simp [go_sem], by simp [go_sem], by simp [go_sem], by simp [go_sem], by simp [go_sem], by simp [go_sem], by simp [go_sem], ?_⟩
  repeat (first | exact Below.refl _ _ | refine Below.setCell ?_ (by simp) _ | refine Below.alloc ?_ (by simp <;> omega) _)
 case round =>
  obtain ⟨k, A, c, hk, rfl, HO, q0, q1, f1, p0, p1, g0, g1, hbr⟩ := hrel
  have hz : w.heap.size + 1 < wr.heap.size := World.block_lt_of_cell? _ _ q0
  by_cases hlt : k < 60
  · obtain ⟨i0, hi0, hzz0, hzz1, hzz2⟩ := info_parts infoE
    have HI0 := Lib.hid hi0; have HZ0 := Lib.hid hzz0; have HZ1 := Lib.hid hzz1; have HZ2 := Lib.hid hzz2
    clear hi0 hzz0 hzz1 hzz2
    have hnew : Sl (wr.alloc (Obj.cells #[.int .i64 4, .int .i64 0, .int .i64 0, .int .i64 0, .int .i64 0] 27)) (wr.heap.size + 1) 5 (some ⟨wr.heap.size, 0, none⟩) 1 [encE blank] := Sl.one blank
    have HNEW := Lib.hid hnew
    clear hnew
    go_wp2_with (at_builtin; refine wpList_append_sl _ rfl (.tmp 6) (.tmp 8) 42 rfl (w.heap.size + 2) 27 i0 _ 5 40 Tryz.underlying42 HI0.out HZ0.out HZ1.out HZ2.out rfl (by decide) (.slice A k c) k ((List.replicate k blank).map encE) rfl (HO.out.alloc _) (wr.heap.size + 1) (some ⟨wr.heap.size, 0, none⟩) 1 1 [encE blank] rfl HNEW.out (by simp [encE, Value.oneCell']) (by unfold maxLen; omega) (by omega) (by simp; omega) ?_)
    intro v8 w8 own8 grow8 hv8
    obtain ⟨A8, c8, rfl, _, _⟩ := own8.slice
    have nr : ∀ z, z < w.heap.size + 2 → some z ≠ Value.ownBlock (.slice A k c) := fun z hz => HO.out.notBelow hz
    have hbA : Below wr.heap.size wr (wr.alloc (Obj.cells #[.int .i64 4, .int .i64 0, .int .i64 0, .int .i64 0, .int .i64 0] 27)) := (Below.refl _ _).alloc (Nat.le_refl _) _
    have q0' := grow_cell grow8 (cellB hbA q0) (nr _ (by simp only; omega)); have q1' := grow_cell grow8 (cellB hbA q1) (nr _ (by simp only; omega))
    have p0' := grow_cell grow8 (cellB hbA p0) (nr _ (by simp only; omega)); have p1' := grow_cell grow8 (cellB hbA p1) (nr _ (by simp only; omega))
    have f1' := grow_froz grow8 (cellB hbA q1) (frozB hbA q1 f1) (nr _ (by simp only; omega))
    have g0' := grow_froz grow8 (cellB hbA p0) (frozB hbA p0 g0) (nr _ (by simp only; omega)); have g1' := grow_froz grow8 (cellB hbA p1) (frozB hbA p1 g1) (nr _ (by simp only; omega))
    have hB8 : Below w.heap.size w w8 := below_grown (hbr.alloc (by omega) _) (by simp; omega) grow8 (fun g hg => by have := (HO.out.1.lt g hg).1; omega)
    have hz8 : w.heap.size + 1 < w8.heap.size := World.block_lt_of_cell? _ _ q0'
    have HO8 := Lib.hid own8
    clear q0 q1 p0 p1 f1 g0 g1 hbA nr grow8 hv8 hbr hz own8 HO HI0 HZ0 HZ1 HZ2 HNEW
    go_wp2_with fail
    go_roundw
    case measure => simp [intOf] <;> omega
    case rel =>
     refine ⟨k + 1, A8, c8, by omega, by go_num, ?_, by simp [go_sem, q0', q1'], by simp [go_sem, q1'], by simp [f1'], by simp [go_sem, p0'], by simp [go_sem, p1'], by simp [g0'], by simp [g1'], hB8.setCell (by simp) _⟩
     have h := HO8.out.setCell (p := ⟨w.heap.size + 1, 1, none⟩) (by simp only; omega) (.slice A8 (k + 1) c8)
     refine Lib.hid ?_
     have e : (List.replicate (k + 1) blank).map encE = (List.replicate k blank).map encE ++ [encE blank] := by rw [List.replicate_succ', List.map_append]; rfl
     rw [e]
     first | exact h | (rw [List.map_replicate]; exact h)
  · obtain rfl : k = 60 := by omega
    go_wp2_with fail
    refine bodyPost_ret (v := .agg #[.int .i64 1, .slice A 60 c]) (by simp [results, Tryz.results86, go_sem, p0, p1]) rfl ⟨A, c, rfl, ?_, ?_, HO.out.le_cap, HO.out.cap_max, HO.out.fresh (by omega)⟩
    · have h := ((HO.out.setCell (p := ⟨w.heap.size, 0, none⟩) (by simp only; omega) (.int .i64 1)).setCell (p := ⟨w.heap.size, 1, none⟩) (by simp only; omega) (.slice A 60 c)).sl
      exact Sl.more h (by simp)
    · exact (hbr.setCell (by simp) _).setCell (by simp) _
end
section
set_option linter.unusedSimpArgs false
set_option linter.unusedVariables false
open Go.RowKit
def URPost2 (w : World) (u : Uni) (err : Int) (e : Ending) (w' : World) : Prop :=
 ∃ A n c, e = .returned (.tuple #[.agg #[.int .i64 u.ep, .slice A n c], .int .i64 err]) ∧ S w' 5 A n (u.cells.map encE) ∧ Onto w w' ∧ Fresh w.heap.size A ∧ n ≤ c ∧ c ≤ maxLen
def Offs (z : Nat) (A : Option Addr) : Prop := ∀ a, A = some a → a.block ≠ z
theorem Offs.n {z n : Nat} {A : Option Addr} (h : Offs z A) : OffN n z A := fun _ => h
theorem Fresh.offs {lo z : Nat} {A : Option Addr} (h : Fresh lo A) (hz : z < lo) : Offs z A := fun a e => by have := h a e; omega
theorem nextU_len {u : Uni} {r : Rec} : (nextU u r).1.cells.length ≤ 60 := by
 unfold nextU
 split
 · simp
 · next hc =>
   have hl := (checkU_iff.1 (Decidable.not_not.1 hc)).len
   repeat' split
   all_goals (simp only [List.length_nil, List.length_set]; omega)
theorem unitGo_len : ∀ {l : List Rec} {u : Uni}, u.cells.length ≤ 60 → (unitGo u l).1.cells.length ≤ 60
 | [], u, h => h
 | r :: l, u, h => by
   unfold unitGo
   split
   · simp
   · exact unitGo_len nextU_len
theorem unitL_len (l : List Rec) : (unitL l).1.cells.length ≤ 60 := by
 unfold unitL
 split
 · simp
 · exact unitGo_len (by simp [newU])
set_option maxHeartbeats 4000000 in
set_option maxRecDepth 100000 in
theorem UReplay2_calls (A : Option Addr) (n c : Nat) (l : List Rec) (w : World) (h : S w 8 A n (l.map encQ)) :
    Calls Tryz.prog 92 #[.slice A n c] w (URPost2 w (unitL l).1 (unitL l).2) := by
 have hl : l.length = n := by have := h.len; simpa using this
 by_cases hbig : 160 < n
 · have hs : unitL l = (⟨0, []⟩, 2) := by unfold unitL; rw [if_pos (by omega)]
   have HS := Lib.hid hs
   have hd : decide ((160 : Int) < (n : Int)) = true := by simp; omega
   have hd' : (160 : Int) < (n : Int) := by omega
   clear h hs hl
   go_enter Tryz.func92, Tryz.ntmps92
   go_wp2
   refine bodyPost_ret (v := .tuple #[.agg #[.int .i64 0, .slice none 0 0], .int .i64 2]) (by simp [results, Tryz.results92, go_sem]) rfl ?_
   rw [HS.out]
   refine ⟨none, 0, 0, rfl, Sl.nil, ?_, Fresh.none_ _, by omega, by simp [maxLen]⟩
   repeat (first | exact Onto.rfl' _ | refine Onto.put ?_ (by simp <;> omega) _ | refine Onto.new ?_ _)
 · have hs : unitL l = unitGo newU l := by unfold unitL; rw [if_neg (by omega)]
   have hn60 : n ≤ 160 := by omega
   have hd : decide ((160 : Int) < (n : Int)) = false := by simp; omega
   have hd' : ¬ (160 : Int) < (n : Int) := by omega
   have HS := Lib.hid hs; have HL := Lib.hid hl
   clear hs hl hbig
   have h0 := h
   go_enter Tryz.func92, Tryz.ntmps92
   go_wp2_with fail
   refine Calls.mono (UNew2_calls _) ?_
   rintro e w1 ⟨A1, c1, rfl, s1, o1, hq1, hq2, hfr⟩
   have r0 : w1.cell? ⟨w.heap.size, 0, none⟩ = some (.int .i64 0) := cellB o1 (by simp [go_sem])
   have r1 : w1.cell? ⟨w.heap.size, 1, none⟩ = some (.slice none 0 0) := cellB o1 (by simp [go_sem])
   have g0 : w1.frozen? ⟨w.heap.size, 0, none⟩ = false := frozB (v := .int .i64 0) o1 (by simp [go_sem]) (by simp [go_sem])
   have g1 : w1.frozen? ⟨w.heap.size, 1, none⟩ = false := frozB (v := .slice none 0 0) o1 (by simp [go_sem]) (by simp [go_sem])
   have hzr : w.heap.size < w1.heap.size := World.block_lt_of_cell? _ _ r0
   have hf1 : Fresh (w.heap.size + 1) A1 := by simpa using hfr
   have hof1 : Offs w1.heap.size A1 := Sl.offN s1 (Nat.le_refl _) (by omega)
   replace o1 : Onto w w1 := Onto.to ((Onto.rfl' w).new _) o1
   replace h := S.onto h o1
   go_upto_region 4 with fail
   have hO : Onto w1 (w1.alloc (Obj.cells #[.int .i64 1, .slice A1 60 c1] 44)) := (Onto.rfl' w1).new _
   have p0 : (w1.alloc (Obj.cells #[.int .i64 1, .slice A1 60 c1] 44)).cell? ⟨w1.heap.size, 0, none⟩ = some (.int .i64 1) := by simp [go_sem]
   have p1 : (w1.alloc (Obj.cells #[.int .i64 1, .slice A1 60 c1] 44)).cell? ⟨w1.heap.size, 1, none⟩ = some (.slice A1 60 c1) := by simp [go_sem]
   have f0 : (w1.alloc (Obj.cells #[.int .i64 1, .slice A1 60 c1] 44)).frozen? ⟨w1.heap.size, 0, none⟩ = false := by simp [go_sem]
   have f1 : (w1.alloc (Obj.cells #[.int .i64 1, .slice A1 60 c1] 44)).frozen? ⟨w1.heap.size, 1, none⟩ = false := by simp [go_sem]
   replace g0 := frozB hO r0 g0; replace g1 := frozB hO r1 g1; replace r0 := cellB hO r0; replace r1 := cellB hO r1
   replace s1 := S.onto s1 hO; replace h := S.onto h hO; replace o1 := Onto.to o1 hO
   have hzz : w1.heap.size < (w1.alloc (Obj.cells #[.int .i64 1, .slice A1 60 c1] 44)).heap.size := by simp
   have ofb : Offs w1.heap.size A1 := hof1
   have ofr : Offs w.heap.size A1 := hf1.offs (by omega)
   have ohb : OffN n w1.heap.size A := h0.offN (by omega)
   have ohr : OffN n w.heap.size A := h0.offN (Nat.le_refl _)
   have hfw : Fresh w.heap.size A1 := fun a e => by have := hf1 a e; omega
   clear hO hf1 hfr hof1
   change Code.wp _ _ _ _ (w1.alloc (Obj.cells #[.int .i64 1, .slice A1 60 c1] 44))
   generalize (w1.alloc (Obj.cells #[.int .i64 1, .slice A1 60 c1] 44)) = w2 at *
   generalize w1.heap.size = zb at *
   have hne : zb ≠ w.heap.size := by omega
   go_wp2_with fail
   go_loopw [15] (fun s wr => ∃ (k : Nat) (u : Uni) (A1 : Option Addr) (n1 c1 : Nat), k ≤ n ∧ s = .int .i64 k ∧ wr.cell? ⟨zb, 0, none⟩ = some (.int .i64 u.ep) ∧ wr.cell? ⟨zb, 1, none⟩ = some (.slice A1 n1 c1) ∧ wr.frozen? ⟨zb, 0, none⟩ = false ∧ wr.frozen? ⟨zb, 1, none⟩ = false ∧
       wr.cell? ⟨w.heap.size, 0, none⟩ = some (.int .i64 0) ∧ wr.cell? ⟨w.heap.size, 1, none⟩ = some (.slice none 0 0) ∧ wr.frozen? ⟨w.heap.size, 0, none⟩ = false ∧ wr.frozen? ⟨w.heap.size, 1, none⟩ = false ∧
       S wr 5 A1 n1 (u.cells.map encE) ∧ Offs zb A1 ∧ Offs w.heap.size A1 ∧ Fresh w.heap.size A1 ∧ S wr 8 A n (l.map encQ) ∧ zb < wr.heap.size ∧ Onto w wr ∧ n1 ≤ c1 ∧ c1 ≤ maxLen ∧ Hid (unitGo newU l = unitGo u (l.drop k))) (fun s _ => n - (intOf s).toNat)
   case atStart => exact ⟨0, newU, A1, 60, c1, Nat.zero_le _, rfl, p0, p1, f0, f1, r0, r1, g0, g1, s1, ofb, ofr, hfw, h, hzz, o1, hq1, hq2, rfl⟩
   case round =>
    obtain ⟨k, u, A1, n1, c1, hk, rfl, p0, p1, f0, f1, r0, r1, g0, g1, s1, ofb, ofr, hfw, h, hzz, o1, hq1, hq2, HG⟩ := hrel
    by_cases hlt : k < n
    · obtain ⟨bb, off, x, rfl, hbb, hx, d0, d1, d2, d3, d4, d5, d6, d7⟩ := h.atQ hlt
      have hat := unitGo_at (u := u) hx
      have HAT := Lib.hid hat
      clear hat hx
      go_upto_region 7 with fail
      have hO : Onto wr (wr.alloc (Obj.cells #[.int .i64 x.kind, .int .i64 x.at_, .int .i64 x.epoch, .int .i64 x.e.kind, .int .i64 x.e.job, .int .i64 x.e.every, .int .i64 x.e.time, .int .i64 x.e.client] 160)) := (Onto.rfl' wr).new _
      have e0 : (wr.alloc (Obj.cells #[.int .i64 x.kind, .int .i64 x.at_, .int .i64 x.epoch, .int .i64 x.e.kind, .int .i64 x.e.job, .int .i64 x.e.every, .int .i64 x.e.time, .int .i64 x.e.client] 160)).cell? ⟨wr.heap.size, 0, none⟩ = some (.int .i64 x.kind) := by simp [go_sem]
      have e1 : (wr.alloc (Obj.cells #[.int .i64 x.kind, .int .i64 x.at_, .int .i64 x.epoch, .int .i64 x.e.kind, .int .i64 x.e.job, .int .i64 x.e.every, .int .i64 x.e.time, .int .i64 x.e.client] 160)).cell? ⟨wr.heap.size, 1, none⟩ = some (.int .i64 x.at_) := by simp [go_sem]
      have e2 : (wr.alloc (Obj.cells #[.int .i64 x.kind, .int .i64 x.at_, .int .i64 x.epoch, .int .i64 x.e.kind, .int .i64 x.e.job, .int .i64 x.e.every, .int .i64 x.e.time, .int .i64 x.e.client] 160)).cell? ⟨wr.heap.size, 2, none⟩ = some (.int .i64 x.epoch) := by simp [go_sem]
      have e3 : (wr.alloc (Obj.cells #[.int .i64 x.kind, .int .i64 x.at_, .int .i64 x.epoch, .int .i64 x.e.kind, .int .i64 x.e.job, .int .i64 x.e.every, .int .i64 x.e.time, .int .i64 x.e.client] 160)).cell? ⟨wr.heap.size, 3, none⟩ = some (.int .i64 x.e.kind) := by simp [go_sem]
      have e4 : (wr.alloc (Obj.cells #[.int .i64 x.kind, .int .i64 x.at_, .int .i64 x.epoch, .int .i64 x.e.kind, .int .i64 x.e.job, .int .i64 x.e.every, .int .i64 x.e.time, .int .i64 x.e.client] 160)).cell? ⟨wr.heap.size, 4, none⟩ = some (.int .i64 x.e.job) := by simp [go_sem]
      have e5 : (wr.alloc (Obj.cells #[.int .i64 x.kind, .int .i64 x.at_, .int .i64 x.epoch, .int .i64 x.e.kind, .int .i64 x.e.job, .int .i64 x.e.every, .int .i64 x.e.time, .int .i64 x.e.client] 160)).cell? ⟨wr.heap.size, 5, none⟩ = some (.int .i64 x.e.every) := by simp [go_sem]
      have e6 : (wr.alloc (Obj.cells #[.int .i64 x.kind, .int .i64 x.at_, .int .i64 x.epoch, .int .i64 x.e.kind, .int .i64 x.e.job, .int .i64 x.e.every, .int .i64 x.e.time, .int .i64 x.e.client] 160)).cell? ⟨wr.heap.size, 6, none⟩ = some (.int .i64 x.e.time) := by simp [go_sem]
      have e7 : (wr.alloc (Obj.cells #[.int .i64 x.kind, .int .i64 x.at_, .int .i64 x.epoch, .int .i64 x.e.kind, .int .i64 x.e.job, .int .i64 x.e.every, .int .i64 x.e.time, .int .i64 x.e.client] 160)).cell? ⟨wr.heap.size, 7, none⟩ = some (.int .i64 x.e.client) := by simp [go_sem]
      clear d0 d1 d2 d3 d4 d5 d6 d7 hbb
      replace g0 := frozB hO r0 g0; replace g1 := frozB hO r1 g1; replace r0 := cellB hO r0; replace r1 := cellB hO r1
      replace f0 := frozB hO p0 f0; replace f1 := frozB hO p1 f1; replace p0 := cellB hO p0; replace p1 := cellB hO p1
      replace s1 := S.onto s1 hO; replace h := S.onto h hO; replace o1 := Onto.to o1 hO
      have hz3 : zb < (wr.alloc (Obj.cells #[.int .i64 x.kind, .int .i64 x.at_, .int .i64 x.epoch, .int .i64 x.e.kind, .int .i64 x.e.job, .int .i64 x.e.every, .int .i64 x.e.time, .int .i64 x.e.client] 160)).heap.size := by simp; omega
      clear hO hzz
      change Code.wp _ _ _ _ (wr.alloc (Obj.cells #[.int .i64 x.kind, .int .i64 x.at_, .int .i64 x.epoch, .int .i64 x.e.kind, .int .i64 x.e.job, .int .i64 x.e.every, .int .i64 x.e.time, .int .i64 x.e.client] 160))
      generalize (wr.alloc (Obj.cells #[.int .i64 x.kind, .int .i64 x.at_, .int .i64 x.epoch, .int .i64 x.e.kind, .int .i64 x.e.job, .int .i64 x.e.every, .int .i64 x.e.time, .int .i64 x.e.client] 160)) = w3 at *
      generalize wr.heap.size = be at *
      obtain ⟨r, hr⟩ : ∃ r, r = nextU u x := ⟨_, rfl⟩
      have HR := Lib.hid hr
      clear hr
      go_wp2_with fail
      refine Calls.mono (UNext_calls u.ep A1 n1 c1 u.cells x.kind x.at_ x.epoch x.e _ s1) ?_
      rw [show nextU ⟨u.ep, u.cells⟩ ⟨x.kind, x.at_, x.epoch, x.e⟩ = r from HR.out.symm]
      rintro e w4 ⟨A2, n2, c2, rfl, s2, hO, hq3, hq4, fr2⟩
      have of2b : Offs zb A2 := fr2.offs hz3
      have of2r : Offs w.heap.size A2 := fr2.offs (by omega)
      have fw2 : Fresh w.heap.size A2 := fun a e => by have := fr2 a e; omega
      clear fr2
      replace g0 := frozB hO r0 g0; replace g1 := frozB hO r1 g1; replace r0 := cellB hO r0; replace r1 := cellB hO r1
      replace f0 := frozB hO p0 f0; replace f1 := frozB hO p1 f1; replace p0 := cellB hO p0; replace p1 := cellB hO p1
      replace s1 := S.onto s1 hO; replace h := S.onto h hO; replace o1 := Onto.to o1 hO
      have hz4 : zb < w4.heap.size := World.block_lt_of_cell? _ _ p0
      clear hO e0 e1 e2 e3 e4 e5 e6 e7 s1 ofb ofr hfw hz3
      obtain ⟨q, hq⟩ : ∃ q, q = r.2 := ⟨_, rfl⟩
      rw [← hq]
      have HQ := Lib.hid hq
      clear hq
      by_cases hq0 : q = 0
      · subst hq0
        have HG2 : Hid (unitGo newU l = unitGo r.1 (l.drop (k + 1))) := Lib.hid (by rw [HG.out, HAT.out, ← HR.out, if_neg (by simp [← HQ.out])])
        go_wp2_with fail
        go_roundw
        case measure => simp [intOf] <;> omega
        case rel =>
         refine ⟨k + 1, r.1, A2, n2, c2, by omega, by go_num, ?_, ?_, ?_, ?_, ?_, ?_, ?_, ?_, ?_, of2b, of2r, fw2, ?_, ?_, ?_, hq3, hq4, HG2⟩
         · simp [go_sem, p0, p1]
         · simp [go_sem, p0, p1]
         · simp [go_sem, f0]
         · simp [go_sem, f1]
         · simp [go_sem, r0, hne]
         · simp [go_sem, r1, hne]
         · simp [go_sem, g0]
         · simp [go_sem, g1]
         · exact S.off (S.off s2 of2b.n _) of2b.n _
         · exact S.off (S.off h ohb _) ohb _
         · simp; omega
         · exact Onto.put (Onto.put o1 (by simp only; omega) _) (by simp only; omega) _
      · have hqd : (q != 0) = true := by simpa using hq0
        have hres : unitL l = (⟨0, []⟩, q) := by rw [HS.out, HG.out, HAT.out, ← HR.out, if_pos (by rw [← HQ.out]; exact hq0), HQ.out]
        have HRES := Lib.hid hres
        clear hres
        go_wp2_with fail
        refine bodyPost_ret (v := .tuple #[.agg #[.int .i64 0, .slice none 0 0], .int .i64 q]) (by simp [results, Tryz.results92, go_sem, r0, r1, hne]) rfl ?_
        rw [HRES.out]
        refine ⟨none, 0, 0, rfl, Sl.nil, ?_, Fresh.none_ _, by omega, by simp [maxLen]⟩
        repeat (first | exact o1 | refine Onto.put ?_ (by simp <;> omega) _ | refine Onto.new ?_ _)
    · have hkn : k = n := by omega
      subst hkn
      have hres : unitL l = (u, 0) := by
       rw [HS.out, HG.out, List.drop_eq_nil_of_le (by have := HL.out; omega)]
       rfl
      have HRES := Lib.hid hres
      clear hres h
      go_wp2_with fail
      refine bodyPost_ret (v := .tuple #[.agg #[.int .i64 u.ep, .slice A1 n1 c1], .int .i64 0]) (by simp [results, Tryz.results92, go_sem, r0, r1, g0, g1]) rfl ?_
      rw [HRES.out]
      exact ⟨A1, n1, c1, rfl, S.off (S.off s1 ofr.n _) ofr.n _, Onto.put (Onto.put o1 (by simp only; omega) _) (by simp only; omega) _, hfw, hq1, hq2⟩
end
section
set_option linter.unusedSimpArgs false
set_option linter.unusedVariables false
open Go.RowKit
structure UV where
 ep : Int
 A : Option Addr
 n : Nat
 c : Nat
 cells : List Entry
def UV.u (v : UV) : Uni := ⟨v.ep, v.cells⟩
def encU (v : UV) : List Value := [.int .i64 v.ep, .slice v.A v.n v.c]
abbrev unis (l : List UV) : List Uni := l.map UV.u
structure Us (w : World) (A : Option Addr) (n : Nat) (l : List UV) : Prop where
 rows : S w 2 A n (l.map encU)
 cells : ∀ v ∈ l, S w 5 v.A v.n (v.cells.map encE)
 caps : ∀ v ∈ l, v.n ≤ v.c ∧ v.c ≤ maxLen
theorem Us.onto {w w' : World} {A : Option Addr} {n : Nat} {l : List UV} (h : Us w A n l) (hb : Onto w w') : Us w' A n l := ⟨h.rows.onto hb, fun v hv => (h.cells v hv).onto hb, h.caps⟩
theorem Us.new {w : World} {A : Option Addr} {n : Nat} {l : List UV} (h : Us w A n l) (o : Obj) : Us (w.alloc o) A n l := h.onto ((Below.refl _ _).alloc (Nat.le_refl _) _)
theorem Us.len {w : World} {A : Option Addr} {n : Nat} {l : List UV} (h : Us w A n l) : l.length = n := by have := h.rows.len; simpa using this
theorem Us.atU {w : World} {A : Option Addr} {n : Nat} {l : List UV} (h : Us w A n l) {i : Nat} (hi : i < n) : ∃ b off v, A = some ⟨b, off, none⟩ ∧ b < w.heap.size ∧ l[i]? = some v ∧
    w.cell? ⟨b, off + i * 2, none⟩ = some (.int .i64 v.ep) ∧ w.cell? ⟨b, off + i * 2 + 1, none⟩ = some (.slice v.A v.n v.c) ∧ S w 5 v.A v.n (v.cells.map encE) ∧ v.cells.length = v.n := by
 obtain ⟨b, off, x, e, hb, hx, hc⟩ := h.rows.at_ hi
 have hs := h.cells x (List.mem_of_getElem? hx)
 exact ⟨b, off, x, e, hb, hx, hc 0 _ rfl, hc 1 _ rfl, hs, by have := hs.len; simpa using this⟩
theorem unis_at {l : List UV} {i : Nat} {v : UV} (h : l[i]? = some v) : (unis l)[i]? = some v.u := by simp [unis, h]
set_option maxHeartbeats 4000000 in
set_option maxRecDepth 100000 in
theorem CCheck_calls (A : Option Addr) (n c : Nat) (l : List UV) (w : World) (h : Us w A n l) :
    Calls Tryz.prog 122 #[.slice A n c] w fun e w' => e = .returned (.int .i64 (checkC (unis l))) ∧ Onto w w' := by
 have hl := h.len
 obtain ⟨r, hr⟩ : ∃ r, r = checkC (unis l) := ⟨_, rfl⟩
 rw [← hr]
 unfold checkC at hr
 by_cases h3 : n = 3
 · subst h3
   rw [if_neg (by simp [hl])] at hr
   have HR := Lib.hid hr; have HL := Lib.hid hl
   clear hr hl
   go_enter Tryz.func122, Tryz.ntmps122
   have hne := neqE
   go_wp2_with fail
   go_loopw [13] (fun s wr => ∃ k : Nat, k ≤ 3 ∧ s = .int .i64 k ∧ Onto w wr ∧ Hid (r = chainL (aheadU (unis l) k) ((unis l).drop k)) ∧ Hid (∀ j v, j < k → l[j]? = some v → v.n = 60)) (fun s _ => 3 - (intOf s).toNat)
   case atStart => exact ⟨0, by omega, rfl, Below.refl _ _, by show _ = _; rw [HR.out]; rfl, fun j v hj => absurd hj (Nat.not_lt_zero _)⟩
   case round =>
    obtain ⟨i, hi, rfl, hbr, HK, HN⟩ := hrel
    by_cases hlt : i < 3
    · obtain ⟨b, off, u, rfl, hb, hu, e0, e1, hs, hul⟩ := (h.onto hbr).atU hlt
      have p0 : 0 < i → ∃ v, l[i - 1]? = some v ∧ wr.cell? ⟨b, off + (i - 1) * 2 + 1, none⟩ = some (.slice v.A v.n v.c) ∧ S wr 5 v.A v.n (v.cells.map encE) ∧ v.n = 60 := by
       intro hp
       obtain ⟨b', off', v, e', _, hv, _, e1', hs', _⟩ := (h.onto hbr).atU (i := i - 1) (by omega)
       injection e' with e'; injection e' with e1 e2 _; subst e1; subst e2
       exact ⟨v, hv, e1', hs', HN.out _ v (by omega) hv⟩
      have HU := Lib.hid (unis_at hu); have HU0 := Lib.hid hu
      have hk := HK.out
      rw [chainL_at HU.out] at hk
      have HKK := Lib.hid hk
      have hal : Onto wr (wr.alloc (Obj.cells #[.int .i64 u.ep, .slice u.A u.n u.c] 44)) := (Below.refl _ _).alloc (Nat.le_refl _) _
      clear hk hu
      go_wp2_with fail
      refine Calls.mono (UCheck_calls u.ep u.A u.n u.c u.cells _ (hs.new _)) ?_
      rintro e w1 ⟨rfl, hb1⟩
      obtain ⟨q, hq⟩ : ∃ q, q = checkU u.ep u.cells := ⟨_, rfl⟩
      rw [← hq]
      have hk := HKK.out
      rw [show checkU u.u.ep u.u.cells = q from hq.symm] at hk
      have HKQ := Lib.hid hk
      have HQ := Lib.hid hq
      have q0 : w1.cell? ⟨wr.heap.size, 1, none⟩ = some (.slice u.A u.n u.c) := cellB hb1 (by simp [go_sem])
      have h01 := (Onto.to hbr hal).to hb1
      have h11 := hal.to hb1
      clear hk hq HKK
      by_cases hq0 : q = 0
      · subst hq0
        have hg := checkU_iff.1 HQ.out.symm
        have hun : u.n = 60 := by rw [← hul]; exact hg.len
        have hk := HKQ.out
        rw [if_neg (by simp)] at hk
        rcases Nat.eq_zero_or_pos i with rfl | hpos
        · clear p0
          have HK1 := Lib.hid hk
          clear hk HKQ
          go_wp2_with fail
          go_roundw
          case measure => simp [intOf] <;> omega
          case rel =>
           refine ⟨1, by omega, rfl, h01, ?_, ?_⟩
           · show _ = _
             rw [HK1.out]
             simp [aheadU, HU.out]
           · show ∀ j v, _
             intro j v hj hv
             obtain rfl : j = 0 := by omega
             rw [HU0.out] at hv
             injection hv with hv
             rw [← hv]; exact hun
        · obtain ⟨v, hv, ev, hsv, hv60⟩ := p0 hpos
          have ha : aheadU (unis l) i = some v.u := by
           obtain ⟨i', rfl⟩ : ∃ i', i = i' + 1 := ⟨i - 1, by omega⟩
           simp only [Nat.add_sub_cancel] at hv
           exact unis_at hv
          rw [ha] at hk
          dsimp only at hk
          have HK1 := Lib.hid hk; have HV := Lib.hid hv
          have ev1 := cellB h11 ev
          have hsv1 := hsv.onto h11; have hs1 := hs.onto h11
          have hzb : b < w1.heap.size := by have := h11.size; omega
          clear hk HKQ p0 ha hv ev hsv hs e0 e1
          have hi0 : ¬ ((i : Int) = 0) := by omega
          have hi1 : ((i : Int) == 0) = false := by simp; omega
          rw [hun] at hs1 q0 ⊢
          rw [hv60] at hsv1 ev1
          go_wp2_with fail
          go_loopw [28] (fun s ws => ∃ k : Nat, k ≤ 60 ∧ s = .int .i64 k ∧ Onto w1 ws ∧ Hid (∀ j, j < k → (cellAt u.cells j).kind = 4 ∨ cellAt v.cells j = cellAt u.cells j)) (fun s _ => 60 - (intOf s).toNat)
          case atStart => exact ⟨0, by omega, rfl, Below.refl _ _, fun j hj => absurd hj (Nat.not_lt_zero _)⟩
          case round =>
           obtain ⟨k, hk, rfl, hbs, HJ⟩ := hrel
           by_cases hkl : k < 60
           · obtain ⟨b1, off1, x, hA1, hz1, hx, c0, c1, c2, c3, c4⟩ := (hs1.onto hbs).atE hkl
             obtain ⟨b2, off2, y, hA2, hz2, hy, d0, d1, d2, d3, d4⟩ := (hsv1.onto hbs).atE hkl
             have ev2 := cellB hbs ev1
             have hz3 := World.block_lt_of_cell? _ _ ev2
             simp only at hz3
             rw [hA2] at ev2
             rw [hA1]
             have HX := Lib.hid (cellAt_eq hx); have HY := Lib.hid (cellAt_eq hy)
             have hpos' : (0 : Int) < (i : Int) := by omega
             have hal2 : Onto wr (wr.alloc (Obj.cells #[.int .i64 x.kind, .int .i64 x.job, .int .i64 x.every, .int .i64 x.time, .int .i64 x.client] 27)) := (Below.refl _ _).alloc (Nat.le_refl _) _
             have hkk : (k : Int) < 60 := by omega
             clear hx hy ev1 q0 hA1 hA2
             by_cases h4 : x.kind = 4
             · have hd : (x.kind != 4) = false := by simp [h4]
               have HH := Lib.hid h4
               clear h4
               go_wp2_with fail
               go_quiet (fail)
               go_wp2_with fail
               go_roundw
               case measure => simp [intOf] <;> omega
               case rel =>
                refine ⟨k + 1, by omega, by go_num, Onto.to hbs (Onto.draws hal2 _), ?_⟩
                show ∀ j, _
                intro j hj
                by_cases hjk : j = k
                · subst hjk; rw [HX.out]; exact .inl HH.out
                · exact HJ.out j (by omega)
             · have hd : (x.kind != 4) = true := by simpa using h4
               by_cases hxy : y = x
               · have hd2 : (!(y.kind == x.kind && y.job == x.job && y.every == x.every && y.time == x.time && y.client == x.client)) = false := by simp [hxy]
                 have HH := Lib.hid hxy
                 clear h4 hxy
                 go_wp2_with fail
                 go_quiet (fail)
                 go_wp2_with fail
                 go_roundw
                 case measure => simp [intOf] <;> omega
                 case rel =>
                  refine ⟨k + 1, by omega, by go_num, Onto.to hbs (Onto.draws hal2 _), ?_⟩
                  show ∀ j, _
                  intro j hj
                  by_cases hjk : j = k
                  · subst hjk; rw [HX.out, HY.out]; exact .inr HH.out
                  · exact HJ.out j (by omega)
               · have hd2 : (!(y.kind == x.kind && y.job == x.job && y.every == x.every && y.time == x.time && y.client == x.client)) = true := by
                  rw [entry_eq_iff] at hxy
                  simp only [Bool.not_eq_true', Bool.and_eq_false_iff, beq_eq_false_iff_ne]
                  omega
                 have hfin : (4 : Int) = r := by
                  rw [HK1.out, if_neg (fun hf => ?_)]
                  have := hf k hkl
                  rw [show cellAt u.u.cells k = x from HX.out, show cellAt v.u.cells k = y from HY.out] at this
                  rcases this with e | e
                  · exact h4 e
                  · exact hxy e
                 have HF := Lib.hid hfin
                 clear h4 hxy hfin
                 go_wp2_with fail
                 go_quiet (fail)
                 go_wp2_with fail
                 go_ret
                 exact ⟨ret_int HF.out, Onto.to h01 (Onto.to hbs (Onto.draws hal2 _))⟩
           · obtain rfl : k = 60 := by omega
             have hfit : fitC v.u.cells u.u.cells := HJ.out
             have hk := HK1.out
             rw [if_pos hfit] at hk
             have HK2 := Lib.hid hk
             clear hk hfit
             go_wp2_with fail
             go_roundw
             case measure => simp [intOf] <;> omega
             case rel =>
              refine ⟨i + 1, by omega, by go_num, Onto.to h01 hbs, ?_, ?_⟩
              · show _ = _
                rw [HK2.out]
                simp [aheadU, HU.out]
              · show ∀ j v, _
                intro j v' hj hv'
                by_cases hji : j = i
                · subst hji
                  rw [HU0.out] at hv'
                  injection hv' with hv'
                  rw [← hv']; exact hun
                · exact HN.out j v' (by omega) hv'
      · have hq1 : (q != 0) = true := by simpa using hq0
        have hfin : q = r := by rw [HKQ.out, if_pos hq0]
        have HF := Lib.hid hfin
        clear hfin
        go_wp2_with fail
        go_ret
        exact ⟨ret_int HF.out, h01⟩
    · obtain rfl : i = 3 := by omega
      have hfin : (0 : Int) = r := by rw [HK.out, List.drop_eq_nil_of_le (by simp [HL.out])]; rfl
      have HF := Lib.hid hfin
      clear hfin
      go_wp2_with fail
      go_ret
      exact ⟨ret_int HF.out, hbr⟩
 · rw [if_pos (by simp [hl]; omega)] at hr
   subst hr
   have hnn : ((n : Int) != 3) = true := by simp; omega
   have hnn' : ¬ ((n : Int) = 3) := by omega
   clear h hl h3
   go_enter Tryz.func122, Tryz.ntmps122
   go_wp2_with fail
   go_ret
   exact ⟨rfl, Below.refl _ _⟩
end
section
set_option linter.unusedSimpArgs false
set_option linter.unusedVariables false
open Go.RowKit
end
section
set_option linter.unusedSimpArgs false
set_option linter.unusedVariables false
open Go.RowKit
theorem infoJ : (Tryz.prog.info? 88).map (fun i => (i.zero, i.size, i.bytes)) = some (some (.agg #[.int .i64 0, .int .i64 0, .int .i64 0]), 3, 24) := by kernel_rfl
set_option maxHeartbeats 1000000 in
theorem CloneJ_calls (w : World) (A : Option Addr) (n c B : Nat) (hB : B ≤ w.heap.size) (rows : List (List Value)) (h : Sl w B 3 A n rows) (h1 : ∀ r ∈ rows, ∀ u ∈ r, u.oneCell' = true) (hn : n * 24 ≤ 140737488355328) :
    Calls Tryz.prog 74 #[.slice A n c] w fun e w' => ∃ A' c', e = .returned (.slice A' n c') ∧ Own w' w.heap.size 88 3 (.slice A' n c') n rows ∧ Below w.heap.size w w' := by
 obtain ⟨i0, hi0, hz0, hz1, hz2⟩ := info_parts infoJ
 have hnm : n ≤ maxLen := by unfold maxLen; omega
 cases A with
 | none =>
   have h0 : n = 0 := by
    rcases Nat.eq_zero_or_pos n with h0 | h0
    · exact h0
    · obtain ⟨b, off, e, _⟩ := h.2.2 h0
      cases e
   subst h0
   have hr : rows = [] := List.eq_nil_of_length_eq_zero h.1
   subst hr
   clear h h1 hi0 hz0 hz1 hz2 hnm hn
   have hs : ∀ w, (binOp .eql 36 (.slice none 0 c) (.slice none 0 0)).run Tryz.prog w = .ok (.bool true) w := fun w => by kernel_rfl
   go_enter Tryz.func74, Tryz.ntmps74
   go_wp2
   go_ret
   exact ⟨none, 0, rfl, Own.nil _ _ _ _, Below.refl _ _⟩
 | some a =>
   have hs : ∀ w, (binOp .eql 36 (.slice (some a) n c) (.slice none 0 0)).run Tryz.prog w = .ok (.bool false) w := fun w => by kernel_rfl
   have HN := Lib.hid hn; have HM := Lib.hid hnm; have H1 := Lib.hid h1; have H := Lib.hid h; clear hn hnm h1 h
   have HI := Lib.hid hi0; have HZ0 := Lib.hid hz0; have HZ1 := Lib.hid hz1; have HZ2 := Lib.hid hz2; clear hi0 hz0 hz1 hz2
   go_enter Tryz.func74, Tryz.ntmps74
   go_wp2_with (at_builtin; refine wpList_append_sl _ rfl _ _ 36 rfl w.heap.size 88 i0 _ 3 24 Tryz.underlying36 HI.out HZ0.out HZ1.out HZ2.out rfl (by decide) _ 0 [] rfl ?c1 B (some a) n c rows rfl ?c2 H1.out ?c3 ?c4 ?c5 ?_)
   case c1 => exact ⟨World.ownsRow_made _ _ _ (Nat.le_refl _) (by simp [maxLen]) (by simp), rfl, by simp⟩
   case c2 => exact H.out.keep fun p hp => World.cell?_alloc_lt w _ p (by omega)
   case c3 => rw [Nat.zero_add]; exact HM.out
   case c4 => rw [Nat.zero_add]; exact HN.out
   case c5 => simp
   intro v' w' hown hgrow hblk
   obtain ⟨A', c', rfl, _, _⟩ := hown.slice
   go_wp2
   go_ret
   refine ⟨A', c', rfl, hown, ?_⟩
   exact ((Below.refl _ _).alloc (Nat.le_refl _) _).grown hgrow (by simp) (by simp [Value.ownBlock])
theorem infoR : (Tryz.prog.info? 74).map (fun i => (i.zero, i.size, i.bytes)) = some (some (.agg #[.int .i64 0, .int .i64 0, .int .i64 0]), 3, 24) := by kernel_rfl
set_option maxHeartbeats 1000000 in
theorem CloneR_calls (w : World) (A : Option Addr) (n c B : Nat) (hB : B ≤ w.heap.size) (rows : List (List Value)) (h : Sl w B 3 A n rows) (h1 : ∀ r ∈ rows, ∀ u ∈ r, u.oneCell' = true) (hn : n * 24 ≤ 140737488355328) :
    Calls Tryz.prog 93 #[.slice A n c] w fun e w' => ∃ A' c', e = .returned (.slice A' n c') ∧ Own w' w.heap.size 74 3 (.slice A' n c') n rows ∧ Below w.heap.size w w' := by
 obtain ⟨i0, hi0, hz0, hz1, hz2⟩ := info_parts infoR
 have hnm : n ≤ maxLen := by unfold maxLen; omega
 cases A with
 | none =>
   have h0 : n = 0 := by
    rcases Nat.eq_zero_or_pos n with h0 | h0
    · exact h0
    · obtain ⟨b, off, e, _⟩ := h.2.2 h0
      cases e
   subst h0
   have hr : rows = [] := List.eq_nil_of_length_eq_zero h.1
   subst hr
   clear h h1 hi0 hz0 hz1 hz2 hnm hn
   have hs : ∀ w, (binOp .eql 37 (.slice none 0 c) (.slice none 0 0)).run Tryz.prog w = .ok (.bool true) w := fun w => by kernel_rfl
   go_enter Tryz.func93, Tryz.ntmps93
   go_wp2
   go_ret
   exact ⟨none, 0, rfl, Own.nil _ _ _ _, Below.refl _ _⟩
 | some a =>
   have hs : ∀ w, (binOp .eql 37 (.slice (some a) n c) (.slice none 0 0)).run Tryz.prog w = .ok (.bool false) w := fun w => by kernel_rfl
   have HN := Lib.hid hn; have HM := Lib.hid hnm; have H1 := Lib.hid h1; have H := Lib.hid h; clear hn hnm h1 h
   have HI := Lib.hid hi0; have HZ0 := Lib.hid hz0; have HZ1 := Lib.hid hz1; have HZ2 := Lib.hid hz2; clear hi0 hz0 hz1 hz2
   go_enter Tryz.func93, Tryz.ntmps93
   go_wp2_with (at_builtin; refine wpList_append_sl _ rfl _ _ 37 rfl w.heap.size 74 i0 _ 3 24 Tryz.underlying37 HI.out HZ0.out HZ1.out HZ2.out rfl (by decide) _ 0 [] rfl ?c1 B (some a) n c rows rfl ?c2 H1.out ?c3 ?c4 ?c5 ?_)
   case c1 => exact ⟨World.ownsRow_made _ _ _ (Nat.le_refl _) (by simp [maxLen]) (by simp), rfl, by simp⟩
   case c2 => exact H.out.keep fun p hp => World.cell?_alloc_lt w _ p (by omega)
   case c3 => rw [Nat.zero_add]; exact HM.out
   case c4 => rw [Nat.zero_add]; exact HN.out
   case c5 => simp
   intro v' w' hown hgrow hblk
   obtain ⟨A', c', rfl, _, _⟩ := hown.slice
   go_wp2
   go_ret
   refine ⟨A', c', rfl, hown, ?_⟩
   exact ((Below.refl _ _).alloc (Nat.le_refl _) _).grown hgrow (by simp) (by simp [Value.ownBlock])
end
section
set_option linter.unusedSimpArgs false
set_option linter.unusedVariables false
open Go.RowKit
set_option maxHeartbeats 2000000 in
theorem BCheck_calls (A A' : Option Addr) (n c m d B : Nat) (jobs : List Job) (rung : List Rung) (w : World) (h : Sl w B 3 A n (jobs.map encJ)) (h' : Sl w B 3 A' m (rung.map encR)) (hB : B ≤ w.heap.size) :
    Calls Tryz.prog 64 #[.agg #[.slice A n c, .slice A' m d]] w fun e w' => e = .returned (.int .i64 (checkB ⟨jobs, rung⟩)) ∧ Below w.heap.size w w' := by
 have hn := h.len; have hm := h'.len
 simp at hn hm
 by_cases hbig : 6 < n ∨ 60 < m
 · have hs : checkB ⟨jobs, rung⟩ = 2 := by
    unfold checkB
    rw [if_pos (by simp only; omega)]
   have HS := Lib.hid hs
   have HB := Lib.hid hbig
   clear hbig hs hn hm h h'
   by_cases h6 : 6 < n
   all_goals
    go_enter Tryz.func64, Tryz.ntmps64
    go_wp2_with fail
    any_goals
     go_ret
     exact ⟨ret_int HS.out.symm, (Below.refl _ _).alloc (Nat.le_refl _) _⟩
   have := HB.out
   exfalso
   omega
 · have hn6 : n ≤ 6 := by omega
   have hm6 : m ≤ 60 := by omega
   have hs : checkB ⟨jobs, rung⟩ = if checkJs (-1) jobs = 0 then checkRs rung else checkJs (-1) jobs := by
    unfold checkB
    rw [if_neg (by simp only; omega)]
   have HS := Lib.hid hs
   clear hbig hs hn hm
   go_enter Tryz.func64, Tryz.ntmps64
   go_wp2
   go_loopw [20] (fun s wr => ∃ k : Nat, k ≤ n ∧ s = .int .i64 k ∧ Below (w.heap.size + 1) (w.alloc (Obj.cells #[.slice A n c, .slice A' m d] 39)) wr ∧ Hid (checkJs (-1) jobs = checkJs (aheadJ jobs k) (jobs.drop k))) (fun s _ => n - (intOf s).toNat)
   case atStart => exact ⟨0, by omega, rfl, Below.refl _ _, by simp [Hid, aheadJ]⟩
   case round =>
    obtain ⟨k, hk, rfl, hbel, HJ⟩ := hrel
    have c0 : wr.cell? ⟨w.heap.size, 0, none⟩ = some (.slice A n c) := (hbel.cell (p := ⟨w.heap.size, 0, none⟩) (by simp)).trans (by simp)
    have c1 : wr.cell? ⟨w.heap.size, 1, none⟩ = some (.slice A' m d) := (hbel.cell (p := ⟨w.heap.size, 1, none⟩) (by simp)).trans (by simp)
    by_cases hlt : k < n
    · have hr := (h.keep (w' := w.alloc (Obj.cells #[.slice A n c, .slice A' m d] 39)) fun p hp => World.cell?_alloc_lt w _ p (by omega)).below (hbel.mono (by omega))
      obtain ⟨b, off, x, rfl, hb, hx, e0, e1, e2⟩ := hr.atJ hlt
      have p0 : 0 < k → ∃ y, jobs[k - 1]? = some y ∧ wr.cell? ⟨b, off + (k - 1) * 3, none⟩ = some (.int .i64 y.id) := by
       intro hp
       obtain ⟨b', off', y, e', _, hy, e0', _, _⟩ := hr.atJ (i := k - 1) (by omega)
       injection e' with e'; injection e' with e1 e2 _; subst e1; subst e2
       exact ⟨y, hy, e0'⟩
      have HX := Lib.hid hx
      clear h h' hx hr
      have hb0 : Below w.heap.size w wr := ((Below.refl _ _).alloc (Nat.le_refl _) _).trans (hbel.mono (by omega))
      have hz : w.heap.size < wr.heap.size := by have := hbel.size; simp at this; omega
      have hzb : b < wr.heap.size := by omega
      go_wp2_with fail
      any_goals
       go_ret
       have hbj : badJ x := by unfold badJ; omega
       refine ⟨ret_int (by rw [HS.out, HJ.out, checkJs_at HX.out, if_pos hbj]; simp), ?_⟩
       repeat (first | exact hb0 | refine Below.alloc ?_ (by have := hb0.size; simp <;> omega) _)
      have hgood : ¬ badJ x := by unfold badJ; omega
      have HG := Lib.hid hgood
      clear hgood
      rcases Nat.eq_zero_or_pos k with rfl | hpos
      · clear p0
        go_quiet (fail)
        go_wp2
        go_roundw
        case measure => simp [intOf]; omega
        case rel =>
         refine ⟨1, by omega, rfl, ?_, ?_⟩
         · repeat (first | exact hbel | refine below_drewN ?_ _ | refine Below.setCell ?_ (by simp <;> omega) _ | refine Below.alloc ?_ (by have := hbel.size; simp at this; simp <;> omega) _)
         · show _ = _
           have h0 : ¬ x.id ≤ -1 := by have := HG.out; unfold badJ at this; omega
           rw [HJ.out, checkJs_at HX.out, if_neg HG.out, if_neg (show ¬ x.id ≤ aheadJ jobs 0 from h0)]
           simp [aheadJ, HX.out]
      · obtain ⟨y, hy, ey⟩ := p0 hpos
        have HY := Lib.hid hy
        have hpos' : (0 : Int) < (k : Int) := by omega
        clear hy p0
        have ha : aheadJ jobs k = y.id := by
         obtain ⟨k', rfl⟩ : ∃ k', k = k' + 1 := ⟨k - 1, by omega⟩
         have := HY.out
         simp only [Nat.add_sub_cancel] at this
         simp [aheadJ, this]
        have HA := Lib.hid ha
        clear ha
        go_quiet (fail)
        go_wp2
        · go_ret
          have hle : x.id ≤ y.id := by assumption
          refine ⟨ret_int (by rw [HS.out, HJ.out, checkJs_at HX.out, if_neg HG.out, HA.out, if_pos hle]; simp), ?_⟩
          repeat (first | exact hb0 | refine below_drewN ?_ _ | refine Below.alloc ?_ (by have := hb0.size; simp <;> omega) _)
        · have hlt' : y.id < x.id := by assumption
          go_roundw
          case measure => simp [intOf]; omega
          case rel =>
           refine ⟨k + 1, by omega, by go_num, ?_, ?_⟩
           · repeat (first | exact hbel | refine below_drewN ?_ _ | refine Below.alloc ?_ (by have := hbel.size; simp at this; simp <;> omega) _)
           · show _ = _
             rw [HJ.out, checkJs_at HX.out, if_neg HG.out, HA.out, if_neg (by omega)]
             simp [aheadJ, HX.out]
    · obtain rfl : k = n := by omega
      have hj : checkB ⟨jobs, rung⟩ = checkRs rung := by
       have h0 : checkJs (-1) jobs = 0 := by
        rw [HJ.out, List.drop_eq_nil_of_le (by have := h.len; simp at this; omega)]
        rfl
       rw [HS.out, h0]; rfl
      have HK := Lib.hid hj
      clear hj HJ HS
      have hz0 : w.heap.size < wr.heap.size := by have := hbel.size; simp at this; omega
      go_wp2
      go_loopw [71] (fun s ws => ∃ j : Nat, j ≤ m ∧ s = .int .i64 j ∧ Below (w.heap.size + 1) (w.alloc (Obj.cells #[.slice A k c, .slice A' m d] 39)) ws ∧ Hid (checkRs rung = checkRs (rung.drop j))) (fun s _ => m - (intOf s).toNat)
      case atStart => exact ⟨0, by omega, rfl, hbel, by simp [Hid]⟩
      case round =>
       obtain ⟨j, hj, rfl, hbel', HR⟩ := hrel
       clear c0 c1 hz0
       by_cases hlt' : j < m
       · obtain ⟨b, off, x, rfl, hb, hx, e0, e1, e2⟩ := ((h'.keep (w' := w.alloc (Obj.cells #[.slice A k c, .slice A' m d] 39)) fun p hp => World.cell?_alloc_lt w _ p (by omega)).below (hbel'.mono (by omega))).atR hlt'
         have HX := Lib.hid hx
         clear h h' hx hlt
         have hb0 : Below w.heap.size w wr := ((Below.refl _ _).alloc (Nat.le_refl _) _).trans (hbel'.mono (by omega))
         have hz : w.heap.size < wr.heap.size := by have := hbel'.size; simp at this; omega
         go_wp2_with fail
         any_goals
          go_ret
          have hbr : badR x := by unfold badR; omega
          refine ⟨ret_int (by rw [HK.out, HR.out, checkRs_bad HX.out hbr]), ?_⟩
          repeat (first | exact hb0 | refine Below.alloc ?_ (by have := hb0.size; simp <;> omega) _)
         have hgr : ¬ badR x := by unfold badR; omega
         go_roundw
         case measure => simp [intOf]; omega
         case rel =>
          refine ⟨j + 1, by omega, by go_num, ?_, ?_⟩
          · repeat (first | exact hbel' | refine Below.alloc ?_ (by have := hbel'.size; simp at this; simp <;> omega) _)
          · show _ = _
            rw [HR.out, checkRs_good HX.out hgr]
       · obtain rfl : j = m := by omega
         have hb0 : Below w.heap.size w wr := ((Below.refl _ _).alloc (Nat.le_refl _) _).trans (hbel'.mono (by omega))
         have hfin : checkB ⟨jobs, rung⟩ = 0 := by
          rw [HK.out, HR.out, List.drop_eq_nil_of_le (by have := h'.len; simp at this; omega)]
          rfl
         have HF := Lib.hid hfin
         clear h h' hfin
         go_wp2
         go_ret
         exact ⟨ret_int HF.out.symm, hb0⟩
end
section
set_option linter.unusedSimpArgs false
set_option linter.unusedVariables false
open Go.RowKit
set_option maxHeartbeats 8000000 in
set_option maxRecDepth 100000 in
theorem ClCheck_calls (ep dg at_ ln pl : Int) (x : Entry) (A A' : Option Addr) (n c m d : Nat) (b : Book) (w : World) (h : S w 3 A n (b.jobs.map encJ)) (h' : S w 3 A' m (b.rung.map encR)) :
    Calls Tryz.prog 55 #[.agg #[.int .i64 ep, .int .i64 dg, .int .i64 x.kind, .int .i64 x.job, .int .i64 x.every, .int .i64 x.time, .int .i64 x.client, .int .i64 at_, .int .i64 ln, .int .i64 pl, .slice A n c, .slice A' m d]] w fun e w' => e = .returned (.int .i64 (checkCl ⟨ep, dg, x, at_, ln, pl, b⟩)) ∧ Onto w w' := by
 obtain ⟨r, hr⟩ : ∃ r, r = checkCl ⟨ep, dg, x, at_, ln, pl, b⟩ := ⟨_, rfl⟩
 rw [← hr]
 unfold checkCl at hr
 simp only [ne_eq, entry_eq_iff, zeroE] at hr
 obtain ⟨q, hq⟩ : ∃ q, q = checkE x := ⟨_, rfl⟩
 obtain ⟨qb, hqb⟩ : ∃ q, q = checkB b := ⟨_, rfl⟩
 rw [← hq, ← hqb] at hr
 have HQ := Lib.hid hq; have HQB := Lib.hid hqb
 go_enter Tryz.func55, Tryz.ntmps55
 have hne := neqE
 have HR := Lib.hid hr
 have HS := Lib.hid h; have HS' := Lib.hid h'
 clear hr hq hqb h h'
 go_wp2_with (first
  | (go_at_call 65; refine Calls.mono (Check_calls x.kind x.job x.every x.time x.client _) ?_; rw [show checkE ⟨x.kind, x.job, x.every, x.time, x.client⟩ = q from HQ.out.symm]; rintro e w2 ⟨rfl, hb2⟩; have b0 : w2.cell? ⟨w.heap.size, 0, none⟩ = some (.int .i64 ep) := cellB hb2 (by simp [go_sem]); have b1 : w2.cell? ⟨w.heap.size, 1, none⟩ = some (.int .i64 dg) := cellB hb2 (by simp [go_sem]); have b2 : w2.cell? ⟨w.heap.size, 2, none⟩ = some (.int .i64 x.kind) := cellB hb2 (by simp [go_sem]); have b3 : w2.cell? ⟨w.heap.size, 3, none⟩ = some (.int .i64 x.job) := cellB hb2 (by simp [go_sem]); have b4 : w2.cell? ⟨w.heap.size, 4, none⟩ = some (.int .i64 x.every) := cellB hb2 (by simp [go_sem]); have b5 : w2.cell? ⟨w.heap.size, 5, none⟩ = some (.int .i64 x.time) := cellB hb2 (by simp [go_sem]); have b6 : w2.cell? ⟨w.heap.size, 6, none⟩ = some (.int .i64 x.client) := cellB hb2 (by simp [go_sem]); have b7 : w2.cell? ⟨w.heap.size, 7, none⟩ = some (.int .i64 at_) := cellB hb2 (by simp [go_sem]); have b8 : w2.cell? ⟨w.heap.size, 8, none⟩ = some (.int .i64 ln) := cellB hb2 (by simp [go_sem]); have b9 : w2.cell? ⟨w.heap.size, 9, none⟩ = some (.int .i64 pl) := cellB hb2 (by simp [go_sem]); have b10 : w2.cell? ⟨w.heap.size, 10, none⟩ = some (.slice A n c) := cellB hb2 (by simp [go_sem]); have b11 : w2.cell? ⟨w.heap.size, 11, none⟩ = some (.slice A' m d) := cellB hb2 (by simp [go_sem]); have h02 : Onto w w2 := Onto.to (Onto.new (Onto.rfl' w) (Obj.cells #[.int .i64 ep, .int .i64 dg, .int .i64 x.kind, .int .i64 x.job, .int .i64 x.every, .int .i64 x.time, .int .i64 x.client, .int .i64 at_, .int .i64 ln, .int .i64 pl, .slice A n c, .slice A' m d] 41)) hb2; clear hb2)
  | (go_at_call 64; refine Calls.mono (BCheck_calls A A' n c m d _ b.jobs b.rung _ (S.onto HS.out h02) (S.onto HS'.out h02) (Nat.le_refl _)) ?_; rw [show checkB ⟨b.jobs, b.rung⟩ = qb from HQB.out.symm]; rintro e w3 ⟨rfl, hb3⟩; have h03 := Onto.to h02 hb3; clear hb3 b0 b1 b2 b3 b4 b5 b6 b7 b8 b9 b10 b11))
 all_goals
  go_ret
  refine ⟨ret_int ?_, ?_⟩
  · rw [HR.out]
    clear HR hne HS HS' HQ HQB
    (try simp only [beq_iff_eq, beq_eq_false_iff_ne, bne_iff_ne, bne_eq_false_iff_eq, ne_eq, Bool.and_eq_true, Bool.and_eq_false_iff, Bool.not_eq_true', Bool.not_eq_false', Bool.or_eq_true, Bool.or_eq_false_iff, decide_eq_true_eq, decide_eq_false_iff_not] at *)
    (try unfold wrap64 at *)
    (repeat' split) <;> first | rfl | omega
  · first | exact h03 | exact h02 | exact (Below.refl _ _).alloc (Nat.le_refl _) _
end
section
set_option linter.unusedSimpArgs false
set_option linter.unusedVariables false
open Go.RowKit
set_option maxHeartbeats 1000000 in
set_option maxRecDepth 100000 in
theorem IndexFuncJ_calls (A : Option Addr) (n c B : Nat) (l : List Job) (g : FuncId) (lb : Array Value) (p : Job → Bool) (w : World) (h : Sl w B 3 A n (l.map encJ)) (hB : B ≤ w.heap.size) (hn : n ≤ 9223372036854775807)
    (eg : ∀ args w, (callFunc g args).run Tryz.prog w = .ok (.enter g args) w)
    (hp : ∀ (x : Job) (w' : World), Below w.heap.size w w' → Calls Tryz.prog g (#[.agg #[.int .i64 x.id, .int .i64 x.every, .int .i64 x.next]] ++ lb) w' fun e w'' => e = .returned (.bool (p x)) ∧ Below w'.heap.size w' w'') :
    Calls Tryz.prog 94 #[.slice A n c, .func (.func g) #[] lb] w fun e w' => e = .returned (.int .i64 (idxI p l)) ∧ Below w.heap.size w w' := by
 have hp' := Lib.hid hp
 clear hp
 go_enter Tryz.func94, Tryz.ntmps94
 go_wp2
 go_loopw [8] (fun s wr => ∃ i : Nat, i ≤ n ∧ s = .int .i64 i ∧ Below w.heap.size w wr ∧ Hid (∀ j y, j < i → l[j]? = some y → p y = false)) (fun s _ => n - (intOf s).toNat)
 case atStart => exact ⟨0, Nat.zero_le _, rfl, Below.refl _ _, fun j y hj => absurd hj (Nat.not_lt_zero _)⟩
 case round =>
  obtain ⟨i, hi, rfl, hbel, H⟩ := hrel
  by_cases hlt : i < n
  · obtain ⟨b, off, x, rfl, hb, hx, c0, c1, c2⟩ := (h.below (hbel.mono hB)).atJ hlt
    have HX := Lib.hid hx
    have hl := h.len
    simp at hl
    have HL := Lib.hid hl
    clear h hx hl
    cases hpx : p x with
    | true =>
      have HPX := Lib.hid hpx
      clear hpx
      go_wp2_with fail
      refine Calls.mono (hp'.out x _ hbel) ?_
      rintro e w' ⟨rfl, hw'⟩
      rw [HPX.out]
      go_wp2
      go_ret
      refine ⟨ret_int ?_, hbel.trans (hw'.mono hbel.size)⟩
      exact (idxI_at HX.out HPX.out H.out).symm
    | false =>
      have HPX := Lib.hid hpx
      clear hpx
      go_wp2_with fail
      refine Calls.mono (hp'.out x _ hbel) ?_
      rintro e w' ⟨rfl, hw'⟩
      rw [HPX.out]
      go_wp2
      go_roundw
      case measure => simp [intOf]; omega
      case rel =>
       refine ⟨i + 1, by omega, by go_num, hbel.trans (hw'.mono hbel.size), fun j y hj hy => ?_⟩
       by_cases e : j = i
       · subst e
         have := HX.out.symm.trans hy
         injection this with this
         subst this
         exact HPX.out
       · exact H.out j y (by omega) hy
  · obtain rfl : i = n := by omega
    have hl := h.len
    simp at hl
    have hfin : idxI p l = -1 := idxI_none (fun j y hy => H.out j y (by have := (List.getElem?_eq_some_iff.1 hy).1; omega) hy)
    have HF := Lib.hid hfin
    clear h hl hfin
    go_wp2
    go_ret
    exact ⟨ret_int HF.out.symm, hbel⟩
theorem Find1_calls (a b c id : Int) (q : Nat) (w : World) (hq : w.cell? ⟨q, 0, none⟩ = some (.int .i64 id)) :
    Calls Tryz.prog 95 #[.agg #[.int .i64 a, .int .i64 b, .int .i64 c], .pointer (some ⟨q, 0, none⟩)] w fun e w' => e = .returned (.bool (decide (a = id))) ∧ Below w.heap.size w w' := by
 have hqb : q < w.heap.size := World.block_lt_of_cell? w _ hq
 go_enter Tryz.func95, Tryz.ntmps95
 go_wp2
 go_ret
 exact ⟨ret_bool (by first | rfl | simp), (Below.refl _ _).alloc (Nat.le_refl _) _⟩
theorem Find_calls (A A' : Option Addr) (n c m d B : Nat) (id : Int) (jobs : List Job) (rung : List Rung) (w : World) (h : Sl w B 3 A n (jobs.map encJ)) (hB : B ≤ w.heap.size) (hn : n ≤ 9223372036854775807) :
    Calls Tryz.prog 67 #[.agg #[.slice A n c, .slice A' m d], .int .i64 id] w fun e w' => e = .returned (.int .i64 (findB ⟨jobs, rung⟩ id)) ∧ Below w.heap.size w w' := by
 have HN := Lib.hid hn
 clear hn
 go_enter Tryz.func67, Tryz.ntmps67
 go_wp2_with fail
 refine Calls.mono (IndexFuncJ_calls A n c B jobs _ _ (fun j => decide (j.id = id)) _ ((h.alloc hB _).alloc (by simp; omega) _) (by simp; omega) HN.out (fun _ _ => by kernel_rfl) ?_) ?_
 · intro x w' hw'
   exact Find1_calls _ _ _ _ _ _ ((hw'.cell (p := ⟨w.heap.size + 1, 0, none⟩) (by simp)).trans (by simp))
 rintro e w' ⟨rfl, hw'⟩
 go_wp2
 go_ret
 exact ⟨rfl, (((Below.refl _ _).alloc (Nat.le_refl _) _).alloc (by simp) _).trans (hw'.mono (by simp; omega))⟩
theorem encJ_one (l : List Job) : ∀ r ∈ l.map encJ, ∀ u ∈ r, u.oneCell' = true := by simp [encJ, Value.oneCell']
theorem encR_one (l : List Rung) : ∀ r ∈ l.map encR, ∀ u ∈ r, u.oneCell' = true := by simp [encR, Value.oneCell']
set_option maxHeartbeats 2000000 in
set_option maxRecDepth 100000 in
theorem BCopy_calls (A A' : Option Addr) (n c m d B : Nat) (jobs : List Job) (rung : List Rung) (w : World) (h : Sl w B 3 A n (jobs.map encJ)) (h' : Sl w B 3 A' m (rung.map encR)) (hB : B ≤ w.heap.size) (hn : n ≤ 1000000) (hm : m ≤ 1000000) :
    Calls Tryz.prog 66 #[.agg #[.slice A n c, .slice A' m d]] w fun e w' => ∃ A1 c1 A2 c2, e = .returned (.agg #[.slice A1 n c1, .slice A2 m c2]) ∧
     Own w' w.heap.size 88 3 (.slice A1 n c1) n (jobs.map encJ) ∧ Own w' w.heap.size 74 3 (.slice A2 m c2) m (rung.map encR) ∧ Below w.heap.size w w' := by
 go_enter Tryz.func66, Tryz.ntmps66
 go_wp2_with fail
 go_region_held3 (fun w' => w'.cell? ⟨w.heap.size, 0, none⟩ = some (.slice A n c) ∧ w'.cell? ⟨w.heap.size, 1, none⟩ = some (.slice A' m d))
  (first | go_keep | (refine ⟨?_, ?_⟩ <;> (rw [hb2.cell (by simp <;> omega)]; simp [*])) | (refine ⟨?_, ?_⟩ <;> (rw [hb1.cell (by simp <;> omega)]; simp)))
  (first
   | (go_at_call 74; refine Calls.mono (CloneJ_calls _ A n c B (by simp; omega) (jobs.map encJ) (by refine h.under hB ?_; repeat (first | exact Below.refl _ _ | refine below_drewN ?_ _ | refine Below.drew ?_ | refine Below.alloc ?_ (by simp <;> omega) _)) (encJ_one _) (by omega)) ?_; rintro e w1 ⟨A1, c1, rfl, hown1, hb1⟩; have hz1 : w.heap.size + 2 ≤ w1.heap.size := (by have := hb1.size; simp at this; omega); have hb1' : Below w.heap.size w w1 := ((((Below.refl _ _).alloc (Nat.le_refl _) _).alloc (by simp) _).drew).trans (hb1.mono (by simp; omega)))
   | (go_at_call 93; refine Calls.mono (CloneR_calls _ A' m d B (by omega) (rung.map encR) (by refine h'.under hB ?_; repeat (first | exact Below.refl _ _ | exact hb1' | refine below_drewN ?_ _ | refine Below.drew ?_ | refine Below.alloc ?_ (by simp) _)) (encR_one _) (by omega)) ?_; rintro e w2 ⟨A2, c2, rfl, hown2, hb2⟩; have hz2 : w.heap.size + 2 ≤ w2.heap.size := (by have := hb2.size; omega); have r0 : w2.cell? ⟨w.heap.size + 1, 0, none⟩ = some (.slice none 0 0) := (by rw [hb2.cell (by simp only; omega)]; rw [hb1.cell (by simp <;> omega)]; simp); have r1 : w2.cell? ⟨w.heap.size + 1, 1, none⟩ = some (.slice none 0 0) := (by rw [hb2.cell (by simp only; omega)]; rw [hb1.cell (by simp <;> omega)]; simp); have f0 : w2.frozen? ⟨w.heap.size + 1, 0, none⟩ = false := (by rw [hb2.frozen (by simp only; omega)]; rw [hb1.frozen (by simp <;> omega)]; simp); have f1 : w2.frozen? ⟨w.heap.size + 1, 1, none⟩ = false := (by rw [hb2.frozen (by simp only; omega)]; rw [hb1.frozen (by simp <;> omega)]; simp)))
 go_wp2
 simp only [World.size_alloc, World.size_drew] at hown1 hb1
 refine bodyPost_ret (v := .agg #[.slice A1 n c1, .slice A2 m c2]) (by simp [results, Tryz.results66, go_sem, r0, r1]) rfl ⟨A1, c1, A2, c2, rfl, ?_, ?_, ?_⟩
 · exact (((hown1.below hb2).setCell (by simp) _).setCell (by simp) _).lower (by omega)
 · exact ((hown2.setCell (by simp; omega) _).setCell (by simp; omega) _).lower (by omega)
 · exact ((hb1'.trans (hb2.mono (by omega))).setCell (by simp) _).setCell (by simp) _
end
section
set_option linter.unusedSimpArgs false
set_option linter.unusedVariables false
open Go.RowKit
set_option maxHeartbeats 4000000 in
set_option maxRecDepth 100000 in
theorem ClCopy_calls (ep dg at_ ln pl : Int) (x : Entry) (A A' : Option Addr) (n c m d : Nat) (b : Book) (w : World) (h : S w 3 A n (b.jobs.map encJ)) (h' : S w 3 A' m (b.rung.map encR)) (hn : n ≤ 1000000) (hm : m ≤ 1000000) :
    Calls Tryz.prog 83 #[.agg #[.int .i64 ep, .int .i64 dg, .int .i64 x.kind, .int .i64 x.job, .int .i64 x.every, .int .i64 x.time, .int .i64 x.client, .int .i64 at_, .int .i64 ln, .int .i64 pl, .slice A n c, .slice A' m d]] w fun e w' => ∃ A1 c1 A2 c2, e = .returned (.agg #[.int .i64 ep, .int .i64 dg, .int .i64 x.kind, .int .i64 x.job, .int .i64 x.every, .int .i64 x.time, .int .i64 x.client, .int .i64 at_, .int .i64 ln, .int .i64 pl, .slice A1 n c1, .slice A2 m c2]) ∧ S w' 3 A1 n (b.jobs.map encJ) ∧ S w' 3 A2 m (b.rung.map encR) ∧ Onto w w' ∧ n ≤ c1 ∧ m ≤ c2 ∧ Fresh w.heap.size A1 ∧ Fresh w.heap.size A2 := by
 go_enter Tryz.func83, Tryz.ntmps83
 go_wp2_with fail
 refine Calls.mono (BCopy_calls A A' n c m d _ b.jobs b.rung _ ((h.new _).new _) ((h'.new _).new _) (Nat.le_refl _) hn hm) ?_
 rintro e w2 ⟨A1, c1, A2, c2, rfl, own1, own2, hb⟩
 have q0 : w2.cell? ⟨w.heap.size, 0, none⟩ = some (.int .i64 ep) := cellB hb (by simp [go_sem])
 have q1 : w2.cell? ⟨w.heap.size, 1, none⟩ = some (.int .i64 dg) := cellB hb (by simp [go_sem])
 have q2 : w2.cell? ⟨w.heap.size, 2, none⟩ = some (.int .i64 x.kind) := cellB hb (by simp [go_sem])
 have q3 : w2.cell? ⟨w.heap.size, 3, none⟩ = some (.int .i64 x.job) := cellB hb (by simp [go_sem])
 have q4 : w2.cell? ⟨w.heap.size, 4, none⟩ = some (.int .i64 x.every) := cellB hb (by simp [go_sem])
 have q5 : w2.cell? ⟨w.heap.size, 5, none⟩ = some (.int .i64 x.time) := cellB hb (by simp [go_sem])
 have q6 : w2.cell? ⟨w.heap.size, 6, none⟩ = some (.int .i64 x.client) := cellB hb (by simp [go_sem])
 have q7 : w2.cell? ⟨w.heap.size, 7, none⟩ = some (.int .i64 at_) := cellB hb (by simp [go_sem])
 have q8 : w2.cell? ⟨w.heap.size, 8, none⟩ = some (.int .i64 ln) := cellB hb (by simp [go_sem])
 have q9 : w2.cell? ⟨w.heap.size, 9, none⟩ = some (.int .i64 pl) := cellB hb (by simp [go_sem])
 have q10 : w2.cell? ⟨w.heap.size, 10, none⟩ = some (.slice A n c) := cellB hb (by simp [go_sem])
 have q11 : w2.cell? ⟨w.heap.size, 11, none⟩ = some (.slice A' m d) := cellB hb (by simp [go_sem])
 have fq10 : w2.frozen? ⟨w.heap.size, 10, none⟩ = false := frozB hb (v := .slice A n c) (by simp [go_sem]) (by simp [go_sem])
 have fq11 : w2.frozen? ⟨w.heap.size, 11, none⟩ = false := frozB hb (v := .slice A' m d) (by simp [go_sem]) (by simp [go_sem])
 have p0 : w2.cell? ⟨w.heap.size + 1, 0, none⟩ = some (.int .i64 0) := cellB hb (by simp [go_sem])
 have p1 : w2.cell? ⟨w.heap.size + 1, 1, none⟩ = some (.int .i64 0) := cellB hb (by simp [go_sem])
 have p2 : w2.cell? ⟨w.heap.size + 1, 2, none⟩ = some (.int .i64 0) := cellB hb (by simp [go_sem])
 have p3 : w2.cell? ⟨w.heap.size + 1, 3, none⟩ = some (.int .i64 0) := cellB hb (by simp [go_sem])
 have p4 : w2.cell? ⟨w.heap.size + 1, 4, none⟩ = some (.int .i64 0) := cellB hb (by simp [go_sem])
 have p5 : w2.cell? ⟨w.heap.size + 1, 5, none⟩ = some (.int .i64 0) := cellB hb (by simp [go_sem])
 have p6 : w2.cell? ⟨w.heap.size + 1, 6, none⟩ = some (.int .i64 0) := cellB hb (by simp [go_sem])
 have p7 : w2.cell? ⟨w.heap.size + 1, 7, none⟩ = some (.int .i64 0) := cellB hb (by simp [go_sem])
 have p8 : w2.cell? ⟨w.heap.size + 1, 8, none⟩ = some (.int .i64 0) := cellB hb (by simp [go_sem])
 have p9 : w2.cell? ⟨w.heap.size + 1, 9, none⟩ = some (.int .i64 0) := cellB hb (by simp [go_sem])
 have p10 : w2.cell? ⟨w.heap.size + 1, 10, none⟩ = some (.slice none 0 0) := cellB hb (by simp [go_sem])
 have p11 : w2.cell? ⟨w.heap.size + 1, 11, none⟩ = some (.slice none 0 0) := cellB hb (by simp [go_sem])
 have fp0 : w2.frozen? ⟨w.heap.size + 1, 0, none⟩ = false := frozB hb (v := .int .i64 0) (by simp [go_sem]) (by simp [go_sem])
 have fp1 : w2.frozen? ⟨w.heap.size + 1, 1, none⟩ = false := frozB hb (v := .int .i64 0) (by simp [go_sem]) (by simp [go_sem])
 have fp2 : w2.frozen? ⟨w.heap.size + 1, 2, none⟩ = false := frozB hb (v := .int .i64 0) (by simp [go_sem]) (by simp [go_sem])
 have fp3 : w2.frozen? ⟨w.heap.size + 1, 3, none⟩ = false := frozB hb (v := .int .i64 0) (by simp [go_sem]) (by simp [go_sem])
 have fp4 : w2.frozen? ⟨w.heap.size + 1, 4, none⟩ = false := frozB hb (v := .int .i64 0) (by simp [go_sem]) (by simp [go_sem])
 have fp5 : w2.frozen? ⟨w.heap.size + 1, 5, none⟩ = false := frozB hb (v := .int .i64 0) (by simp [go_sem]) (by simp [go_sem])
 have fp6 : w2.frozen? ⟨w.heap.size + 1, 6, none⟩ = false := frozB hb (v := .int .i64 0) (by simp [go_sem]) (by simp [go_sem])
 have fp7 : w2.frozen? ⟨w.heap.size + 1, 7, none⟩ = false := frozB hb (v := .int .i64 0) (by simp [go_sem]) (by simp [go_sem])
 have fp8 : w2.frozen? ⟨w.heap.size + 1, 8, none⟩ = false := frozB hb (v := .int .i64 0) (by simp [go_sem]) (by simp [go_sem])
 have fp9 : w2.frozen? ⟨w.heap.size + 1, 9, none⟩ = false := frozB hb (v := .int .i64 0) (by simp [go_sem]) (by simp [go_sem])
 have fp10 : w2.frozen? ⟨w.heap.size + 1, 10, none⟩ = false := frozB hb (v := .slice none 0 0) (by simp [go_sem]) (by simp [go_sem])
 have fp11 : w2.frozen? ⟨w.heap.size + 1, 11, none⟩ = false := frozB hb (v := .slice none 0 0) (by simp [go_sem]) (by simp [go_sem])
 have h2 : Onto w w2 := (((Below.refl _ _).alloc (Nat.le_refl _) _).alloc (by simp) _).trans (hb.mono (by simp; omega))
 have hz : w.heap.size + 1 < w2.heap.size := World.block_lt_of_cell? _ _ p0
 have hc1 := own1.le_cap; have hc2 := own2.le_cap
 have fr1 : Fresh (w.heap.size + 1 + 1) A1 := own1.fresh (by simp)
 have fr2 : Fresh (w.heap.size + 1 + 1) A2 := own2.fresh (by simp)
 have s1 : S w2 3 A1 n (b.jobs.map encJ) := own1.sl
 have s2 : S w2 3 A2 m (b.rung.map encR) := own2.sl
 clear hb h h' own1 own2
 go_upto_region 2 with fail
 have h3 : Onto w ((w2.setCell ⟨w.heap.size, 10, none⟩ (.slice A1 n c1)).setCell ⟨w.heap.size, 11, none⟩ (.slice A2 m c2)) := (h2.put (by simp) _).put (by simp) _
 have t1 := S.off (S.off s1 (p := ⟨w.heap.size, 10, none⟩) (fr1.offN (by simp only; omega)) (.slice A1 n c1)) (p := ⟨w.heap.size, 11, none⟩) (fr1.offN (by simp only; omega)) (.slice A2 m c2)
 have t2 := S.off (S.off s2 (p := ⟨w.heap.size, 10, none⟩) (fr2.offN (by simp only; omega)) (.slice A1 n c1)) (p := ⟨w.heap.size, 11, none⟩) (fr2.offN (by simp only; omega)) (.slice A2 m c2)
 have g0 : ((w2.setCell ⟨w.heap.size, 10, none⟩ (.slice A1 n c1)).setCell ⟨w.heap.size, 11, none⟩ (.slice A2 m c2)).cell? ⟨w.heap.size, 0, none⟩ = some (.int .i64 ep) := by simp [go_sem, q0, q10, q11]
 have g1 : ((w2.setCell ⟨w.heap.size, 10, none⟩ (.slice A1 n c1)).setCell ⟨w.heap.size, 11, none⟩ (.slice A2 m c2)).cell? ⟨w.heap.size, 1, none⟩ = some (.int .i64 dg) := by simp [go_sem, q1, q10, q11]
 have g2 : ((w2.setCell ⟨w.heap.size, 10, none⟩ (.slice A1 n c1)).setCell ⟨w.heap.size, 11, none⟩ (.slice A2 m c2)).cell? ⟨w.heap.size, 2, none⟩ = some (.int .i64 x.kind) := by simp [go_sem, q2, q10, q11]
 have g3 : ((w2.setCell ⟨w.heap.size, 10, none⟩ (.slice A1 n c1)).setCell ⟨w.heap.size, 11, none⟩ (.slice A2 m c2)).cell? ⟨w.heap.size, 3, none⟩ = some (.int .i64 x.job) := by simp [go_sem, q3, q10, q11]
 have g4 : ((w2.setCell ⟨w.heap.size, 10, none⟩ (.slice A1 n c1)).setCell ⟨w.heap.size, 11, none⟩ (.slice A2 m c2)).cell? ⟨w.heap.size, 4, none⟩ = some (.int .i64 x.every) := by simp [go_sem, q4, q10, q11]
 have g5 : ((w2.setCell ⟨w.heap.size, 10, none⟩ (.slice A1 n c1)).setCell ⟨w.heap.size, 11, none⟩ (.slice A2 m c2)).cell? ⟨w.heap.size, 5, none⟩ = some (.int .i64 x.time) := by simp [go_sem, q5, q10, q11]
 have g6 : ((w2.setCell ⟨w.heap.size, 10, none⟩ (.slice A1 n c1)).setCell ⟨w.heap.size, 11, none⟩ (.slice A2 m c2)).cell? ⟨w.heap.size, 6, none⟩ = some (.int .i64 x.client) := by simp [go_sem, q6, q10, q11]
 have g7 : ((w2.setCell ⟨w.heap.size, 10, none⟩ (.slice A1 n c1)).setCell ⟨w.heap.size, 11, none⟩ (.slice A2 m c2)).cell? ⟨w.heap.size, 7, none⟩ = some (.int .i64 at_) := by simp [go_sem, q7, q10, q11]
 have g8 : ((w2.setCell ⟨w.heap.size, 10, none⟩ (.slice A1 n c1)).setCell ⟨w.heap.size, 11, none⟩ (.slice A2 m c2)).cell? ⟨w.heap.size, 8, none⟩ = some (.int .i64 ln) := by simp [go_sem, q8, q10, q11]
 have g9 : ((w2.setCell ⟨w.heap.size, 10, none⟩ (.slice A1 n c1)).setCell ⟨w.heap.size, 11, none⟩ (.slice A2 m c2)).cell? ⟨w.heap.size, 9, none⟩ = some (.int .i64 pl) := by simp [go_sem, q9, q10, q11]
 have g10 : ((w2.setCell ⟨w.heap.size, 10, none⟩ (.slice A1 n c1)).setCell ⟨w.heap.size, 11, none⟩ (.slice A2 m c2)).cell? ⟨w.heap.size, 10, none⟩ = some (.slice A1 n c1) := by simp [go_sem, q10, q10, q11]
 have g11 : ((w2.setCell ⟨w.heap.size, 10, none⟩ (.slice A1 n c1)).setCell ⟨w.heap.size, 11, none⟩ (.slice A2 m c2)).cell? ⟨w.heap.size, 11, none⟩ = some (.slice A2 m c2) := by simp [go_sem, q11, q10, q11]
 have r0 : ((w2.setCell ⟨w.heap.size, 10, none⟩ (.slice A1 n c1)).setCell ⟨w.heap.size, 11, none⟩ (.slice A2 m c2)).cell? ⟨w.heap.size + 1, 0, none⟩ = some (.int .i64 0) := by simp [go_sem, p0]
 have fr0' : ((w2.setCell ⟨w.heap.size, 10, none⟩ (.slice A1 n c1)).setCell ⟨w.heap.size, 11, none⟩ (.slice A2 m c2)).frozen? ⟨w.heap.size + 1, 0, none⟩ = false := by simp [fp0]
 have r1 : ((w2.setCell ⟨w.heap.size, 10, none⟩ (.slice A1 n c1)).setCell ⟨w.heap.size, 11, none⟩ (.slice A2 m c2)).cell? ⟨w.heap.size + 1, 1, none⟩ = some (.int .i64 0) := by simp [go_sem, p1]
 have fr1' : ((w2.setCell ⟨w.heap.size, 10, none⟩ (.slice A1 n c1)).setCell ⟨w.heap.size, 11, none⟩ (.slice A2 m c2)).frozen? ⟨w.heap.size + 1, 1, none⟩ = false := by simp [fp1]
 have r2 : ((w2.setCell ⟨w.heap.size, 10, none⟩ (.slice A1 n c1)).setCell ⟨w.heap.size, 11, none⟩ (.slice A2 m c2)).cell? ⟨w.heap.size + 1, 2, none⟩ = some (.int .i64 0) := by simp [go_sem, p2]
 have fr2' : ((w2.setCell ⟨w.heap.size, 10, none⟩ (.slice A1 n c1)).setCell ⟨w.heap.size, 11, none⟩ (.slice A2 m c2)).frozen? ⟨w.heap.size + 1, 2, none⟩ = false := by simp [fp2]
 have r3 : ((w2.setCell ⟨w.heap.size, 10, none⟩ (.slice A1 n c1)).setCell ⟨w.heap.size, 11, none⟩ (.slice A2 m c2)).cell? ⟨w.heap.size + 1, 3, none⟩ = some (.int .i64 0) := by simp [go_sem, p3]
 have fr3' : ((w2.setCell ⟨w.heap.size, 10, none⟩ (.slice A1 n c1)).setCell ⟨w.heap.size, 11, none⟩ (.slice A2 m c2)).frozen? ⟨w.heap.size + 1, 3, none⟩ = false := by simp [fp3]
 have r4 : ((w2.setCell ⟨w.heap.size, 10, none⟩ (.slice A1 n c1)).setCell ⟨w.heap.size, 11, none⟩ (.slice A2 m c2)).cell? ⟨w.heap.size + 1, 4, none⟩ = some (.int .i64 0) := by simp [go_sem, p4]
 have fr4' : ((w2.setCell ⟨w.heap.size, 10, none⟩ (.slice A1 n c1)).setCell ⟨w.heap.size, 11, none⟩ (.slice A2 m c2)).frozen? ⟨w.heap.size + 1, 4, none⟩ = false := by simp [fp4]
 have r5 : ((w2.setCell ⟨w.heap.size, 10, none⟩ (.slice A1 n c1)).setCell ⟨w.heap.size, 11, none⟩ (.slice A2 m c2)).cell? ⟨w.heap.size + 1, 5, none⟩ = some (.int .i64 0) := by simp [go_sem, p5]
 have fr5' : ((w2.setCell ⟨w.heap.size, 10, none⟩ (.slice A1 n c1)).setCell ⟨w.heap.size, 11, none⟩ (.slice A2 m c2)).frozen? ⟨w.heap.size + 1, 5, none⟩ = false := by simp [fp5]
 have r6 : ((w2.setCell ⟨w.heap.size, 10, none⟩ (.slice A1 n c1)).setCell ⟨w.heap.size, 11, none⟩ (.slice A2 m c2)).cell? ⟨w.heap.size + 1, 6, none⟩ = some (.int .i64 0) := by simp [go_sem, p6]
 have fr6' : ((w2.setCell ⟨w.heap.size, 10, none⟩ (.slice A1 n c1)).setCell ⟨w.heap.size, 11, none⟩ (.slice A2 m c2)).frozen? ⟨w.heap.size + 1, 6, none⟩ = false := by simp [fp6]
 have r7 : ((w2.setCell ⟨w.heap.size, 10, none⟩ (.slice A1 n c1)).setCell ⟨w.heap.size, 11, none⟩ (.slice A2 m c2)).cell? ⟨w.heap.size + 1, 7, none⟩ = some (.int .i64 0) := by simp [go_sem, p7]
 have fr7' : ((w2.setCell ⟨w.heap.size, 10, none⟩ (.slice A1 n c1)).setCell ⟨w.heap.size, 11, none⟩ (.slice A2 m c2)).frozen? ⟨w.heap.size + 1, 7, none⟩ = false := by simp [fp7]
 have r8 : ((w2.setCell ⟨w.heap.size, 10, none⟩ (.slice A1 n c1)).setCell ⟨w.heap.size, 11, none⟩ (.slice A2 m c2)).cell? ⟨w.heap.size + 1, 8, none⟩ = some (.int .i64 0) := by simp [go_sem, p8]
 have fr8' : ((w2.setCell ⟨w.heap.size, 10, none⟩ (.slice A1 n c1)).setCell ⟨w.heap.size, 11, none⟩ (.slice A2 m c2)).frozen? ⟨w.heap.size + 1, 8, none⟩ = false := by simp [fp8]
 have r9 : ((w2.setCell ⟨w.heap.size, 10, none⟩ (.slice A1 n c1)).setCell ⟨w.heap.size, 11, none⟩ (.slice A2 m c2)).cell? ⟨w.heap.size + 1, 9, none⟩ = some (.int .i64 0) := by simp [go_sem, p9]
 have fr9' : ((w2.setCell ⟨w.heap.size, 10, none⟩ (.slice A1 n c1)).setCell ⟨w.heap.size, 11, none⟩ (.slice A2 m c2)).frozen? ⟨w.heap.size + 1, 9, none⟩ = false := by simp [fp9]
 have r10 : ((w2.setCell ⟨w.heap.size, 10, none⟩ (.slice A1 n c1)).setCell ⟨w.heap.size, 11, none⟩ (.slice A2 m c2)).cell? ⟨w.heap.size + 1, 10, none⟩ = some (.slice none 0 0) := by simp [go_sem, p10]
 have fr10' : ((w2.setCell ⟨w.heap.size, 10, none⟩ (.slice A1 n c1)).setCell ⟨w.heap.size, 11, none⟩ (.slice A2 m c2)).frozen? ⟨w.heap.size + 1, 10, none⟩ = false := by simp [fp10]
 have r11 : ((w2.setCell ⟨w.heap.size, 10, none⟩ (.slice A1 n c1)).setCell ⟨w.heap.size, 11, none⟩ (.slice A2 m c2)).cell? ⟨w.heap.size + 1, 11, none⟩ = some (.slice none 0 0) := by simp [go_sem, p11]
 have fr11' : ((w2.setCell ⟨w.heap.size, 10, none⟩ (.slice A1 n c1)).setCell ⟨w.heap.size, 11, none⟩ (.slice A2 m c2)).frozen? ⟨w.heap.size + 1, 11, none⟩ = false := by simp [fp11]
 have hz3 : w.heap.size + 1 < ((w2.setCell ⟨w.heap.size, 10, none⟩ (.slice A1 n c1)).setCell ⟨w.heap.size, 11, none⟩ (.slice A2 m c2)).heap.size := by simp; omega
 clear s1 s2 h2 hz q0 q1 q2 q3 q4 q5 q6 q7 q8 q9 q10 q11 p0 fp0 p1 fp1 p2 fp2 p3 fp3 p4 fp4 p5 fp5 p6 fp6 p7 fp7 p8 fp8 p9 fp9 p10 fp10 p11 fp11 fq10 fq11
 change Code.wp _ _ _ _ ((w2.setCell ⟨w.heap.size, 10, none⟩ (.slice A1 n c1)).setCell ⟨w.heap.size, 11, none⟩ (.slice A2 m c2))
 generalize ((w2.setCell ⟨w.heap.size, 10, none⟩ (.slice A1 n c1)).setCell ⟨w.heap.size, 11, none⟩ (.slice A2 m c2)) = w3 at *
 go_wp2_with fail
 rw [show ((((((((((((w3.setCell ⟨w.heap.size + 1, 0, none⟩ (.int .i64 ep)).setCell ⟨w.heap.size + 1, 1, none⟩ (.int .i64 dg)).setCell ⟨w.heap.size + 1, 2, none⟩ (.int .i64 x.kind)).setCell ⟨w.heap.size + 1, 3, none⟩ (.int .i64 x.job)).setCell ⟨w.heap.size + 1, 4, none⟩ (.int .i64 x.every)).setCell ⟨w.heap.size + 1, 5, none⟩ (.int .i64 x.time)).setCell ⟨w.heap.size + 1, 6, none⟩ (.int .i64 x.client)).setCell ⟨w.heap.size + 1, 7, none⟩ (.int .i64 at_)).setCell ⟨w.heap.size + 1, 8, none⟩ (.int .i64 ln)).setCell ⟨w.heap.size + 1, 9, none⟩ (.int .i64 pl)).setCell ⟨w.heap.size + 1, 10, none⟩ (.slice A1 n c1)).setCell ⟨w.heap.size + 1, 11, none⟩ (.slice A2 m c2)) = (w3.setCells (w.heap.size + 1) 0 [.int .i64 ep, .int .i64 dg, .int .i64 x.kind, .int .i64 x.job, .int .i64 x.every, .int .i64 x.time, .int .i64 x.client, .int .i64 at_, .int .i64 ln, .int .i64 pl, .slice A1 n c1, .slice A2 m c2]) from rfl]
 have hE : Onto w (w3.setCells (w.heap.size + 1) 0 [.int .i64 ep, .int .i64 dg, .int .i64 x.kind, .int .i64 x.job, .int .i64 x.every, .int .i64 x.time, .int .i64 x.client, .int .i64 at_, .int .i64 ln, .int .i64 pl, .slice A1 n c1, .slice A2 m c2]) := put_onto (by omega) h3
 have u1 := put_S (vs := [.int .i64 ep, .int .i64 dg, .int .i64 x.kind, .int .i64 x.job, .int .i64 x.every, .int .i64 x.time, .int .i64 x.client, .int .i64 at_, .int .i64 ln, .int .i64 pl, .slice A1 n c1, .slice A2 m c2]) (b := w.heap.size + 1) (o := 0) (w := w3) (fr1.offN (by omega)) t1
 have u2 := put_S (vs := [.int .i64 ep, .int .i64 dg, .int .i64 x.kind, .int .i64 x.job, .int .i64 x.every, .int .i64 x.time, .int .i64 x.client, .int .i64 at_, .int .i64 ln, .int .i64 pl, .slice A1 n c1, .slice A2 m c2]) (b := w.heap.size + 1) (o := 0) (w := w3) (fr2.offN (by omega)) t2
 have F : ∀ (j : Nat) v, ([.int .i64 ep, .int .i64 dg, .int .i64 x.kind, .int .i64 x.job, .int .i64 x.every, .int .i64 x.time, .int .i64 x.client, .int .i64 at_, .int .i64 ln, .int .i64 pl, .slice A1 n c1, .slice A2 m c2] : List Value)[j]? = some v → (w3.setCells (w.heap.size + 1) 0 [.int .i64 ep, .int .i64 dg, .int .i64 x.kind, .int .i64 x.job, .int .i64 x.every, .int .i64 x.time, .int .i64 x.client, .int .i64 at_, .int .i64 ln, .int .i64 pl, .slice A1 n c1, .slice A2 m c2]).cell? ⟨w.heap.size + 1, j, none⟩ = some v := fun j v hv => put_in (w := w3) (b := w.heap.size + 1) (vs := [.int .i64 ep, .int .i64 dg, .int .i64 x.kind, .int .i64 x.job, .int .i64 x.every, .int .i64 x.time, .int .i64 x.client, .int .i64 at_, .int .i64 ln, .int .i64 pl, .slice A1 n c1, .slice A2 m c2]) (there12 r0 r1 r2 r3 r4 r5 r6 r7 r8 r9 r10 r11) hv
 generalize (w3.setCells (w.heap.size + 1) 0 [.int .i64 ep, .int .i64 dg, .int .i64 x.kind, .int .i64 x.job, .int .i64 x.every, .int .i64 x.time, .int .i64 x.client, .int .i64 at_, .int .i64 ln, .int .i64 pl, .slice A1 n c1, .slice A2 m c2]) = wf at F hE u1 u2 ⊢
 have z0 := F 0 _ rfl
 have z1 := F 1 _ rfl
 have z2 := F 2 _ rfl
 have z3 := F 3 _ rfl
 have z4 := F 4 _ rfl
 have z5 := F 5 _ rfl
 have z6 := F 6 _ rfl
 have z7 := F 7 _ rfl
 have z8 := F 8 _ rfl
 have z9 := F 9 _ rfl
 have z10 := F 10 _ rfl
 have z11 := F 11 _ rfl
 refine bodyPost_ret (v := .agg #[.int .i64 ep, .int .i64 dg, .int .i64 x.kind, .int .i64 x.job, .int .i64 x.every, .int .i64 x.time, .int .i64 x.client, .int .i64 at_, .int .i64 ln, .int .i64 pl, .slice A1 n c1, .slice A2 m c2]) (by simp [results, Tryz.results83, go_sem, z0, z1, z2, z3, z4, z5, z6, z7, z8, z9, z10, z11]) rfl ⟨A1, c1, A2, c2, rfl, u1, u2, hE, hc1, hc2, fun a e => by have := fr1 a e; omega, fun a e => by have := fr2 a e; omega⟩
set_option maxHeartbeats 4000000 in
set_option maxRecDepth 100000 in
theorem ClRests_calls (ep dg at_ ln pl : Int) (x : Entry) (A A' : Option Addr) (n c m d : Nat) (b : Book) (w : World) (h : S w 3 A n (b.jobs.map encJ)) (h' : S w 3 A' m (b.rung.map encR)) :
    Calls Tryz.prog 121 #[.agg #[.int .i64 ep, .int .i64 dg, .int .i64 x.kind, .int .i64 x.job, .int .i64 x.every, .int .i64 x.time, .int .i64 x.client, .int .i64 at_, .int .i64 ln, .int .i64 pl, .slice A n c, .slice A' m d]] w fun e w' => e = .returned (.int .i64 (restsCl ⟨ep, dg, x, at_, ln, pl, b⟩)) ∧ Onto w w' := by
 obtain ⟨q, hq⟩ : ∃ q, q = checkCl ⟨ep, dg, x, at_, ln, pl, b⟩ := ⟨_, rfl⟩
 have hr : restsCl ⟨ep, dg, x, at_, ln, pl, b⟩ = if q ≠ 0 then q else if dg ≠ 0 then 7 else 0 := by unfold restsCl; rw [← hq]
 obtain ⟨rr, hrr⟩ : ∃ rr, rr = restsCl ⟨ep, dg, x, at_, ln, pl, b⟩ := ⟨_, rfl⟩
 rw [← hrr]
 rw [hr] at hrr
 have HQ := Lib.hid hq; have HRR := Lib.hid hrr
 clear hq hr hrr
 go_enter Tryz.func121, Tryz.ntmps121
 go_wp2_with fail
 refine Calls.mono (ClCheck_calls ep dg at_ ln pl x A A' n c m d b _ (h.new _) (h'.new _)) ?_
 rw [← HQ.out]
 rintro e w1 ⟨rfl, hb1⟩
 have b1 : w1.cell? ⟨w.heap.size, 1, none⟩ = some (.int .i64 dg) := cellB hb1 (by simp [go_sem])
 have h01 : Onto w w1 := Onto.to (Onto.new (Onto.rfl' w) (Obj.cells #[.int .i64 ep, .int .i64 dg, .int .i64 x.kind, .int .i64 x.job, .int .i64 x.every, .int .i64 x.time, .int .i64 x.client, .int .i64 at_, .int .i64 ln, .int .i64 pl, .slice A n c, .slice A' m d] 41)) hb1
 have hz : w.heap.size < w1.heap.size := World.block_lt_of_cell? _ _ b1
 clear hb1 h h'
 by_cases h0 : q = 0
 · subst h0
   by_cases hd : dg = 0
   · have hd' : (dg != 0) = false := by simp [hd]
     have hf : (0 : Int) = rr := by rw [HRR.out, if_neg (by simp), if_neg (by simp [hd])]
     have HF := Lib.hid hf
     clear hd hf
     go_wp2_with fail
     go_ret
     exact ⟨ret_int HF.out, h01⟩
   · have hd' : (dg != 0) = true := by simpa using hd
     have hf : (7 : Int) = rr := by rw [HRR.out, if_neg (by simp), if_pos hd]
     have HF := Lib.hid hf
     clear hd hf
     go_wp2_with fail
     go_ret
     exact ⟨ret_int HF.out, h01⟩
 · have hd' : (q != 0) = true := by simpa using h0
   have hf : q = rr := by rw [HRR.out, if_pos h0]
   have HF := Lib.hid hf
   clear hf
   go_wp2_with fail
   go_ret
   exact ⟨ret_int HF.out, h01⟩
end
section
set_option linter.unusedSimpArgs false
set_option linter.unusedVariables false
open Go.RowKit
end
section
set_option linter.unusedSimpArgs false
set_option linter.unusedVariables false
open Go.RowKit
theorem take_flatten {α : Type} {k : Nat} : ∀ {rows : List (List α)} (i : Nat), (∀ r ∈ rows, r.length = k) → (rows.take i).flatten = rows.flatten.take (i * k)
 | [], i, _ => by simp
 | r :: rows, 0, _ => by simp
 | r :: rows, i + 1, h => by
   have hr : r.length = k := h r (by simp)
   have ih := take_flatten (rows := rows) i (fun r' h' => h r' (by simp [h']))
   rw [List.take_succ_cons, List.flatten_cons, ih, List.flatten_cons]
   rw [show (i + 1) * k = r.length + i * k by rw [hr, Nat.add_mul]; omega, List.take_length_add_append]
theorem drop_flatten {α : Type} {k : Nat} : ∀ {rows : List (List α)} (i : Nat), (∀ r ∈ rows, r.length = k) → (rows.drop i).flatten = rows.flatten.drop (i * k)
 | [], i, _ => by simp
 | r :: rows, 0, _ => by simp
 | r :: rows, i + 1, h => by
   have hr : r.length = k := h r (by simp)
   have ih := drop_flatten (rows := rows) i (fun r' h' => h r' (by simp [h']))
   rw [List.drop_succ_cons, ih, List.flatten_cons]
   rw [show (i + 1) * k = r.length + i * k by rw [hr, Nat.add_mul]; omega, List.drop_length_add_append]
set_option maxHeartbeats 4000000 in
set_option maxRecDepth 100000 in
theorem Insert_calls (base : Nat) (A : Option Addr) (n c i vb : Nat) (rows : List (List Value)) (x0 x1 x2 : Value) (w : World) (hown : Own w base 88 3 (.slice A n c) n rows)
    (h1 : ∀ r ∈ rows, ∀ u ∈ r, u.oneCell' = true) (h1x : ∀ u ∈ [x0, x1, x2], u.oneCell' = true) (hi : i ≤ n) (hn : n ≤ 1000) (hbase : base ≤ w.heap.size)
    (hvb : w.heap[vb]? = some (.cells #[x0, x1, x2] 88 (0, 0))) (hne : (Value.slice A n c).ownBlock ≠ some vb) :
    Calls Tryz.prog 68 #[.slice A n c, .int .i64 i, .slice (some ⟨vb, 0, none⟩) 1 1] w fun e w' => ∃ A' c', e = .returned (.slice A' (n + 1) c') ∧
     Own w' base 88 3 (.slice A' (n + 1) c') (n + 1) (rows.take i ++ [[x0, x1, x2]] ++ rows.drop i) ∧ w.grownBy w' (Value.slice A n c).ownBlock := by
 obtain ⟨i0, hi0, hz0, hz1, hz2⟩ := info_parts infoJ
 have HI := Lib.hid hi0; have HZ0 := Lib.hid hz0; have HZ1 := Lib.hid hz1; have HZ2 := Lib.hid hz2
 clear hi0 hz0 hz1 hz2
 have hvl : vb < w.heap.size := (Array.getElem?_eq_some_iff.1 hvb).1
 have hvc : ∀ j u, [x0, x1, x2][j]? = some u → w.cell? ⟨vb, j, none⟩ = some u := by
  intro j u hu
  rw [cell_of_row w vb j _ _ _ hvb]
  simpa using hu
 have HV := Lib.hid hvc
 have H1 := Lib.hid h1; have H1x := Lib.hid h1x
 clear hvc h1 h1x
 have hsl : Sl w w.heap.size 3 (some ⟨vb, 0, none⟩) 1 [[x0, x1, x2]] := by
  refine ⟨rfl, by simp, fun _ => ⟨vb, 0, rfl, hvl, fun i j r u hr hu => ?_⟩⟩
  match i, hr with
  | 0, hr =>
    simp at hr
    subst hr
    simpa using HV.out j u hu
 obtain ⟨_, _, e, hnc, hcm⟩ := hown.slice
 injection e with e1 e2 e3
 subst e1; subst e3
 clear e2
 by_cases hin : i = n
 · subst hin
   have HO := Lib.hid hown
   have hz : ¬ ((1 : Int) = 0) := by omega
   have HS := Lib.hid hsl; have HVB := Lib.hid hvb; have HNE := Lib.hid hne; have HCM := Lib.hid hcm
   clear hown hsl hvb hne hcm
   go_enter Tryz.func68, Tryz.ntmps68
   go_wp2_with (at_builtin; refine wpList_append_sl _ rfl (.tmp 23) (.tmp 24) 36 rfl base 88 i0 _ 3 24 Tryz.underlying36 HI.out HZ0.out HZ1.out HZ2.out rfl (by decide) _ i rows rfl HO.out w.heap.size (some ⟨vb, 0, none⟩) 1 1 [[x0, x1, x2]] rfl HS.out (by simpa using H1x.out) (by unfold maxLen; omega) (by omega) hbase ?_)
   all_goals
    intro v' w' hown hgrow hblk
    obtain ⟨A', c', rfl, _, _⟩ := hown.slice
    go_wp2
    go_ret
    refine ⟨A', c', rfl, ?_, by cases A <;> exact hgrow⟩
    have hl : rows.length = i := HO.out.2.1
    rw [List.take_of_length_le (by omega), List.drop_eq_nil_of_le (by omega), List.append_nil]
    exact hown
 · have hlt : i < n := by omega
   obtain ⟨g, cur, rfl, hbg, hgl, hh, _, _, hcs, htk⟩ := hown.open_ (by omega)
   have hrl := hown.2.1
   have hr3 := hown.2.2
   have hgv : g ≠ vb := by simpa [Value.ownBlock] using hne
   obtain ⟨P, S, Z, hP, hS, hZ, hcur⟩ : ∃ P S Z : List Value, P.length = i * 3 ∧ S.length = (n - i) * 3 ∧ Z.length = (c - n) * 3 ∧ cur.toList = P ++ S ++ Z := by
    refine ⟨cur.toList.take (i * 3), (cur.toList.drop (i * 3)).take ((n - i) * 3), cur.toList.drop (n * 3), ?_, ?_, ?_, ?_⟩
    · simp; omega
    · simp; omega
    · simp; omega
    · rw [List.append_assoc]
      conv => lhs; rw [← List.take_append_drop (i * 3) cur.toList]
      congr 1
      conv => lhs; rw [← List.take_append_drop ((n - i) * 3) (cur.toList.drop (i * 3))]
      congr 1
      rw [List.drop_drop]
      congr 1
      omega
   have hPr : P = (rows.take i).flatten := by
    rw [take_flatten i hr3, ← htk, hcur, List.take_take, Nat.min_eq_left (by omega), List.append_assoc, ← hP, List.take_left]
   have hSr : S = (rows.drop i).flatten := by
    have : (P ++ S ++ Z).take (n * 3) = P ++ S := by
     rw [show n * 3 = (P ++ S).length by simp; omega, List.take_left]
    rw [drop_flatten i hr3, ← htk, hcur, this, ← hP, List.drop_left]
   have h1S : ∀ u ∈ S, u.oneCell' = true := by
    intro u hu
    rw [hSr] at hu
    obtain ⟨r, hr, hu⟩ := List.mem_flatten.1 hu
    exact H1.out r (List.mem_of_mem_drop hr) u hu
   have hfin : (rows.take i ++ [[x0, x1, x2]] ++ rows.drop i).flatten = P ++ [x0, x1, x2] ++ S := by simp [hPr, hSr]
   have hlen : (rows.take i ++ [[x0, x1, x2]] ++ rows.drop i).length = n + 1 := by simp; omega
   have hr3' : ∀ r ∈ rows.take i ++ [[x0, x1, x2]] ++ rows.drop i, r.length = 3 := by
    intro r hr
    simp only [List.mem_append, List.mem_singleton] at hr
    rcases hr with (hr | rfl) | hr
    · exact hr3 r (List.mem_of_mem_take hr)
    · rfl
    · exact hr3 r (List.mem_of_mem_drop hr)
   by_cases hroom : n + 1 ≤ c
   · have hcp1 : ∀ (W : World), W.heap[g]? = some (.cells cur 88 (0, 0)) → ∀ ty dc sc, (Builtin.copy_ #[36, 36] ty #[.slice (some ⟨g, (i + 1) * 3, none⟩) (n - i) dc, .slice (some ⟨g, i * 3, none⟩) (n + 1 - i) sc]).run Tryz.prog W = .ok (goInt ((n - i : Nat) : Int)) (W.setRow g (spliceR cur ((i + 1) * 3) S)) := by
      intro W hW ty dc sc
      have hmin : Nat.min (n + 1 - i) (n - i) = n - i := by simp only [Nat.min_def]; split <;> omega
      have := run_copy_rowK (P := Tryz.prog) W 36 36 ty 88 g ((i + 1) * 3) (n - i) dc ⟨g, i * 3, none⟩ (n + 1 - i) sc cur 88 i0 S Tryz.underlying36 HI.out hW
       (by rw [hmin, HZ1.out, hS]) (fun j v hj => by
        rw [Addr.add_lit, cell_of_row W g _ _ _ _ hW, ← Array.getElem?_toList, hcur, List.append_assoc, List.getElem?_append_right (by omega), hP, Nat.add_sub_cancel_left, List.getElem?_append_left (List.getElem?_eq_some_iff.1 hj).1]
        exact hj) (by omega) h1S
      rw [hmin] at this
      exact this
     have hsz1 : (spliceR cur ((i + 1) * 3) S).size = cur.size := spliceR_size (by omega)
     have hcp2 : ∀ (W : World), W.heap[g]? = some (.cells (spliceR cur ((i + 1) * 3) S) 88 (0, 0)) → W.heap[vb]? = some (.cells #[x0, x1, x2] 88 (0, 0)) → ∀ ty dc, (Builtin.copy_ #[36, 36] ty #[.slice (some ⟨g, i * 3, none⟩) (n + 1 - i) dc, .slice (some ⟨vb, 0, none⟩) 1 1]).run Tryz.prog W = .ok (goInt 1) (W.setRow g (spliceR (spliceR cur ((i + 1) * 3) S) (i * 3) [x0, x1, x2])) := by
      intro W hW hV ty dc
      have hmin : Nat.min 1 (n + 1 - i) = 1 := by simp only [Nat.min_def]; split <;> omega
      have := run_copy_rowK (P := Tryz.prog) W 36 36 ty 88 g (i * 3) (n + 1 - i) dc ⟨vb, 0, none⟩ 1 1 (spliceR cur ((i + 1) * 3) S) 88 i0 [x0, x1, x2] Tryz.underlying36 HI.out hW
       (by rw [hmin, HZ1.out]; rfl) (fun j v hj => by
        rw [Addr.add_lit, cell_of_row W vb _ _ _ _ hV]
        simpa using hj) (by rw [hsz1]; simp; omega) H1x.out
      rw [hmin] at this
      exact this
     have hlast : (spliceR (spliceR cur ((i + 1) * 3) S) (i * 3) [x0, x1, x2]).toList = P ++ [x0, x1, x2] ++ S ++ Z.drop 3 := by
      have := insert_cells P [x0, x1, x2] S Z (by simp; omega)
      simp only [spliceR, hcur]
      rw [← hP, show (i + 1) * 3 = P.length + [x0, x1, x2].length by simp; omega]
      exact this
     have HC1 := Lib.hid hcp1; have HC2 := Lib.hid hcp2
     have hov : ∀ (lb cb : Nat) (W : World), W.heap[g]? = some (.cells cur 88 (0, 0)) → W.heap[vb]? = some (.cells #[x0, x1, x2] 88 (0, 0)) → (callFunc 96 #[.slice (some ⟨vb, 0, none⟩) 1 1, .slice (some ⟨g, (i + 1) * 3, none⟩) lb cb]).run Tryz.prog W = .ok (.value (.bool false)) W := by
      intro lb cb W hg hv
      rw [run_callFunc_extern (P := Tryz.prog) Tryz.func96 (by kernel_rfl) (by kernel_rfl) (by kernel_rfl) (e := Extern.SlicesOverlaps.overlaps #[36, 36] #[4]) (by kernel_rfl),
       Lib.run_overlaps_apart W 36 4 88 Tryz.underlying36 3 Tryz.sizeOf88 ⟨vb, 0, none⟩ ⟨g, (i + 1) * 3, none⟩ 1 1 lb cb (Ne.symm hgv) 88 88 3 cur.size
        (by simp [World.shape?, hv]) (by simp [World.shape?, hg]) (by omega) (by simp [World.frozen?, hv]) (by simp [World.frozen?, hv])]
      rfl
     have hov' := fun lb cb => hov lb cb w hh hvb
     have HB := Lib.hid hvb; have HH := Lib.hid hh; have HL := Lib.hid hlast; have HF := Lib.hid hfin; have HLn := Lib.hid hlen; have HR3 := Lib.hid hr3'; have HCS := Lib.hid hcs; have HCM := Lib.hid hcm; have HS1 := Lib.hid hsz1; have HPl := Lib.hid hP; have HSl := Lib.hid hS
     have hz1 : ¬ ((1 : Int) = 0) := by omega
     have hz2 : ¬ ((i : Int) = (n : Int)) := by omega
     have hb2 : ¬ (c = i + 1) := by omega
     have hb4 : ¬ (c = i) := by omega
     have hb3 : (i : Int) ≤ (n : Int) + 1 := by omega
     clear hcp1 hcp2 hov hvb hh hlast hfin hlen hr3' hcs hsz1 hP hS hZ hcur hPr hSr h1S htk hrl hr3 hown hsl hne hin hcm
     go_enter Tryz.func68, Tryz.ntmps68
     go_wp2_with fail
     have hw1 : IntKind.i64.wrap ((i : Int) + 1) = (i : Int) + 1 := by rw [IntKind.wrap_i64]; omega
     have hb1 : (0 : Int) ≤ (i : Int) + 1 := by omega
     have htn : ((i : Int) + 1).toNat = i + 1 := by omega
     go_region_law (refine step_copy_run _ rfl _ _ 36 36 rfl _ _ (by simp [Act.eval, Act.put]; rfl) (by simp [Act.eval, Act.put]; rfl) (HC1.out _ (by exact HH.out) _ _ _) ?_)
     clear hw1 hb1 htn
     go_wp2_with (with_reducible refine wpList_copy_run _ rfl (.tmp 80) (.tmp 81) _ _ rfl _ _ rfl rfl (HC2.out _ ?h1 ?h2 _ _) ?_)
     case h1 => exact setRow_heap _ g cur _ _ _ HH.out
     case h2 => exact (setRow_other _ g vb _ (Ne.symm hgv)).trans HB.out
     go_wp2
     go_ret
     refine ⟨_, c, rfl, Own.mk_ hbg (setRow_heap _ g (spliceR cur ((i + 1) * 3) S) _ _ _ (setRow_heap _ g cur _ _ _ HH.out)) hroom HCM.out ?_ ?_ HLn.out HR3.out, ?_⟩
     · rw [spliceR_size (by rw [HS1.out, HCS.out]; simp; omega), HS1.out, HCS.out]
     · rw [HL.out, HF.out, show (n + 1) * 3 = (P ++ [x0, x1, x2] ++ S).length by simp [HPl.out, HSl.out]; omega, List.take_left]
     · exact ⟨rfl, rfl, rfl, by simp, fun k _ hk => by
        have hk' : k ≠ g := fun e => hk (by simp [Value.ownBlock, e])
        rw [setRow_other _ g k _ hk', setRow_other _ g k _ hk']
        rfl⟩
   · have hgc : c < n + 1 := by omega
     have hPg : (Builtin.firstCells i0.size i (.slice (some ⟨g, 0, none⟩) i c)).run Tryz.prog w.drew = .ok P.toArray w.drew := by
      rw [HZ1.out]
      exact run_firstCells_some w.drew 3 i ⟨g, 0, none⟩ i c P hP (fun j v hj => by
       rw [Addr.add_lit, cell_of_row w.drew g _ _ _ _ hh, ← Array.getElem?_toList, hcur, List.append_assoc, Nat.zero_add, List.getElem?_append_left (List.getElem?_eq_some_iff.1 hj).1]
       exact hj)
     have hrz : ∀ ty, (Builtin.append_ #[36, 3] ty #[.slice (some ⟨g, 0, none⟩) i c, .int .i64 ((n : Int) + 1 - (i : Int))]).run Tryz.prog w =
         .ok (.slice (some ⟨w.heap.size, 0, none⟩) (n + 1) (grownCap w (n + 1) c 88)) (w.drew.alloc (.cells (P.toArray ++ Builtin.zeroCells (Value.agg #[.int .i64 0, .int .i64 0, .int .i64 0]).cells (n + 1 - i) ++ Builtin.zeroCells (Value.agg #[.int .i64 0, .int .i64 0, .int .i64 0]).cells (grownCap w (n + 1) c 88 - (n + 1))) 88)) := fun ty => by
      have h := Lib.run_append_grow_zeros w 36 3 ty 88 i0 _ .i64 .i64 Tryz.underlying36 Tryz.underlying3 HI.out HZ0.out (some ⟨g, 0, none⟩) i c P hPg (n + 1 - i) (by omega) (by rw [HZ1.out]; omega) (by omega) (by omega) (by rw [HZ2.out]; omega)
       (by rw [HZ2.out, show i + (n + 1 - i) = n + 1 by omega]; exact growslice_fits hgc (by omega))
      rw [show i + (n + 1 - i) = n + 1 by omega] at h
      rw [show (n : Int) + 1 - (i : Int) = ((n + 1 - i : Nat) : Int) by omega]
      exact h
     have hGn : n + 1 ≤ grownCap w (n + 1) c 88 := grownCap_ge w _ _ _
     have hGm : grownCap w (n + 1) c 88 ≤ maxLen := grownCap_le_maxLen w (n + 1) c 88 (by unfold maxLen; omega)
     obtain ⟨G, hG⟩ : ∃ G, G = grownCap w (n + 1) c 88 := ⟨_, rfl⟩
     obtain ⟨ROW, hROW⟩ : ∃ ROW : Array Value, ROW = P.toArray ++ Builtin.zeroCells (Value.agg #[.int .i64 0, .int .i64 0, .int .i64 0]).cells (n + 1 - i) ++ Builtin.zeroCells (Value.agg #[.int .i64 0, .int .i64 0, .int .i64 0]).cells (G - (n + 1)) := ⟨_, rfl⟩
     rw [← hG] at hrz hGn hGm
     rw [← hROW] at hrz
     obtain ⟨Z1, hZ1, hRl⟩ : ∃ Z1 : List Value, Z1.length = (G - i) * 3 ∧ ROW.toList = P ++ Z1 := by
      refine ⟨(Builtin.zeroCells (Value.agg #[.int .i64 0, .int .i64 0, .int .i64 0]).cells (n + 1 - i)).toList ++ (Builtin.zeroCells (Value.agg #[.int .i64 0, .int .i64 0, .int .i64 0]).cells (G - (n + 1))).toList, ?_, ?_⟩
      · simp only [List.length_append, Array.length_toList, size_zeroCells, Value.cells, List.size_toArray, List.length_cons, List.length_nil]
        omega
      · rw [hROW]; simp
     have hRs : ROW.size = G * 3 := by
      rw [← Array.length_toList, hRl, List.length_append, hP, hZ1]; omega
     have hcpA : ∀ (W : World), W.heap[w.heap.size]? = some (.cells ROW 88 (0, 0)) → W.heap[vb]? = some (.cells #[x0, x1, x2] 88 (0, 0)) → ∀ ty dc, (Builtin.copy_ #[36, 36] ty #[.slice (some ⟨w.heap.size, i * 3, none⟩) (n + 1 - i) dc, .slice (some ⟨vb, 0, none⟩) 1 1]).run Tryz.prog W = .ok (goInt 1) (W.setRow w.heap.size (spliceR ROW (i * 3) [x0, x1, x2])) := by
      intro W hW hV ty dc
      have hmin : Nat.min 1 (n + 1 - i) = 1 := by simp only [Nat.min_def]; split <;> omega
      have := run_copy_rowK (P := Tryz.prog) W 36 36 ty 88 w.heap.size (i * 3) (n + 1 - i) dc ⟨vb, 0, none⟩ 1 1 ROW 88 i0 [x0, x1, x2] Tryz.underlying36 HI.out hW
       (by rw [hmin, HZ1.out]; rfl) (fun j v hj => by
        rw [Addr.add_lit, cell_of_row W vb _ _ _ _ hV]
        simpa using hj) (by rw [hRs]; simp; omega) H1x.out
      rw [hmin] at this
      exact this
     have hsA : (spliceR ROW (i * 3) [x0, x1, x2]).size = ROW.size := spliceR_size (by rw [hRs]; simp; omega)
     have hcpB : ∀ (W : World), W.heap[w.heap.size]? = some (.cells (spliceR ROW (i * 3) [x0, x1, x2]) 88 (0, 0)) → W.heap[g]? = some (.cells cur 88 (0, 0)) → ∀ ty dc sc, (Builtin.copy_ #[36, 36] ty #[.slice (some ⟨w.heap.size, (i + 1) * 3, none⟩) (n - i) dc, .slice (some ⟨g, i * 3, none⟩) (n - i) sc]).run Tryz.prog W = .ok (goInt ((n - i : Nat) : Int)) (W.setRow w.heap.size (spliceR (spliceR ROW (i * 3) [x0, x1, x2]) ((i + 1) * 3) S)) := by
      intro W hW hV ty dc sc
      have hmin : Nat.min (n - i) (n - i) = n - i := by simp only [Nat.min_def]; split <;> omega
      have := run_copy_rowK (P := Tryz.prog) W 36 36 ty 88 w.heap.size ((i + 1) * 3) (n - i) dc ⟨g, i * 3, none⟩ (n - i) sc (spliceR ROW (i * 3) [x0, x1, x2]) 88 i0 S Tryz.underlying36 HI.out hW
       (by rw [hmin, HZ1.out, hS]) (fun j v hj => by
        rw [Addr.add_lit, cell_of_row W g _ _ _ _ hV, ← Array.getElem?_toList, hcur, List.append_assoc, List.getElem?_append_right (by omega), hP, Nat.add_sub_cancel_left, List.getElem?_append_left (List.getElem?_eq_some_iff.1 hj).1]
        exact hj) (by rw [hsA, hRs]; omega) h1S
      rw [hmin] at this
      exact this
     have hlast : ∃ Z2, (spliceR (spliceR ROW (i * 3) [x0, x1, x2]) ((i + 1) * 3) S).toList = P ++ [x0, x1, x2] ++ S ++ Z2 := by
      have eA : (spliceR ROW (i * 3) [x0, x1, x2]).toList = P ++ [x0, x1, x2] ++ Z1.drop 3 := by
       simp only [spliceR, hRl]
       rw [← hP, List.take_left, List.drop_length_add_append]
       simp
      refine ⟨(Z1.drop 3).drop S.length, ?_⟩
      have e3 : (i + 1) * 3 = (P ++ [x0, x1, x2]).length := by simp; omega
      rw [show (spliceR (spliceR ROW (i * 3) [x0, x1, x2]) ((i + 1) * 3) S).toList = (spliceR ROW (i * 3) [x0, x1, x2]).toList.take ((i + 1) * 3) ++ S ++ (spliceR ROW (i * 3) [x0, x1, x2]).toList.drop ((i + 1) * 3 + S.length) from rfl, eA, e3, List.take_left, List.drop_length_add_append]
     have hwg : g ≠ w.heap.size := by omega
     have hwv : vb ≠ w.heap.size := by omega
     have HA := Lib.hid hcpA; have HBc := Lib.hid hcpB; have HL := Lib.hid hlast; have HF := Lib.hid hfin; have HLn := Lib.hid hlen; have HR3 := Lib.hid hr3'
     have HB := Lib.hid hvb; have HH := Lib.hid hh; have HRs := Lib.hid hRs; have HsA := Lib.hid hsA; have HPl := Lib.hid hP; have HSl := Lib.hid hS; have HGm := Lib.hid hGm
     have hz1 : ¬ ((1 : Int) = 0) := by omega
     have hz2 : ¬ ((i : Int) = (n : Int)) := by omega
     have hz3 : (c : Int) < (n : Int) + 1 := by omega
     have hGi : ¬ (G = i) := by omega
     have hGi1 : ¬ (G = i + 1) := by omega
     have hb4 : ¬ (c = i) := by omega
     have hGle : G ≤ 9223372036854775807 := by unfold maxLen at hGm; omega
     clear hcpA hcpB hlast hfin hlen hr3' hvb hh hRs hsA hP hS hZ hcur hPr hSr h1S htk hrl hr3 hown hsl hne hin hcm hPg hG hROW hZ1 hRl hGm hcs
     go_enter Tryz.func68, Tryz.ntmps68
     go_wp2_with (first
      | (at_builtin; refine Lib.wpList_append_run _ rfl _ _ _ _ rfl _ _ rfl rfl _ _ (hrz _) ?_)
      | (with_reducible refine wpList_copy_run _ rfl (.tmp 43) (.tmp 44) _ _ rfl _ _ rfl rfl (HA.out _ ?h1 ?h2 _ _) ?_))
     case h1 => exact hNew (by simp)
     case h2 => exact hOld HB.out
     have hw1 : IntKind.i64.wrap ((i : Int) + 1) = (i : Int) + 1 := by rw [IntKind.wrap_i64]; omega
     have hb1 : (0 : Int) ≤ (i : Int) + 1 := by omega
     have htn : ((i : Int) + 1).toNat = i + 1 := by omega
     have hb3 : (i : Int) + 1 ≤ (n : Int) + 1 := by omega
     have hb5 : (i : Int) ≤ (n : Int) := by omega
     go_region_law (refine step_copy_run _ rfl _ _ 36 36 rfl _ _ (by simp [Act.eval, Act.put]; rfl) (by simp [Act.eval, Act.put]; rfl) (HBc.out _ (by exact setRow_heap _ _ _ _ _ _ (hNew (by simp))) (by exact (setRow_other _ _ g _ hwg).trans (hOld HH.out)) _ _ _) ?_)
     clear hw1 hb1 htn
     go_wp2
     go_ret
     obtain ⟨Z2, hZ2⟩ := HL.out
     refine ⟨_, G, rfl, Own.mk_ hbase (setRow_heap _ w.heap.size (spliceR ROW (i * 3) [x0, x1, x2]) _ _ _ (setRow_heap _ w.heap.size ROW _ _ _ (hNew (by simp)))) hGn HGm.out ?_ ?_ HLn.out HR3.out, ?_⟩
     · rw [spliceR_size (by rw [HsA.out, HRs.out, HSl.out]; omega), HsA.out, HRs.out]
     · rw [hZ2, HF.out, show (n + 1) * 3 = (P ++ [x0, x1, x2] ++ S).length by simp [HPl.out, HSl.out]; omega, List.take_left]
     · exact ⟨rfl, rfl, rfl, by simp, fun k hk _ => by
        have hk' : k ≠ w.heap.size := by omega
        rw [setRow_other _ _ k _ hk']
        refine (setRow_other _ _ k _ hk').trans ?_
        exact Below.heap_alloc w _ k hk⟩
end
section
set_option linter.unusedSimpArgs false
set_option linter.unusedVariables false
open Go.RowKit
set_option maxHeartbeats 4000000 in
set_option maxRecDepth 100000 in
theorem Delete_calls (base : Nat) (A : Option Addr) (n c i : Nat) (rows : List (List Value)) (w : World) (hown : Own w base 88 3 (.slice A n c) n rows)
    (h1 : ∀ r ∈ rows, ∀ u ∈ r, u.oneCell' = true) (hi : i < n) (hn : n ≤ 1000) :
    Calls Tryz.prog 69 #[.slice A n c, .int .i64 i, .int .i64 (i + 1)] w fun e w' => e = .returned (.slice A (n - 1) c) ∧
     Own w' base 88 3 (.slice A (n - 1) c) (n - 1) (rows.take i ++ rows.drop (i + 1)) ∧ w.grownBy w' (Value.slice A n c).ownBlock := by
 obtain ⟨i0, hi0, hz0, hz1, hz2⟩ := info_parts infoJ
 obtain ⟨g, cur, rfl, hbg, hgl, hh, hnc, hcm, hcs, htk⟩ := hown.open_ (by omega)
 have hrl := hown.2.1
 have hr3 := hown.2.2
 obtain ⟨P, S, Z, hP, hS, hcur⟩ : ∃ P S Z : List Value, P.length = i * 3 ∧ S.length = (n - (i + 1)) * 3 ∧ cur.toList.take (i * 3) = P ∧ (cur.toList.drop ((i + 1) * 3)).take ((n - (i + 1)) * 3) = S ∧ P = (rows.take i).flatten ∧ S = (rows.drop (i + 1)).flatten := by
  refine ⟨cur.toList.take (i * 3), (cur.toList.drop ((i + 1) * 3)).take ((n - (i + 1)) * 3), [], ?_, ?_, rfl, rfl, ?_, ?_⟩
  · simp; omega
  · simp; omega
  · rw [take_flatten i hr3, ← htk, List.take_take, Nat.min_eq_left (by omega)]
  · rw [drop_flatten (i + 1) hr3, ← htk, List.drop_take]
    congr 1
    omega
 obtain ⟨hPc, hSc, hPr, hSr⟩ := hcur
 have h1S : ∀ u ∈ S, u.oneCell' = true := by
  intro u hu
  rw [hSr] at hu
  obtain ⟨r, hr, hu⟩ := List.mem_flatten.1 hu
  exact h1 r (List.mem_of_mem_drop hr) u hu
 have hnews : ∀ (W : World), W.heap[g]? = some (.cells cur 88 (0, 0)) → ∀ j u, S[j]? = some u → W.cell? ((⟨g, (i + 1) * 3, none⟩ : Addr).add j) = some u := by
  intro W hW j u hu
  rw [Addr.add_lit, cell_of_row W g _ _ _ _ hW, ← Array.getElem?_toList]
  rw [← hSc, List.getElem?_take] at hu
  split at hu
  · rw [List.getElem?_drop] at hu
    exact hu
  · cases hu
 -- the append, whatever address the cut has
 have hap : ∀ (W : World), W.heap[g]? = some (.cells cur 88 (0, 0)) → ∀ ty dc, (Builtin.append_ #[36, 36] ty #[.slice (some ⟨g, 0, none⟩) i c, .slice (if c = i + 1 then some ⟨g, 0, none⟩ else some ⟨g, (i + 1) * 3, none⟩) (n - (i + 1)) dc]).run Tryz.prog W = .ok (.slice (some ⟨g, 0, none⟩) (n - 1) c) (W.setRow g (spliceR cur (i * 3) S)) := by
  intro W hW ty dc
  have hgen : ∀ ad : Addr, (∀ j u, S[j]? = some u → W.cell? (ad.add j) = some u) → (Builtin.append_ #[36, 36] ty #[.slice (some ⟨g, 0, none⟩) i c, .slice (some ad) (n - (i + 1)) dc]).run Tryz.prog W = .ok (.slice (some ⟨g, 0, none⟩) (n - 1) c) (W.setRow g (spliceR cur (i * 3) S)) := by
   intro ad had
   have := run_append_room (P := Tryz.prog) W 36 ty 88 i0 Tryz.underlying36 hi0 g i c cur hW ad (n - (i + 1)) dc S (by rw [hz1, hS]) had h1S (by omega) (by rw [hz1, hS, hcs]; omega)
   rw [hz1, show i + (n - (i + 1)) = n - 1 by omega] at this
   exact this
  split
  · refine hgen _ (fun j u hu => ?_)
    have : S.length = 0 := by rw [hS]; omega
    rw [List.length_eq_zero_iff.1 this] at hu
    simp at hu
  · exact hgen _ (hnews W hW)
 have hs1 : (spliceR cur (i * 3) S).size = cur.size := spliceR_size (by rw [hS, hcs]; omega)
 have hcl : ∀ (W : World), W.heap[g]? = some (.cells (spliceR cur (i * 3) S) 88 (0, 0)) → ∀ ty dc, (Builtin.clear_ #[36] ty #[.slice (some ⟨g, (n - 1) * 3, none⟩) (n - (n - 1)) dc]).run Tryz.prog W = .ok (.tuple #[]) (W.setRow g (spliceR (spliceR cur (i * 3) S) ((n - 1) * 3) (Builtin.zeroCells (Value.agg #[.int .i64 0, .int .i64 0, .int .i64 0]).cells 1).toList)) := by
  intro W hW ty dc
  rw [show n - (n - 1) = 1 by omega]
  exact run_clear_rowK (P := Tryz.prog) W 36 ty 88 g ((n - 1) * 3) 1 dc _ _ (Value.agg #[.int .i64 0, .int .i64 0, .int .i64 0]) Tryz.underlying36 (by kernel_rfl) (by simp [Value.cells, Value.oneCell']) hW (by omega) (by rw [hs1, hcs]; simp [Value.cells]; omega)
 have hfin : (spliceR (spliceR cur (i * 3) S) ((n - 1) * 3) (Builtin.zeroCells (Value.agg #[.int .i64 0, .int .i64 0, .int .i64 0]).cells 1).toList).toList.take ((n - 1) * 3) = (rows.take i ++ rows.drop (i + 1)).flatten := by
  have e1 : (spliceR cur (i * 3) S).toList = P ++ S ++ cur.toList.drop (i * 3 + S.length) := by
   show cur.toList.take (i * 3) ++ S ++ _ = _
   rw [hPc]
  have e2 : (n - 1) * 3 = (P ++ S).length := by simp; omega
  show List.take _ ((spliceR cur (i * 3) S).toList.take ((n - 1) * 3) ++ _ ++ _) = _
  rw [e1, e2, List.take_left, List.append_assoc, List.take_left, hPr, hSr, List.flatten_append]
 have hsz2 : (spliceR (spliceR cur (i * 3) S) ((n - 1) * 3) (Builtin.zeroCells (Value.agg #[.int .i64 0, .int .i64 0, .int .i64 0]).cells 1).toList).size = c * 3 := by
  rw [spliceR_size (by rw [hs1, hcs]; simp [size_zeroCells, Value.cells]; omega), hs1, hcs]
 have hlen : (rows.take i ++ rows.drop (i + 1)).length = n - 1 := by simp; omega
 have hr3' : ∀ r ∈ rows.take i ++ rows.drop (i + 1), r.length = 3 := by
  intro r hr
  rcases List.mem_append.1 hr with hr | hr
  · exact hr3 r (List.mem_of_mem_take hr)
  · exact hr3 r (List.mem_of_mem_drop hr)
 have HAp := Lib.hid hap; have HCl := Lib.hid hcl; have HF := Lib.hid hfin; have HSz := Lib.hid hsz2; have HLn := Lib.hid hlen; have HR3 := Lib.hid hr3'; have HH := Lib.hid hh; have HCM := Lib.hid hcm
 clear hap hcl hfin hsz2 hlen hr3' hh hcm hs1 hnews h1S hPc hSc hPr hSr hP hS hr3 hrl htk hcs hown h1 hi0 hz0 hz1 hz2
 have hz : ¬ ((i : Int) = (i : Int) + 1) := by omega
 have hb1 : (i : Int) + 1 ≤ (n : Int) := by omega
 have hcn : ¬ (c = n - 1) := by omega
 go_enter Tryz.func69, Tryz.ntmps69
 go_wp2_with fail
 have hb0 : (0 : Int) ≤ (i : Int) + 1 := by omega
 have htn : ((i : Int) + 1).toNat = i + 1 := by omega
 have hic : (i : Int) ≤ (c : Int) := by omega
 go_region_law (refine step_append_run _ rfl _ _ 36 36 rfl _ _ (by simp [Act.eval, Act.put]) (by simp [Act.eval, Act.put]; rfl) (HAp.out _ (by exact HH.out) _ _) ?_)
 clear hb0 htn hic
 go_wp2_with (with_reducible refine wpList_clear_run _ rfl (.tmp 31) _ rfl _ rfl (HCl.out _ ?h1 _ _) ?_)
 all_goals
  first
   | exact setRow_heap _ _ _ _ _ _ HH.out
   | (go_wp2
      go_ret
      refine ⟨rfl, Own.mk_ hbg (setRow_heap _ g (spliceR cur (i * 3) S) _ _ _ (setRow_heap _ g cur _ _ _ HH.out)) (by omega) (by have := HCM.out; omega) (by have e := HSz.out; simp only [Value.cells] at e; omega) HF.out HLn.out HR3.out, ?_⟩
      exact ⟨rfl, rfl, rfl, by simp, fun k _ hk => by
       have hk' : k ≠ g := fun e => hk (by simp [Value.ownBlock, e])
       rw [setRow_other _ g k _ hk', setRow_other _ g k _ hk']
       rfl⟩)
end
end Go.Proofs.YtmppkaoonncddaaGreatDoor
