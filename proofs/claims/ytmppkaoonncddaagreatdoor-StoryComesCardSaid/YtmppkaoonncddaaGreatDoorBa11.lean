/- Part 11 of the proof: WStore, WOfCR. -/
import Derived.Test.YtmppkaoonncddaaGreatDoorBa09
import Derived.Test.YtmppkaoonncddaaGreatDoorBa06
import Derived.Test.YtmppkaoonncddaaGreatDoorBa07
import Derived.Test.YtmppkaoonncddaaGreatDoorBa03
namespace Go.Proofs.YtmppkaoonncddaaGreatDoor
section
set_option linter.unusedSimpArgs false
set_option linter.unusedVariables false
open Go.RowKit
attribute [local go_sem ↓] Go.wp_at_zero Go.wp_at_succ
theorem sizeRec : (Tryz.prog.info? 160).map (·.size) = some 8 := by kernel_rfl
theorem sizeEnt : (Tryz.prog.info? 27).map (·.size) = some 5 := by kernel_rfl
def stRec (p v : Value) : Sem Unit := Instr.storeAt 160 p v
theorem stRec_eq (p v : Value) : Instr.storeAt 160 p v = stRec p v := rfl
theorem run_stRec {w : World} {z o : Nat} {a b c d e f g h : Int} (ht : w.there z o 8) :
    (stRec (.pointer (some ⟨z, o, none⟩)) (.agg #[.int .i64 a, .int .i64 b, .int .i64 c, .int .i64 d, .int .i64 e, .int .i64 f, .int .i64 g, .int .i64 h])).run Tryz.prog w = .ok () (w.setCells z o [.int .i64 a, .int .i64 b, .int .i64 c, .int .i64 d, .int .i64 e, .int .i64 f, .int .i64 g, .int .i64 h]) :=
 run_storeAt_mid (P := Tryz.prog) w z o 160 _ ht sizeRec (all_oneCell_toArray (List.all_eq_true.1 rfl))
def stEnt (p v : Value) : Sem Unit := Instr.storeAt 27 p v
theorem stEnt_eq (p v : Value) : Instr.storeAt 27 p v = stEnt p v := rfl
theorem run_stEnt {w : World} {z o : Nat} {a b c d e : Int} (ht : w.there z o 5) :
    (stEnt (.pointer (some ⟨z, o, none⟩)) (.agg #[.int .i64 a, .int .i64 b, .int .i64 c, .int .i64 d, .int .i64 e])).run Tryz.prog w = .ok () (w.setCells z o [.int .i64 a, .int .i64 b, .int .i64 c, .int .i64 d, .int .i64 e]) :=
 run_storeAt_mid (P := Tryz.prog) w z o 27 _ ht sizeEnt (all_oneCell_toArray (List.all_eq_true.1 rfl))
theorem there_new {w : World} {z o n : Nat} (x : Obj) (h : w.there z o n) : (w.alloc x).there z o n := fun j hj => by
 have hz : z < w.heap.size := by
  obtain ⟨h1, _⟩ := h j hj
  obtain ⟨v, hv⟩ := Option.isSome_iff_exists.1 h1
  exact World.block_lt_of_cell? w _ hv
 rw [World.cell?_alloc_lt w x _ hz]
 refine ⟨(h j hj).1, ?_⟩
 rw [((Onto.rfl' w).new x).frozen (p := ⟨z, o + j, none⟩) hz]
 exact (h j hj).2
theorem there_alloc {w : World} {z o n : Nat} {x : Obj} (h : w.there z o n) : (w.alloc x).there z o n = True := eq_true (there_new x h)
theorem there_put {w : World} {z o n : Nat} (h : w.there z o n) (p : Addr) (u : Value) : (w.setCell p u).there z o n := fun j hj => by
 obtain ⟨h1, h2⟩ := h j hj
 obtain ⟨v, hv⟩ := Option.isSome_iff_exists.1 h1
 refine ⟨?_, by simpa using h2⟩
 by_cases e : p = ⟨z, o + j, none⟩
 · subst e; rw [World.cell?_setCell_same w _ _ hv]; rfl
 · rw [World.cell?_setCell_other w _ _ _ e]; exact h1
theorem there_puts {z o n b : Nat} : ∀ {us : List Value} {k : Nat} {w : World}, w.there z o n → (w.setCells b k us).there z o n
 | [], _, _, h => h
 | u :: r, k, w, h => by rw [World.setCells]; exact there_puts (there_put h _ _)
theorem there_setCells {w : World} {z o n b k : Nat} {us : List Value} (h : w.there z o n) : (w.setCells b k us).there z o n = True := eq_true (there_puts h)
theorem there_recW (w : World) {t : TypeId} : (w.alloc (.cells #[.int .i64 0, .int .i64 0, .int .i64 0, .int .i64 0, .int .i64 0, .int .i64 0, .int .i64 0, .int .i64 0] t)).there w.heap.size 0 8 = True := eq_true ((Bx.made w #[.int .i64 0, .int .i64 0, .int .i64 0, .int .i64 0, .int .i64 0, .int .i64 0, .int .i64 0, .int .i64 0] t).there (by simp))
theorem there_entW (w : World) {t : TypeId} : (w.alloc (.cells #[.int .i64 0, .int .i64 0, .int .i64 0, .int .i64 0, .int .i64 0] t)).there w.heap.size 0 5 = True := eq_true ((Bx.made w #[.int .i64 0, .int .i64 0, .int .i64 0, .int .i64 0, .int .i64 0] t).there (by simp))
theorem made1 (w : World) (x : Obj) (cs : Array Value) (t : TypeId) : Bx ((w.alloc x).alloc (.cells cs t)) (w.heap.size + 1) cs.toList := by
 have := Bx.made (w.alloc x) cs t
 simpa using this
theorem there_recW1 (w : World) (x : Obj) {t : TypeId} : ((w.alloc x).alloc (.cells #[.int .i64 0, .int .i64 0, .int .i64 0, .int .i64 0, .int .i64 0, .int .i64 0, .int .i64 0, .int .i64 0] t)).there (w.heap.size + 1) 0 8 = True := eq_true ((made1 w x #[.int .i64 0, .int .i64 0, .int .i64 0, .int .i64 0, .int .i64 0, .int .i64 0, .int .i64 0, .int .i64 0] t).there (by simp))
theorem there_entW1 (w : World) (x : Obj) {t : TypeId} : ((w.alloc x).alloc (.cells #[.int .i64 0, .int .i64 0, .int .i64 0, .int .i64 0, .int .i64 0] t)).there (w.heap.size + 1) 0 5 = True := eq_true ((made1 w x #[.int .i64 0, .int .i64 0, .int .i64 0, .int .i64 0, .int .i64 0] t).there (by simp))
theorem there_entWb (w : World) (x : Obj) {b k : Nat} {us : List Value} {t : TypeId} : (((w.alloc (.cells #[.int .i64 0, .int .i64 0, .int .i64 0, .int .i64 0, .int .i64 0] t)).alloc x).setCells b k us).there w.heap.size 0 5 = True := eq_true (there_puts (there_new x ((Bx.made w #[.int .i64 0, .int .i64 0, .int .i64 0, .int .i64 0, .int .i64 0] t).there (by simp))))
theorem there_c {w : World} {x : Obj} {z o n b k : Nat} {us : List Value} (h : w.there z o n) : ((w.alloc x).setCells b k us).there z o n = True := eq_true (there_puts (there_new x h))
theorem two_box {X : World} {p p' : Nat} {vs us vs' us' : List Value} (h : Bx X p vs) (h' : Bx X p' vs') (hne : p ≠ p') (hl : us.length = vs.length) (hl' : us'.length = vs'.length) : Bx ((X.setCells p 0 us).setCells p' 0 us') p us ∧ Bx ((X.setCells p 0 us).setCells p' 0 us') p' us' :=
 ⟨(h.put hl).off hne, (h'.off (Ne.symm hne)).put hl'⟩
theorem and3 {A B C : Prop} (h : A ∧ B) (c : C) : A ∧ B ∧ C := ⟨h.1, h.2, c⟩
end
section
set_option linter.unusedSimpArgs false
set_option linter.unusedVariables false
open Go.RowKit
attribute [local go_sem ↓] Go.wp_at_zero Go.wp_at_succ
attribute [local go_sem ↓] stCl_eq stEnt_eq
attribute [local go_sem] run_stCl there_clW run_stEnt
set_option maxHeartbeats 16000000 in
set_option maxRecDepth 100000 in
theorem WOfClientR_calls (K w0 : World) (z nb cN cb cC : Nat) (ns : List NV) (tip : Int) (cs : List CV) (time : Int) (kd nn jb ep : Int) (m : Nat) (y : Entry) (w : World) (E0 : Env w0) (H : WM K w0 w z nb cN cb cC ns tip cs time) (hok : ∀ v ∈ cs, checkCl v.x = 0) (hm : m < 3) (hk : kd = 2) :
    Calls Tryz.prog 84 #[.pointer (some ⟨z, 0, none⟩), .agg #[.int .i64 kd, .int .i64 ↑m, .int .i64 nn, .int .i64 jb, .int .i64 ep, .int .i64 y.kind, .int .i64 y.job, .int .i64 y.every, .int .i64 y.time, .int .i64 y.client]] w (HPost K w0 z nb cN cb cC (ofClientW (wor ns tip cs time) ⟨kd, m, nn, jb, ep, y⟩)) := by
 obtain ⟨c, hcv, J, on2, oc2, _⟩ := H.f.atC hm
 have oz2 := H.cz c (List.mem_of_getElem? hcv)
 have hcc := hok c (List.mem_of_getElem? hcv)
 have hzl0 := H.lts
 obtain ⟨q, hq⟩ : ∃ q, q = ofClientW (wor ns tip cs time) ⟨kd, m, nn, jb, ep, y⟩ := ⟨_, rfl⟩
 rw [← hq]
 have htm : ((m : Nat) : Int).toNat = m := by omega
 unfold ofClientW at hq
 dsimp only at hq
 rw [if_neg (by omega)] at hq
 simp only [htm, show (wor ns tip cs time).c = clis cs from rfl, cliAt_cs hcv] at hq
 have HQ := Lib.hid hq; have HCV := Lib.hid hcv; have HK := Lib.hid hk; have HOK := Lib.hid hok; have HCC := Lib.hid hcc
 have hm3 : (m : Int) < 3 := by omega
 clear hq hcv hk htm hcc hok
 go_enter Tryz.func84, Tryz.ntmps84
 go_upto_region 1 with fail
 refine wp_box1 (v1 := [.int .i64 kd, .int .i64 ↑m, .int .i64 nn, .int .i64 jb, .int .i64 ep, .int .i64 y.kind, .int .i64 y.job, .int .i64 y.every, .int .i64 y.time, .int .i64 y.client]) rfl fun w1 b X => ?_
 replace H := H.onto b; replace J := J.onto b
 generalize hzx : w.heap.size = zx at X hzl0
 clear hzx b
 have x1 := X.at_ 1 rfl
 have z2 := H.bx.at_ 2 rfl
 go_quiet (fail)
 go_upto_region 3 with fail
 generalize hd : World.drewN w1 _ = w2
 have od : Onto w1 w2 := by rw [← hd]; exact (Onto.rfl' w1).draws _
 clear hd x1 z2
 replace H := H.onto od; replace X := X.onto od; replace J := J.onto od
 clear od
 have x1 := X.at_ 1 rfl
 have z2 := H.bx.at_ 2 rfl
 obtain ⟨c0, c1, c2, c3, c4, c5, c6, c7, c8, c9, c10, c11⟩ := CV.cells_at H.f.cr (encC_len cs) (row_cs HCV.out)
 have hz2 := H.lts; have hxl := X.lt
 go_cut [5] (fun s5 wx => ∃ (p : Nat), s5 = .pointer (some ⟨p, 0, none⟩) ∧ Bx wx p [.int .i64 c.x.epoch, .int .i64 c.x.doing, .int .i64 c.x.e.kind, .int .i64 c.x.e.job, .int .i64 c.x.e.every, .int .i64 c.x.e.time, .int .i64 c.x.e.client, .int .i64 c.x.at_, .int .i64 c.x.link, .int .i64 c.x.played, .slice c.A c.n c.c, .slice c.G c.m c.d] ∧ Onto w2 wx ∧ w2.heap.size ≤ p)
 case first =>
  go_region
  all_goals
   go_wp2_with fail
   go_meet
   exact ⟨_, rfl, Bx.put (us := [.int .i64 c.x.epoch, .int .i64 c.x.doing, .int .i64 c.x.e.kind, .int .i64 c.x.e.job, .int .i64 c.x.e.every, .int .i64 c.x.e.time, .int .i64 c.x.e.client, .int .i64 c.x.at_, .int .i64 c.x.link, .int .i64 c.x.played, .slice c.A c.n c.c, .slice c.G c.m c.d]) (vs := [.int .i64 0, .int .i64 0, .int .i64 0, .int .i64 0, .int .i64 0, .int .i64 0, .int .i64 0, .int .i64 0, .int .i64 0, .int .i64 0, .slice none 0 0, .slice none 0 0]) ((Bx.made _ _ _).draw) rfl, Onto.puts (Nat.le_refl _) (((Onto.rfl' w2).new _).draw), Nat.le_refl _⟩
 case rest =>
  obtain ⟨pc, rfl, PC, b, hpc⟩ := hcut
  clear x1 z2 c0 c1 c2 c3 c4 c5 c6 c7 c8 c9 c10 c11
  have NOFF : ∀ v ∈ ns, v.off pc := fun v hv => (H.f.ni v hv).1.away hpc
  have COFF : ∀ v ∈ cs, v.off pc := fun v hv => (H.f.ci v hv).1.away hpc
  have hw0p : w0.heap.size ≤ pc := Nat.le_trans H.onAll.size hpc
  have hkp : K.heap.size ≤ pc := Nat.le_trans H.kp.size hpc
  replace H := H.onto b; replace X := X.onto b; replace J := J.onto b
  clear b
  generalize wc = w3 at *
  have hpx : pc ≠ zx := by omega
  have x0 := X.at_ 0 rfl
  have hk := HK.out
  subst hk
  have hq := HQ.out
  rw [if_neg (by decide), if_neg (by decide), if_pos rfl] at hq
  replace HQ := Lib.hid hq
  clear hq HK
  have x1 := X.at_ 1 rfl; have x3 := X.at_ 3 rfl; have z3 := H.bx.at_ 3 rfl
  obtain ⟨r, hr⟩ : ∃ r, r = ringCl c.x m jb time := ⟨_, rfl⟩
  have hq := HQ.out
  unfold putCl at hq
  rw [← hr] at hq
  replace HQ := Lib.hid hq
  have HR := Lib.hid hr
  clear hq hr
  go_upto_region 15 with fail
  clear x0
  have hzbw := H.onAll.size; have hzb := H.lts
  have v0 := PC.at_ 0 rfl; have v1 := PC.at_ 1 rfl; have v2 := PC.at_ 2 rfl; have v3 := PC.at_ 3 rfl; have v4 := PC.at_ 4 rfl; have v5 := PC.at_ 5 rfl; have v6 := PC.at_ 6 rfl; have v7 := PC.at_ 7 rfl; have v8 := PC.at_ 8 rfl; have v9 := PC.at_ 9 rfl; have v10 := PC.at_ 10 rfl; have v11 := PC.at_ 11 rfl
  have hpl : pc < w3.heap.size := PC.lt
  go_region_law (first
   | (go_simp; go_at_call 103; refine Calls.mono (ClRing_calls c.x.epoch c.x.doing c.x.at_ c.x.link c.x.played c.x.e c.A c.G c.n c.c c.m c.d c.x.b (m : Int) jb time _ (J.jobs.onto (by with_reducible (first | exact Onto.rfl' _ | exact (Onto.rfl' _).draw))) (J.rung.onto (by with_reducible (first | exact Onto.rfl' _ | exact (Onto.rfl' _).draw)))) ?_; rw [show ringCl ⟨c.x.epoch, c.x.doing, c.x.e, c.x.at_, c.x.link, c.x.played, c.x.b⟩ m jb time = r from HR.out.symm]; unfold ClPost; rintro e w4 ⟨A1, n1, k1, A2, n2, k2, rfl, s1, s2, ob, hk1, hk2, f1, f2⟩; have b : Onto w3 w4 := Onto.to (by with_reducible (first | exact Onto.rfl' _ | exact (Onto.rfl' _).draw)) ob; have tb : Turn w3 w4 pc := Turn.of b pc; have PC4 := PC.onto b; have hst := PC4.there (n := 12) (by simp); have o1 : OffN n1 pc A1 := f1.offN (by first | exact hpl | (simp; omega)); have o2 : OffN n2 pc A2 := f2.offN (by first | exact hpl | (simp; omega)); have P5 : Bx (w4.setCells pc 0 [.int .i64 r.1.epoch, .int .i64 r.1.doing, .int .i64 r.1.e.kind, .int .i64 r.1.e.job, .int .i64 r.1.e.every, .int .i64 r.1.e.time, .int .i64 r.1.e.client, .int .i64 r.1.at_, .int .i64 r.1.link, .int .i64 r.1.played, .slice A1 n1 k1, .slice A2 n2 k2]) pc [.int .i64 r.1.epoch, .int .i64 r.1.doing, .int .i64 r.1.e.kind, .int .i64 r.1.e.job, .int .i64 r.1.e.every, .int .i64 r.1.e.time, .int .i64 r.1.e.client, .int .i64 r.1.at_, .int .i64 r.1.link, .int .i64 r.1.played, .slice A1 n1 k1, .slice A2 n2 k2] := PC4.put rfl; have s15 := put_S (w := w4) o1 (vs := [.int .i64 r.1.epoch, .int .i64 r.1.doing, .int .i64 r.1.e.kind, .int .i64 r.1.e.job, .int .i64 r.1.e.every, .int .i64 r.1.e.time, .int .i64 r.1.e.client, .int .i64 r.1.at_, .int .i64 r.1.link, .int .i64 r.1.played, .slice A1 n1 k1, .slice A2 n2 k2]) (o := 0) s1; have s25 := put_S (w := w4) o2 (vs := [.int .i64 r.1.epoch, .int .i64 r.1.doing, .int .i64 r.1.e.kind, .int .i64 r.1.e.job, .int .i64 r.1.e.every, .int .i64 r.1.e.time, .int .i64 r.1.e.client, .int .i64 r.1.at_, .int .i64 r.1.link, .int .i64 r.1.played, .slice A1 n1 k1, .slice A2 n2 k2]) (o := 0) s2; have t : Turn w3 (w4.setCells pc 0 [.int .i64 r.1.epoch, .int .i64 r.1.doing, .int .i64 r.1.e.kind, .int .i64 r.1.e.job, .int .i64 r.1.e.every, .int .i64 r.1.e.time, .int .i64 r.1.e.client, .int .i64 r.1.at_, .int .i64 r.1.link, .int .i64 r.1.played, .slice A1 n1 k1, .slice A2 n2 k2]) pc := Turn.puts tb))
  all_goals
   clear s1 s2
   have PC5 := P5; have s1 := s15; have s2 := s25
   replace f1 : Fresh w3.heap.size A1 := f1
   replace f2 : Fresh w3.heap.size A2 := f2
   clear x1 x3 z3 v0 v1 v2 v3 v4 v5 v6 v7 v8 v9 v10 v11 P5 s15 s25 tb b PC4 hst o1 o2
   have H5 : WM K w0 (w4.setCells pc 0 [.int .i64 r.1.epoch, .int .i64 r.1.doing, .int .i64 r.1.e.kind, .int .i64 r.1.e.job, .int .i64 r.1.e.every, .int .i64 r.1.e.time, .int .i64 r.1.e.client, .int .i64 r.1.at_, .int .i64 r.1.link, .int .i64 r.1.played, .slice A1 n1 k1, .slice A2 n2 k2]) z nb cN cb cC ns tip cs time := ⟨H.bx.grown t (by intro e; injection e with e; omega), H.f.turn t hw0p (by omega) (by omega) NOFF COFF, H.nz, H.cz, H.hz, H.zn, H.zc, H.kp.far t hkp, H.fN, H.fC⟩
   have X5 := X.grown t (by intro e; injection e with e; omega)
   clear H X PC t
   try change Code.wp _ _ _ _ (w4.setCells pc 0 [.int .i64 r.1.epoch, .int .i64 r.1.doing, .int .i64 r.1.e.kind, .int .i64 r.1.e.job, .int .i64 r.1.e.every, .int .i64 r.1.e.time, .int .i64 r.1.e.client, .int .i64 r.1.at_, .int .i64 r.1.link, .int .i64 r.1.played, .slice A1 n1 k1, .slice A2 n2 k2])
   generalize (w4.setCells pc 0 [.int .i64 r.1.epoch, .int .i64 r.1.doing, .int .i64 r.1.e.kind, .int .i64 r.1.e.job, .int .i64 r.1.e.every, .int .i64 r.1.e.time, .int .i64 r.1.e.client, .int .i64 r.1.at_, .int .i64 r.1.link, .int .i64 r.1.played, .slice A1 n1 k1, .slice A2 n2 k2]) = w5 at *
   have H := H5; have X := X5; have PC := PC5
   clear H5 X5 PC5
   go_upto_region 35 with fail
   have hcn : cb ≠ pc := by omega
   by_cases h1 : r.2 = 0
   · have hq := HQ.out
     rw [if_neg (by simp [h1])] at hq
     have HQ2 := Lib.hid hq
     rw [h1]
     clear hq HQ h1
     go_upto_region 36 with fail
     have x1 := X.at_ 1 rfl; have z2 := H.bx.at_ 2 rfl
     have v0 := PC.at_ 0 rfl; have v1 := PC.at_ 1 rfl; have v2 := PC.at_ 2 rfl; have v3 := PC.at_ 3 rfl; have v4 := PC.at_ 4 rfl; have v5 := PC.at_ 5 rfl; have v6 := PC.at_ 6 rfl; have v7 := PC.at_ 7 rfl; have v8 := PC.at_ 8 rfl; have v9 := PC.at_ 9 rfl; have v10 := PC.at_ 10 rfl; have v11 := PC.at_ 11 rfl
     have hzlw := H.onAll.size; have hzl := H.lts; have hvl := PC.lt
     have hlen : m * 12 + 12 ≤ (cs.map encC).flatten.length := by rw [flatten_length (encC_len cs), List.length_map, H.f.cl]; omega
     have hth : w5.there cb (m * 12) 12 := Bx.thereM H.f.cr hlen
     go_region
     go_wp2_with fail
     refine bodyPost_ret (v := .int .i64 0) (by simp [results, Tryz.results84, go_sem]) rfl ?_
     have hq := HQ2.out
     have H1 := H.onto ((Onto.rfl' w5).draw)
     have H2 := H1.storeC HCV.out (v := ⟨r.1, A1, n1, k1, A2, n2, k2⟩) ⟨s1.draw, s2.draw, hk1, hk2⟩ ⟨f1.offN hzb.2.1, f2.offN hzb.2.1⟩ ⟨f1.offN hzb.2.2, f2.offN hzb.2.2⟩ ⟨f1.offN hzb.1, f2.offN hzb.1⟩ (fun b hb => ⟨f1.offN (Nat.lt_of_lt_of_le hb hzbw), f2.offN (Nat.lt_of_lt_of_le hb hzbw)⟩) (us := [.int .i64 r.1.epoch, .int .i64 r.1.doing, .int .i64 r.1.e.kind, .int .i64 r.1.e.job, .int .i64 r.1.e.every, .int .i64 r.1.e.time, .int .i64 r.1.e.client, .int .i64 r.1.at_, .int .i64 r.1.link, .int .i64 r.1.played, .slice A1 n1 k1, .slice A2 n2 k2]) rfl
     have hq3 : q = (wor ns tip (cs.set m ⟨r.1, A1, n1, k1, A2, n2, k2⟩) time, 0) := hq.trans (by rw [← wor_setC])
     exact HPost.ok H2 hq3
   · have hq := HQ.out
     rw [if_pos h1] at hq
     have HQ2 := Lib.hid hq
     have hd : (r.2 != 0) = true := by simpa using h1
     have hd2 : (r.2 == 0) = false := by simpa using h1
     have h2' : q.2 ≠ 0 := by rw [hq]; exact h1
     clear hq HQ h1
     go_wp2_with fail
     go_ret
     exact HPost.bad' (by rw [HQ2.out]) h2' H.aw
end
end Go.Proofs.YtmppkaoonncddaaGreatDoor
