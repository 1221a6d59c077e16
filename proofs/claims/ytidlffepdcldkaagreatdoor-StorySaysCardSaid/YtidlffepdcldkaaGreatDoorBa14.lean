/- Part 14 of the proof: Client, Find, Client2, Client3. -/
import Derived.Test.YtidlffepdcldkaaGreatDoorBa05
import Derived.Test.YtidlffepdcldkaaGreatDoorBa04
import Derived.Test.YtidlffepdcldkaaGreatDoorBa02
import Derived.Test.YtidlffepdcldkaaGreatDoorBa13
namespace Go.Proofs.YtidlffepdcldkaaGreatDoor
set_option linter.unusedSimpArgs false
set_option linter.unusedVariables false
section
open Go.RowKit
set_option maxHeartbeats 8000000 in
set_option maxRecDepth 100000 in
theorem ClCheck_calls (ep dg at_ ln pl : Int) (x : Entry) (A A' : Option Addr) (n c m d : Nat) (b : Book) (w : World) (h : S w 3 A n (b.jobs.map encJ)) (h' : S w 3 A' m (b.rung.map encR)) :
    Calls Tryz.prog 39 #[.agg #[.int .i64 ep,.int .i64 dg,.int .i64 x.kind,.int .i64 x.job,.int .i64 x.every,.int .i64 x.time,.int .i64 x.client,.int .i64 at_,.int .i64 ln,.int .i64 pl,.slice A n c,.slice A' m d]] w fun e w'=>e=.returned (.int .i64 (checkCl ⟨ep,dg,x,at_,ln,pl,b⟩))∧Onto w w':=by
 obtain ⟨r,hr⟩:∃ r,r=checkCl ⟨ep,dg,x,at_,ln,pl,b⟩:=⟨_,rfl⟩
 rw [← hr]
 unfold checkCl at hr
 simp only [ne_eq,entry_eq_iff,zeroE] at hr
 obtain ⟨q,hq⟩:∃ q,q=checkE x:=⟨_,rfl⟩
 obtain ⟨qb,hqb⟩:∃ q,q=checkB b:=⟨_,rfl⟩
 rw [← hq,← hqb] at hr
 have HQ:=Lib.hid hq;have HQB:=Lib.hid hqb
 go_enter Tryz.func39,Tryz.ntmps39
 have hne:=neqE
 have HR:=Lib.hid hr
 have HS:=Lib.hid h;have HS':=Lib.hid h'
 clear hr hq hqb h h'
 go_wp2_with (first
  | (go_at_call 58;refine Calls.mono (Check_calls x.kind x.job x.every x.time x.client _) ?_;rw [show checkE ⟨x.kind,x.job,x.every,x.time,x.client⟩=q from HQ.out.symm];rintro e w2 ⟨rfl,hb2⟩;have b0:w2.cell? ⟨w.heap.size,0,none⟩=some (.int .i64 ep):=cellB hb2 (by simp [go_sem]);have b1:w2.cell? ⟨w.heap.size,1,none⟩=some (.int .i64 dg):=cellB hb2 (by simp [go_sem]);have b2:w2.cell? ⟨w.heap.size,2,none⟩=some (.int .i64 x.kind):=cellB hb2 (by simp [go_sem]);have b3:w2.cell? ⟨w.heap.size,3,none⟩=some (.int .i64 x.job):=cellB hb2 (by simp [go_sem]);have b4:w2.cell? ⟨w.heap.size,4,none⟩=some (.int .i64 x.every):=cellB hb2 (by simp [go_sem]);have b5:w2.cell? ⟨w.heap.size,5,none⟩=some (.int .i64 x.time):=cellB hb2 (by simp [go_sem]);have b6:w2.cell? ⟨w.heap.size,6,none⟩=some (.int .i64 x.client):=cellB hb2 (by simp [go_sem]);have b7:w2.cell? ⟨w.heap.size,7,none⟩=some (.int .i64 at_):=cellB hb2 (by simp [go_sem]);have b8:w2.cell? ⟨w.heap.size,8,none⟩=some (.int .i64 ln):=cellB hb2 (by simp [go_sem]);have b9:w2.cell? ⟨w.heap.size,9,none⟩=some (.int .i64 pl):=cellB hb2 (by simp [go_sem]);have b10:w2.cell? ⟨w.heap.size,10,none⟩=some (.slice A n c):=cellB hb2 (by simp [go_sem]);have b11:w2.cell? ⟨w.heap.size,11,none⟩=some (.slice A' m d):=cellB hb2 (by simp [go_sem]);have h02:Onto w w2:=Onto.to (Onto.new (Onto.rfl' w) (Obj.cells #[.int .i64 ep,.int .i64 dg,.int .i64 x.kind,.int .i64 x.job,.int .i64 x.every,.int .i64 x.time,.int .i64 x.client,.int .i64 at_,.int .i64 ln,.int .i64 pl,.slice A n c,.slice A' m d] 66)) hb2;clear hb2)
  | (go_at_call 59;refine Calls.mono (BCheck_calls A A' n c m d _ b.jobs b.rung _ (S.onto HS.out h02) (S.onto HS'.out h02) (Nat.le_refl _)) ?_;rw [show checkB ⟨b.jobs,b.rung⟩=qb from HQB.out.symm];rintro e w3 ⟨rfl,hb3⟩;have h03:=Onto.to h02 hb3;clear hb3 b0 b1 b2 b3 b4 b5 b6 b7 b8 b9 b10 b11))
 all_goals
  go_ret
  refine ⟨ret_int ?_,?_⟩
  · rw [HR.out]
    clear HR hne HS HS' HQ HQB
    (try simp only [beq_iff_eq,beq_eq_false_iff_ne,bne_iff_ne,bne_eq_false_iff_eq,ne_eq,Bool.and_eq_true,Bool.and_eq_false_iff,Bool.not_eq_true',Bool.not_eq_false',Bool.or_eq_true,Bool.or_eq_false_iff,decide_eq_true_eq,decide_eq_false_iff_not] at *)
    (try unfold wrap64 at *)
    (repeat' split) <;> first | rfl | omega
  · first | exact h03 | exact h02 | exact (Below.refl _ _).alloc (Nat.le_refl _) _
end
section
open Go.RowKit
set_option maxHeartbeats 1000000 in
set_option maxRecDepth 100000 in
theorem IndexFuncJ_calls (A : Option Addr) (n c B : Nat) (l : List Job) (g : FuncId) (lb : Array Value) (p : Job → Bool) (w : World) (h : Sl w B 3 A n (l.map encJ)) (hB : B ≤ w.heap.size) (hn : n ≤ 9223372036854775807)
    (eg:∀ args w,(callFunc g args).run Tryz.prog w=.ok (.enter g args) w)
    (hp:∀ (x:Job) (w':World),Below w.heap.size w w'→Calls Tryz.prog g (#[.agg #[.int .i64 x.id,.int .i64 x.every,.int .i64 x.next]] ++lb) w' fun e w''=>e=.returned (.bool (p x))∧Below w'.heap.size w' w'') :
    Calls Tryz.prog 85 #[.slice A n c,.func (.func g) #[] lb] w fun e w'=>e=.returned (.int .i64 (idxI p l))∧Below w.heap.size w w':=by
 have hp':=Lib.hid hp
 clear hp
 go_enter Tryz.func85,Tryz.ntmps85
 go_wp2
 go_loopw [8] (fun s wr=>∃ i:Nat,i≤n∧s=.int .i64 i∧Below w.heap.size w wr∧Hid (∀ j y,j<i→l[j]?=some y→p y=false)) (fun s _=>n - (intOf s).toNat)
 case atStart=>exact ⟨0,Nat.zero_le _,rfl,Below.refl _ _,fun j y hj=>absurd hj (Nat.not_lt_zero _)⟩
 case round =>
  obtain ⟨i,hi,rfl,hbel,H⟩:=hrel
  by_cases hlt:i<n
  · obtain ⟨b,off,x,rfl,hb,hx,c0,c1,c2⟩:=(h.below (hbel.mono hB)).atJ hlt
    have HX:=Lib.hid hx
    have hl:=h.len
    simp at hl
    have HL:=Lib.hid hl
    clear h hx hl
    cases hpx:p x with
    | true =>
      have HPX:=Lib.hid hpx
      clear hpx
      go_wp2_with fail
      refine Calls.mono (hp'.out x _ hbel) ?_
      rintro e w' ⟨rfl,hw'⟩
      rw [HPX.out]
      go_wp2
      go_ret
      refine ⟨ret_int ?_,hbel.trans (hw'.mono hbel.size)⟩
      exact (idxI_at HX.out HPX.out H.out).symm
    | false =>
      have HPX:=Lib.hid hpx
      clear hpx
      go_wp2_with fail
      refine Calls.mono (hp'.out x _ hbel) ?_
      rintro e w' ⟨rfl,hw'⟩
      rw [HPX.out]
      go_wp2
      go_roundw
      case measure=>simp [intOf];omega
      case rel =>
       refine ⟨i+1,by omega,by go_num,hbel.trans (hw'.mono hbel.size),fun j y hj hy=>?_⟩
       by_cases e:j=i
       · subst e
         have:=HX.out.symm.trans hy
         injection this with this
         subst this
         exact HPX.out
       · exact H.out j y (by omega) hy
  · obtain rfl:i=n:=by omega
    have hl:=h.len
    simp at hl
    have hfin:idxI p l=-1:=idxI_none (fun j y hy=>H.out j y (by have:=(List.getElem?_eq_some_iff.1 hy).1;omega) hy)
    have HF:=Lib.hid hfin
    clear h hl hfin
    go_wp2
    go_ret
    exact ⟨ret_int HF.out.symm,hbel⟩
theorem Find1_calls (a b c id : Int) (q : Nat) (w : World) (hq : w.cell? ⟨q, 0, none⟩ = some (.int .i64 id)) :
    Calls Tryz.prog 86 #[.agg #[.int .i64 a,.int .i64 b,.int .i64 c],.pointer (some ⟨q,0,none⟩)] w fun e w'=>e=.returned (.bool (decide (a=id)))∧Below w.heap.size w w':=by
 have hqb:q<w.heap.size:=World.block_lt_of_cell? w _ hq
 go_enter Tryz.func86,Tryz.ntmps86
 go_wp2
 go_ret
 exact ⟨ret_bool (by first | rfl | simp),(Below.refl _ _).alloc (Nat.le_refl _) _⟩
theorem Find_calls (A A' : Option Addr) (n c m d B : Nat) (id : Int) (jobs : List Job) (rung : List Rung) (w : World) (h : Sl w B 3 A n (jobs.map encJ)) (hB : B ≤ w.heap.size) (hn : n ≤ 9223372036854775807) :
    Calls Tryz.prog 61 #[.agg #[.slice A n c,.slice A' m d],.int .i64 id] w fun e w'=>e=.returned (.int .i64 (findB ⟨jobs,rung⟩ id))∧Below w.heap.size w w':=by
 have HN:=Lib.hid hn
 clear hn
 go_enter Tryz.func61,Tryz.ntmps61
 go_wp2_with fail
 refine Calls.mono (IndexFuncJ_calls A n c B jobs _ _ (fun j=>decide (j.id=id)) _ ((h.alloc hB _).alloc (by simp;omega) _) (by simp;omega) HN.out (fun _ _=>by kernel_rfl) ?_) ?_
 · intro x w' hw'
   exact Find1_calls _ _ _ _ _ _ ((hw'.cell (p:=⟨w.heap.size+1,0,none⟩) (by simp)).trans (by simp))
 rintro e w' ⟨rfl,hw'⟩
 go_wp2
 go_ret
 exact ⟨rfl,(((Below.refl _ _).alloc (Nat.le_refl _) _).alloc (by simp) _).trans (hw'.mono (by simp;omega))⟩
theorem encJ_one (l:List Job):∀ r∈l.map encJ,∀ u∈r,u.oneCell'=true:=by simp [encJ,Value.oneCell']
theorem encR_one (l:List Rung):∀ r∈l.map encR,∀ u∈r,u.oneCell'=true:=by simp [encR,Value.oneCell']
set_option maxHeartbeats 2000000 in
set_option maxRecDepth 100000 in
theorem BCopy_calls (A A' : Option Addr) (n c m d B : Nat) (jobs : List Job) (rung : List Rung) (w : World) (h : Sl w B 3 A n (jobs.map encJ)) (h' : Sl w B 3 A' m (rung.map encR)) (hB : B ≤ w.heap.size) (hn : n ≤ 1000000) (hm : m ≤ 1000000) :
    Calls Tryz.prog 60 #[.agg #[.slice A n c,.slice A' m d]] w fun e w'=>∃ A1 c1 A2 c2,e=.returned (.agg #[.slice A1 n c1,.slice A2 m c2]) ∧
     Own w' w.heap.size 82 3 (.slice A1 n c1) n (jobs.map encJ)∧Own w' w.heap.size 85 3 (.slice A2 m c2) m (rung.map encR)∧Below w.heap.size w w':=by
 go_enter Tryz.func60,Tryz.ntmps60
 go_wp2_with fail
 go_region_held3 (fun w'=>w'.cell? ⟨w.heap.size,0,none⟩=some (.slice A n c)∧w'.cell? ⟨w.heap.size,1,none⟩=some (.slice A' m d))
  (first | go_keep | (refine ⟨?_,?_⟩ <;> (rw [hb2.cell (by simp <;> omega)];simp [*])) | (refine ⟨?_,?_⟩ <;> (rw [hb1.cell (by simp <;> omega)];simp)))
  (first
   | (go_at_call 83;refine Calls.mono (CloneJ_calls _ A n c B (by simp;omega) (jobs.map encJ) (by refine h.under hB ?_;repeat (first | exact Below.refl _ _ | refine below_drewN ?_ _ | refine Below.drew ?_ | refine Below.alloc ?_ (by simp <;> omega) _)) (encJ_one _) (by omega)) ?_;rintro e w1 ⟨A1,c1,rfl,hown1,hb1⟩;have hz1:w.heap.size+2≤w1.heap.size:=(by have:=hb1.size;simp at this;omega);have hb1':Below w.heap.size w w1:=((((Below.refl _ _).alloc (Nat.le_refl _) _).alloc (by simp) _).drew).trans (hb1.mono (by simp;omega)))
   | (go_at_call 84;refine Calls.mono (CloneR_calls _ A' m d B (by omega) (rung.map encR) (by refine h'.under hB ?_;repeat (first | exact Below.refl _ _ | exact hb1' | refine below_drewN ?_ _ | refine Below.drew ?_ | refine Below.alloc ?_ (by simp) _)) (encR_one _) (by omega)) ?_;rintro e w2 ⟨A2,c2,rfl,hown2,hb2⟩;have hz2:w.heap.size+2≤w2.heap.size:=(by have:=hb2.size;omega);have r0:w2.cell? ⟨w.heap.size+1,0,none⟩=some (.slice none 0 0):=(by rw [hb2.cell (by simp only;omega)];rw [hb1.cell (by simp <;> omega)];simp);have r1:w2.cell? ⟨w.heap.size+1,1,none⟩=some (.slice none 0 0):=(by rw [hb2.cell (by simp only;omega)];rw [hb1.cell (by simp <;> omega)];simp);have f0:w2.frozen? ⟨w.heap.size+1,0,none⟩=false:=(by rw [hb2.frozen (by simp only;omega)];rw [hb1.frozen (by simp <;> omega)];simp);have f1:w2.frozen? ⟨w.heap.size+1,1,none⟩=false:=(by rw [hb2.frozen (by simp only;omega)];rw [hb1.frozen (by simp <;> omega)];simp)))
 go_wp2
 simp only [World.size_alloc,World.size_drew] at hown1 hb1
 refine bodyPost_ret (v:=.agg #[.slice A1 n c1,.slice A2 m c2]) (by simp [results,Tryz.results60,go_sem,r0,r1]) rfl ⟨A1,c1,A2,c2,rfl,?_,?_,?_⟩
 · exact (((hown1.below hb2).setCell (by simp) _).setCell (by simp) _).lower (by omega)
 · exact ((hown2.setCell (by simp;omega) _).setCell (by simp;omega) _).lower (by omega)
 · exact ((hb1'.trans (hb2.mono (by omega))).setCell (by simp) _).setCell (by simp) _
end
section
open Go.RowKit
set_option maxHeartbeats 4000000 in
set_option maxRecDepth 100000 in
theorem ClCopy_calls (ep dg at_ ln pl : Int) (x : Entry) (A A' : Option Addr) (n c m d : Nat) (b : Book) (w : World) (h : S w 3 A n (b.jobs.map encJ)) (h' : S w 3 A' m (b.rung.map encR)) (hn : n ≤ 1000000) (hm : m ≤ 1000000) :
    Calls Tryz.prog 78 #[.agg #[.int .i64 ep,.int .i64 dg,.int .i64 x.kind,.int .i64 x.job,.int .i64 x.every,.int .i64 x.time,.int .i64 x.client,.int .i64 at_,.int .i64 ln,.int .i64 pl,.slice A n c,.slice A' m d]] w fun e w'=>∃ A1 c1 A2 c2,e=.returned (.agg #[.int .i64 ep,.int .i64 dg,.int .i64 x.kind,.int .i64 x.job,.int .i64 x.every,.int .i64 x.time,.int .i64 x.client,.int .i64 at_,.int .i64 ln,.int .i64 pl,.slice A1 n c1,.slice A2 m c2])∧S w' 3 A1 n (b.jobs.map encJ)∧S w' 3 A2 m (b.rung.map encR)∧Onto w w'∧n≤c1∧m≤c2∧Fresh w.heap.size A1∧Fresh w.heap.size A2:=by
 go_enter Tryz.func78,Tryz.ntmps78
 go_wp2_with fail
 refine Calls.mono (BCopy_calls A A' n c m d _ b.jobs b.rung _ ((h.new _).new _) ((h'.new _).new _) (Nat.le_refl _) hn hm) ?_
 rintro e w2 ⟨A1,c1,A2,c2,rfl,own1,own2,hb⟩
 have q0:w2.cell? ⟨w.heap.size,0,none⟩=some (.int .i64 ep):=cellB hb (by simp [go_sem])
 have q1:w2.cell? ⟨w.heap.size,1,none⟩=some (.int .i64 dg):=cellB hb (by simp [go_sem])
 have q2:w2.cell? ⟨w.heap.size,2,none⟩=some (.int .i64 x.kind):=cellB hb (by simp [go_sem])
 have q3:w2.cell? ⟨w.heap.size,3,none⟩=some (.int .i64 x.job):=cellB hb (by simp [go_sem])
 have q4:w2.cell? ⟨w.heap.size,4,none⟩=some (.int .i64 x.every):=cellB hb (by simp [go_sem])
 have q5:w2.cell? ⟨w.heap.size,5,none⟩=some (.int .i64 x.time):=cellB hb (by simp [go_sem])
 have q6:w2.cell? ⟨w.heap.size,6,none⟩=some (.int .i64 x.client):=cellB hb (by simp [go_sem])
 have q7:w2.cell? ⟨w.heap.size,7,none⟩=some (.int .i64 at_):=cellB hb (by simp [go_sem])
 have q8:w2.cell? ⟨w.heap.size,8,none⟩=some (.int .i64 ln):=cellB hb (by simp [go_sem])
 have q9:w2.cell? ⟨w.heap.size,9,none⟩=some (.int .i64 pl):=cellB hb (by simp [go_sem])
 have q10:w2.cell? ⟨w.heap.size,10,none⟩=some (.slice A n c):=cellB hb (by simp [go_sem])
 have q11:w2.cell? ⟨w.heap.size,11,none⟩=some (.slice A' m d):=cellB hb (by simp [go_sem])
 have fq10:w2.frozen? ⟨w.heap.size,10,none⟩=false:=frozB hb (v:=.slice A n c) (by simp [go_sem]) (by simp [go_sem])
 have fq11:w2.frozen? ⟨w.heap.size,11,none⟩=false:=frozB hb (v:=.slice A' m d) (by simp [go_sem]) (by simp [go_sem])
 have p0:w2.cell? ⟨w.heap.size+1,0,none⟩=some (.int .i64 0):=cellB hb (by simp [go_sem])
 have p1:w2.cell? ⟨w.heap.size+1,1,none⟩=some (.int .i64 0):=cellB hb (by simp [go_sem])
 have p2:w2.cell? ⟨w.heap.size+1,2,none⟩=some (.int .i64 0):=cellB hb (by simp [go_sem])
 have p3:w2.cell? ⟨w.heap.size+1,3,none⟩=some (.int .i64 0):=cellB hb (by simp [go_sem])
 have p4:w2.cell? ⟨w.heap.size+1,4,none⟩=some (.int .i64 0):=cellB hb (by simp [go_sem])
 have p5:w2.cell? ⟨w.heap.size+1,5,none⟩=some (.int .i64 0):=cellB hb (by simp [go_sem])
 have p6:w2.cell? ⟨w.heap.size+1,6,none⟩=some (.int .i64 0):=cellB hb (by simp [go_sem])
 have p7:w2.cell? ⟨w.heap.size+1,7,none⟩=some (.int .i64 0):=cellB hb (by simp [go_sem])
 have p8:w2.cell? ⟨w.heap.size+1,8,none⟩=some (.int .i64 0):=cellB hb (by simp [go_sem])
 have p9:w2.cell? ⟨w.heap.size+1,9,none⟩=some (.int .i64 0):=cellB hb (by simp [go_sem])
 have p10:w2.cell? ⟨w.heap.size+1,10,none⟩=some (.slice none 0 0):=cellB hb (by simp [go_sem])
 have p11:w2.cell? ⟨w.heap.size+1,11,none⟩=some (.slice none 0 0):=cellB hb (by simp [go_sem])
 have fp0:w2.frozen? ⟨w.heap.size+1,0,none⟩=false:=frozB hb (v:=.int .i64 0) (by simp [go_sem]) (by simp [go_sem])
 have fp1:w2.frozen? ⟨w.heap.size+1,1,none⟩=false:=frozB hb (v:=.int .i64 0) (by simp [go_sem]) (by simp [go_sem])
 have fp2:w2.frozen? ⟨w.heap.size+1,2,none⟩=false:=frozB hb (v:=.int .i64 0) (by simp [go_sem]) (by simp [go_sem])
 have fp3:w2.frozen? ⟨w.heap.size+1,3,none⟩=false:=frozB hb (v:=.int .i64 0) (by simp [go_sem]) (by simp [go_sem])
 have fp4:w2.frozen? ⟨w.heap.size+1,4,none⟩=false:=frozB hb (v:=.int .i64 0) (by simp [go_sem]) (by simp [go_sem])
 have fp5:w2.frozen? ⟨w.heap.size+1,5,none⟩=false:=frozB hb (v:=.int .i64 0) (by simp [go_sem]) (by simp [go_sem])
 have fp6:w2.frozen? ⟨w.heap.size+1,6,none⟩=false:=frozB hb (v:=.int .i64 0) (by simp [go_sem]) (by simp [go_sem])
 have fp7:w2.frozen? ⟨w.heap.size+1,7,none⟩=false:=frozB hb (v:=.int .i64 0) (by simp [go_sem]) (by simp [go_sem])
 have fp8:w2.frozen? ⟨w.heap.size+1,8,none⟩=false:=frozB hb (v:=.int .i64 0) (by simp [go_sem]) (by simp [go_sem])
 have fp9:w2.frozen? ⟨w.heap.size+1,9,none⟩=false:=frozB hb (v:=.int .i64 0) (by simp [go_sem]) (by simp [go_sem])
 have fp10:w2.frozen? ⟨w.heap.size+1,10,none⟩=false:=frozB hb (v:=.slice none 0 0) (by simp [go_sem]) (by simp [go_sem])
 have fp11:w2.frozen? ⟨w.heap.size+1,11,none⟩=false:=frozB hb (v:=.slice none 0 0) (by simp [go_sem]) (by simp [go_sem])
 have h2:Onto w w2:=(((Below.refl _ _).alloc (Nat.le_refl _) _).alloc (by simp) _).trans (hb.mono (by simp;omega))
 have hz:w.heap.size+1<w2.heap.size:=World.block_lt_of_cell? _ _ p0
 have hc1:=own1.le_cap;have hc2:=own2.le_cap
 have fr1:Fresh (w.heap.size+1+1) A1:=own1.fresh (by simp)
 have fr2:Fresh (w.heap.size+1+1) A2:=own2.fresh (by simp)
 have s1:S w2 3 A1 n (b.jobs.map encJ):=own1.sl
 have s2:S w2 3 A2 m (b.rung.map encR):=own2.sl
 clear hb h h' own1 own2
 go_upto_region 2 with fail
 have h3:Onto w ((w2.setCell ⟨w.heap.size,10,none⟩ (.slice A1 n c1)).setCell ⟨w.heap.size,11,none⟩ (.slice A2 m c2)):=(h2.put (by simp) _).put (by simp) _
 have t1:=S.off (S.off s1 (p:=⟨w.heap.size,10,none⟩) (fr1.offN (by simp only;omega)) (.slice A1 n c1)) (p:=⟨w.heap.size,11,none⟩) (fr1.offN (by simp only;omega)) (.slice A2 m c2)
 have t2:=S.off (S.off s2 (p:=⟨w.heap.size,10,none⟩) (fr2.offN (by simp only;omega)) (.slice A1 n c1)) (p:=⟨w.heap.size,11,none⟩) (fr2.offN (by simp only;omega)) (.slice A2 m c2)
 have g0:((w2.setCell ⟨w.heap.size,10,none⟩ (.slice A1 n c1)).setCell ⟨w.heap.size,11,none⟩ (.slice A2 m c2)).cell? ⟨w.heap.size,0,none⟩=some (.int .i64 ep):=by simp [go_sem,q0,q10,q11]
 have g1:((w2.setCell ⟨w.heap.size,10,none⟩ (.slice A1 n c1)).setCell ⟨w.heap.size,11,none⟩ (.slice A2 m c2)).cell? ⟨w.heap.size,1,none⟩=some (.int .i64 dg):=by simp [go_sem,q1,q10,q11]
 have g2:((w2.setCell ⟨w.heap.size,10,none⟩ (.slice A1 n c1)).setCell ⟨w.heap.size,11,none⟩ (.slice A2 m c2)).cell? ⟨w.heap.size,2,none⟩=some (.int .i64 x.kind):=by simp [go_sem,q2,q10,q11]
 have g3:((w2.setCell ⟨w.heap.size,10,none⟩ (.slice A1 n c1)).setCell ⟨w.heap.size,11,none⟩ (.slice A2 m c2)).cell? ⟨w.heap.size,3,none⟩=some (.int .i64 x.job):=by simp [go_sem,q3,q10,q11]
 have g4:((w2.setCell ⟨w.heap.size,10,none⟩ (.slice A1 n c1)).setCell ⟨w.heap.size,11,none⟩ (.slice A2 m c2)).cell? ⟨w.heap.size,4,none⟩=some (.int .i64 x.every):=by simp [go_sem,q4,q10,q11]
 have g5:((w2.setCell ⟨w.heap.size,10,none⟩ (.slice A1 n c1)).setCell ⟨w.heap.size,11,none⟩ (.slice A2 m c2)).cell? ⟨w.heap.size,5,none⟩=some (.int .i64 x.time):=by simp [go_sem,q5,q10,q11]
 have g6:((w2.setCell ⟨w.heap.size,10,none⟩ (.slice A1 n c1)).setCell ⟨w.heap.size,11,none⟩ (.slice A2 m c2)).cell? ⟨w.heap.size,6,none⟩=some (.int .i64 x.client):=by simp [go_sem,q6,q10,q11]
 have g7:((w2.setCell ⟨w.heap.size,10,none⟩ (.slice A1 n c1)).setCell ⟨w.heap.size,11,none⟩ (.slice A2 m c2)).cell? ⟨w.heap.size,7,none⟩=some (.int .i64 at_):=by simp [go_sem,q7,q10,q11]
 have g8:((w2.setCell ⟨w.heap.size,10,none⟩ (.slice A1 n c1)).setCell ⟨w.heap.size,11,none⟩ (.slice A2 m c2)).cell? ⟨w.heap.size,8,none⟩=some (.int .i64 ln):=by simp [go_sem,q8,q10,q11]
 have g9:((w2.setCell ⟨w.heap.size,10,none⟩ (.slice A1 n c1)).setCell ⟨w.heap.size,11,none⟩ (.slice A2 m c2)).cell? ⟨w.heap.size,9,none⟩=some (.int .i64 pl):=by simp [go_sem,q9,q10,q11]
 have g10:((w2.setCell ⟨w.heap.size,10,none⟩ (.slice A1 n c1)).setCell ⟨w.heap.size,11,none⟩ (.slice A2 m c2)).cell? ⟨w.heap.size,10,none⟩=some (.slice A1 n c1):=by simp [go_sem,q10,q10,q11]
 have g11:((w2.setCell ⟨w.heap.size,10,none⟩ (.slice A1 n c1)).setCell ⟨w.heap.size,11,none⟩ (.slice A2 m c2)).cell? ⟨w.heap.size,11,none⟩=some (.slice A2 m c2):=by simp [go_sem,q11,q10,q11]
 have r0:((w2.setCell ⟨w.heap.size,10,none⟩ (.slice A1 n c1)).setCell ⟨w.heap.size,11,none⟩ (.slice A2 m c2)).cell? ⟨w.heap.size+1,0,none⟩=some (.int .i64 0):=by simp [go_sem,p0]
 have fr0':((w2.setCell ⟨w.heap.size,10,none⟩ (.slice A1 n c1)).setCell ⟨w.heap.size,11,none⟩ (.slice A2 m c2)).frozen? ⟨w.heap.size+1,0,none⟩=false:=by simp [fp0]
 have r1:((w2.setCell ⟨w.heap.size,10,none⟩ (.slice A1 n c1)).setCell ⟨w.heap.size,11,none⟩ (.slice A2 m c2)).cell? ⟨w.heap.size+1,1,none⟩=some (.int .i64 0):=by simp [go_sem,p1]
 have fr1':((w2.setCell ⟨w.heap.size,10,none⟩ (.slice A1 n c1)).setCell ⟨w.heap.size,11,none⟩ (.slice A2 m c2)).frozen? ⟨w.heap.size+1,1,none⟩=false:=by simp [fp1]
 have r2:((w2.setCell ⟨w.heap.size,10,none⟩ (.slice A1 n c1)).setCell ⟨w.heap.size,11,none⟩ (.slice A2 m c2)).cell? ⟨w.heap.size+1,2,none⟩=some (.int .i64 0):=by simp [go_sem,p2]
 have fr2':((w2.setCell ⟨w.heap.size,10,none⟩ (.slice A1 n c1)).setCell ⟨w.heap.size,11,none⟩ (.slice A2 m c2)).frozen? ⟨w.heap.size+1,2,none⟩=false:=by simp [fp2]
 have r3:((w2.setCell ⟨w.heap.size,10,none⟩ (.slice A1 n c1)).setCell ⟨w.heap.size,11,none⟩ (.slice A2 m c2)).cell? ⟨w.heap.size+1,3,none⟩=some (.int .i64 0):=by simp [go_sem,p3]
 have fr3':((w2.setCell ⟨w.heap.size,10,none⟩ (.slice A1 n c1)).setCell ⟨w.heap.size,11,none⟩ (.slice A2 m c2)).frozen? ⟨w.heap.size+1,3,none⟩=false:=by simp [fp3]
 have r4:((w2.setCell ⟨w.heap.size,10,none⟩ (.slice A1 n c1)).setCell ⟨w.heap.size,11,none⟩ (.slice A2 m c2)).cell? ⟨w.heap.size+1,4,none⟩=some (.int .i64 0):=by simp [go_sem,p4]
 have fr4':((w2.setCell ⟨w.heap.size,10,none⟩ (.slice A1 n c1)).setCell ⟨w.heap.size,11,none⟩ (.slice A2 m c2)).frozen? ⟨w.heap.size+1,4,none⟩=false:=by simp [fp4]
 have r5:((w2.setCell ⟨w.heap.size,10,none⟩ (.slice A1 n c1)).setCell ⟨w.heap.size,11,none⟩ (.slice A2 m c2)).cell? ⟨w.heap.size+1,5,none⟩=some (.int .i64 0):=by simp [go_sem,p5]
 have fr5':((w2.setCell ⟨w.heap.size,10,none⟩ (.slice A1 n c1)).setCell ⟨w.heap.size,11,none⟩ (.slice A2 m c2)).frozen? ⟨w.heap.size+1,5,none⟩=false:=by simp [fp5]
 have r6:((w2.setCell ⟨w.heap.size,10,none⟩ (.slice A1 n c1)).setCell ⟨w.heap.size,11,none⟩ (.slice A2 m c2)).cell? ⟨w.heap.size+1,6,none⟩=some (.int .i64 0):=by simp [go_sem,p6]
 have fr6':((w2.setCell ⟨w.heap.size,10,none⟩ (.slice A1 n c1)).setCell ⟨w.heap.size,11,none⟩ (.slice A2 m c2)).frozen? ⟨w.heap.size+1,6,none⟩=false:=by simp [fp6]
 have r7:((w2.setCell ⟨w.heap.size,10,none⟩ (.slice A1 n c1)).setCell ⟨w.heap.size,11,none⟩ (.slice A2 m c2)).cell? ⟨w.heap.size+1,7,none⟩=some (.int .i64 0):=by simp [go_sem,p7]
 have fr7':((w2.setCell ⟨w.heap.size,10,none⟩ (.slice A1 n c1)).setCell ⟨w.heap.size,11,none⟩ (.slice A2 m c2)).frozen? ⟨w.heap.size+1,7,none⟩=false:=by simp [fp7]
 have r8:((w2.setCell ⟨w.heap.size,10,none⟩ (.slice A1 n c1)).setCell ⟨w.heap.size,11,none⟩ (.slice A2 m c2)).cell? ⟨w.heap.size+1,8,none⟩=some (.int .i64 0):=by simp [go_sem,p8]
 have fr8':((w2.setCell ⟨w.heap.size,10,none⟩ (.slice A1 n c1)).setCell ⟨w.heap.size,11,none⟩ (.slice A2 m c2)).frozen? ⟨w.heap.size+1,8,none⟩=false:=by simp [fp8]
 have r9:((w2.setCell ⟨w.heap.size,10,none⟩ (.slice A1 n c1)).setCell ⟨w.heap.size,11,none⟩ (.slice A2 m c2)).cell? ⟨w.heap.size+1,9,none⟩=some (.int .i64 0):=by simp [go_sem,p9]
 have fr9':((w2.setCell ⟨w.heap.size,10,none⟩ (.slice A1 n c1)).setCell ⟨w.heap.size,11,none⟩ (.slice A2 m c2)).frozen? ⟨w.heap.size+1,9,none⟩=false:=by simp [fp9]
 have r10:((w2.setCell ⟨w.heap.size,10,none⟩ (.slice A1 n c1)).setCell ⟨w.heap.size,11,none⟩ (.slice A2 m c2)).cell? ⟨w.heap.size+1,10,none⟩=some (.slice none 0 0):=by simp [go_sem,p10]
 have fr10':((w2.setCell ⟨w.heap.size,10,none⟩ (.slice A1 n c1)).setCell ⟨w.heap.size,11,none⟩ (.slice A2 m c2)).frozen? ⟨w.heap.size+1,10,none⟩=false:=by simp [fp10]
 have r11:((w2.setCell ⟨w.heap.size,10,none⟩ (.slice A1 n c1)).setCell ⟨w.heap.size,11,none⟩ (.slice A2 m c2)).cell? ⟨w.heap.size+1,11,none⟩=some (.slice none 0 0):=by simp [go_sem,p11]
 have fr11':((w2.setCell ⟨w.heap.size,10,none⟩ (.slice A1 n c1)).setCell ⟨w.heap.size,11,none⟩ (.slice A2 m c2)).frozen? ⟨w.heap.size+1,11,none⟩=false:=by simp [fp11]
 have hz3:w.heap.size+1<((w2.setCell ⟨w.heap.size,10,none⟩ (.slice A1 n c1)).setCell ⟨w.heap.size,11,none⟩ (.slice A2 m c2)).heap.size:=by simp;omega
 clear s1 s2 h2 hz q0 q1 q2 q3 q4 q5 q6 q7 q8 q9 q10 q11 p0 fp0 p1 fp1 p2 fp2 p3 fp3 p4 fp4 p5 fp5 p6 fp6 p7 fp7 p8 fp8 p9 fp9 p10 fp10 p11 fp11 fq10 fq11
 change Code.wp _ _ _ _ ((w2.setCell ⟨w.heap.size,10,none⟩ (.slice A1 n c1)).setCell ⟨w.heap.size,11,none⟩ (.slice A2 m c2))
 generalize ((w2.setCell ⟨w.heap.size,10,none⟩ (.slice A1 n c1)).setCell ⟨w.heap.size,11,none⟩ (.slice A2 m c2))=w3 at *
 go_wp2_with fail
 rw [show ((((((((((((w3.setCell ⟨w.heap.size+1,0,none⟩ (.int .i64 ep)).setCell ⟨w.heap.size+1,1,none⟩ (.int .i64 dg)).setCell ⟨w.heap.size+1,2,none⟩ (.int .i64 x.kind)).setCell ⟨w.heap.size+1,3,none⟩ (.int .i64 x.job)).setCell ⟨w.heap.size+1,4,none⟩ (.int .i64 x.every)).setCell ⟨w.heap.size+1,5,none⟩ (.int .i64 x.time)).setCell ⟨w.heap.size+1,6,none⟩ (.int .i64 x.client)).setCell ⟨w.heap.size+1,7,none⟩ (.int .i64 at_)).setCell ⟨w.heap.size+1,8,none⟩ (.int .i64 ln)).setCell ⟨w.heap.size+1,9,none⟩ (.int .i64 pl)).setCell ⟨w.heap.size+1,10,none⟩ (.slice A1 n c1)).setCell ⟨w.heap.size+1,11,none⟩ (.slice A2 m c2))=(w3.setCells (w.heap.size+1) 0 [.int .i64 ep,.int .i64 dg,.int .i64 x.kind,.int .i64 x.job,.int .i64 x.every,.int .i64 x.time,.int .i64 x.client,.int .i64 at_,.int .i64 ln,.int .i64 pl,.slice A1 n c1,.slice A2 m c2]) from rfl]
 have hE:Onto w (w3.setCells (w.heap.size+1) 0 [.int .i64 ep,.int .i64 dg,.int .i64 x.kind,.int .i64 x.job,.int .i64 x.every,.int .i64 x.time,.int .i64 x.client,.int .i64 at_,.int .i64 ln,.int .i64 pl,.slice A1 n c1,.slice A2 m c2]):=put_onto (by omega) h3
 have u1:=put_S (vs:=[.int .i64 ep,.int .i64 dg,.int .i64 x.kind,.int .i64 x.job,.int .i64 x.every,.int .i64 x.time,.int .i64 x.client,.int .i64 at_,.int .i64 ln,.int .i64 pl,.slice A1 n c1,.slice A2 m c2]) (b:=w.heap.size+1) (o:=0) (w:=w3) (fr1.offN (by omega)) t1
 have u2:=put_S (vs:=[.int .i64 ep,.int .i64 dg,.int .i64 x.kind,.int .i64 x.job,.int .i64 x.every,.int .i64 x.time,.int .i64 x.client,.int .i64 at_,.int .i64 ln,.int .i64 pl,.slice A1 n c1,.slice A2 m c2]) (b:=w.heap.size+1) (o:=0) (w:=w3) (fr2.offN (by omega)) t2
 have F:∀ (j:Nat) v,([.int .i64 ep,.int .i64 dg,.int .i64 x.kind,.int .i64 x.job,.int .i64 x.every,.int .i64 x.time,.int .i64 x.client,.int .i64 at_,.int .i64 ln,.int .i64 pl,.slice A1 n c1,.slice A2 m c2]:List Value)[j]?=some v→(w3.setCells (w.heap.size+1) 0 [.int .i64 ep,.int .i64 dg,.int .i64 x.kind,.int .i64 x.job,.int .i64 x.every,.int .i64 x.time,.int .i64 x.client,.int .i64 at_,.int .i64 ln,.int .i64 pl,.slice A1 n c1,.slice A2 m c2]).cell? ⟨w.heap.size+1,j,none⟩=some v:=fun j v hv=>put_in (w:=w3) (b:=w.heap.size+1) (vs:=[.int .i64 ep,.int .i64 dg,.int .i64 x.kind,.int .i64 x.job,.int .i64 x.every,.int .i64 x.time,.int .i64 x.client,.int .i64 at_,.int .i64 ln,.int .i64 pl,.slice A1 n c1,.slice A2 m c2]) (there12 r0 r1 r2 r3 r4 r5 r6 r7 r8 r9 r10 r11) hv
 generalize (w3.setCells (w.heap.size+1) 0 [.int .i64 ep,.int .i64 dg,.int .i64 x.kind,.int .i64 x.job,.int .i64 x.every,.int .i64 x.time,.int .i64 x.client,.int .i64 at_,.int .i64 ln,.int .i64 pl,.slice A1 n c1,.slice A2 m c2])=wf at F hE u1 u2 ⊢
 have z0:=F 0 _ rfl
 have z1:=F 1 _ rfl
 have z2:=F 2 _ rfl
 have z3:=F 3 _ rfl
 have z4:=F 4 _ rfl
 have z5:=F 5 _ rfl
 have z6:=F 6 _ rfl
 have z7:=F 7 _ rfl
 have z8:=F 8 _ rfl
 have z9:=F 9 _ rfl
 have z10:=F 10 _ rfl
 have z11:=F 11 _ rfl
 refine bodyPost_ret (v:=.agg #[.int .i64 ep,.int .i64 dg,.int .i64 x.kind,.int .i64 x.job,.int .i64 x.every,.int .i64 x.time,.int .i64 x.client,.int .i64 at_,.int .i64 ln,.int .i64 pl,.slice A1 n c1,.slice A2 m c2]) (by simp [results,Tryz.results78,go_sem,z0,z1,z2,z3,z4,z5,z6,z7,z8,z9,z10,z11]) rfl ⟨A1,c1,A2,c2,rfl,u1,u2,hE,hc1,hc2,fun a e=>by have:=fr1 a e;omega,fun a e=>by have:=fr2 a e;omega⟩
set_option maxHeartbeats 4000000 in
set_option maxRecDepth 100000 in
theorem ClRests_calls (ep dg at_ ln pl : Int) (x : Entry) (A A' : Option Addr) (n c m d : Nat) (b : Book) (w : World) (h : S w 3 A n (b.jobs.map encJ)) (h' : S w 3 A' m (b.rung.map encR)) :
    Calls Tryz.prog 125 #[.agg #[.int .i64 ep,.int .i64 dg,.int .i64 x.kind,.int .i64 x.job,.int .i64 x.every,.int .i64 x.time,.int .i64 x.client,.int .i64 at_,.int .i64 ln,.int .i64 pl,.slice A n c,.slice A' m d]] w fun e w'=>e=.returned (.int .i64 (restsCl ⟨ep,dg,x,at_,ln,pl,b⟩))∧Onto w w':=by
 obtain ⟨q,hq⟩:∃ q,q=checkCl ⟨ep,dg,x,at_,ln,pl,b⟩:=⟨_,rfl⟩
 have hr:restsCl ⟨ep,dg,x,at_,ln,pl,b⟩=if q≠0 then q else if dg≠0 then 7 else 0:=by unfold restsCl;rw [← hq]
 obtain ⟨rr,hrr⟩:∃ rr,rr=restsCl ⟨ep,dg,x,at_,ln,pl,b⟩:=⟨_,rfl⟩
 rw [← hrr]
 rw [hr] at hrr
 have HQ:=Lib.hid hq;have HRR:=Lib.hid hrr
 clear hq hr hrr
 go_enter Tryz.func125,Tryz.ntmps125
 go_wp2_with fail
 refine Calls.mono (ClCheck_calls ep dg at_ ln pl x A A' n c m d b _ (h.new _) (h'.new _)) ?_
 rw [← HQ.out]
 rintro e w1 ⟨rfl,hb1⟩
 have b1:w1.cell? ⟨w.heap.size,1,none⟩=some (.int .i64 dg):=cellB hb1 (by simp [go_sem])
 have h01:Onto w w1:=Onto.to (Onto.new (Onto.rfl' w) (Obj.cells #[.int .i64 ep,.int .i64 dg,.int .i64 x.kind,.int .i64 x.job,.int .i64 x.every,.int .i64 x.time,.int .i64 x.client,.int .i64 at_,.int .i64 ln,.int .i64 pl,.slice A n c,.slice A' m d] 66)) hb1
 have hz:w.heap.size<w1.heap.size:=World.block_lt_of_cell? _ _ b1
 clear hb1 h h'
 by_cases h0:q=0
 · subst h0
   by_cases hd:dg=0
   · have hd':(dg !=0)=false:=by simp [hd]
     have hf:(0:Int)=rr:=by rw [HRR.out,if_neg (by simp),if_neg (by simp [hd])]
     have HF:=Lib.hid hf
     clear hd hf
     go_wp2_with fail
     go_ret
     exact ⟨ret_int HF.out,h01⟩
   · have hd':(dg !=0)=true:=by simpa using hd
     have hf:(7:Int)=rr:=by rw [HRR.out,if_neg (by simp),if_pos hd]
     have HF:=Lib.hid hf
     clear hd hf
     go_wp2_with fail
     go_ret
     exact ⟨ret_int HF.out,h01⟩
 · have hd':(q !=0)=true:=by simpa using h0
   have hf:q=rr:=by rw [HRR.out,if_pos h0]
   have HF:=Lib.hid hf
   clear hf
   go_wp2_with fail
   go_ret
   exact ⟨ret_int HF.out,h01⟩
end
section
open Go.RowKit
end
end Go.Proofs.YtidlffepdcldkaaGreatDoor
