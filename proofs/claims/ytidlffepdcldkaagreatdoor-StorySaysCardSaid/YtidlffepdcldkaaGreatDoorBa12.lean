/- Part 12 of the proof: Unit2, New, New2. -/
import Derived.Test.YtidlffepdcldkaaGreatDoorBa09
namespace Go.Proofs.YtidlffepdcldkaaGreatDoor
set_option linter.unusedSimpArgs false
set_option linter.unusedVariables false
section
open Go.RowKit
theorem M.off {w:World} {base k n:Nat} {A:Option Addr} {rows:List (List Value)} (h:M w base k A n rows) {p:Addr} (hp:p.block<base) (u:Value):M (w.setCell p u) base k A n rows :=
 ⟨S.off h.1 (fun hn a e=>by
  obtain ⟨b,off,e',h1,_⟩:=h.2 hn
  rw [e] at e';injection e' with e';subst e'
  simp only
  omega) u,fun hn=>by obtain ⟨b,off,e,h1,h2⟩:=h.2 hn;exact ⟨b,off,e,h1,h2.put _ _⟩⟩
theorem M.putE {w : World} {base n b off i : Nat} {l : List Entry} (h : M w base 5 (some ⟨b, off, none⟩) n (l.map encE)) (hi : i < n) (x : Entry) :
    M (((((w.setCell ⟨b,off+i*5,none⟩ (.int .i64 x.kind)).setCell ⟨b,off+i*5+1,none⟩ (.int .i64 x.job)).setCell ⟨b,off+i*5+2,none⟩ (.int .i64 x.every)).setCell ⟨b,off+i*5+3,none⟩ (.int .i64 x.time)).setCell ⟨b,off+i*5+4,none⟩ (.int .i64 x.client)) base 5 (some ⟨b,off,none⟩) n ((l.set i x).map encE):=by
 have hl:l.length=n:=by have:=h.1.len;simpa using this
 have hli:(l.map encE)[i]?=some (encE l[i]):=by simp [List.getElem?_eq_getElem (show i<l.length by omega)]
 have h1:=h.put (j:=0) hli (by simp [encE]) (.int .i64 x.kind)
 have h2:=h1.put (i:=i) (j:=1) (r:=(encE l[i]).set 0 (.int .i64 x.kind)) (by rw [List.getElem?_set];simp;omega) (by simp [encE]) (.int .i64 x.job)
 have h3:=h2.put (i:=i) (j:=2) (r:=((encE l[i]).set 0 (.int .i64 x.kind)).set 1 (.int .i64 x.job)) (by rw [List.getElem?_set];simp;omega) (by simp [encE]) (.int .i64 x.every)
 have h4:=h3.put (i:=i) (j:=3) (r:=(((encE l[i]).set 0 (.int .i64 x.kind)).set 1 (.int .i64 x.job)).set 2 (.int .i64 x.every)) (by rw [List.getElem?_set];simp;omega) (by simp [encE]) (.int .i64 x.time)
 have h5:=h4.put (i:=i) (j:=4) (r:=((((encE l[i]).set 0 (.int .i64 x.kind)).set 1 (.int .i64 x.job)).set 2 (.int .i64 x.every)).set 3 (.int .i64 x.time)) (by rw [List.getElem?_set];simp;omega) (by simp [encE]) (.int .i64 x.client)
 simpa [encE,List.map_set] using h5
set_option maxHeartbeats 1000000 in
theorem UCopy_calls (ep : Int) (A : Option Addr) (n c : Nat) (cs : List Entry) (w : World) (h : S w 5 A n (cs.map encE)) (hn : n ≤ 100000) :
    Calls Tryz.prog 76 #[.agg #[.int .i64 ep,.slice A n c]] w fun e w'=>∃ A' c',e=.returned (.agg #[.int .i64 ep,.slice A' n c'])∧M w' w.heap.size 5 A' n (cs.map encE)∧Onto w w'∧n≤c'∧c'≤maxLen:=by
 go_enter Tryz.func76,Tryz.ntmps76
 go_wp2_with fail
 refine Calls.mono (CloneE_calls _ A n c _ (Nat.le_refl _) (cs.map encE) ((h.new _).new _) (encE_one cs) (by omega)) ?_
 rintro e w2 ⟨A',c',rfl,hown,hb⟩
 have q0:w2.cell? ⟨w.heap.size,0,none⟩=some (.int .i64 ep):=cellB hb (by simp [go_sem])
 have q1:w2.cell? ⟨w.heap.size,1,none⟩=some (.slice A n c):=cellB hb (by simp [go_sem])
 have f1:w2.frozen? ⟨w.heap.size,1,none⟩=false:=frozB hb (v:=.slice A n c) (by simp [go_sem]) (by simp [go_sem])
 have p0:w2.cell? ⟨w.heap.size+1,0,none⟩=some (.int .i64 0):=cellB hb (by simp [go_sem])
 have p1:w2.cell? ⟨w.heap.size+1,1,none⟩=some (.slice none 0 0):=cellB hb (by simp [go_sem])
 have g0:w2.frozen? ⟨w.heap.size+1,0,none⟩=false:=frozB hb (v:=.int .i64 0) (by simp [go_sem]) (by simp [go_sem])
 have g1:w2.frozen? ⟨w.heap.size+1,1,none⟩=false:=frozB hb (v:=.slice none 0 0) (by simp [go_sem]) (by simp [go_sem])
 have hz:w.heap.size+1<w2.heap.size:=World.block_lt_of_cell? _ _ p0
 have h2:Onto w w2:=(((Below.refl _ _).alloc (Nat.le_refl _) _).alloc (by simp) _).trans (hb.mono (by simp;omega))
 have hm:=hown.m
 have hc1:=hown.le_cap;have hc2:=hown.cap_max
 simp only [World.size_alloc] at hm
 have HM:=Lib.hid hm
 clear hb h hm hown
 go_wp2_with fail
 refine bodyPost_ret (v:=.agg #[.int .i64 ep,.slice A' n c']) (by simp [results,Tryz.results76,go_sem,q0,q1,p0,p1]) rfl ⟨A',c',rfl,?_,?_,hc1,hc2⟩
 · refine M.lower (base:=w.heap.size+1+1) ?_ (by omega)
   repeat (first | exact HM.out | refine M.off ?_ (by first | omega | (simp;done) | (simp;omega)) _)
 · repeat (first | exact h2 | refine Onto.put ?_ (by first | omega | (simp;done) | (simp;omega)) _)
def UPost (w:World) (u:Uni) (err:Int) (e:Ending) (w':World):Prop :=
 ∃ A n c,e=.returned (.tuple #[.agg #[.int .i64 u.ep,.slice A n c],.int .i64 err])∧S w' 5 A n (u.cells.map encE)∧Onto w w'∧n≤c∧c≤maxLen∧Fresh w.heap.size A
theorem M.fresh {w:World} {base k n lo:Nat} {A:Option Addr} {rows:List (List Value)} (h:M w base k A n rows) (hn:0<n) (hl:lo≤base):Fresh lo A:=fun a e=>by
 obtain ⟨b,off,e',h1,_⟩:=h.2 hn
 rw [e] at e';injection e' with e';subst e'
 simp only
 omega
set_option maxHeartbeats 4000000 in
set_option maxRecDepth 100000 in
theorem UNext_calls (ep : Int) (A : Option Addr) (n c : Nat) (cs : List Entry) (k a p : Int) (x : Entry) (w : World) (h : S w 5 A n (cs.map encE)) :
    Calls Tryz.prog 82 #[.agg #[.int .i64 ep,.slice A n c],.agg #[.int .i64 k,.int .i64 a,.int .i64 p,.int .i64 x.kind,.int .i64 x.job,.int .i64 x.every,.int .i64 x.time,.int .i64 x.client]] w (UPost w (nextU ⟨ep,cs⟩ ⟨k,a,p,x⟩).1 (nextU ⟨ep,cs⟩ ⟨k,a,p,x⟩).2):=by
 have hl:cs.length=n:=by have:=h.len;simpa using this
 obtain ⟨q,hq⟩:∃ q,q=checkU ep cs:=⟨_,rfl⟩
 obtain ⟨q2,hq2⟩:∃ q2,q2=checkR ⟨k,a,p,x⟩:=⟨_,rfl⟩
 obtain ⟨r,hr⟩:∃ r,r=nextU ⟨ep,cs⟩ ⟨k,a,p,x⟩:=⟨_,rfl⟩
 rw [← hr]
 unfold nextU at hr
 simp only [← hq,← hq2] at hr
 have HQ:=Lib.hid hq;have HQ2:=Lib.hid hq2
 by_cases h0:q=0
 · rw [if_neg (by simp [h0])] at hr
   have hg:=checkU_iff.1 (h0 ▸ hq.symm)
   have hn:n=60:=by rw [← hl];exact hg.len
   subst hn
   by_cases h20:q2=0
   · rw [if_neg (by simp [h20])] at hr
     have HG:=Lib.hid hg
     subst h0;subst h20
     have HR:=Lib.hid hr
     clear hr hq hq2 hg
     go_enter Tryz.func82,Tryz.ntmps82
     go_wp2_with fail
     have h1:=((h.new (Obj.cells #[.int .i64 ep,.slice A 60 c] 51)).new (Obj.cells #[.int .i64 k,.int .i64 a,.int .i64 p,.int .i64 x.kind,.int .i64 x.job,.int .i64 x.every,.int .i64 x.time,.int .i64 x.client] 96)).new (Obj.cells #[.int .i64 0,.slice none 0 0] 51)
     refine Calls.mono (UCheck_calls ep A 60 c cs _ h1) ?_
     rw [← HQ.out]
     rintro e w1 ⟨rfl,hb1⟩
     have q0a:w1.cell? ⟨w.heap.size,0,none⟩=some (.int .i64 ep):=cellB hb1 (by simp [go_sem])
     have q1a:w1.cell? ⟨w.heap.size,1,none⟩=some (.slice A 60 c):=cellB hb1 (by simp [go_sem])
     have r0a:w1.cell? ⟨w.heap.size+1,0,none⟩=some (.int .i64 k):=cellB hb1 (by simp [go_sem])
     have r1a:w1.cell? ⟨w.heap.size+1,1,none⟩=some (.int .i64 a):=cellB hb1 (by simp [go_sem])
     have r2a:w1.cell? ⟨w.heap.size+1,2,none⟩=some (.int .i64 p):=cellB hb1 (by simp [go_sem])
     have r3a:w1.cell? ⟨w.heap.size+1,3,none⟩=some (.int .i64 x.kind):=cellB hb1 (by simp [go_sem])
     have r4a:w1.cell? ⟨w.heap.size+1,4,none⟩=some (.int .i64 x.job):=cellB hb1 (by simp [go_sem])
     have r5a:w1.cell? ⟨w.heap.size+1,5,none⟩=some (.int .i64 x.every):=cellB hb1 (by simp [go_sem])
     have r6a:w1.cell? ⟨w.heap.size+1,6,none⟩=some (.int .i64 x.time):=cellB hb1 (by simp [go_sem])
     have r7a:w1.cell? ⟨w.heap.size+1,7,none⟩=some (.int .i64 x.client):=cellB hb1 (by simp [go_sem])
     have p0a:w1.cell? ⟨w.heap.size+1+1,0,none⟩=some (.int .i64 0):=cellB hb1 (by simp [go_sem])
     have p1a:w1.cell? ⟨w.heap.size+1+1,1,none⟩=some (.slice none 0 0):=cellB hb1 (by simp [go_sem])
     have fq0a:w1.frozen? ⟨w.heap.size,0,none⟩=false:=frozB hb1 (v:=.int .i64 ep) (by simp [go_sem]) (by simp [go_sem])
     have fq1a:w1.frozen? ⟨w.heap.size,1,none⟩=false:=frozB hb1 (v:=.slice A 60 c) (by simp [go_sem]) (by simp [go_sem])
     have fp0a:w1.frozen? ⟨w.heap.size+1+1,0,none⟩=false:=frozB hb1 (v:=.int .i64 0) (by simp [go_sem]) (by simp [go_sem])
     have fp1a:w1.frozen? ⟨w.heap.size+1+1,1,none⟩=false:=frozB hb1 (v:=.slice none 0 0) (by simp [go_sem]) (by simp [go_sem])
     have h01:Onto w w1:=((((Below.refl _ _).alloc (Nat.le_refl _) _).alloc (by simp) _).alloc (by simp;omega) _).trans (hb1.mono (by simp;omega))
     have h1':=h1.onto hb1
     clear hb1 h h1
     go_wp2_with fail
     refine Calls.mono (NCheck_calls k a p x _) ?_
     rw [← HQ2.out]
     rintro e w2 ⟨rfl,hb2⟩
     have q0b:=cellB hb2 q0a;have q1b:=cellB hb2 q1a;have r0b:=cellB hb2 r0a;have r1b:=cellB hb2 r1a;have r2b:=cellB hb2 r2a;have r3b:=cellB hb2 r3a;have r4b:=cellB hb2 r4a;have r5b:=cellB hb2 r5a;have r6b:=cellB hb2 r6a;have r7b:=cellB hb2 r7a;have p0b:=cellB hb2 p0a;have p1b:=cellB hb2 p1a
     have fq0b:=frozB hb2 q0a fq0a;have fq1b:=frozB hb2 q1a fq1a;have fp0b:=frozB hb2 p0a fp0a;have fp1b:=frozB hb2 p1a fp1a
     clear q0a q1a r0a r1a r2a r3a r4a r5a r6a r7a p0a p1a fq0a fq1a fp0a fp1a
     have h2:=h1'.onto hb2;have h02:=h01.to hb2
     clear hb2 h1' h01
     go_wp2_with fail
     have hz:w.heap.size+1+1<w2.heap.size:=World.block_lt_of_cell? _ _ p0b
     refine Calls.mono (UCopy_calls ep A 60 c cs _ h2 (by omega)) ?_
     rintro e w3 ⟨A',c',rfl,hm,hb3,hc1,hc2⟩
     have q0c:=cellB hb3 q0b;have q1c:=cellB hb3 q1b;have r0c:=cellB hb3 r0b;have r1c:=cellB hb3 r1b;have r2c:=cellB hb3 r2b;have r3c:=cellB hb3 r3b;have r4c:=cellB hb3 r4b;have r5c:=cellB hb3 r5b;have r6c:=cellB hb3 r6b;have r7c:=cellB hb3 r7b;have p0c:=cellB hb3 p0b;have p1c:=cellB hb3 p1b
     have fq0c:=frozB hb3 q0b fq0b;have fq1c:=frozB hb3 q1b fq1b;have fp0c:=frozB hb3 p0b fp0b;have fp1c:=frozB hb3 p1b fp1b
     clear q0b q1b r0b r1b r2b r3b r4b r5b r6b r7b p0b p1b fq0b fq1b fp0b fp1b
     have h03:=h02.to hb3
     have hz3:w.heap.size+1+1<w3.heap.size:=World.block_lt_of_cell? _ _ p0c
     clear hb3 h2 h02
     go_upto_region 8 with fail
     have hm4:M ((w3.setCell ⟨w.heap.size,0,none⟩ (.int .i64 ep)).setCell ⟨w.heap.size,1,none⟩ (.slice A' 60 c')) w2.heap.size 5 A' 60 (cs.map encE):=M.off (M.off hm (by simp;omega) _) (by simp;omega) _
     have h04:Onto w ((w3.setCell ⟨w.heap.size,0,none⟩ (.int .i64 ep)).setCell ⟨w.heap.size,1,none⟩ (.slice A' 60 c')):=(h03.put (by simp) _).put (by simp) _
     have q0d:((w3.setCell ⟨w.heap.size,0,none⟩ (.int .i64 ep)).setCell ⟨w.heap.size,1,none⟩ (.slice A' 60 c')).cell? ⟨w.heap.size,0,none⟩=some (.int .i64 ep):=by simp [go_sem,q0c,q1c]
     have q1d:((w3.setCell ⟨w.heap.size,0,none⟩ (.int .i64 ep)).setCell ⟨w.heap.size,1,none⟩ (.slice A' 60 c')).cell? ⟨w.heap.size,1,none⟩=some (.slice A' 60 c'):=by simp [go_sem,q0c,q1c]
     have r0d:((w3.setCell ⟨w.heap.size,0,none⟩ (.int .i64 ep)).setCell ⟨w.heap.size,1,none⟩ (.slice A' 60 c')).cell? ⟨w.heap.size+1,0,none⟩=some (.int .i64 k):=by simp [go_sem,r0c]
     have r1d:((w3.setCell ⟨w.heap.size,0,none⟩ (.int .i64 ep)).setCell ⟨w.heap.size,1,none⟩ (.slice A' 60 c')).cell? ⟨w.heap.size+1,1,none⟩=some (.int .i64 a):=by simp [go_sem,r1c]
     have r2d:((w3.setCell ⟨w.heap.size,0,none⟩ (.int .i64 ep)).setCell ⟨w.heap.size,1,none⟩ (.slice A' 60 c')).cell? ⟨w.heap.size+1,2,none⟩=some (.int .i64 p):=by simp [go_sem,r2c]
     have r3d:((w3.setCell ⟨w.heap.size,0,none⟩ (.int .i64 ep)).setCell ⟨w.heap.size,1,none⟩ (.slice A' 60 c')).cell? ⟨w.heap.size+1,3,none⟩=some (.int .i64 x.kind):=by simp [go_sem,r3c]
     have r4d:((w3.setCell ⟨w.heap.size,0,none⟩ (.int .i64 ep)).setCell ⟨w.heap.size,1,none⟩ (.slice A' 60 c')).cell? ⟨w.heap.size+1,4,none⟩=some (.int .i64 x.job):=by simp [go_sem,r4c]
     have r5d:((w3.setCell ⟨w.heap.size,0,none⟩ (.int .i64 ep)).setCell ⟨w.heap.size,1,none⟩ (.slice A' 60 c')).cell? ⟨w.heap.size+1,5,none⟩=some (.int .i64 x.every):=by simp [go_sem,r5c]
     have r6d:((w3.setCell ⟨w.heap.size,0,none⟩ (.int .i64 ep)).setCell ⟨w.heap.size,1,none⟩ (.slice A' 60 c')).cell? ⟨w.heap.size+1,6,none⟩=some (.int .i64 x.time):=by simp [go_sem,r6c]
     have r7d:((w3.setCell ⟨w.heap.size,0,none⟩ (.int .i64 ep)).setCell ⟨w.heap.size,1,none⟩ (.slice A' 60 c')).cell? ⟨w.heap.size+1,7,none⟩=some (.int .i64 x.client):=by simp [go_sem,r7c]
     have p0d:((w3.setCell ⟨w.heap.size,0,none⟩ (.int .i64 ep)).setCell ⟨w.heap.size,1,none⟩ (.slice A' 60 c')).cell? ⟨w.heap.size+1+1,0,none⟩=some (.int .i64 0):=by simp [go_sem,p0c]
     have p1d:((w3.setCell ⟨w.heap.size,0,none⟩ (.int .i64 ep)).setCell ⟨w.heap.size,1,none⟩ (.slice A' 60 c')).cell? ⟨w.heap.size+1+1,1,none⟩=some (.slice none 0 0):=by simp [go_sem,p1c]
     have fq0d:((w3.setCell ⟨w.heap.size,0,none⟩ (.int .i64 ep)).setCell ⟨w.heap.size,1,none⟩ (.slice A' 60 c')).frozen? ⟨w.heap.size,0,none⟩=false:=by simp [fq0c]
     have fq1d:((w3.setCell ⟨w.heap.size,0,none⟩ (.int .i64 ep)).setCell ⟨w.heap.size,1,none⟩ (.slice A' 60 c')).frozen? ⟨w.heap.size,1,none⟩=false:=by simp [fq1c]
     have fp0d:((w3.setCell ⟨w.heap.size,0,none⟩ (.int .i64 ep)).setCell ⟨w.heap.size,1,none⟩ (.slice A' 60 c')).frozen? ⟨w.heap.size+1+1,0,none⟩=false:=by simp [fp0c]
     have fp1d:((w3.setCell ⟨w.heap.size,0,none⟩ (.int .i64 ep)).setCell ⟨w.heap.size,1,none⟩ (.slice A' 60 c')).frozen? ⟨w.heap.size+1+1,1,none⟩=false:=by simp [fp1c]
     have hz4:w.heap.size+1+1<((w3.setCell ⟨w.heap.size,0,none⟩ (.int .i64 ep)).setCell ⟨w.heap.size,1,none⟩ (.slice A' 60 c')).heap.size:=by simp;omega
     clear q0c q1c r0c r1c r2c r3c r4c r5c r6c r7c p0c p1c fq0c fq1c fp0c fp1c h03 hm hz3
     generalize ((w3.setCell ⟨w.heap.size,0,none⟩ (.int .i64 ep)).setCell ⟨w.heap.size,1,none⟩ (.slice A' 60 c'))=w4 at *
     have hm:=hm4
     clear hm4
     have HM:=Lib.hid hm
     have HR0:=HR.out
     clear HR
     by_cases hk:k=2
     · rw [if_pos hk] at HR0
       by_cases hle:p≤ep
       · rw [if_pos hle] at HR0
         have HR:=Lib.hid HR0
         subst hk
         clear HR0 hm
         go_wp2_with fail
         refine bodyPost_ret (v:=.tuple #[.agg #[.int .i64 0,.slice none 0 0],.int .i64 8]) (by simp [results,Tryz.results82,go_sem,p0d,p1d]) rfl ?_
         rw [HR.out]
         refine ⟨none,0,0,rfl,Sl.nil,?_,Nat.le_refl _,by unfold maxLen;omega,fun a e=>by cases e⟩
         repeat (first | exact h04 | refine Onto.put ?_ (by first | omega | (simp;done) | (simp;omega)) _)
       · rw [if_neg hle] at HR0
         have HR:=Lib.hid HR0
         subst hk
         clear HR0 hm
         go_wp2_with fail
         refine bodyPost_ret (v:=.tuple #[.agg #[.int .i64 p,.slice A' 60 c'],.int .i64 0]) (by simp [results,Tryz.results82,go_sem,q0d,q1d,p0d,p1d]) rfl ?_
         rw [HR.out]
         refine ⟨A',60,c',rfl,?_,?_,hc1,hc2,HM.out.fresh (by omega) (by omega)⟩
         · refine M.sl (base:=w2.heap.size) ?_
           repeat (first | exact HM.out | refine M.off ?_ (by first | omega | (simp;done) | (simp;omega)) _)
         · repeat (first | exact h04 | refine Onto.put ?_ (by first | omega | (simp;done) | (simp;omega)) _)
     · rw [if_neg hk] at HR0
       obtain ⟨hk1,ha0,ha1,hp0,hx⟩:=checkR_write HQ2.out.symm hk
       dsimp only at hk1 ha0 ha1 hp0 hx
       obtain ⟨j,rfl⟩:∃ j:Nat,a=j:=⟨a.toNat,by omega⟩
       obtain ⟨b,off,y,rfl,hb,hy,e0,e1,e2,e3,e4⟩:=hm.sl.atE (i:=j) (by omega)
       have hya:=cellAt_eq hy
       simp only [Int.toNat_natCast,hya] at HR0
       obtain ⟨b',off',hA',hbase,hunf⟩:=hm.2 (by omega)
       injection hA' with hA'
       injection hA' with hb1 hb2 hb3
       subst hb1;subst hb2
       by_cases hy4:y.kind=4
       · rw [if_neg (by simp [hy4])] at HR0
         have HR:=Lib.hid HR0;have HY:=Lib.hid hy
         have hd:(y.kind !=4)=false:=by simp [hy4]
         clear HR0 hm hya hy
         have u0:=hunf.frozen (off+j*5);have u1:=hunf.frozen (off+j*5+1);have u2:=hunf.frozen (off+j*5+2);have u3:=hunf.frozen (off+j*5+3);have u4:=hunf.frozen (off+j*5+4)
         have HU:=Lib.hid hunf
         clear hunf
         go_upto_region 16 with fail
         have hm5:M (((((w4.setCell ⟨b,off+j*5,none⟩ (.int .i64 x.kind)).setCell ⟨b,off+j*5+1,none⟩ (.int .i64 x.job)).setCell ⟨b,off+j*5+2,none⟩ (.int .i64 x.every)).setCell ⟨b,off+j*5+3,none⟩ (.int .i64 x.time)).setCell ⟨b,off+j*5+4,none⟩ (.int .i64 x.client)) w2.heap.size 5 (some ⟨b,off,none⟩) 60 ((cs.set j x).map encE):=M.putE HM.out (by omega) x
         have hbw:w.heap.size≤b:=by omega
         have h05:Onto w (((((w4.setCell ⟨b,off+j*5,none⟩ (.int .i64 x.kind)).setCell ⟨b,off+j*5+1,none⟩ (.int .i64 x.job)).setCell ⟨b,off+j*5+2,none⟩ (.int .i64 x.every)).setCell ⟨b,off+j*5+3,none⟩ (.int .i64 x.time)).setCell ⟨b,off+j*5+4,none⟩ (.int .i64 x.client)):=((((h04.put hbw _).put hbw _).put hbw _).put hbw _).put hbw _
         have hne:∀ i o u,∀ W:World,(W.setCell ⟨b,i,none⟩ u).cell? ⟨w.heap.size,o,none⟩=W.cell? ⟨w.heap.size,o,none⟩:=fun i o u W=>World.cell?_setCell_other W _ _ _ (by intro e;injection e with e;omega)
         have hne2:∀ i o u,∀ W:World,(W.setCell ⟨b,i,none⟩ u).cell? ⟨w.heap.size+1+1,o,none⟩=W.cell? ⟨w.heap.size+1+1,o,none⟩:=fun i o u W=>World.cell?_setCell_other W _ _ _ (by intro e;injection e with e;omega)
         have q0f:(((((w4.setCell ⟨b,off+j*5,none⟩ (.int .i64 x.kind)).setCell ⟨b,off+j*5+1,none⟩ (.int .i64 x.job)).setCell ⟨b,off+j*5+2,none⟩ (.int .i64 x.every)).setCell ⟨b,off+j*5+3,none⟩ (.int .i64 x.time)).setCell ⟨b,off+j*5+4,none⟩ (.int .i64 x.client)).cell? ⟨w.heap.size,0,none⟩=some (.int .i64 ep):=by rw [hne,hne,hne,hne,hne];exact q0d
         have q1f:(((((w4.setCell ⟨b,off+j*5,none⟩ (.int .i64 x.kind)).setCell ⟨b,off+j*5+1,none⟩ (.int .i64 x.job)).setCell ⟨b,off+j*5+2,none⟩ (.int .i64 x.every)).setCell ⟨b,off+j*5+3,none⟩ (.int .i64 x.time)).setCell ⟨b,off+j*5+4,none⟩ (.int .i64 x.client)).cell? ⟨w.heap.size,1,none⟩=some (.slice (some ⟨b,off,none⟩) 60 c'):=by rw [hne,hne,hne,hne,hne];exact q1d
         have p0f:(((((w4.setCell ⟨b,off+j*5,none⟩ (.int .i64 x.kind)).setCell ⟨b,off+j*5+1,none⟩ (.int .i64 x.job)).setCell ⟨b,off+j*5+2,none⟩ (.int .i64 x.every)).setCell ⟨b,off+j*5+3,none⟩ (.int .i64 x.time)).setCell ⟨b,off+j*5+4,none⟩ (.int .i64 x.client)).cell? ⟨w.heap.size+1+1,0,none⟩=some (.int .i64 0):=by rw [hne2,hne2,hne2,hne2,hne2];exact p0d
         have p1f:(((((w4.setCell ⟨b,off+j*5,none⟩ (.int .i64 x.kind)).setCell ⟨b,off+j*5+1,none⟩ (.int .i64 x.job)).setCell ⟨b,off+j*5+2,none⟩ (.int .i64 x.every)).setCell ⟨b,off+j*5+3,none⟩ (.int .i64 x.time)).setCell ⟨b,off+j*5+4,none⟩ (.int .i64 x.client)).cell? ⟨w.heap.size+1+1,1,none⟩=some (.slice none 0 0):=by rw [hne2,hne2,hne2,hne2,hne2];exact p1d
         have fp0f:(((((w4.setCell ⟨b,off+j*5,none⟩ (.int .i64 x.kind)).setCell ⟨b,off+j*5+1,none⟩ (.int .i64 x.job)).setCell ⟨b,off+j*5+2,none⟩ (.int .i64 x.every)).setCell ⟨b,off+j*5+3,none⟩ (.int .i64 x.time)).setCell ⟨b,off+j*5+4,none⟩ (.int .i64 x.client)).frozen? ⟨w.heap.size+1+1,0,none⟩=false:=by simp [fp0d]
         have fp1f:(((((w4.setCell ⟨b,off+j*5,none⟩ (.int .i64 x.kind)).setCell ⟨b,off+j*5+1,none⟩ (.int .i64 x.job)).setCell ⟨b,off+j*5+2,none⟩ (.int .i64 x.every)).setCell ⟨b,off+j*5+3,none⟩ (.int .i64 x.time)).setCell ⟨b,off+j*5+4,none⟩ (.int .i64 x.client)).frozen? ⟨w.heap.size+1+1,1,none⟩=false:=by simp [fp1d]
         have hz5:w.heap.size+1+1<(((((w4.setCell ⟨b,off+j*5,none⟩ (.int .i64 x.kind)).setCell ⟨b,off+j*5+1,none⟩ (.int .i64 x.job)).setCell ⟨b,off+j*5+2,none⟩ (.int .i64 x.every)).setCell ⟨b,off+j*5+3,none⟩ (.int .i64 x.time)).setCell ⟨b,off+j*5+4,none⟩ (.int .i64 x.client)).heap.size:=by simp;omega
         clear q0d q1d r0d r1d r2d r3d r4d r5d r6d r7d p0d p1d fq0d fq1d fp0d fp1d h04 HM hz4 e0 e1 e2 e3 e4 u0 u1 u2 u3 u4 HU hb hne hne2
         generalize (((((w4.setCell ⟨b,off+j*5,none⟩ (.int .i64 x.kind)).setCell ⟨b,off+j*5+1,none⟩ (.int .i64 x.job)).setCell ⟨b,off+j*5+2,none⟩ (.int .i64 x.every)).setCell ⟨b,off+j*5+3,none⟩ (.int .i64 x.time)).setCell ⟨b,off+j*5+4,none⟩ (.int .i64 x.client))=w5 at *
         go_wp2_with fail
         refine bodyPost_ret (v:=.tuple #[.agg #[.int .i64 ep,.slice (some ⟨b,off,none⟩) 60 c'],.int .i64 0]) (by simp [results,Tryz.results82,go_sem,q0f,q1f,p0f,p1f]) rfl ?_
         rw [HR.out]
         refine ⟨some ⟨b,off,none⟩,60,c',rfl,?_,?_,hc1,hc2,hm5.fresh (by omega) (by omega)⟩
         · refine M.sl (base:=w2.heap.size) ?_
           refine M.off (M.off hm5 ?_ _) ?_ _
           all_goals (first | omega | (simp;done) | (simp;omega))
         · repeat (first | exact h05 | refine Onto.put ?_ (by first | omega | (simp;done) | (simp;omega)) _)
       · rw [if_pos hy4] at HR0
         have HR:=Lib.hid HR0;have HY:=Lib.hid hy
         have hd:(y.kind !=4)=true:=by simpa using hy4
         clear HR0 hm hya hy
         go_wp2_with fail
         refine bodyPost_ret (v:=.tuple #[.agg #[.int .i64 0,.slice none 0 0],.int .i64 6]) (by simp [results,Tryz.results82,go_sem,p0d,p1d]) rfl ?_
         rw [HR.out]
         refine ⟨none,0,0,rfl,Sl.nil,?_,Nat.le_refl _,by unfold maxLen;omega,fun a e=>by cases e⟩
         repeat (first | exact h04 | refine Onto.put ?_ (by first | omega | (simp;done) | (simp;omega)) _)
   · have hq1:(q2 !=0)=true:=by simpa using h20
     have HG:=Lib.hid hg
     rw [if_pos h20] at hr
     have HR:=Lib.hid hr
     subst h0
     clear hr hq hq2 hg
     go_enter Tryz.func82,Tryz.ntmps82
     go_wp2_with fail
     have h1:=((h.new (Obj.cells #[.int .i64 ep,.slice A 60 c] 51)).new (Obj.cells #[.int .i64 k,.int .i64 a,.int .i64 p,.int .i64 x.kind,.int .i64 x.job,.int .i64 x.every,.int .i64 x.time,.int .i64 x.client] 96)).new (Obj.cells #[.int .i64 0,.slice none 0 0] 51)
     refine Calls.mono (UCheck_calls ep A 60 c cs _ h1) ?_
     rw [← HQ.out]
     rintro e w1 ⟨rfl,hb1⟩
     have q0a:w1.cell? ⟨w.heap.size,0,none⟩=some (.int .i64 ep):=cellB hb1 (by simp [go_sem])
     have q1a:w1.cell? ⟨w.heap.size,1,none⟩=some (.slice A 60 c):=cellB hb1 (by simp [go_sem])
     have r0a:w1.cell? ⟨w.heap.size+1,0,none⟩=some (.int .i64 k):=cellB hb1 (by simp [go_sem])
     have r1a:w1.cell? ⟨w.heap.size+1,1,none⟩=some (.int .i64 a):=cellB hb1 (by simp [go_sem])
     have r2a:w1.cell? ⟨w.heap.size+1,2,none⟩=some (.int .i64 p):=cellB hb1 (by simp [go_sem])
     have r3a:w1.cell? ⟨w.heap.size+1,3,none⟩=some (.int .i64 x.kind):=cellB hb1 (by simp [go_sem])
     have r4a:w1.cell? ⟨w.heap.size+1,4,none⟩=some (.int .i64 x.job):=cellB hb1 (by simp [go_sem])
     have r5a:w1.cell? ⟨w.heap.size+1,5,none⟩=some (.int .i64 x.every):=cellB hb1 (by simp [go_sem])
     have r6a:w1.cell? ⟨w.heap.size+1,6,none⟩=some (.int .i64 x.time):=cellB hb1 (by simp [go_sem])
     have r7a:w1.cell? ⟨w.heap.size+1,7,none⟩=some (.int .i64 x.client):=cellB hb1 (by simp [go_sem])
     have p0a:w1.cell? ⟨w.heap.size+1+1,0,none⟩=some (.int .i64 0):=cellB hb1 (by simp [go_sem])
     have p1a:w1.cell? ⟨w.heap.size+1+1,1,none⟩=some (.slice none 0 0):=cellB hb1 (by simp [go_sem])
     have fq0a:w1.frozen? ⟨w.heap.size,0,none⟩=false:=frozB hb1 (v:=.int .i64 ep) (by simp [go_sem]) (by simp [go_sem])
     have fq1a:w1.frozen? ⟨w.heap.size,1,none⟩=false:=frozB hb1 (v:=.slice A 60 c) (by simp [go_sem]) (by simp [go_sem])
     have fp0a:w1.frozen? ⟨w.heap.size+1+1,0,none⟩=false:=frozB hb1 (v:=.int .i64 0) (by simp [go_sem]) (by simp [go_sem])
     have fp1a:w1.frozen? ⟨w.heap.size+1+1,1,none⟩=false:=frozB hb1 (v:=.slice none 0 0) (by simp [go_sem]) (by simp [go_sem])
     have h01:Onto w w1:=((((Below.refl _ _).alloc (Nat.le_refl _) _).alloc (by simp) _).alloc (by simp;omega) _).trans (hb1.mono (by simp;omega))
     have h1':=h1.onto hb1
     clear hb1 h h1
     go_wp2_with fail
     refine Calls.mono (NCheck_calls k a p x _) ?_
     rw [← HQ2.out]
     rintro e w2 ⟨rfl,hb2⟩
     have q0c:=cellB hb2 q0a;have q1c:=cellB hb2 q1a;have r0c:=cellB hb2 r0a;have r1c:=cellB hb2 r1a;have r2c:=cellB hb2 r2a;have r3c:=cellB hb2 r3a;have r4c:=cellB hb2 r4a;have r5c:=cellB hb2 r5a;have r6c:=cellB hb2 r6a;have r7c:=cellB hb2 r7a;have p0c:=cellB hb2 p0a;have p1c:=cellB hb2 p1a
     have fq0c:=frozB hb2 q0a fq0a;have fq1c:=frozB hb2 q1a fq1a;have fp0c:=frozB hb2 p0a fp0a;have fp1c:=frozB hb2 p1a fp1a
     clear q0a q1a r0a r1a r2a r3a r4a r5a r6a r7a p0a p1a fq0a fq1a fp0a fp1a
     have h03:=h01.to hb2
     clear h01 hb2 h1'
     go_wp2_with fail
     refine bodyPost_ret (v:=.tuple #[.agg #[.int .i64 0,.slice none 0 0],.int .i64 q2]) (by simp [results,Tryz.results82,go_sem,p0c,p1c]) rfl ?_
     rw [HR.out]
     refine ⟨none,0,0,rfl,Sl.nil,?_,Nat.le_refl _,by unfold maxLen;omega,fun a e=>by cases e⟩
     repeat (first | exact h03 | refine Onto.put ?_ (by first | omega | (simp;done) | (simp;omega)) _)
 · rw [if_pos h0] at hr
   have hq0:(q !=0)=true:=by simpa using h0
   have HR:=Lib.hid hr
   clear hr hq hq2
   go_enter Tryz.func82,Tryz.ntmps82
   go_wp2_with fail
   refine Calls.mono (UCheck_calls ep A n c cs _ (((h.new _).new _).new _)) ?_
   rw [← HQ.out]
   rintro e w1 ⟨rfl,hb1⟩
   have p0:w1.cell? ⟨w.heap.size+1+1,0,none⟩=some (.int .i64 0):=cellB hb1 (by simp [go_sem])
   have p1:w1.cell? ⟨w.heap.size+1+1,1,none⟩=some (.slice none 0 0):=cellB hb1 (by simp [go_sem])
   have g0:w1.frozen? ⟨w.heap.size+1+1,0,none⟩=false:=frozB hb1 (v:=.int .i64 0) (by simp [go_sem]) (by simp [go_sem])
   have g1:w1.frozen? ⟨w.heap.size+1+1,1,none⟩=false:=frozB hb1 (v:=.slice none 0 0) (by simp [go_sem]) (by simp [go_sem])
   have h01:Onto w w1:=((((Below.refl _ _).alloc (Nat.le_refl _) _).alloc (by simp) _).alloc (by simp;omega) _).trans (hb1.mono (by simp;omega))
   clear hb1 h
   go_wp2_with fail
   refine bodyPost_ret (v:=.tuple #[.agg #[.int .i64 0,.slice none 0 0],.int .i64 q]) (by simp [results,Tryz.results82,go_sem,p0,p1]) rfl ?_
   rw [HR.out]
   refine ⟨none,0,0,rfl,Sl.nil,?_,Nat.le_refl _,by unfold maxLen;omega,fun a e=>by cases e⟩
   repeat (first | exact h01 | refine Onto.put ?_ (by first | omega | (simp;done) | (simp;omega)) _)
end
section
open Go.RowKit
theorem Sl.one {w:World} {t:TypeId} (x:Entry):Sl (w.alloc (Obj.cells #[.int .i64 x.kind,.int .i64 x.job,.int .i64 x.every,.int .i64 x.time,.int .i64 x.client] t)) (w.heap.size+1) 5 (some ⟨w.heap.size,0,none⟩) 1 [encE x]:=by
 have:=Sl.block (k:=5) (w:=w.alloc (Obj.cells #[.int .i64 x.kind,.int .i64 x.job,.int .i64 x.every,.int .i64 x.time,.int .i64 x.client] t)) [encE x] (hNew rfl) (by simp [encE]) (by rfl)
 simpa using this
end
section
open Go.RowKit
set_option maxHeartbeats 4000000 in
set_option maxRecDepth 100000 in
theorem UNew2_calls (w:World):Calls Tryz.prog 50 #[] w fun e w'=>∃ A c,e=.returned (.agg #[.int .i64 1,.slice A 60 c])∧S w' 5 A 60 (newU.cells.map encE)∧Onto w w'∧60≤c∧c≤maxLen∧Fresh w.heap.size A:=by
 go_enter Tryz.func50,Tryz.ntmps50
 go_wp2_with fail
 go_loopw [3] (fun s wr=>∃ (k:Nat) (A:Option Addr) (c:Nat),k≤60∧s=.int .i64 k∧Hid (Own wr (w.heap.size+2) 46 5 (.slice A k c) k ((List.replicate k blank).map encE))∧wr.cell? ⟨w.heap.size+1,0,none⟩=some (.int .i64 1)∧wr.cell? ⟨w.heap.size+1,1,none⟩=some (.slice A k c) ∧
  wr.frozen? ⟨w.heap.size+1,1,none⟩=false∧wr.cell? ⟨w.heap.size,0,none⟩=some (.int .i64 0)∧wr.cell? ⟨w.heap.size,1,none⟩=some (.slice none 0 0)∧wr.frozen? ⟨w.heap.size,0,none⟩=false∧wr.frozen? ⟨w.heap.size,1,none⟩=false∧Onto w wr) (fun s _=>60 - (intOf s).toNat)
 case atStart =>
  refine ⟨0,none,0,by omega,rfl,Own.nil _ _ _ _,by simp [go_sem],by simp [go_sem],by simp [go_sem],by simp [go_sem],by simp [go_sem],by simp [go_sem],by simp [go_sem],?_⟩
  repeat (first | exact Below.refl _ _ | refine Below.setCell ?_ (by simp) _ | refine Below.alloc ?_ (by simp <;> omega) _)
 case round =>
  obtain ⟨k,A,c,hk,rfl,HO,q0,q1,f1,p0,p1,g0,g1,hbr⟩:=hrel
  have hz:w.heap.size+1<wr.heap.size:=World.block_lt_of_cell? _ _ q0
  by_cases hlt:k<60
  · obtain ⟨i0,hi0,hzz0,hzz1,hzz2⟩:=info_parts infoE
    have HI0:=Lib.hid hi0;have HZ0:=Lib.hid hzz0;have HZ1:=Lib.hid hzz1;have HZ2:=Lib.hid hzz2
    clear hi0 hzz0 hzz1 hzz2
    have hnew:Sl (wr.alloc (Obj.cells #[.int .i64 4,.int .i64 0,.int .i64 0,.int .i64 0,.int .i64 0] 46)) (wr.heap.size+1) 5 (some ⟨wr.heap.size,0,none⟩) 1 [encE blank]:=Sl.one blank
    have HNEW:=Lib.hid hnew
    clear hnew
    go_wp2_with (at_builtin;refine wpList_append_sl _ rfl (.tmp 6) (.tmp 8) 26 rfl (w.heap.size+2) 46 i0 _ 5 40 Tryz.underlying26 HI0.out HZ0.out HZ1.out HZ2.out rfl (by decide) (.slice A k c) k ((List.replicate k blank).map encE) rfl (HO.out.alloc _) (wr.heap.size+1) (some ⟨wr.heap.size,0,none⟩) 1 1 [encE blank] rfl HNEW.out (by simp [encE,Value.oneCell']) (by unfold maxLen;omega) (by omega) (by simp;omega) ?_)
    intro v8 w8 own8 grow8 hv8
    obtain ⟨A8,c8,rfl,_,_⟩:=own8.slice
    have nr:∀ z,z<w.heap.size+2→some z≠Value.ownBlock (.slice A k c):=fun z hz=>HO.out.notBelow hz
    have hbA:Below wr.heap.size wr (wr.alloc (Obj.cells #[.int .i64 4,.int .i64 0,.int .i64 0,.int .i64 0,.int .i64 0] 46)):=(Below.refl _ _).alloc (Nat.le_refl _) _
    have q0':=grow_cell grow8 (cellB hbA q0) (nr _ (by simp only;omega));have q1':=grow_cell grow8 (cellB hbA q1) (nr _ (by simp only;omega))
    have p0':=grow_cell grow8 (cellB hbA p0) (nr _ (by simp only;omega));have p1':=grow_cell grow8 (cellB hbA p1) (nr _ (by simp only;omega))
    have f1':=grow_froz grow8 (cellB hbA q1) (frozB hbA q1 f1) (nr _ (by simp only;omega))
    have g0':=grow_froz grow8 (cellB hbA p0) (frozB hbA p0 g0) (nr _ (by simp only;omega));have g1':=grow_froz grow8 (cellB hbA p1) (frozB hbA p1 g1) (nr _ (by simp only;omega))
    have hB8:Below w.heap.size w w8:=below_grown (hbr.alloc (by omega) _) (by simp;omega) grow8 (fun g hg=>by have:=(HO.out.1.lt g hg).1;omega)
    have hz8:w.heap.size+1<w8.heap.size:=World.block_lt_of_cell? _ _ q0'
    have HO8:=Lib.hid own8
    clear q0 q1 p0 p1 f1 g0 g1 hbA nr grow8 hv8 hbr hz own8 HO HI0 HZ0 HZ1 HZ2 HNEW
    go_wp2_with fail
    go_roundw
    case measure=>simp [intOf] <;> omega
    case rel =>
     refine ⟨k+1,A8,c8,by omega,by go_num,?_,by simp [go_sem,q0',q1'],by simp [go_sem,q1'],by simp [f1'],by simp [go_sem,p0'],by simp [go_sem,p1'],by simp [g0'],by simp [g1'],hB8.setCell (by simp) _⟩
     have h:=HO8.out.setCell (p:=⟨w.heap.size+1,1,none⟩) (by simp only;omega) (.slice A8 (k+1) c8)
     refine Lib.hid ?_
     have e:(List.replicate (k+1) blank).map encE=(List.replicate k blank).map encE ++[encE blank]:=by rw [List.replicate_succ',List.map_append];rfl
     rw [e]
     first | exact h | (rw [List.map_replicate];exact h)
  · obtain rfl:k=60:=by omega
    go_wp2_with fail
    refine bodyPost_ret (v:=.agg #[.int .i64 1,.slice A 60 c]) (by simp [results,Tryz.results50,go_sem,p0,p1]) rfl ⟨A,c,rfl,?_,?_,HO.out.le_cap,HO.out.cap_max,HO.out.fresh (by omega)⟩
    · have h:=((HO.out.setCell (p:=⟨w.heap.size,0,none⟩) (by simp only;omega) (.int .i64 1)).setCell (p:=⟨w.heap.size,1,none⟩) (by simp only;omega) (.slice A 60 c)).sl
      exact Sl.more h (by simp)
    · exact (hbr.setCell (by simp) _).setCell (by simp) _
end
end Go.Proofs.YtidlffepdcldkaaGreatDoor
