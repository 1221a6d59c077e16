/- Part 16 of the proof: Apply, LawB, BoxA. -/
import Derived.Test.YtidlffepdcldkaaGreatDoorBa14
import Derived.Test.YtidlffepdcldkaaGreatDoorBa02
import Derived.Test.YtidlffepdcldkaaGreatDoorBa15
import Derived.StillTailTactics
import Derived.BigRegion
import Derived.Test.YtidlffepdcldkaaGreatDoorBa06
namespace Go.Proofs.YtidlffepdcldkaaGreatDoor
set_option linter.unusedSimpArgs false
set_option linter.unusedVariables false
section
open Go.RowKit
def BookPost (w:World) (b:Book) (err:Int) (e:Ending) (w':World):Prop :=
 ∃ A n c A' m d,e=.returned (.tuple #[.agg #[.slice A n c,.slice A' m d],.int .i64 err])∧Sl w' w'.heap.size 3 A n (b.jobs.map encJ)∧Sl w' w'.heap.size 3 A' m (b.rung.map encR)∧Below w.heap.size w w'∧Fresh w.heap.size A∧Fresh w.heap.size A'∧n≤c∧m≤d
theorem Sl.setNext {w : World} {B n b off i : Nat} {l : List Job} {x : Job} (h : Sl w B 3 (some ⟨b, off, none⟩) n (l.map encJ)) (hi : i < n) (hx : l[i]? = some x) (z : Int) :
    Sl (w.setCell ⟨b,off+i*3+2,none⟩ (.int .i64 z)) B 3 (some ⟨b,off,none⟩) n ((l.set i ⟨x.id,x.every,z⟩).map encJ):=by
 have hl:l.length=n:=by have:=h.1;simpa using this
 refine ⟨by simpa using hl,by
  intro r hr
  obtain ⟨y,_,rfl⟩:=List.mem_map.1 hr
  rfl,fun hn=>?_⟩
 obtain ⟨b',off',e,hb,hc⟩:=h.2.2 hn
 injection e with e;injection e with e1 e2 _
 subst e1;subst e2
 refine ⟨b,off,rfl,hb,fun i0 j r u hr hu=>?_⟩
 rw [List.getElem?_map,List.getElem?_set] at hr
 by_cases e:i=i0
 · subst e
   have hil:i<l.length:=by omega
   simp only [hil,if_true,Option.map_some,Option.some.injEq] at hr
   subst hr
   have hold:=hc i j (encJ x)
   match j,hu with
   | 0,hu =>
     simp [encJ] at hu
     rw [World.cell?_setCell_other w _ _ _ (by simp)]
     subst hu
     exact hold _ (by simp [hx]) rfl
   | 1,hu =>
     simp [encJ] at hu
     rw [World.cell?_setCell_other w _ _ _ (by simp)]
     subst hu
     exact hold _ (by simp [hx]) rfl
   | 2,hu =>
     simp [encJ] at hu
     subst hu
     exact World.cell?_setCell_same w _ _ (hold _ (by simp [hx]) rfl)
 · rw [if_neg e] at hr
   have hj:j<3:=by
    cases hy:l[i0]? with
    | none=>rw [hy] at hr;simp at hr
    | some y =>
      rw [hy] at hr
      simp at hr
      subst hr
      have:=(List.getElem?_eq_some_iff.1 hu).1
      simpa [encJ] using this
   rw [World.cell?_setCell_other w _ _ _ (by intro h;injection h with _ h _;omega)]
   exact hc i0 j r u (by rw [List.getElem?_map];exact hr) hu
set_option maxHeartbeats 4000000 in
set_option maxRecDepth 100000 in
theorem Apply_badB (A A' : Option Addr) (n c m d B : Nat) (jobs : List Job) (rung : List Rung) (k j v t cl : Int) (w : World) (h : Sl w B 3 A n (jobs.map encJ)) (h' : Sl w B 3 A' m (rung.map encR)) (hB : B ≤ w.heap.size) (hbad : checkB ⟨jobs, rung⟩ ≠ 0) :
    Calls Tryz.prog 40 #[.agg #[.slice A n c,.slice A' m d],.agg #[.int .i64 k,.int .i64 j,.int .i64 v,.int .i64 t,.int .i64 cl]] w (BookPost w Book.none (checkB ⟨jobs,rung⟩)):=by
 obtain ⟨r,hr⟩:∃ r,r=checkB ⟨jobs,rung⟩:=⟨_,rfl⟩
 rw [← hr] at hbad ⊢
 have hr0:(r !=0)=true:=by simpa using hbad
 have HR:=Lib.hid hr
 clear hbad hr
 go_enter Tryz.func40,Tryz.ntmps40
 go_wp2_with fail
 refine Calls.mono (BCheck_calls A A' n c m d B jobs rung _ (((h.alloc hB _).alloc (by simp;omega) _).alloc (by simp;omega) _) (((h'.alloc hB _).alloc (by simp;omega) _).alloc (by simp;omega) _) (by simp;omega)) ?_
 rintro e w1 ⟨rfl,hb1⟩
 rw [← HR.out]
 obtain ⟨hc,hf⟩:=bcell hb1
 have hz:w.heap.size+2<w1.heap.size:=by have:=hb1.size;simp at this;omega
 have hza:w.heap.size+1<w1.heap.size:=by omega
 have hzb:w.heap.size<w1.heap.size:=by omega
 clear h h'
 go_wp2
 have hb0:Below w.heap.size w w1:=((((Below.refl _ _).alloc (Nat.le_refl _) _).alloc (by simp) _).alloc (by simp;omega) _).trans (hb1.mono (by simp;omega))
 refine bodyPost_ret (v:=.tuple #[.agg #[.slice none 0 0,.slice none 0 0],.int .i64 r]) (by simp [results,Tryz.results40,go_sem,hc]) rfl ⟨none,0,0,none,0,0,rfl,Sl.nil,Sl.nil,?_,Fresh.none_ _,Fresh.none_ _,Nat.le_refl _,Nat.le_refl _⟩
 repeat (first | exact hb0 | refine Below.setCell ?_ (by simp <;> omega) _)
set_option maxHeartbeats 4000000 in
set_option maxRecDepth 100000 in
theorem Apply_badE (A A' : Option Addr) (n c m d B : Nat) (jobs : List Job) (rung : List Rung) (k j v t cl : Int) (w : World) (h : Sl w B 3 A n (jobs.map encJ)) (h' : Sl w B 3 A' m (rung.map encR)) (hB : B ≤ w.heap.size) (hgood : checkB ⟨jobs, rung⟩ = 0) (hbad : checkE ⟨k, j, v, t, cl⟩ ≠ 0) :
    Calls Tryz.prog 40 #[.agg #[.slice A n c,.slice A' m d],.agg #[.int .i64 k,.int .i64 j,.int .i64 v,.int .i64 t,.int .i64 cl]] w (BookPost w Book.none (checkE ⟨k,j,v,t,cl⟩)):=by
 have HG:=Lib.hid hgood
 clear hgood
 obtain ⟨r,hr⟩:∃ r,r=checkE ⟨k,j,v,t,cl⟩:=⟨_,rfl⟩
 rw [← hr] at hbad ⊢
 have hr0:(r !=0)=true:=by simpa using hbad
 have HR:=Lib.hid hr
 clear hbad hr
 go_enter Tryz.func40,Tryz.ntmps40
 go_wp2_with fail
 refine Calls.mono (BCheck_calls A A' n c m d B jobs rung _ (((h.alloc hB _).alloc (by simp;omega) _).alloc (by simp;omega) _) (((h'.alloc hB _).alloc (by simp;omega) _).alloc (by simp;omega) _) (by simp;omega)) ?_
 rintro e w1 ⟨rfl,hb1⟩
 rw [HG.out]
 obtain ⟨hc,hf⟩:=bcell hb1
 have hz:w.heap.size+2<w1.heap.size:=by have:=hb1.size;simp at this;omega
 have hza:w.heap.size+1<w1.heap.size:=by omega
 have hzb:w.heap.size<w1.heap.size:=by omega
 have hb0:Below w.heap.size w w1:=((((Below.refl _ _).alloc (Nat.le_refl _) _).alloc (by simp) _).alloc (by simp;omega) _).trans (hb1.mono (by simp;omega))
 clear h h'
 go_wp2_with fail
 refine Calls.mono (Check_calls _ _ _ _ _ _) ?_
 rintro e w2 ⟨rfl,hb2⟩
 rw [← HR.out]
 obtain ⟨hc2,hf2⟩:=bcell hb2
 have hz2:w.heap.size+2<w2.heap.size:=by have:=hb2.size;omega
 have hz2a:w.heap.size+1<w2.heap.size:=by omega
 have hz2b:w.heap.size<w2.heap.size:=by omega
 go_wp2
 refine bodyPost_ret (v:=.tuple #[.agg #[.slice none 0 0,.slice none 0 0],.int .i64 r]) (by simp [results,Tryz.results40,go_sem,hc,hc2,hz]) rfl ⟨none,0,0,none,0,0,rfl,Sl.nil,Sl.nil,?_,Fresh.none_ _,Fresh.none_ _,Nat.le_refl _,Nat.le_refl _⟩
 repeat (first | exact hb0.trans (hb2.mono (by omega)) | refine Below.setCell ?_ (by simp <;> omega) _)
set_option maxHeartbeats 4000000 in
set_option maxRecDepth 100000 in
theorem Apply_good (A A' : Option Addr) (n c m d B : Nat) (jobs : List Job) (rung : List Rung) (k j v t cl : Int) (w : World) (h : Sl w B 3 A n (jobs.map encJ)) (h' : Sl w B 3 A' m (rung.map encR)) (hB : B ≤ w.heap.size) (hgood : checkB ⟨jobs, rung⟩ = 0) (hgoodE : checkE ⟨k, j, v, t, cl⟩ = 0) :
    Calls Tryz.prog 40 #[.agg #[.slice A n c,.slice A' m d],.agg #[.int .i64 k,.int .i64 j,.int .i64 v,.int .i64 t,.int .i64 cl]] w (BookPost w (stepB ⟨jobs,rung⟩ ⟨k,j,v,t,cl⟩) 0):=by
 have HG:=Lib.hid hgood
 have HE:=Lib.hid hgoodE
 have hn:jobs.length=n:=by have:=h.len;simpa using this
 have hm:rung.length=m:=by have:=h'.len;simpa using this
 have hn6:n≤6:=by unfold checkB at hgood;simp only at hgood;(split at hgood <;> omega)
 have hm6:m≤60:=by unfold checkB at hgood;simp only at hgood;(split at hgood <;> omega)
 have HN:=Lib.hid hn;have HM:=Lib.hid hm
 clear hgood hgoodE hn hm
 go_enter Tryz.func40,Tryz.ntmps40
 go_wp2_with fail
 refine Calls.mono (BCheck_calls A A' n c m d B jobs rung _ (((h.alloc hB _).alloc (by simp;omega) _).alloc (by simp;omega) _) (((h'.alloc hB _).alloc (by simp;omega) _).alloc (by simp;omega) _) (by simp;omega)) ?_
 rintro e w1 ⟨rfl,hb1⟩
 rw [HG.out]
 obtain ⟨hc,hf⟩:=bcell hb1
 have hz:w.heap.size+2<w1.heap.size:=by have:=hb1.size;simp at this;omega
 have hza:w.heap.size+1<w1.heap.size:=by omega
 have hzb:w.heap.size<w1.heap.size:=by omega
 have hb0:Below w.heap.size w w1:=((((Below.refl _ _).alloc (Nat.le_refl _) _).alloc (by simp) _).alloc (by simp;omega) _).trans (hb1.mono (by simp;omega))
 go_wp2_with fail
 refine Calls.mono (Check_calls _ _ _ _ _ _) ?_
 rintro e w2 ⟨rfl,hb2⟩
 rw [HE.out]
 obtain ⟨hc2,hf2⟩:=bcell hb2
 have hz2:w.heap.size+2<w2.heap.size:=by have:=hb2.size;omega
 have hz2a:w.heap.size+1<w2.heap.size:=by omega
 have hz2b:w.heap.size<w2.heap.size:=by omega
 have hb02:Below w.heap.size w w2:=hb0.trans (hb2.mono (by omega))
 go_wp2_with fail
 refine Calls.mono (BCopy_calls A A' n c m d B jobs rung _ (h.under hB hb02) (h'.under hB hb02) (by omega) (by omega) (by omega)) ?_
 rintro e w3 ⟨A1,c1,A2,c2,rfl,hown1,hown2,hb3⟩
 have hz23:w2.heap.size≤w3.heap.size:=hb3.size
 have hz3:w.heap.size+2<w3.heap.size:=by omega
 have hz3a:w.heap.size+1<w3.heap.size:=by omega
 have hz3b:w.heap.size<w3.heap.size:=by omega
 have hb03:Below w.heap.size w w3:=hb02.trans (hb3.mono (by omega))
 obtain ⟨hc3,hf3⟩:=bcell hb3
 have cc:∀ b o,b<w.heap.size+3→w3.cell? ⟨b,o,none⟩=(((w.alloc (Obj.cells #[.slice A n c,.slice A' m d] 33)).alloc (Obj.cells #[.int .i64 k,.int .i64 j,.int .i64 v,.int .i64 t,.int .i64 cl] 46)).alloc (Obj.cells #[.slice none 0 0,.slice none 0 0] 33)).cell? ⟨b,o,none⟩:=fun b o h=>by rw [hc3 b o (by omega),hc2 b o (by omega),hc b o (by simp;omega)]
 have ff:∀ b o,b<w.heap.size+3→w3.frozen? ⟨b,o,none⟩=(((w.alloc (Obj.cells #[.slice A n c,.slice A' m d] 33)).alloc (Obj.cells #[.int .i64 k,.int .i64 j,.int .i64 v,.int .i64 t,.int .i64 cl] 46)).alloc (Obj.cells #[.slice none 0 0,.slice none 0 0] 33)).frozen? ⟨b,o,none⟩:=fun b o h=>by rw [hf3 b o (by omega),hf2 b o (by omega),hf b o (by simp;omega)]
 have q0:w3.cell? ⟨w.heap.size,0,none⟩=some (.slice A n c):=by rw [cc _ _ (by omega)];simp [go_sem]
 have q1:w3.cell? ⟨w.heap.size,1,none⟩=some (.slice A' m d):=by rw [cc _ _ (by omega)];simp [go_sem]
 have e0:w3.cell? ⟨w.heap.size+1,0,none⟩=some (.int .i64 k):=by rw [cc _ _ (by omega)];simp [go_sem]
 have e1:w3.cell? ⟨w.heap.size+1,1,none⟩=some (.int .i64 j):=by rw [cc _ _ (by omega)];simp [go_sem]
 have e2:w3.cell? ⟨w.heap.size+1,2,none⟩=some (.int .i64 v):=by rw [cc _ _ (by omega)];simp [go_sem]
 have e3:w3.cell? ⟨w.heap.size+1,3,none⟩=some (.int .i64 t):=by rw [cc _ _ (by omega)];simp [go_sem]
 have e4:w3.cell? ⟨w.heap.size+1,4,none⟩=some (.int .i64 cl):=by rw [cc _ _ (by omega)];simp [go_sem]
 have r0:w3.cell? ⟨w.heap.size+1+1,0,none⟩=some (.slice none 0 0):=by rw [cc _ _ (by omega)];simp [go_sem]
 have r1:w3.cell? ⟨w.heap.size+1+1,1,none⟩=some (.slice none 0 0):=by rw [cc _ _ (by omega)];simp [go_sem]
 have f0:w3.frozen? ⟨w.heap.size,0,none⟩=false:=by rw [ff _ _ (by omega)];simp [go_sem]
 have f1:w3.frozen? ⟨w.heap.size,1,none⟩=false:=by rw [ff _ _ (by omega)];simp [go_sem]
 have g0:w3.frozen? ⟨w.heap.size+1+1,0,none⟩=false:=by rw [ff _ _ (by omega)];simp [go_sem]
 have g1:w3.frozen? ⟨w.heap.size+1+1,1,none⟩=false:=by rw [ff _ _ (by omega)];simp [go_sem]
 clear hc hf hc2 hf2 hc3 hf3 cc ff h h' hz2a hz2b hz hza hzb hb0 hb02 hb1 hb2
 go_wp2_with fail
 have hB4:Below w.heap.size w ((w3.setCell ⟨w.heap.size,0,none⟩ (.slice A1 n c1)).setCell ⟨w.heap.size,1,none⟩ (.slice A2 m c2)):=(hb03.setCell (by simp) _).setCell (by simp) _
 have o1:=(hown1.setCell (p:=⟨w.heap.size,0,none⟩) (by simp only;omega) (.slice A1 n c1)).setCell (p:=⟨w.heap.size,1,none⟩) (by simp only;omega) (.slice A2 m c2)
 have o2:=(hown2.setCell (p:=⟨w.heap.size,0,none⟩) (by simp only;omega) (.slice A1 n c1)).setCell (p:=⟨w.heap.size,1,none⟩) (by simp only;omega) (.slice A2 m c2)
 generalize hw4:(w3.setCell ⟨w.heap.size,0,none⟩ (.slice A1 n c1)).setCell ⟨w.heap.size,1,none⟩ (.slice A2 m c2)=w4 at hB4 o1 o2 ⊢
 have q0':w4.cell? ⟨w.heap.size,0,none⟩=some (.slice A1 n c1):=by rw [← hw4];simp [go_sem,q0,q1,f0,f1]
 have q1':w4.cell? ⟨w.heap.size,1,none⟩=some (.slice A2 m c2):=by rw [← hw4];simp [go_sem,q0,q1,f0,f1]
 have e0':w4.cell? ⟨w.heap.size+1,0,none⟩=some (.int .i64 k):=by rw [← hw4];simp [go_sem,e0]
 have e1':w4.cell? ⟨w.heap.size+1,1,none⟩=some (.int .i64 j):=by rw [← hw4];simp [go_sem,e1]
 have e2':w4.cell? ⟨w.heap.size+1,2,none⟩=some (.int .i64 v):=by rw [← hw4];simp [go_sem,e2]
 have e3':w4.cell? ⟨w.heap.size+1,3,none⟩=some (.int .i64 t):=by rw [← hw4];simp [go_sem,e3]
 have e4':w4.cell? ⟨w.heap.size+1,4,none⟩=some (.int .i64 cl):=by rw [← hw4];simp [go_sem,e4]
 have r0':w4.cell? ⟨w.heap.size+1+1,0,none⟩=some (.slice none 0 0):=by rw [← hw4];simp [go_sem,r0]
 have r1':w4.cell? ⟨w.heap.size+1+1,1,none⟩=some (.slice none 0 0):=by rw [← hw4];simp [go_sem,r1]
 have f0':w4.frozen? ⟨w.heap.size,0,none⟩=false:=by rw [← hw4];simp [go_sem,f0]
 have f1':w4.frozen? ⟨w.heap.size,1,none⟩=false:=by rw [← hw4];simp [go_sem,f1]
 have g0':w4.frozen? ⟨w.heap.size+1+1,0,none⟩=false:=by rw [← hw4];simp [go_sem,g0]
 have g1':w4.frozen? ⟨w.heap.size+1+1,1,none⟩=false:=by rw [← hw4];simp [go_sem,g1]
 have hz4:w4.heap.size=w3.heap.size:=by rw [← hw4];simp
 clear q0 q1 e0 e1 e2 e3 e4 r0 r1 f0 f1 g0 g1 hw4 hb03 hb3 hown1 hown2
 refine Calls.mono (Find_calls A1 A2 n c1 m c2 _ _ jobs rung _ o1.sl (Nat.le_refl _) (by omega)) ?_
 rintro e w5 ⟨rfl,hb5⟩
 have hz25:w2.heap.size≤w5.heap.size:=by have:=hb5.size;omega
 have hz5:w.heap.size+1+1<w5.heap.size:=by omega
 have hz5a:w.heap.size+1<w5.heap.size:=by omega
 have hz5b:w.heap.size<w5.heap.size:=by omega
 have hB5:Below w.heap.size w w5:=hB4.trans (hb5.mono (by omega))
 have p1:=o1.below hb5
 have p2:=o2.below hb5
 have q0:=cellB hb5 q0';have q1:=cellB hb5 q1';have e0:=cellB hb5 e0';have e1:=cellB hb5 e1';have e2:=cellB hb5 e2';have e3:=cellB hb5 e3';have e4:=cellB hb5 e4'
 have r0:=cellB hb5 r0';have r1:=cellB hb5 r1'
 have f0:=frozB hb5 q0' f0';have f1:=frozB hb5 q1' f1';have g0:=frozB hb5 r0' g0';have g1:=frozB hb5 r1' g1'
 clear q0' q1' e0' e1' e2' e3' e4' r0' r1' f0' f1' g0' g1' o1 o2 hb5 hB4 hz4 hz3 hz3a hz3b
 have hk:k=0∨k=1∨k=2∨k=3:=by have:=HE.out;unfold checkE at this;simp only at this;(repeat' split at this) <;> omega
 obtain ⟨i,hi⟩:∃ i,i=findB ⟨jobs,rung⟩ j:=⟨_,rfl⟩
 rw [← hi]
 have HI:=Lib.hid hi
 clear hi
 rcases hk with rfl | rfl | rfl | rfl
 · have hs:stepB ⟨jobs,rung⟩ ⟨0,j,v,t,cl⟩=⟨jobs,rung⟩:=by simp [stepB]
   have HS:=Lib.hid hs
   clear hs
   go_wp2_with fail
   refine bodyPost_ret (v:=.tuple #[.agg #[.slice A1 n c1,.slice A2 m c2],.int .i64 0]) (by simp [results,Tryz.results40,go_sem,r0,r1,g0,g1]) rfl ?_
   rw [HS.out]
   exact ⟨A1,n,c1,A2,m,c2,rfl,by simpa using ((p1.setCell (by simp only;omega) _).setCell (by simp only;omega) _).sl,by simpa using ((p2.setCell (by simp only;omega) _).setCell (by simp only;omega) _).sl,(hB5.setCell (by simp only;omega) _).setCell (by simp only;omega) _,p1.fresh (by omega),p2.fresh (by omega),p1.le_cap,p2.le_cap⟩
 · by_cases h0:0≤i
   · have hs:stepB ⟨jobs,rung⟩ ⟨1,j,v,t,cl⟩=⟨jobs,rung⟩:=by simp [stepB,← HI.out,h0]
     have HS:=Lib.hid hs
     clear hs
     go_wp2_with fail
     refine bodyPost_ret (v:=.tuple #[.agg #[.slice A1 n c1,.slice A2 m c2],.int .i64 0]) (by simp [results,Tryz.results40,go_sem,r0,r1,g0,g1]) rfl ?_
     rw [HS.out]
     exact ⟨A1,n,c1,A2,m,c2,rfl,by simpa using ((p1.setCell (by simp only;omega) _).setCell (by simp only;omega) _).sl,by simpa using ((p2.setCell (by simp only;omega) _).setCell (by simp only;omega) _).sl,(hB5.setCell (by simp only;omega) _).setCell (by simp only;omega) _,p1.fresh (by omega),p2.fresh (by omega),p1.le_cap,p2.le_cap⟩
   · have hs:stepB ⟨jobs,rung⟩ ⟨1,j,v,t,cl⟩=⟨jobs.take (posJ jobs j) ++[⟨j,v,t⟩] ++jobs.drop (posJ jobs j),rung⟩:=by simp [stepB,← HI.out,h0]
     have HS:=Lib.hid hs
     clear hs
     have h0':i<0:=by omega
     go_wp2_with fail
     go_loopw [9] (fun s wr=>∃ a q:Nat,a≤n∧s=.int .i64 a∧wr=w5.drewN q∧Hid (∀ b y,b<a→jobs[b]?=some y→y.id<j)) (fun s _=>n - (intOf s).toNat)
     case atStart=>exact ⟨0,0,Nat.zero_le _,rfl,rfl,fun b y hb=>absurd hb (Nat.not_lt_zero _)⟩
     case round =>
      obtain ⟨a,q,ha,rfl,rfl,HJ⟩:=hrel
      have hex:(a<n∧∃ x,jobs[a]?=some x∧x.id<j)∨(a<n∧∃ x,jobs[a]?=some x∧¬ x.id<j)∨a=n:=by
       rcases Nat.lt_or_ge a n with h1 | h1
       · have hal:a<jobs.length:=by have:=HN.out;omega
         by_cases h2:jobs[a].id<j
         · exact .inl ⟨h1,_,List.getElem?_eq_getElem hal,h2⟩
         · exact .inr (.inl ⟨h1,_,List.getElem?_eq_getElem hal,h2⟩)
       · exact .inr (.inr (by omega))
      have hend:(∀ x,jobs[a]?=some x→¬ x.id<j)→posJ jobs j=a:=fun hx=>posJ_at HJ.out hx (by have:=HN.out;omega)
      have HEnd:=Lib.hid hend
      clear hend
      rcases hex with ⟨h1,x,hx,h2⟩ | ⟨h1,x,hx,h2⟩ | han
      · obtain ⟨b,off,x',rfl,hb,hx',c0,_,_⟩:=p1.sl.atJ h1
        obtain rfl:x=x':=by rw [hx] at hx';injection hx'
        have HX:=Lib.hid hx
        have h1':(a:Int)<(n:Int):=by omega
        clear hx hx'
        go_wp2_with fail
        go_quiet (fail)
        go_wp2
        go_roundw
        case measure=>simp [intOf];omega
        case rel =>
         refine ⟨a+1,q+nq,by omega,by go_num,by simp,fun b y hb hy=>?_⟩
         by_cases e:b=a
         · subst e
           have:=HX.out.symm.trans hy
           injection this with this
           subst this
           exact h2
         · exact HJ.out b y (by omega) hy
      · have hp:posJ jobs j=a:=HEnd.out (fun y hy=>by rw [hx] at hy;injection hy with hy;subst hy;exact h2)
        have HP:=Lib.hid hp
        obtain ⟨b,off,x',hA,hb,hx',c0,_,_⟩:=p1.sl.atJ h1
        obtain rfl:x=x':=by rw [hx] at hx';injection hx'
        subst hA
        have h1':(a:Int)<(n:Int):=by omega
        clear hx hx' hp
        go_wp2_with fail
        go_quiet (fail)
        go_wp2_with fail
        obtain ⟨AA,hAA⟩:∃ AA:Option Addr,AA=some ⟨b,off,none⟩:=⟨_,rfl⟩
        rw [← hAA] at p1 q0 ⊢
        have hn1:Value.ownBlock (.slice AA n c1)≠some w5.heap.size:=by
         intro e
         have:=(p1.1.lt _ e).2
         omega
        refine Calls.mono (Insert_calls w2.heap.size AA n c1 a w5.heap.size (jobs.map encJ) (.int .i64 j) (.int .i64 v) (.int .i64 t) _ ((p1.drewN _).alloc _) (encJ_one jobs) (by simp [Value.oneCell']) ha (by omega) (by simp;omega) (by exact hNew (by simp)) hn1) ?_
        rintro e w6 ⟨A6,c6,rfl,own6,grow6⟩
        have nb0:some w.heap.size≠Value.ownBlock (.slice AA n c1):=p1.notBelow (by omega)
        have nb1:some (w.heap.size+1)≠Value.ownBlock (.slice AA n c1):=p1.notBelow (by omega)
        have nb2:some (w.heap.size+1+1)≠Value.ownBlock (.slice AA n c1):=p1.notBelow (by omega)
        have hbW:Below w5.heap.size w5 ((w5.drewN (q+nq)).alloc (Obj.cells #[.int .i64 j,.int .i64 v,.int .i64 t] 82)):=(below_drewN (Below.refl _ _) _).alloc (Nat.le_refl _) _
        have q0':=grow_cell grow6 (cellB hbW q0) nb0
        have q1':=grow_cell grow6 (cellB hbW q1) nb0
        have f0':=grow_froz grow6 (cellB hbW q0) (frozB hbW q0 f0) nb0
        have r0':=grow_cell grow6 (cellB hbW r0) nb2
        have r1':=grow_cell grow6 (cellB hbW r1) nb2
        have g0':=grow_froz grow6 (cellB hbW r0) (frozB hbW r0 g0) nb2
        have g1':=grow_froz grow6 (cellB hbW r1) (frozB hbW r1 g1) nb2
        have own2:=((p2.drewN (q+nq)).alloc (.cells #[.int .i64 j,.int .i64 v,.int .i64 t] 82)).kept grow6 (p1.apart p2 (by decide))
        have hB6:Below w.heap.size w w6:=below_grown ((below_drewN hB5 _).alloc (by simp;omega) _) (by simp;omega) (by exact grow6) (fun g hg=>by have:=(p1.1.lt g hg).1;omega)
        have hz6:w.heap.size+1+1<w6.heap.size:=by have:=grow6.size;simp at this;omega
        have hz6a:w.heap.size+1<w6.heap.size:=by omega
        have hz6b:w.heap.size<w6.heap.size:=by omega
        clear q0 q1 f0 f1 r0 r1 g0 g1 e0 e1 e2 e3 e4 nb0 nb1 nb2 grow6 p1 p2
        go_wp2_with fail
        refine bodyPost_ret (v:=.tuple #[.agg #[.slice A6 (n+1) c6,.slice A2 m c2],.int .i64 0]) (by simp [results,Tryz.results40,go_sem,r0',r1',g0',g1']) rfl ?_
        rw [HS.out]
        refine ⟨A6,n+1,c6,A2,m,c2,rfl,?_,?_,?_,own6.fresh (by omega),own2.fresh (by omega),own6.le_cap,own2.le_cap⟩
        · have:=(((own6.setCell (p:=⟨w.heap.size,0,none⟩) (by simp only;omega) (.slice A6 (n+1) c6)).setCell (p:=⟨w.heap.size+1+1,0,none⟩) (by simp only;omega) (.slice A6 (n+1) c6)).setCell (p:=⟨w.heap.size+1+1,1,none⟩) (by simp only;omega) (.slice A2 m c2)).sl
          simpa [HP.out,encJ,List.map_take,List.map_drop] using this
        · have:=(((own2.setCell (p:=⟨w.heap.size,0,none⟩) (by simp only;omega) (.slice A6 (n+1) c6)).setCell (p:=⟨w.heap.size+1+1,0,none⟩) (by simp only;omega) (.slice A6 (n+1) c6)).setCell (p:=⟨w.heap.size+1+1,1,none⟩) (by simp only;omega) (.slice A2 m c2)).sl
          simpa using this
        · exact ((hB6.setCell (by simp) _).setCell (by simp only;omega) _).setCell (by simp only;omega) _
      · have hp:posJ jobs j=a:=HEnd.out (fun y hy=>by rw [List.getElem?_eq_none (by have:=HN.out;omega)] at hy;cases hy)
        have HP:=Lib.hid hp
        have hd:decide (a<n)=false:=by simp;omega
        clear hp han
        go_wp2_with fail
        go_quiet (fail)
        go_wp2_with fail
        have hn1:Value.ownBlock (.slice A1 n c1)≠some w5.heap.size:=by
         intro e
         have:=(p1.1.lt _ e).2
         omega
        refine Calls.mono (Insert_calls w2.heap.size A1 n c1 a w5.heap.size (jobs.map encJ) (.int .i64 j) (.int .i64 v) (.int .i64 t) _ ((p1.drewN _).alloc _) (encJ_one jobs) (by simp [Value.oneCell']) ha (by omega) (by simp;omega) (by exact hNew (by simp)) hn1) ?_
        rintro e w6 ⟨A6,c6,rfl,own6,grow6⟩
        have nb0:some w.heap.size≠Value.ownBlock (.slice A1 n c1):=p1.notBelow (by omega)
        have nb1:some (w.heap.size+1)≠Value.ownBlock (.slice A1 n c1):=p1.notBelow (by omega)
        have nb2:some (w.heap.size+1+1)≠Value.ownBlock (.slice A1 n c1):=p1.notBelow (by omega)
        have hbW:Below w5.heap.size w5 ((w5.drewN (q+nq)).alloc (Obj.cells #[.int .i64 j,.int .i64 v,.int .i64 t] 82)):=(below_drewN (Below.refl _ _) _).alloc (Nat.le_refl _) _
        have q0':=grow_cell grow6 (cellB hbW q0) nb0
        have q1':=grow_cell grow6 (cellB hbW q1) nb0
        have f0':=grow_froz grow6 (cellB hbW q0) (frozB hbW q0 f0) nb0
        have r0':=grow_cell grow6 (cellB hbW r0) nb2
        have r1':=grow_cell grow6 (cellB hbW r1) nb2
        have g0':=grow_froz grow6 (cellB hbW r0) (frozB hbW r0 g0) nb2
        have g1':=grow_froz grow6 (cellB hbW r1) (frozB hbW r1 g1) nb2
        have own2:=((p2.drewN (q+nq)).alloc (.cells #[.int .i64 j,.int .i64 v,.int .i64 t] 82)).kept grow6 (p1.apart p2 (by decide))
        have hB6:Below w.heap.size w w6:=below_grown ((below_drewN hB5 _).alloc (by simp;omega) _) (by simp;omega) (by exact grow6) (fun g hg=>by have:=(p1.1.lt g hg).1;omega)
        have hz6:w.heap.size+1+1<w6.heap.size:=by have:=grow6.size;simp at this;omega
        have hz6a:w.heap.size+1<w6.heap.size:=by omega
        have hz6b:w.heap.size<w6.heap.size:=by omega
        clear q0 q1 f0 f1 r0 r1 g0 g1 e0 e1 e2 e3 e4 nb0 nb1 nb2 grow6 p1 p2
        go_wp2_with fail
        refine bodyPost_ret (v:=.tuple #[.agg #[.slice A6 (n+1) c6,.slice A2 m c2],.int .i64 0]) (by simp [results,Tryz.results40,go_sem,r0',r1',g0',g1']) rfl ?_
        rw [HS.out]
        refine ⟨A6,n+1,c6,A2,m,c2,rfl,?_,?_,?_,own6.fresh (by omega),own2.fresh (by omega),own6.le_cap,own2.le_cap⟩
        · have:=(((own6.setCell (p:=⟨w.heap.size,0,none⟩) (by simp only;omega) (.slice A6 (n+1) c6)).setCell (p:=⟨w.heap.size+1+1,0,none⟩) (by simp only;omega) (.slice A6 (n+1) c6)).setCell (p:=⟨w.heap.size+1+1,1,none⟩) (by simp only;omega) (.slice A2 m c2)).sl
          simpa [HP.out,encJ,List.map_take,List.map_drop] using this
        · have:=(((own2.setCell (p:=⟨w.heap.size,0,none⟩) (by simp only;omega) (.slice A6 (n+1) c6)).setCell (p:=⟨w.heap.size+1+1,0,none⟩) (by simp only;omega) (.slice A6 (n+1) c6)).setCell (p:=⟨w.heap.size+1+1,1,none⟩) (by simp only;omega) (.slice A2 m c2)).sl
          simpa using this
        · exact ((hB6.setCell (by simp) _).setCell (by simp only;omega) _).setCell (by simp only;omega) _
 · by_cases h0:0≤i
   · obtain ⟨i',x,hii,hx,hpx⟩:=idxI_found (by rw [← findB_def,← HI.out];exact h0)
     have hi':i=(i':Int):=HI.out.trans hii
     subst hi'
     have hin:i'<n:=by have h1:i'<jobs.length:=(List.getElem?_eq_some_iff.1 hx).1;have:=HN.out;omega
     have hs:stepB ⟨jobs,rung⟩ ⟨2,j,v,t,cl⟩=⟨jobs.take i' ++jobs.drop (i'+1),rung⟩:=by simp [stepB,← HI.out]
     have HS:=Lib.hid hs
     clear hs hii hx hpx
     go_wp2_with fail
     refine Calls.mono (Delete_calls w2.heap.size A1 n c1 i' (jobs.map encJ) _ p1 (encJ_one jobs) hin (by omega)) ?_
     rintro e w6 ⟨rfl,own6,grow6⟩
     have nb0:some w.heap.size≠Value.ownBlock (.slice A1 n c1):=p1.notBelow (by omega)
     have nb2:some (w.heap.size+1+1)≠Value.ownBlock (.slice A1 n c1):=p1.notBelow (by omega)
     have q0':=grow_cell grow6 q0 nb0
     have q1':=grow_cell grow6 q1 nb0
     have f0':=grow_froz grow6 q0 f0 nb0
     have r0':=grow_cell grow6 r0 nb2
     have r1':=grow_cell grow6 r1 nb2
     have g0':=grow_froz grow6 r0 g0 nb2
     have g1':=grow_froz grow6 r1 g1 nb2
     have own2:=p2.kept grow6 (p1.apart p2 (by decide))
     have hB6:Below w.heap.size w w6:=below_grown hB5 (by omega) grow6 (fun g hg=>by have:=(p1.1.lt g hg).1;omega)
     have hz6:w.heap.size+1+1<w6.heap.size:=by have:=grow6.size;omega
     have hz6a:w.heap.size+1<w6.heap.size:=by omega
     have hz6b:w.heap.size<w6.heap.size:=by omega
     clear q0 q1 f0 f1 r0 r1 g0 g1 e0 e1 e2 e3 e4 nb0 nb2 grow6 p1 p2
     go_wp2_with fail
     refine bodyPost_ret (v:=.tuple #[.agg #[.slice A1 (n - 1) c1,.slice A2 m c2],.int .i64 0]) (by simp [results,Tryz.results40,go_sem,r0',r1',g0',g1']) rfl ?_
     rw [HS.out]
     refine ⟨A1,n - 1,c1,A2,m,c2,rfl,?_,?_,?_,own6.fresh (by omega),own2.fresh (by omega),own6.le_cap,own2.le_cap⟩
     · have:=(((own6.setCell (p:=⟨w.heap.size,0,none⟩) (by simp only;omega) (.slice A1 (n - 1) c1)).setCell (p:=⟨w.heap.size+1+1,0,none⟩) (by simp only;omega) (.slice A1 (n - 1) c1)).setCell (p:=⟨w.heap.size+1+1,1,none⟩) (by simp only;omega) (.slice A2 m c2)).sl
       simpa [List.map_take,List.map_drop] using this
     · have:=(((own2.setCell (p:=⟨w.heap.size,0,none⟩) (by simp only;omega) (.slice A1 (n - 1) c1)).setCell (p:=⟨w.heap.size+1+1,0,none⟩) (by simp only;omega) (.slice A1 (n - 1) c1)).setCell (p:=⟨w.heap.size+1+1,1,none⟩) (by simp only;omega) (.slice A2 m c2)).sl
       simpa using this
     · exact ((hB6.setCell (by simp) _).setCell (by simp only;omega) _).setCell (by simp only;omega) _
   · have hs:stepB ⟨jobs,rung⟩ ⟨2,j,v,t,cl⟩=⟨jobs,rung⟩:=by simp [stepB,← HI.out,h0]
     have HS:=Lib.hid hs
     clear hs
     have h0':i<0:=by omega
     go_wp2_with fail
     refine bodyPost_ret (v:=.tuple #[.agg #[.slice A1 n c1,.slice A2 m c2],.int .i64 0]) (by simp [results,Tryz.results40,go_sem,r0,r1,g0,g1]) rfl ?_
     rw [HS.out]
     exact ⟨A1,n,c1,A2,m,c2,rfl,by simpa using ((p1.setCell (by simp only;omega) _).setCell (by simp only;omega) _).sl,by simpa using ((p2.setCell (by simp only;omega) _).setCell (by simp only;omega) _).sl,(hB5.setCell (by simp only;omega) _).setCell (by simp only;omega) _,p1.fresh (by omega),p2.fresh (by omega),p1.le_cap,p2.le_cap⟩
 · by_cases h0:0≤i
   · obtain ⟨i',x,hii,hx,hpx⟩:=idxI_found (by rw [← findB_def,← HI.out];exact h0)
     have hi':i=(i':Int):=HI.out.trans hii
     subst hi'
     have hin:i'<n:=by have h1:i'<jobs.length:=(List.getElem?_eq_some_iff.1 hx).1;have:=HN.out;omega
     obtain ⟨b,off,x',hA,hb,hx',c0,cc1,cc2⟩:=p1.sl.atJ hin
     obtain rfl:x=x':=by rw [hx] at hx';injection hx'
     subst hA
     have hin':(i':Int)<(n:Int):=by omega
     have HX:=Lib.hid hx
     clear hx hx' hii hpx
     have hlr:rung.length=m:=HM.out
     have hfi:findB ⟨jobs,rung⟩ j=(i':Int):=HI.out.symm
     by_cases hfit:x.next=t∧m<60
     · obtain ⟨hnt,hm60⟩:=hfit
       subst hnt
       have hs:stepB ⟨jobs,rung⟩ ⟨3,j,v,x.next,cl⟩=⟨jobs.set i' ⟨x.id,x.every,x.next+x.every⟩,rung ++[⟨j,x.next,cl⟩]⟩:=by
        unfold stepB
        rw [if_neg (by simp),if_neg (by simp),if_pos rfl]
        simp only [hfi,Int.toNat_natCast,HX.out]
        rw [if_pos ⟨by omega,by simp,by omega⟩]
       have HS:=Lib.hid hs
       have HFi:=Lib.hid hfi
       have HL:=Lib.hid hlr
       clear hs hfi hlr
       have hm60':(m:Int)<60:=by omega
       have fz:w5.frozen? ⟨b,off+i'*3+2,none⟩=false:=by
        obtain ⟨g,cur,e,_,_,hh,_⟩:=p1.open_ (by omega)
        injection e with e;injection e with e1 e2 _
        subst e1
        simp [World.frozen?,hh]
       have hbd:¬ badJ x:=checkJs_mem (checkB_parts HG.out).2.2.1 (List.mem_of_getElem? HX.out)
       unfold badJ at hbd
       have hx0:0≤x.next:=by omega
       have hx1:x.next≤100100:=by omega
       have hx2:1≤x.every:=by omega
       have hx3:x.every≤100:=by omega
       clear hbd
       go_wp2_with fail
       go_quiet (fail)
       go_wp2_with fail
       have hw1:IntKind.i64.wrap (x.next+x.every)=x.next+x.every:=by rw [IntKind.wrap_i64];omega
       have q0':(w5.drewN nq).cell? ⟨w.heap.size,0,none⟩=some (.slice (some ⟨b,off,none⟩) n c1):=q0
       have cc1':(w5.drewN nq).cell? ⟨b,off+i'*3+1,none⟩=some (.int .i64 x.every):=cc1
       have cc2':(w5.drewN nq).cell? ⟨b,off+i'*3+2,none⟩=some (.int .i64 x.next):=cc2
       have fz':(w5.drewN nq).frozen? ⟨b,off+i'*3+2,none⟩=false:=fz
       generalize hW:w5.drewN nq=W at q0' cc1' cc2' fz' ⊢
       go_region
       have hc1:=p1.le_cap
       have hbig:w2.heap.size≤b:=by
        obtain ⟨g,cur,e,hg,_⟩:=p1.open_ (by omega)
        injection e with e;injection e with e1 _ _
        omega
       have hgr:w5.grownBy (W.setCell ⟨b,off+i'*3+2,none⟩ (.int .i64 (x.next+x.every))).drew (some b):=by
        rw [← hW]
        exact ⟨rfl,rfl,rfl,by simp,fun k _ hk=>Below.heap_setCell (w5.drewN nq) _ _ k (fun e=>hk (by rw [e]))⟩
       have slj:Sl (W.setCell ⟨b,off+i'*3+2,none⟩ (.int .i64 (x.next+x.every))).drew w5.heap.size 3 (some ⟨b,off,none⟩) n ((jobs.set i' ⟨x.id,x.every,x.next+x.every⟩).map encJ):=by
        rw [← hW]
        exact (((p1.sl.drewN nq).setNext hin HX.out _).drew)
       have own2:=p2.kept hgr (p1.apart p2 (by decide))
       have nb:∀ z,z<w.heap.size+3→some z≠some b:=fun z hz e=>by injection e with e;omega
       have hB7:Below w.heap.size w (W.setCell ⟨b,off+i'*3+2,none⟩ (.int .i64 (x.next+x.every))).drew:=below_grown hB5 (by omega) hgr (fun g hg=>by injection hg with hg;omega)
       have Q0:=grow_cell hgr q0 (nb _ (by simp only;omega));have Q1:=grow_cell hgr q1 (nb _ (by simp only;omega))
       have E1:=grow_cell hgr e1 (nb _ (by simp only;omega));have E3:=grow_cell hgr e3 (nb _ (by simp only;omega));have E4:=grow_cell hgr e4 (nb _ (by simp only;omega))
       have R0:=grow_cell hgr r0 (nb _ (by simp only;omega));have R1:=grow_cell hgr r1 (nb _ (by simp only;omega))
       have F1:=grow_froz hgr q1 f1 (nb _ (by simp only;omega))
       have G0:=grow_froz hgr r0 g0 (nb _ (by simp only;omega));have G1:=grow_froz hgr r1 g1 (nb _ (by simp only;omega))
       have hz7:w.heap.size+1+1<(W.setCell ⟨b,off+i'*3+2,none⟩ (.int .i64 (x.next+x.every))).drew.heap.size:=by have:=hgr.size;omega
       have hbz:b<(W.setCell ⟨b,off+i'*3+2,none⟩ (.int .i64 (x.next+x.every))).drew.heap.size:=by have:=hgr.size;omega
       have hA2b:Value.ownBlock (.slice A2 m c2)≠some b:=by
        rcases p1.apart p2 (by decide) with h | h
        · rw [h];simp
        · exact h
       generalize (W.setCell ⟨b,off+i'*3+2,none⟩ (.int .i64 (x.next+x.every))).drew=w7 at hgr slj own2 hB7 Q0 Q1 E1 E3 E4 R0 R1 F1 G0 G1 hz7 hbz ⊢
       have hz7a:w.heap.size+1<w7.heap.size:=by omega
       have hz7b:w.heap.size<w7.heap.size:=by omega
       have hz27:w2.heap.size≤w7.heap.size:=by have:=hgr.size;omega
       have h57:w5.heap.size≤w7.heap.size:=hgr.size
       obtain ⟨i0,hi0,hzz0,hzz1,hzz2⟩:=info_parts infoR
       have HI0:=Lib.hid hi0;have HZ0:=Lib.hid hzz0;have HZ1:=Lib.hid hzz1;have HZ2:=Lib.hid hzz2
       clear hi0 hzz0 hzz1 hzz2 hw1 q0' cc1' cc2' fz' hW q0 q1 e0 e1 e2 e3 e4 r0 r1 f0 f1 g0 g1 c0 cc1 cc2 fz p1 p2 nb hgr hB5
       have hnew:Sl (w7.alloc (Obj.cells #[.int .i64 j,.int .i64 x.next,.int .i64 cl] 85)) (w7.heap.size+1) 3 (some ⟨w7.heap.size,0,none⟩) 1 [encR ⟨j,x.next,cl⟩]:=by
        refine ⟨rfl,by simp [encR],fun _=>⟨w7.heap.size,0,rfl,by omega,fun i j' r u hr hu=>?_⟩⟩
        match i,hr with
        | 0,hr =>
          simp at hr
          subst hr
          rw [cell_of_row _ w7.heap.size _ _ _ _ (hNew rfl)]
          simpa [encR] using hu
       go_wp2_with (at_builtin;refine wpList_append_sl _ rfl (.tmp 113) (.tmp 121) 31 rfl w2.heap.size 85 i0 _ 3 24 Tryz.underlying31 HI0.out HZ0.out HZ1.out HZ2.out rfl (by decide) (.slice A2 m c2) m (rung.map encR) rfl (own2.alloc _) (w7.heap.size+1) (some ⟨w7.heap.size,0,none⟩) 1 1 [encR ⟨j,x.next,cl⟩] rfl hnew (by simp [encR,Value.oneCell']) (by unfold maxLen;omega) (by omega) (by simp;omega) ?_)
       intro v8 w8 own8 grow8 hv8
       obtain ⟨A8,c8,rfl,_,_⟩:=own8.slice
       have nr:∀ z,z<w2.heap.size→some z≠Value.ownBlock (.slice A2 m c2):=fun z hz=>own2.notBelow hz
       have hbA:Below w7.heap.size w7 (w7.alloc (Obj.cells #[.int .i64 j,.int .i64 x.next,.int .i64 cl] 85)):=(Below.refl _ _).alloc (Nat.le_refl _) _
       have q0:=grow_cell grow8 (cellB hbA Q0) (nr _ (by simp only;omega));have q1:=grow_cell grow8 (cellB hbA Q1) (nr _ (by simp only;omega))
       have r0:=grow_cell grow8 (cellB hbA R0) (nr _ (by simp only;omega));have r1:=grow_cell grow8 (cellB hbA R1) (nr _ (by simp only;omega))
       have f1:=grow_froz grow8 (cellB hbA Q1) (frozB hbA Q1 F1) (nr _ (by simp only;omega))
       have g0:=grow_froz grow8 (cellB hbA R0) (frozB hbA R0 G0) (nr _ (by simp only;omega));have g1:=grow_froz grow8 (cellB hbA R1) (frozB hbA R1 G1) (nr _ (by simp only;omega))
       have slj8:Sl w8 w5.heap.size 3 (some ⟨b,off,none⟩) n ((jobs.set i' ⟨x.id,x.every,x.next+x.every⟩).map encJ):=(slj.alloc h57 _).grow grow8 (Ne.symm hA2b) (by simp;omega)
       have hB8:Below w.heap.size w w8:=below_grown (hB7.alloc (by omega) _) (by simp;omega) grow8 (fun g hg=>by have:=(own2.1.lt g hg).1;omega)
       have hz8:w.heap.size+1+1<w8.heap.size:=by have:=grow8.size;simp at this;omega
       have hz8a:w.heap.size+1<w8.heap.size:=by omega
       have hz8b:w.heap.size<w8.heap.size:=by omega
       have h58:w5.heap.size≤w8.heap.size:=by have:=grow8.size;simp at this;omega
       clear Q0 Q1 E1 E3 E4 R0 R1 F1 G0 G1 slj own2 grow8 hbA nr hnew hv8 hA2b hB7
       go_wp2_with fail
       refine bodyPost_ret (v:=.tuple #[.agg #[.slice (some ⟨b,off,none⟩) n c1,.slice A8 (m+1) c8],.int .i64 0]) (by simp [results,Tryz.results40,go_sem,r0,r1,g0,g1]) rfl ?_
       rw [HS.out]
       refine ⟨_,n,c1,A8,m+1,c8,rfl,?_,?_,?_,fun a e=>by injection e with e;subst e;simp only;omega,own8.fresh (by omega),hc1,own8.le_cap⟩
       · exact ((((slj8.more h58).setOff (by simp only;omega) _).setOff (by simp only;omega) _).setOff (by simp only;omega) _).more (by simp)
       · have:=(((own8.setCell (p:=⟨w.heap.size,1,none⟩) (by simp only;omega) (.slice A8 (m+1) c8)).setCell (p:=⟨w.heap.size+1+1,0,none⟩) (by simp only;omega) (.slice (some ⟨b,off,none⟩) n c1)).setCell (p:=⟨w.heap.size+1+1,1,none⟩) (by simp only;omega) (.slice A8 (m+1) c8)).sl
         simpa using this
       · exact ((hB8.setCell (by simp) _).setCell (by simp only;omega) _).setCell (by simp only;omega) _
     · have hs:stepB ⟨jobs,rung⟩ ⟨3,j,v,t,cl⟩=⟨jobs,rung⟩:=by
        unfold stepB
        rw [if_neg (by simp),if_neg (by simp),if_pos rfl]
        simp only [hfi,Int.toNat_natCast,HX.out]
        rw [if_neg (fun h=>hfit ⟨h.2.1,by rw [← hlr];exact h.2.2⟩)]
       have HS:=Lib.hid hs
       have HF:=Lib.hid hfit
       have HFi:=Lib.hid hfi
       clear hs hfit hfi hlr
       by_cases hnt:x.next=t
       · have hm60:¬ m<60:=fun h=>HF.out ⟨hnt,h⟩
         have hm60':decide ((m:Int)<60)=false:=by simp;omega
         subst hnt
         go_wp2_with fail
         go_quiet (fail)
         go_wp2_with fail
         refine bodyPost_ret (v:=.tuple #[.agg #[.slice (some ⟨b,off,none⟩) n c1,.slice A2 m c2],.int .i64 0]) (by simp [results,Tryz.results40,go_sem,r0,r1,g0,g1]) rfl ?_
         rw [HS.out]
         exact ⟨_,n,c1,A2,m,c2,rfl,by simpa using (((p1.drewN _).setCell (by simp only;omega) _).setCell (by simp only;omega) _).sl,by simpa using (((p2.drewN _).setCell (by simp only;omega) _).setCell (by simp only;omega) _).sl,((below_drewN hB5 _).setCell (by simp only;omega) _).setCell (by simp only;omega) _,p1.fresh (by omega),p2.fresh (by omega),p1.le_cap,p2.le_cap⟩
       · have hnt':(x.next ==t)=false:=by simpa using hnt
         clear hnt
         go_wp2_with fail
         go_quiet (fail)
         go_wp2_with fail
         refine bodyPost_ret (v:=.tuple #[.agg #[.slice (some ⟨b,off,none⟩) n c1,.slice A2 m c2],.int .i64 0]) (by simp [results,Tryz.results40,go_sem,r0,r1,g0,g1]) rfl ?_
         rw [HS.out]
         exact ⟨_,n,c1,A2,m,c2,rfl,by simpa using (((p1.drewN _).setCell (by simp only;omega) _).setCell (by simp only;omega) _).sl,by simpa using (((p2.drewN _).setCell (by simp only;omega) _).setCell (by simp only;omega) _).sl,((below_drewN hB5 _).setCell (by simp only;omega) _).setCell (by simp only;omega) _,p1.fresh (by omega),p2.fresh (by omega),p1.le_cap,p2.le_cap⟩
   · have hs:stepB ⟨jobs,rung⟩ ⟨3,j,v,t,cl⟩=⟨jobs,rung⟩:=by
      have h0':¬ 0≤findB ⟨jobs,rung⟩ j:=by rw [← HI.out];exact h0
      unfold stepB
      rw [if_neg (by simp),if_neg (by simp),if_pos rfl]
      split
      · rw [if_neg (fun h=>h0' h.1)]
      · rfl
     have HS:=Lib.hid hs
     clear hs
     have h0':i<0:=by omega
     have hd:decide (0≤i)=false:=by simp;omega
     go_wp2_with fail
     go_quiet (fail)
     go_wp2_with fail
     refine bodyPost_ret (v:=.tuple #[.agg #[.slice A1 n c1,.slice A2 m c2],.int .i64 0]) (by simp [results,Tryz.results40,go_sem,r0,r1,g0,g1]) rfl ?_
     rw [HS.out]
     exact ⟨A1,n,c1,A2,m,c2,rfl,by simpa using (((p1.drewN _).setCell (by simp only;omega) _).setCell (by simp only;omega) _).sl,by simpa using (((p2.drewN _).setCell (by simp only;omega) _).setCell (by simp only;omega) _).sl,((below_drewN hB5 _).setCell (by simp only;omega) _).setCell (by simp only;omega) _,p1.fresh (by omega),p2.fresh (by omega),p1.le_cap,p2.le_cap⟩
theorem Apply_calls (A A' : Option Addr) (n c m d B : Nat) (b : Book) (k j v t cl : Int) (w : World) (h : Sl w B 3 A n (b.jobs.map encJ)) (h' : Sl w B 3 A' m (b.rung.map encR)) (hB : B ≤ w.heap.size) :
    Calls Tryz.prog 40 #[.agg #[.slice A n c,.slice A' m d],.agg #[.int .i64 k,.int .i64 j,.int .i64 v,.int .i64 t,.int .i64 cl]] w (BookPost w (applyB b ⟨k,j,v,t,cl⟩).1 (applyB b ⟨k,j,v,t,cl⟩).2):=by
 obtain ⟨jobs,rung⟩:=b
 unfold applyB
 by_cases h1:checkB ⟨jobs,rung⟩=0
 · by_cases h2:checkE ⟨k,j,v,t,cl⟩=0
   · rw [if_neg (by simp [h1]),if_neg (by simp [h2])]
     exact Apply_good A A' n c m d B jobs rung k j v t cl w h h' hB h1 h2
   · rw [if_neg (by simp [h1]),if_pos h2]
     exact Apply_badE A A' n c m d B jobs rung k j v t cl w h h' hB h1 h2
 · rw [if_pos h1]
   exact Apply_badB A A' n c m d B jobs rung k j v t cl w h h' hB h1
end
section
open Go.RowKit
theorem bx1 (w:World) (x:Obj) (cs:Array Value) (t:TypeId):Bx ((w.alloc x).alloc (.cells cs t)) (w.heap.size+1) cs.toList:=by
 have:=Bx.made (w.alloc x) cs t
 simpa using this
section
variable {P:Program} {c:Code} {Q:Exit→Act→World→Prop} {a:Act} {w:World} {k1 k2 k3:Array Value} {T1 T2 T3:TypeId} {v1 v2 v3:List Value}
theorem wp_box1 (e1:k1.toList=v1) (h:∀ w1,Onto w w1→Bx w1 w.heap.size v1→c.wp P Q a w1):c.wp P Q a (w.alloc (.cells k1 T1)):=by
 subst e1
 exact h _ ((Onto.rfl' w).new _) (Bx.made _ _ _)
theorem wp_box2 (e1:k1.toList=v1) (e2:k2.toList=v2) (h:∀ w1,Onto w w1→Bx w1 w.heap.size v1→Bx w1 (w.heap.size+1) v2→c.wp P Q a w1):c.wp P Q a ((w.alloc (.cells k1 T1)).alloc (.cells k2 T2)):=by
 subst e1 e2
 exact h _ (((Onto.rfl' w).new _).new _) ((Bx.made _ _ _).new _) (bx1 _ _ _ _)
theorem wp_box3 (e1:k1.toList=v1) (e2:k2.toList=v2) (e3:k3.toList=v3) (h:∀ w1,Onto w w1→Bx w1 w.heap.size v1→Bx w1 (w.heap.size+1) v2→Bx w1 (w.heap.size+1+1) v3→c.wp P Q a w1):c.wp P Q a (((w.alloc (.cells k1 T1)).alloc (.cells k2 T2)).alloc (.cells k3 T3)):=by
 subst e1 e2 e3
 refine h _ ((((Onto.rfl' w).new _).new _).new _) (((Bx.made _ _ _).new _).new _) ((bx1 _ _ _ _).new _) ?_
 have:=bx1 (w.alloc (.cells k1 T1)) (.cells k2 T2) k3 T3
 simpa using this
end
end
end Go.Proofs.YtidlffepdcldkaaGreatDoor
