/- Part 12. -/
import Derived.Test.YtpfkagghooihfaaGreatDoorBa09
import Derived.Test.YtpfkagghooihfaaGreatDoorBa10
namespace Go.Proofs.YtpfkagghooihfaaGreatDoor
set_option linter.unusedSimpArgs false
set_option linter.unusedVariables false
set_option maxHeartbeats 4000000
set_option maxRecDepth 100000
open Go.Proofs.Tryz
section
open Go.RowKit
def mJ (w:World)(b:cW)(err:Int)(e:Ending)(w':World):Prop :=
 ∃A n c A' m d,e=.returned (.tuple #[.agg #[.slice A n c,.slice A' m d],err])∧Sl w' w'.heap.size 3 A n (b.jobs.map bX)∧Sl w' w'.heap.size 3 A' m (b.rung.map dN)∧Below w.heap.size w w'∧aR w.heap.size A∧aR w.heap.size A'∧n≤c∧m≤d
theorem Sl.setNext {w : World}{B n b off i : Nat}{l : List dB}{x : dB}(h : Sl w B 3 (some ⟨b, off, none⟩) n (l.map bX))(hi : i < n)(hx : l[i]? = some x)(z : Int) :
    Sl (w.setCell ⟨b,off+i*3+2,none⟩ (.int .i64 z)) B 3 (some ⟨b,off,none⟩) n ((l.set i ⟨x.id,x.every,z⟩).map bX):=by
 have hl:l.length=n:=by have:=h.1;simpa using this
 refine⟨by simpa using hl,by
  intro r hr;obtain⟨y,_,rfl⟩:=List.mem_map.1 hr
  rfl,fun hn=>?_⟩
 obtain⟨b',off',e,hb,hc⟩:=h.2.2 hn;injection e with e;injection e with e1 e2 _;subst e1;subst e2;refine⟨b,off,rfl,hb,fun i0 j r u hr hu=>?_⟩;rw[List.getElem?_map,List.getElem?_set]at hr;by_cases e:i=i0
 · subst e;have hil:i<l.length:=by omega
   simp only[hil,if_true,Option.map_some,Option.some.injEq]at hr;subst hr;have hold:=hc i j (bX x)
   match j,hu with
   |0,hu =>
     simp[bX]at hu;rw[World.cell?_setCell_other w _ _ _ (by simp)];subst hu;exact hold _ (by simp[hx]) rfl
   |1,hu =>
     simp[bX]at hu;rw[World.cell?_setCell_other w _ _ _ (by simp)];subst hu;exact hold _ (by simp[hx]) rfl
   |2,hu =>
     simp[bX]at hu;subst hu;exact World.cell?_setCell_same w _ _ (hold _ (by simp[hx]) rfl)
 rw[if_neg e]at hr
 have hj:j<3:=by
  cases hy:l[i0]? with
  |none=>rw[hy]at hr;simp at hr
  |some y =>
    rw[hy]at hr;simp at hr;subst hr;have:=(List.getElem?_eq_some_iff.1 hu).1;simpa[bX]using this
 rw[World.cell?_setCell_other w _ _ _ (by intro h;injection h with _ h _;omega)];exact hc i0 j r u (by rw[List.getElem?_map];exact hr) hu
theorem FZ (A A' : Option Addr)(n c m d B : Nat)(jobs : List dB)(rung : List iO)(k j v t cl : Int)(w : World)(h : Sl w B 3 A n (jobs.map bX))(h' : Sl w B 3 A' m (rung.map dN))(hB : B ≤ w.heap.size)(hbad : cF ⟨jobs, rung⟩ ≠ 0) :
    Calls prog 131 #[.agg #[.slice A n c,.slice A' m d],.agg #[k,j,v,t,cl]] w (mJ w cW.none (cF ⟨jobs,rung⟩)):=by
 obtain⟨r,hr⟩:∃r,r=cF ⟨jobs,rung⟩:=⟨_,rfl⟩
 rw[←hr]at hbad⊢;have hr0:(r !=0)=true:=by simpa using hbad
 have HR:=aH hr;clear hbad hr;go_enter func131,ntmps131;go_wp2_with fail;refine Calls.mono (gY A A' n c m d B jobs rung _ (((h.alloc hB _).alloc (by simp;omega) _).alloc (by simp;omega) _) (((h'.alloc hB _).alloc (by simp;omega) _).alloc (by simp;omega) _) (by simp;omega)) ?_;rintro e w1⟨rfl,hb1⟩;rw[←HR.out];obtain⟨hc,hf⟩:=yW hb1;have hz:w.heap.size+2<w1.heap.size:=by have:=hb1.size;simp at this;omega
 have hza:w.heap.size+1<w1.heap.size:=by omega
 have hzb:w.heap.size<w1.heap.size:=by omega
 clear h h';go_wp2;have hb0:Below w.heap.size w w1:=((((Below.refl _ _).alloc (Nat.le_refl _) _).alloc (by simp) _).alloc (by simp;omega) _).trans (hb1.mono (by simp;omega));refine bodyPost_ret (v:=.tuple #[.agg #[Nat,Nat],r]) (by simp[results,results131,go_sem,hc]) rfl ⟨none,0,0,none,0,0,rfl,Sl.nil,Sl.nil,?_,aR.Zp _,aR.Zp _,Nat.le_refl _,Nat.le_refl _⟩
 repeat(first|exact hb0|refine Below.setCell ?_ (by simp<;>omega) _)
theorem FU (A A' : Option Addr)(n c m d B : Nat)(jobs : List dB)(rung : List iO)(k j v t cl : Int)(w : World)(h : Sl w B 3 A n (jobs.map bX))(h' : Sl w B 3 A' m (rung.map dN))(hB : B ≤ w.heap.size)(hgood : cF ⟨jobs, rung⟩ = 0)(hbad : aG ⟨k, j, v, t, cl⟩ ≠ 0) :
    Calls prog 131 #[.agg #[.slice A n c,.slice A' m d],.agg #[k,j,v,t,cl]] w (mJ w cW.none (aG ⟨k,j,v,t,cl⟩)):=by
 have HG:=aH hgood;clear hgood;obtain⟨r,hr⟩:∃r,r=aG ⟨k,j,v,t,cl⟩:=⟨_,rfl⟩
 rw[←hr]at hbad⊢;have hr0:(r !=0)=true:=by simpa using hbad
 have HR:=aH hr;clear hbad hr;go_enter func131,ntmps131;go_wp2_with fail;refine Calls.mono (gY A A' n c m d B jobs rung _ (((h.alloc hB _).alloc (by simp;omega) _).alloc (by simp;omega) _) (((h'.alloc hB _).alloc (by simp;omega) _).alloc (by simp;omega) _) (by simp;omega)) ?_;rintro e w1⟨rfl,hb1⟩;rw[HG.out];obtain⟨hc,hf⟩:=yW hb1;have hz:w.heap.size+2<w1.heap.size:=by have:=hb1.size;simp at this;omega
 have hza:w.heap.size+1<w1.heap.size:=by omega
 have hzb:w.heap.size<w1.heap.size:=by omega
 have hb0:Below w.heap.size w w1:=((((Below.refl _ _).alloc (Nat.le_refl _) _).alloc (by simp) _).alloc (by simp;omega) _).trans (hb1.mono (by simp;omega));clear h h';go_wp2_with fail;refine Calls.mono (dG _ _ _ _ _ _) ?_;rintro e w2⟨rfl,hb2⟩;rw[←HR.out];obtain⟨hc2,hf2⟩:=yW hb2;have hz2:w.heap.size+2<w2.heap.size:=by have:=hb2.size;omega
 have hz2a:w.heap.size+1<w2.heap.size:=by omega
 have hz2b:w.heap.size<w2.heap.size:=by omega
 go_wp2;refine bodyPost_ret (v:=.tuple #[.agg #[Nat,Nat],r]) (by simp[results,results131,go_sem,hc,hc2,hz]) rfl ⟨none,0,0,none,0,0,rfl,Sl.nil,Sl.nil,?_,aR.Zp _,aR.Zp _,Nat.le_refl _,Nat.le_refl _⟩
 repeat(first|exact hb0.trans (hb2.mono (by omega))|refine Below.setCell ?_ (by simp<;>omega) _)
theorem ID (A A' : Option Addr)(n c m d B : Nat)(jobs : List dB)(rung : List iO)(k j v t cl : Int)(w : World)(h : Sl w B 3 A n (jobs.map bX))(h' : Sl w B 3 A' m (rung.map dN))(hB : B ≤ w.heap.size)(hgood : cF ⟨jobs, rung⟩ = 0)(hgoodE : aG ⟨k, j, v, t, cl⟩ = 0) :
    Calls prog 131 #[.agg #[.slice A n c,.slice A' m d],.agg #[k,j,v,t,cl]] w (mJ w (hD ⟨jobs,rung⟩ ⟨k,j,v,t,cl⟩) 0):=by
 have HG:=aH hgood;have HE:=aH hgoodE;have hn:jobs.length=n:=by have:=h.len;simpa using this
 have hm:rung.length=m:=by have:=h'.len;simpa using this
 have hn6:n≤6:=by unfold cF at hgood;simp only at hgood;(split at hgood<;>omega)
 have hm6:m≤60:=by unfold cF at hgood;simp only at hgood;(split at hgood<;>omega)
 have HN:=aH hn;have HM:=aH hm;clear hgood hgoodE hn hm;go_enter func131,ntmps131;go_wp2_with fail;refine Calls.mono (gY A A' n c m d B jobs rung _ (((h.alloc hB _).alloc (by simp;omega) _).alloc (by simp;omega) _) (((h'.alloc hB _).alloc (by simp;omega) _).alloc (by simp;omega) _) (by simp;omega)) ?_;rintro e w1⟨rfl,hb1⟩;rw[HG.out];obtain⟨hc,hf⟩:=yW hb1;have hz:w.heap.size+2<w1.heap.size:=by have:=hb1.size;simp at this;omega
 have hza:w.heap.size+1<w1.heap.size:=by omega
 have hzb:w.heap.size<w1.heap.size:=by omega
 have hb0:Below w.heap.size w w1:=((((Below.refl _ _).alloc (Nat.le_refl _) _).alloc (by simp) _).alloc (by simp;omega) _).trans (hb1.mono (by simp;omega));go_wp2_with fail;refine Calls.mono (dG _ _ _ _ _ _) ?_;rintro e w2⟨rfl,hb2⟩;rw[HE.out];obtain⟨hc2,hf2⟩:=yW hb2;have hz2:w.heap.size+2<w2.heap.size:=by have:=hb2.size;omega
 have hz2a:w.heap.size+1<w2.heap.size:=by omega
 have hz2b:w.heap.size<w2.heap.size:=by omega
 have hb02:Below w.heap.size w w2:=hb0.trans (hb2.mono (by omega));go_wp2_with fail;refine Calls.mono (tX A A' n c m d B jobs rung _ (h.under hB hb02) (h'.under hB hb02) (by omega) (by omega) (by omega)) ?_;rintro e w3⟨A1,c1,A2,c2,rfl,hown1,hown2,hb3⟩;have hz23:w2.heap.size≤w3.heap.size:=hb3.size;have hz3:w.heap.size+2<w3.heap.size:=by omega
 have hz3a:w.heap.size+1<w3.heap.size:=by omega
 have hz3b:w.heap.size<w3.heap.size:=by omega
 have hb03:Below w.heap.size w w3:=hb02.trans (hb3.mono (by omega));obtain⟨hc3,hf3⟩:=yW hb3;have cc:∀b o,b<w.heap.size+3→w3.cell? ⟨b,o,none⟩=(((w.alloc (Obj.cells #[.slice A n c,.slice A' m d] 66)).alloc (Obj.cells #[k,j,v,t,cl] 27)).alloc (Obj.cells #[Nat,Nat] 66)).cell? ⟨b,o,none⟩:=fun b o h=>by rw[hc3 b o (by omega),hc2 b o (by omega),hc b o (by simp;omega)]
 have ff:∀b o,b<w.heap.size+3→w3.frozen? ⟨b,o,none⟩=(((w.alloc (Obj.cells #[.slice A n c,.slice A' m d] 66)).alloc (Obj.cells #[k,j,v,t,cl] 27)).alloc (Obj.cells #[Nat,Nat] 66)).frozen? ⟨b,o,none⟩:=fun b o h=>by rw[hf3 b o (by omega),hf2 b o (by omega),hf b o (by simp;omega)]
 have q0:w3.cell? ⟨w.heap.size,0,none⟩=some (.slice A n c):=by rw[cc _ _ (by omega)];simp[go_sem]
 have q1:w3.cell? ⟨w.heap.size,1,none⟩=some (.slice A' m d):=by rw[cc _ _ (by omega)];simp[go_sem]
 have e0:w3.cell? ⟨w.heap.size+1,0,none⟩=some (.int .i64 k):=by rw[cc _ _ (by omega)];simp[go_sem]
 have e1:w3.cell? ⟨w.heap.size+1,1,none⟩=some (.int .i64 j):=by rw[cc _ _ (by omega)];simp[go_sem]
 have e2:w3.cell? ⟨w.heap.size+1,2,none⟩=some (.int .i64 v):=by rw[cc _ _ (by omega)];simp[go_sem]
 have e3:w3.cell? ⟨w.heap.size+1,3,none⟩=some (.int .i64 t):=by rw[cc _ _ (by omega)];simp[go_sem]
 have e4:w3.cell? ⟨w.heap.size+1,4,none⟩=some (.int .i64 cl):=by rw[cc _ _ (by omega)];simp[go_sem]
 have r0:w3.cell? ⟨w.heap.size+1+1,0,none⟩=some (.slice none 0 0):=by rw[cc _ _ (by omega)];simp[go_sem]
 have r1:w3.cell? ⟨w.heap.size+1+1,1,none⟩=some (.slice none 0 0):=by rw[cc _ _ (by omega)];simp[go_sem]
 have f0:w3.frozen? ⟨w.heap.size,0,none⟩=false:=by rw[ff _ _ (by omega)];simp[go_sem]
 have f1:w3.frozen? ⟨w.heap.size,1,none⟩=false:=by rw[ff _ _ (by omega)];simp[go_sem]
 have g0:w3.frozen? ⟨w.heap.size+1+1,0,none⟩=false:=by rw[ff _ _ (by omega)];simp[go_sem]
 have g1:w3.frozen? ⟨w.heap.size+1+1,1,none⟩=false:=by rw[ff _ _ (by omega)];simp[go_sem]
 clear hc hf hc2 hf2 hc3 hf3 cc ff h h' hz2a hz2b hz hza hzb hb0 hb02 hb1 hb2;go_wp2_with fail;have hB4:Below w.heap.size w ((w3.setCell ⟨w.heap.size,0,none⟩ (.slice A1 n c1)).setCell ⟨w.heap.size,1,none⟩ (.slice A2 m c2)):=(hb03.setCell (by simp) _).setCell (by simp) _;have o1:=(hown1.setCell (p:=⟨w.heap.size,0,none⟩) (by simp only;omega) (.slice A1 n c1)).setCell (p:=⟨w.heap.size,1,none⟩) (by simp only;omega) (.slice A2 m c2);have o2:=(hown2.setCell (p:=⟨w.heap.size,0,none⟩) (by simp only;omega) (.slice A1 n c1)).setCell (p:=⟨w.heap.size,1,none⟩) (by simp only;omega) (.slice A2 m c2);generalize hw4:(w3.setCell ⟨w.heap.size,0,none⟩ (.slice A1 n c1)).setCell ⟨w.heap.size,1,none⟩ (.slice A2 m c2)=w4 at hB4 o1 o2⊢;have q0':w4.cell? ⟨w.heap.size,0,none⟩=some (.slice A1 n c1):=by rw[←hw4];simp[go_sem,q0,q1,f0,f1]
 have q1':w4.cell? ⟨w.heap.size,1,none⟩=some (.slice A2 m c2):=by rw[←hw4];simp[go_sem,q0,q1,f0,f1]
 have e0':w4.cell? ⟨w.heap.size+1,0,none⟩=some (.int .i64 k):=by rw[←hw4];simp[go_sem,e0]
 have e1':w4.cell? ⟨w.heap.size+1,1,none⟩=some (.int .i64 j):=by rw[←hw4];simp[go_sem,e1]
 have e2':w4.cell? ⟨w.heap.size+1,2,none⟩=some (.int .i64 v):=by rw[←hw4];simp[go_sem,e2]
 have e3':w4.cell? ⟨w.heap.size+1,3,none⟩=some (.int .i64 t):=by rw[←hw4];simp[go_sem,e3]
 have e4':w4.cell? ⟨w.heap.size+1,4,none⟩=some (.int .i64 cl):=by rw[←hw4];simp[go_sem,e4]
 have r0':w4.cell? ⟨w.heap.size+1+1,0,none⟩=some (.slice none 0 0):=by rw[←hw4];simp[go_sem,r0]
 have r1':w4.cell? ⟨w.heap.size+1+1,1,none⟩=some (.slice none 0 0):=by rw[←hw4];simp[go_sem,r1]
 have f0':w4.frozen? ⟨w.heap.size,0,none⟩=false:=by rw[←hw4];simp[go_sem,f0]
 have f1':w4.frozen? ⟨w.heap.size,1,none⟩=false:=by rw[←hw4];simp[go_sem,f1]
 have g0':w4.frozen? ⟨w.heap.size+1+1,0,none⟩=false:=by rw[←hw4];simp[go_sem,g0]
 have g1':w4.frozen? ⟨w.heap.size+1+1,1,none⟩=false:=by rw[←hw4];simp[go_sem,g1]
 have hz4:w4.heap.size=w3.heap.size:=by rw[←hw4];simp
 clear q0 q1 e0 e1 e2 e3 e4 r0 r1 f0 f1 g0 g1 hw4 hb03 hb3 hown1 hown2;refine Calls.mono (IK A1 A2 n c1 m c2 _ _ jobs rung _ o1.sl (Nat.le_refl _) (by omega)) ?_;rintro e w5⟨rfl,hb5⟩;have hz25:w2.heap.size≤w5.heap.size:=by have:=hb5.size;omega
 have hz5:w.heap.size+1+1<w5.heap.size:=by omega
 have hz5a:w.heap.size+1<w5.heap.size:=by omega
 have hz5b:w.heap.size<w5.heap.size:=by omega
 have hB5:Below w.heap.size w w5:=hB4.trans (hb5.mono (by omega));have p1:=o1.below hb5;have p2:=o2.below hb5;have q0:=aB hb5 q0';have q1:=aB hb5 q1';have e0:=aB hb5 e0';have e1:=aB hb5 e1';have e2:=aB hb5 e2';have e3:=aB hb5 e3';have e4:=aB hb5 e4';have r0:=aB hb5 r0';have r1:=aB hb5 r1';have f0:=aJ hb5 q0' f0';have f1:=aJ hb5 q1' f1';have g0:=aJ hb5 r0' g0';have g1:=aJ hb5 r1' g1';clear q0' q1' e0' e1' e2' e3' e4' r0' r1' f0' f1' g0' g1' o1 o2 hb5 hB4 hz4 hz3 hz3a hz3b;have hk:k=0∨k=1∨k=2∨k=3:=by have:=HE.out;unfold aG at this;simp only at this;(repeat' split at this)<;>omega
 obtain⟨i,hi⟩:∃i,i=dZ ⟨jobs,rung⟩ j:=⟨_,rfl⟩
 rw[←hi];have HI:=aH hi;clear hi;rcases hk with rfl|rfl|rfl|rfl
 · have hs:hD ⟨jobs,rung⟩ ⟨0,j,v,t,cl⟩=⟨jobs,rung⟩:=by simp[hD]
   have HS:=aH hs;clear hs;go_wp2_with fail;refine bodyPost_ret (v:=.tuple #[.agg #[.slice A1 n c1,.slice A2 m c2],()]) (by simp[results,results131,go_sem,r0,r1,g0,g1]) rfl ?_;rw[HS.out];exact⟨A1,n,c1,A2,m,c2,rfl,by simpa using((p1.setCell (by simp only;omega) _).setCell (by simp only;omega) _).sl,by simpa using((p2.setCell (by simp only;omega) _).setCell (by simp only;omega) _).sl,(hB5.setCell (by simp only;omega) _).setCell (by simp only;omega) _,p1.fresh (by omega),p2.fresh (by omega),p1.Zs,p2.Zs⟩
 · by_cases h0:0≤i
   · have hs:hD ⟨jobs,rung⟩ ⟨1,j,v,t,cl⟩=⟨jobs,rung⟩:=by simp[hD,←HI.out,h0]
     have HS:=aH hs;clear hs;go_wp2_with fail;refine bodyPost_ret (v:=.tuple #[.agg #[.slice A1 n c1,.slice A2 m c2],()]) (by simp[results,results131,go_sem,r0,r1,g0,g1]) rfl ?_;rw[HS.out];exact⟨A1,n,c1,A2,m,c2,rfl,by simpa using((p1.setCell (by simp only;omega) _).setCell (by simp only;omega) _).sl,by simpa using((p2.setCell (by simp only;omega) _).setCell (by simp only;omega) _).sl,(hB5.setCell (by simp only;omega) _).setCell (by simp only;omega) _,p1.fresh (by omega),p2.fresh (by omega),p1.Zs,p2.Zs⟩
   have hs:hD ⟨jobs,rung⟩ ⟨1,j,v,t,cl⟩=⟨jobs.take (mH jobs j) ++[⟨j,v,t⟩] ++jobs.drop (mH jobs j),rung⟩:=by simp[hD,←HI.out,h0]
   have HS:=aH hs;clear hs;have h0':i<0:=by omega
   go_wp2_with fail
   go_loopw [9] (fun s wr=>∃a q:Nat,a≤n∧s=.int .i64 a∧wr=w5.drewN q∧Hid (∀b y,b<a→jobs[b]?=some y→y.id<j)) (fun s _=>n-(intOf s).toNat)
   case atStart=>exact⟨0,0,Nat.zero_le _,rfl,rfl,fun b y hb=>absurd hb (Nat.not_lt_zero _)⟩
   case round =>
    obtain⟨a,q,ha,rfl,rfl,HJ⟩:=hrel
    have hex:(a<n∧∃x,jobs[a]?=some x∧x.id<j)∨(a<n∧∃x,jobs[a]?=some x∧¬x.id<j)∨a=n:=by
     rcases Nat.lt_or_ge a n with h1|h1
     · have hal:a<jobs.length:=by have:=HN.out;omega
       by_cases h2:jobs[a].id<j
       · exact .inl ⟨h1,_,List.getElem?_eq_getElem hal,h2⟩
       exact .inr (.inl ⟨h1,_,List.getElem?_eq_getElem hal,h2⟩)
     exact .inr (.inr (by omega))
    have hend:(∀x,jobs[a]?=some x→¬x.id<j)→mH jobs j=a:=fun hx=>NK HJ.out hx (by have:=HN.out;omega)
    have HEnd:=aH hend;clear hend;rcases hex with ⟨h1,x,hx,h2⟩| ⟨h1,x,hx,h2⟩|han
    · obtain⟨b,off,x',rfl,hb,hx',c0,_,_⟩:=p1.sl.atJ h1;obtain rfl:x=x':=by rw[hx]at hx';injection hx'
      have HX:=aH hx;have h1':(a:Int)<(n:Int):=by omega
      clear hx hx';go_wp2_with fail;go_quiet (fail);go_wp2
      go_roundw
      case measure=>simp[intOf];omega
      case rel =>
       refine⟨a+1,q+nq,by omega,by go_num,by simp,fun b y hb hy=>?_⟩;by_cases e:b=a
       · subst e;have:=HX.out.symm.trans hy;injection this with this;subst this;exact h2
       exact HJ.out b y (by omega) hy
    · have hp:mH jobs j=a:=HEnd.out (fun y hy=>by rw[hx]at hy;injection hy with hy;subst hy;exact h2);have HP:=aH hp;obtain⟨b,off,x',hA,hb,hx',c0,_,_⟩:=p1.sl.atJ h1;obtain rfl:x=x':=by rw[hx]at hx';injection hx'
      subst hA;have h1':(a:Int)<(n:Int):=by omega
      clear hx hx' hp;go_wp2_with fail;go_quiet (fail);go_wp2_with fail;obtain⟨AA,hAA⟩:∃AA:Option Addr,AA=some ⟨b,off,none⟩:=⟨_,rfl⟩
      rw[←hAA]at p1 q0⊢
      have hn1:Value.ownBlock (.slice AA n c1)≠some w5.heap.size:=by
       intro e;have:=(p1.1.lt _ e).2;omega
      refine Calls.mono (sF w2.heap.size AA n c1 a w5.heap.size (jobs.map bX) (.int .i64 j) (.int .i64 v) (.int .i64 t) _ ((p1.drewN _).alloc _) (oR jobs) (by simp[Value.oneCell']) ha (by omega) (by simp;omega) (by exact mM (by simp)) hn1) ?_;rintro e w6⟨A6,c6,rfl,own6,grow6⟩;have nb0:some w.heap.size≠Value.ownBlock (.slice AA n c1):=p1.Zo (by omega);have nb1:some (w.heap.size+1)≠Value.ownBlock (.slice AA n c1):=p1.Zo (by omega);have nb2:some (w.heap.size+1+1)≠Value.ownBlock (.slice AA n c1):=p1.Zo (by omega);have hbW:Below w5.heap.size w5 ((w5.drewN (q+nq)).alloc (Obj.cells #[j,v,t] 136)):=(bV (Below.refl _ _) _).alloc (Nat.le_refl _) _;have q0':=aD grow6 (aB hbW q0) nb0;have q1':=aD grow6 (aB hbW q1) nb0;have f0':=bM grow6 (aB hbW q0) (aJ hbW q0 f0) nb0;have r0':=aD grow6 (aB hbW r0) nb2;have r1':=aD grow6 (aB hbW r1) nb2;have g0':=bM grow6 (aB hbW r0) (aJ hbW r0 g0) nb2;have g1':=bM grow6 (aB hbW r1) (aJ hbW r1 g1) nb2;have own2:=((p2.drewN (q+nq)).alloc (.cells #[j,v,t] 136)).kept grow6 (p1.apart p2 (by decide));have hB6:Below w.heap.size w w6:=aT ((bV hB5 _).alloc (by simp;omega) _) (by simp;omega) (by exact grow6) (fun g hg=>by have:=(p1.1.lt g hg).1;omega);have hz6:w.heap.size+1+1<w6.heap.size:=by have:=grow6.size;simp at this;omega
      have hz6a:w.heap.size+1<w6.heap.size:=by omega
      have hz6b:w.heap.size<w6.heap.size:=by omega
      clear q0 q1 f0 f1 r0 r1 g0 g1 e0 e1 e2 e3 e4 nb0 nb1 nb2 grow6 p1 p2;go_wp2_with fail;refine bodyPost_ret (v:=.tuple #[.agg #[.slice A6 (n+1) c6,.slice A2 m c2],()]) (by simp[results,results131,go_sem,r0',r1',g0',g1']) rfl ?_;rw[HS.out];refine⟨A6,n+1,c6,A2,m,c2,rfl,?_,?_,?_,own6.fresh (by omega),own2.fresh (by omega),own6.Zs,own2.Zs⟩
      · have:=(((own6.setCell (p:=⟨w.heap.size,0,none⟩) (by simp only;omega) (.slice A6 (n+1) c6)).setCell (p:=⟨w.heap.size+1+1,0,none⟩) (by simp only;omega) (.slice A6 (n+1) c6)).setCell (p:=⟨w.heap.size+1+1,1,none⟩) (by simp only;omega) (.slice A2 m c2)).sl;simpa[HP.out,bX,List.map_take,List.map_drop]using this
      · have:=(((own2.setCell (p:=⟨w.heap.size,0,none⟩) (by simp only;omega) (.slice A6 (n+1) c6)).setCell (p:=⟨w.heap.size+1+1,0,none⟩) (by simp only;omega) (.slice A6 (n+1) c6)).setCell (p:=⟨w.heap.size+1+1,1,none⟩) (by simp only;omega) (.slice A2 m c2)).sl;simpa using this
      exact((hB6.setCell (by simp) _).setCell (by simp only;omega) _).setCell (by simp only;omega) _
    have hp:mH jobs j=a:=HEnd.out (fun y hy=>by rw[List.getElem?_eq_none (by have:=HN.out;omega)]at hy;cases hy);have HP:=aH hp;have hd:decide (a<n)=false:=by simp;omega
    clear hp han;go_wp2_with fail;go_quiet (fail);go_wp2_with fail
    have hn1:Value.ownBlock (.slice A1 n c1)≠some w5.heap.size:=by
     intro e;have:=(p1.1.lt _ e).2;omega
    refine Calls.mono (sF w2.heap.size A1 n c1 a w5.heap.size (jobs.map bX) (.int .i64 j) (.int .i64 v) (.int .i64 t) _ ((p1.drewN _).alloc _) (oR jobs) (by simp[Value.oneCell']) ha (by omega) (by simp;omega) (by exact mM (by simp)) hn1) ?_;rintro e w6⟨A6,c6,rfl,own6,grow6⟩;have nb0:some w.heap.size≠Value.ownBlock (.slice A1 n c1):=p1.Zo (by omega);have nb1:some (w.heap.size+1)≠Value.ownBlock (.slice A1 n c1):=p1.Zo (by omega);have nb2:some (w.heap.size+1+1)≠Value.ownBlock (.slice A1 n c1):=p1.Zo (by omega);have hbW:Below w5.heap.size w5 ((w5.drewN (q+nq)).alloc (Obj.cells #[j,v,t] 136)):=(bV (Below.refl _ _) _).alloc (Nat.le_refl _) _;have q0':=aD grow6 (aB hbW q0) nb0;have q1':=aD grow6 (aB hbW q1) nb0;have f0':=bM grow6 (aB hbW q0) (aJ hbW q0 f0) nb0;have r0':=aD grow6 (aB hbW r0) nb2;have r1':=aD grow6 (aB hbW r1) nb2;have g0':=bM grow6 (aB hbW r0) (aJ hbW r0 g0) nb2;have g1':=bM grow6 (aB hbW r1) (aJ hbW r1 g1) nb2;have own2:=((p2.drewN (q+nq)).alloc (.cells #[j,v,t] 136)).kept grow6 (p1.apart p2 (by decide));have hB6:Below w.heap.size w w6:=aT ((bV hB5 _).alloc (by simp;omega) _) (by simp;omega) (by exact grow6) (fun g hg=>by have:=(p1.1.lt g hg).1;omega);have hz6:w.heap.size+1+1<w6.heap.size:=by have:=grow6.size;simp at this;omega
    have hz6a:w.heap.size+1<w6.heap.size:=by omega
    have hz6b:w.heap.size<w6.heap.size:=by omega
    clear q0 q1 f0 f1 r0 r1 g0 g1 e0 e1 e2 e3 e4 nb0 nb1 nb2 grow6 p1 p2;go_wp2_with fail;refine bodyPost_ret (v:=.tuple #[.agg #[.slice A6 (n+1) c6,.slice A2 m c2],()]) (by simp[results,results131,go_sem,r0',r1',g0',g1']) rfl ?_;rw[HS.out];refine⟨A6,n+1,c6,A2,m,c2,rfl,?_,?_,?_,own6.fresh (by omega),own2.fresh (by omega),own6.Zs,own2.Zs⟩
    · have:=(((own6.setCell (p:=⟨w.heap.size,0,none⟩) (by simp only;omega) (.slice A6 (n+1) c6)).setCell (p:=⟨w.heap.size+1+1,0,none⟩) (by simp only;omega) (.slice A6 (n+1) c6)).setCell (p:=⟨w.heap.size+1+1,1,none⟩) (by simp only;omega) (.slice A2 m c2)).sl;simpa[HP.out,bX,List.map_take,List.map_drop]using this
    · have:=(((own2.setCell (p:=⟨w.heap.size,0,none⟩) (by simp only;omega) (.slice A6 (n+1) c6)).setCell (p:=⟨w.heap.size+1+1,0,none⟩) (by simp only;omega) (.slice A6 (n+1) c6)).setCell (p:=⟨w.heap.size+1+1,1,none⟩) (by simp only;omega) (.slice A2 m c2)).sl;simpa using this
    exact((hB6.setCell (by simp) _).setCell (by simp only;omega) _).setCell (by simp only;omega) _
 · by_cases h0:0≤i
   · obtain⟨i',x,hii,hx,hpx⟩:=qT (by rw[←qF,←HI.out];exact h0);have hi':i=(i':Int):=HI.out.trans hii;subst hi';have hin:i'<n:=by have h1:i'<jobs.length:=(List.getElem?_eq_some_iff.1 hx).1;have:=HN.out;omega
     have hs:hD ⟨jobs,rung⟩ ⟨2,j,v,t,cl⟩=⟨jobs.take i' ++jobs.drop (i'+1),rung⟩:=by simp[hD,←HI.out]
     have HS:=aH hs;clear hs hii hx hpx;go_wp2_with fail;refine Calls.mono (BA w2.heap.size A1 n c1 i' (jobs.map bX) _ p1 (oR jobs) hin (by omega)) ?_;rintro e w6⟨rfl,own6,grow6⟩;have nb0:some w.heap.size≠Value.ownBlock (.slice A1 n c1):=p1.Zo (by omega);have nb2:some (w.heap.size+1+1)≠Value.ownBlock (.slice A1 n c1):=p1.Zo (by omega);have q0':=aD grow6 q0 nb0;have q1':=aD grow6 q1 nb0;have f0':=bM grow6 q0 f0 nb0;have r0':=aD grow6 r0 nb2;have r1':=aD grow6 r1 nb2;have g0':=bM grow6 r0 g0 nb2;have g1':=bM grow6 r1 g1 nb2;have own2:=p2.kept grow6 (p1.apart p2 (by decide));have hB6:Below w.heap.size w w6:=aT hB5 (by omega) grow6 (fun g hg=>by have:=(p1.1.lt g hg).1;omega);have hz6:w.heap.size+1+1<w6.heap.size:=by have:=grow6.size;omega
     have hz6a:w.heap.size+1<w6.heap.size:=by omega
     have hz6b:w.heap.size<w6.heap.size:=by omega
     clear q0 q1 f0 f1 r0 r1 g0 g1 e0 e1 e2 e3 e4 nb0 nb2 grow6 p1 p2;go_wp2_with fail;refine bodyPost_ret (v:=.tuple #[.agg #[.slice A1 (n-1) c1,.slice A2 m c2],()]) (by simp[results,results131,go_sem,r0',r1',g0',g1']) rfl ?_;rw[HS.out];refine⟨A1,n-1,c1,A2,m,c2,rfl,?_,?_,?_,own6.fresh (by omega),own2.fresh (by omega),own6.Zs,own2.Zs⟩
     · have:=(((own6.setCell (p:=⟨w.heap.size,0,none⟩) (by simp only;omega) (.slice A1 (n-1) c1)).setCell (p:=⟨w.heap.size+1+1,0,none⟩) (by simp only;omega) (.slice A1 (n-1) c1)).setCell (p:=⟨w.heap.size+1+1,1,none⟩) (by simp only;omega) (.slice A2 m c2)).sl;simpa[List.map_take,List.map_drop]using this
     · have:=(((own2.setCell (p:=⟨w.heap.size,0,none⟩) (by simp only;omega) (.slice A1 (n-1) c1)).setCell (p:=⟨w.heap.size+1+1,0,none⟩) (by simp only;omega) (.slice A1 (n-1) c1)).setCell (p:=⟨w.heap.size+1+1,1,none⟩) (by simp only;omega) (.slice A2 m c2)).sl;simpa using this
     exact((hB6.setCell (by simp) _).setCell (by simp only;omega) _).setCell (by simp only;omega) _
   have hs:hD ⟨jobs,rung⟩ ⟨2,j,v,t,cl⟩=⟨jobs,rung⟩:=by simp[hD,←HI.out,h0]
   have HS:=aH hs;clear hs;have h0':i<0:=by omega
   go_wp2_with fail;refine bodyPost_ret (v:=.tuple #[.agg #[.slice A1 n c1,.slice A2 m c2],()]) (by simp[results,results131,go_sem,r0,r1,g0,g1]) rfl ?_;rw[HS.out];exact⟨A1,n,c1,A2,m,c2,rfl,by simpa using((p1.setCell (by simp only;omega) _).setCell (by simp only;omega) _).sl,by simpa using((p2.setCell (by simp only;omega) _).setCell (by simp only;omega) _).sl,(hB5.setCell (by simp only;omega) _).setCell (by simp only;omega) _,p1.fresh (by omega),p2.fresh (by omega),p1.Zs,p2.Zs⟩
 by_cases h0:0≤i
 · obtain⟨i',x,hii,hx,hpx⟩:=qT (by rw[←qF,←HI.out];exact h0);have hi':i=(i':Int):=HI.out.trans hii;subst hi';have hin:i'<n:=by have h1:i'<jobs.length:=(List.getElem?_eq_some_iff.1 hx).1;have:=HN.out;omega
   obtain⟨b,off,x',hA,hb,hx',c0,cc1,cc2⟩:=p1.sl.atJ hin;obtain rfl:x=x':=by rw[hx]at hx';injection hx'
   subst hA;have hin':(i':Int)<(n:Int):=by omega
   have HX:=aH hx;clear hx hx' hii hpx;have hlr:rung.length=m:=HM.out;have hfi:dZ ⟨jobs,rung⟩ j=(i':Int):=HI.out.symm;by_cases hfit:x.next=t∧m<60
   · obtain⟨hnt,hm60⟩:=hfit;subst hnt
     have hs:hD ⟨jobs,rung⟩ ⟨3,j,v,x.next,cl⟩=⟨jobs.set i' ⟨x.id,x.every,x.next+x.every⟩,rung ++[⟨j,x.next,cl⟩]⟩:=by
      unfold hD;rw[if_neg (by simp),if_neg (by simp),if_pos rfl];simp only[hfi,Int.toNat_natCast,HX.out];rw[if_pos ⟨by omega,by simp,by omega⟩]
     have HS:=aH hs;have HFi:=aH hfi;have HL:=aH hlr;clear hs hfi hlr;have hm60':(m:Int)<60:=by omega
     have fz:w5.frozen? ⟨b,off+i'*3+2,none⟩=false:=by
      obtain⟨g,cur,e,_,_,hh,_⟩:=p1.open_ (by omega);injection e with e;injection e with e1 e2 _;subst e1;simp[World.frozen?,hh]
     have hbd:¬eX x:=uG (sK HG.out).2.2.1 (List.mem_of_getElem? HX.out);unfold eX at hbd;have hx0:0≤x.next:=by omega
     have hx1:x.next≤100100:=by omega
     have hx2:1≤x.every:=by omega
     have hx3:x.every≤100:=by omega
     clear hbd;go_wp2_with fail;go_quiet (fail);go_wp2_with fail;have hw1:IntKind.i64.wrap (x.next+x.every)=x.next+x.every:=by rw[IntKind.wrap_i64];omega
     have q0':(w5.drewN nq).cell? ⟨w.heap.size,0,none⟩=some (.slice (some ⟨b,off,none⟩) n c1):=q0;have cc1':(w5.drewN nq).cell? ⟨b,off+i'*3+1,none⟩=some (.int .i64 x.every):=cc1;have cc2':(w5.drewN nq).cell? ⟨b,off+i'*3+2,none⟩=some (.int .i64 x.next):=cc2;have fz':(w5.drewN nq).frozen? ⟨b,off+i'*3+2,none⟩=false:=fz;generalize hW:w5.drewN nq=W at q0' cc1' cc2' fz'⊢;go_region;have hc1:=p1.Zs
     have hbig:w2.heap.size≤b:=by
      obtain⟨g,cur,e,hg,_⟩:=p1.open_ (by omega);injection e with e;injection e with e1 _ _;omega
     have hgr:w5.grownBy (W.setCell ⟨b,off+i'*3+2,none⟩ (.int .i64 (x.next+x.every))).drew (some b):=by
      rw[←hW];exact⟨rfl,rfl,rfl,by simp,fun k _ hk=>Below.heap_setCell (w5.drewN nq) _ _ k (fun e=>hk (by rw[e]))⟩
     have slj:Sl (W.setCell ⟨b,off+i'*3+2,none⟩ (.int .i64 (x.next+x.every))).drew w5.heap.size 3 (some ⟨b,off,none⟩) n ((jobs.set i' ⟨x.id,x.every,x.next+x.every⟩).map bX):=by
      rw[←hW];exact(((p1.sl.drewN nq).setNext hin HX.out _).drew)
     have own2:=p2.kept hgr (p1.apart p2 (by decide));have nb:∀z,z<w.heap.size+3→some z≠some b:=fun z hz e=>by injection e with e;omega
     have hB7:Below w.heap.size w (W.setCell ⟨b,off+i'*3+2,none⟩ (.int .i64 (x.next+x.every))).drew:=aT hB5 (by omega) hgr (fun g hg=>by injection hg with hg;omega);have Q0:=aD hgr q0 (nb _ (by simp only;omega));have Q1:=aD hgr q1 (nb _ (by simp only;omega));have E1:=aD hgr e1 (nb _ (by simp only;omega));have E3:=aD hgr e3 (nb _ (by simp only;omega));have E4:=aD hgr e4 (nb _ (by simp only;omega));have R0:=aD hgr r0 (nb _ (by simp only;omega));have R1:=aD hgr r1 (nb _ (by simp only;omega));have F1:=bM hgr q1 f1 (nb _ (by simp only;omega));have G0:=bM hgr r0 g0 (nb _ (by simp only;omega));have G1:=bM hgr r1 g1 (nb _ (by simp only;omega));have hz7:w.heap.size+1+1<(W.setCell ⟨b,off+i'*3+2,none⟩ (.int .i64 (x.next+x.every))).drew.heap.size:=by have:=hgr.size;omega
     have hbz:b<(W.setCell ⟨b,off+i'*3+2,none⟩ (.int .i64 (x.next+x.every))).drew.heap.size:=by have:=hgr.size;omega
     have hA2b:Value.ownBlock (.slice A2 m c2)≠some b:=by
      rcases p1.apart p2 (by decide)with h|h
      · rw[h];simp
      exact h
     generalize(W.setCell ⟨b,off+i'*3+2,none⟩ (.int .i64 (x.next+x.every))).drew=w7 at hgr slj own2 hB7 Q0 Q1 E1 E3 E4 R0 R1 F1 G0 G1 hz7 hbz⊢;have hz7a:w.heap.size+1<w7.heap.size:=by omega
     have hz7b:w.heap.size<w7.heap.size:=by omega
     have hz27:w2.heap.size≤w7.heap.size:=by have:=hgr.size;omega
     have h57:w5.heap.size≤w7.heap.size:=hgr.size;obtain⟨i0,hi0,hzz0,hzz1,hzz2⟩:=info_parts IS;have HI0:=aH hi0;have HZ0:=aH hzz0;have HZ1:=aH hzz1;have HZ2:=aH hzz2;clear hi0 hzz0 hzz1 hzz2 hw1 q0' cc1' cc2' fz' hW q0 q1 e0 e1 e2 e3 e4 r0 r1 f0 f1 g0 g1 c0 cc1 cc2 fz p1 p2 nb hgr hB5
     have hnew:Sl (w7.alloc (Obj.cells #[j,x.next,cl] 77)) (w7.heap.size+1) 3 (some ⟨w7.heap.size,0,none⟩) 1 [dN ⟨j,x.next,cl⟩]:=by
      refine⟨rfl,by simp[dN],fun _=>⟨w7.heap.size,0,rfl,by omega,fun i j' r u hr hu=>?_⟩⟩
      match i,hr with
      |0,hr =>
        simp at hr;subst hr;rw[cell_of_row _ w7.heap.size _ _ _ _ (mM rfl)];simpa[dN]using hu
     go_wp2_with (at_builtin;refine aQ _ rfl (.tmp 113) (.tmp 121) 64 rfl w2.heap.size 77 i0 _ 3 24 underlying64 HI0.out HZ0.out HZ1.out HZ2.out rfl (by decide) (.slice A2 m c2) m (rung.map dN) rfl (own2.alloc _) (w7.heap.size+1) (some ⟨w7.heap.size,0,none⟩) 1 1 [dN ⟨j,x.next,cl⟩] rfl hnew (by simp[dN,Value.oneCell']) (by unfold maxLen;omega) (by omega) (by simp;omega) ?_)
     intro v8 w8 own8 grow8 hv8;obtain⟨A8,c8,rfl,_,_⟩:=own8.slice;have nr:∀z,z<w2.heap.size→some z≠Value.ownBlock (.slice A2 m c2):=fun z hz=>own2.Zo hz
     have hbA:Below w7.heap.size w7 (w7.alloc (Obj.cells #[j,x.next,cl] 77)):=(Below.refl _ _).alloc (Nat.le_refl _) _;have q0:=aD grow8 (aB hbA Q0) (nr _ (by simp only;omega));have q1:=aD grow8 (aB hbA Q1) (nr _ (by simp only;omega));have r0:=aD grow8 (aB hbA R0) (nr _ (by simp only;omega));have r1:=aD grow8 (aB hbA R1) (nr _ (by simp only;omega));have f1:=bM grow8 (aB hbA Q1) (aJ hbA Q1 F1) (nr _ (by simp only;omega));have g0:=bM grow8 (aB hbA R0) (aJ hbA R0 G0) (nr _ (by simp only;omega));have g1:=bM grow8 (aB hbA R1) (aJ hbA R1 G1) (nr _ (by simp only;omega));have slj8:Sl w8 w5.heap.size 3 (some ⟨b,off,none⟩) n ((jobs.set i' ⟨x.id,x.every,x.next+x.every⟩).map bX):=(slj.alloc h57 _).grow grow8 (Ne.symm hA2b) (by simp;omega);have hB8:Below w.heap.size w w8:=aT (hB7.alloc (by omega) _) (by simp;omega) grow8 (fun g hg=>by have:=(own2.1.lt g hg).1;omega);have hz8:w.heap.size+1+1<w8.heap.size:=by have:=grow8.size;simp at this;omega
     have hz8a:w.heap.size+1<w8.heap.size:=by omega
     have hz8b:w.heap.size<w8.heap.size:=by omega
     have h58:w5.heap.size≤w8.heap.size:=by have:=grow8.size;simp at this;omega
     clear Q0 Q1 E1 E3 E4 R0 R1 F1 G0 G1 slj own2 grow8 hbA nr hnew hv8 hA2b hB7;go_wp2_with fail;refine bodyPost_ret (v:=.tuple #[.agg #[.slice (some ⟨b,off,none⟩) n c1,.slice A8 (m+1) c8],()]) (by simp[results,results131,go_sem,r0,r1,g0,g1]) rfl ?_;rw[HS.out];refine⟨_,n,c1,A8,m+1,c8,rfl,?_,?_,?_,fun a e=>by injection e with e;subst e;simp only;omega,own8.fresh (by omega),hc1,own8.Zs⟩
     · exact((((slj8.more h58).setOff (by simp only;omega) _).setOff (by simp only;omega) _).setOff (by simp only;omega) _).more (by simp)
     · have:=(((own8.setCell (p:=⟨w.heap.size,1,none⟩) (by simp only;omega) (.slice A8 (m+1) c8)).setCell (p:=⟨w.heap.size+1+1,0,none⟩) (by simp only;omega) (.slice (some ⟨b,off,none⟩) n c1)).setCell (p:=⟨w.heap.size+1+1,1,none⟩) (by simp only;omega) (.slice A8 (m+1) c8)).sl;simpa using this
     exact((hB8.setCell (by simp) _).setCell (by simp only;omega) _).setCell (by simp only;omega) _
   have hs:hD ⟨jobs,rung⟩ ⟨3,j,v,t,cl⟩=⟨jobs,rung⟩:=by
    unfold hD;rw[if_neg (by simp),if_neg (by simp),if_pos rfl];simp only[hfi,Int.toNat_natCast,HX.out];rw[if_neg (fun h=>hfit ⟨h.2.1,by rw[←hlr];exact h.2.2⟩)]
   have HS:=aH hs;have HF:=aH hfit;have HFi:=aH hfi;clear hs hfit hfi hlr;by_cases hnt:x.next=t
   · have hm60:¬m<60:=fun h=>HF.out ⟨hnt,h⟩
     have hm60':decide ((m:Int)<60)=false:=by simp;omega
     subst hnt;go_wp2_with fail;go_quiet (fail);go_wp2_with fail;refine bodyPost_ret (v:=.tuple #[.agg #[.slice (some ⟨b,off,none⟩) n c1,.slice A2 m c2],()]) (by simp[results,results131,go_sem,r0,r1,g0,g1]) rfl ?_;rw[HS.out];exact⟨_,n,c1,A2,m,c2,rfl,by simpa using(((p1.drewN _).setCell (by simp only;omega) _).setCell (by simp only;omega) _).sl,by simpa using(((p2.drewN _).setCell (by simp only;omega) _).setCell (by simp only;omega) _).sl,((bV hB5 _).setCell (by simp only;omega) _).setCell (by simp only;omega) _,p1.fresh (by omega),p2.fresh (by omega),p1.Zs,p2.Zs⟩
   have hnt':(x.next ==t)=false:=by simpa using hnt
   clear hnt;go_wp2_with fail;go_quiet (fail);go_wp2_with fail;refine bodyPost_ret (v:=.tuple #[.agg #[.slice (some ⟨b,off,none⟩) n c1,.slice A2 m c2],()]) (by simp[results,results131,go_sem,r0,r1,g0,g1]) rfl ?_;rw[HS.out];exact⟨_,n,c1,A2,m,c2,rfl,by simpa using(((p1.drewN _).setCell (by simp only;omega) _).setCell (by simp only;omega) _).sl,by simpa using(((p2.drewN _).setCell (by simp only;omega) _).setCell (by simp only;omega) _).sl,((bV hB5 _).setCell (by simp only;omega) _).setCell (by simp only;omega) _,p1.fresh (by omega),p2.fresh (by omega),p1.Zs,p2.Zs⟩
 have hs:hD ⟨jobs,rung⟩ ⟨3,j,v,t,cl⟩=⟨jobs,rung⟩:=by
  have h0':¬0≤dZ ⟨jobs,rung⟩ j:=by rw[←HI.out];exact h0
  unfold hD;rw[if_neg (by simp),if_neg (by simp),if_pos rfl]
  split
  · rw[if_neg (fun h=>h0' h.1)]
  rfl
 have HS:=aH hs;clear hs;have h0':i<0:=by omega
 have hd:decide (0≤i)=false:=by simp;omega
 go_wp2_with fail;go_quiet (fail);go_wp2_with fail;refine bodyPost_ret (v:=.tuple #[.agg #[.slice A1 n c1,.slice A2 m c2],()]) (by simp[results,results131,go_sem,r0,r1,g0,g1]) rfl ?_;rw[HS.out];exact⟨A1,n,c1,A2,m,c2,rfl,by simpa using(((p1.drewN _).setCell (by simp only;omega) _).setCell (by simp only;omega) _).sl,by simpa using(((p2.drewN _).setCell (by simp only;omega) _).setCell (by simp only;omega) _).sl,((bV hB5 _).setCell (by simp only;omega) _).setCell (by simp only;omega) _,p1.fresh (by omega),p2.fresh (by omega),p1.Zs,p2.Zs⟩
theorem CQ (A A' : Option Addr)(n c m d B : Nat)(b : cW)(k j v t cl : Int)(w : World)(h : Sl w B 3 A n (b.jobs.map bX))(h' : Sl w B 3 A' m (b.rung.map dN))(hB : B ≤ w.heap.size) :
    Calls prog 131 #[.agg #[.slice A n c,.slice A' m d],.agg #[k,j,v,t,cl]] w (mJ w (eR b ⟨k,j,v,t,cl⟩).1 (eR b ⟨k,j,v,t,cl⟩).2):=by
 obtain⟨jobs,rung⟩:=b;unfold eR;by_cases h1:cF ⟨jobs,rung⟩=0
 · by_cases h2:aG ⟨k,j,v,t,cl⟩=0
   · rw[if_neg (by simp[h1]),if_neg (by simp[h2])];exact ID A A' n c m d B jobs rung k j v t cl w h h' hB h1 h2
   rw[if_neg (by simp[h1]),if_pos h2];exact FU A A' n c m d B jobs rung k j v t cl w h h' hB h1 h2
 rw[if_pos h1];exact FZ A A' n c m d B jobs rung k j v t cl w h h' hB h1
end
section
def mG (t:Nat→Option dB)(k:Nat)(o:Option dB):Nat→Option dB:=fun i=>if i=k then o else t i
def gI:(Nat→Option dB)→List dB→Nat→Option dB
 |t,[]=>t
 |t,j ::l=>gI (mG t j.id.toNat (some j)) l
def fU (t:Nat→Option dB):Nat→List dB
 |0=>[]
 |n+1=>fU t n ++(t n).toList
theorem qC (t:Nat→Option dB)(k:Nat)(o:Option dB):mG t k o k=o:=by simp[mG]
theorem nI (t:Nat→Option dB){k i:Nat}(o:Option dB)(h:i≠k):mG t k o i=t i:=by simp[mG,h]
theorem JI (l:List dB)(j:dB):∀t,gI t (l ++[j])=mG (gI t l) j.id.toNat (some j):=by
 induction l with
 |nil=>intro t;rfl
 |cons y l ih=>intro t;exact ih _
theorem JD {l:List dB}(h0:∀x∈l,0≤x.id)(hp:l.Pairwise (fun a c=>a.id<c.id)):∀ (t:Nat→Option dB)(i:Nat)(j:dB),gI t l i=some j↔(j∈l∧j.id=i)∨((∀y∈l,y.id≠i)∧t i=some j):=by
 induction l with
 |nil=>intro t i j;simp[gI]
 |cons y l ih =>
   intro t i j;obtain⟨h1,h2⟩:=List.pairwise_cons.1 hp;have hy:0≤y.id:=h0 y (by simp)
   show gI (mG t y.id.toNat (some y)) l i=some j↔_
   rw[ih (fun x hx=>h0 x (by simp[hx])) h2];by_cases hi:i=y.id.toNat
   · have hiy:y.id=i:=by omega
     subst hi;rw[qC];constructor
     · rintro(⟨h3,h4⟩| ⟨h3,h4⟩)
       · left;exact⟨by simp[h3],h4⟩
       left;cases h4;exact⟨by simp,hiy⟩
     rintro(⟨h3,h4⟩| ⟨h3,h4⟩)
     · rcases List.mem_cons.1 h3 with rfl|h3
       · right;exact⟨fun z hz=>by have:=h1 z hz;omega,rfl⟩
       left;exact⟨h3,h4⟩
     exact absurd hiy (h3 y (by simp))
   have hiy:y.id≠i:=by omega
   rw[nI _ _ hi];constructor
   · rintro(⟨h3,h4⟩| ⟨h3,h4⟩)
     · left;exact⟨by simp[h3],h4⟩
     right;refine⟨fun z hz=>?_,h4⟩;rcases List.mem_cons.1 hz with rfl|hz
     · exact hiy
     exact h3 z hz
   rintro(⟨h3,h4⟩| ⟨h3,h4⟩)
   · rcases List.mem_cons.1 h3 with rfl|h3
     · exact absurd h4 hiy
     left;exact⟨h3,h4⟩
   right;exact⟨fun z hz=>h3 z (by simp[hz]),h4⟩
theorem yQ (t:Nat→Option dB)(j:dB):∀n,j∈fU t n↔∃i,i<n∧t i=some j:=by
 intro n
 induction n with
 |zero=>simp[fU]
 |succ n ih =>
   simp only[fU,List.mem_append,ih,Option.mem_toList];constructor
   · rintro(⟨i,h1,h2⟩|h)
     · exact⟨i,by omega,h2⟩
     exact⟨n,by omega,h⟩
   rintro⟨i,h1,h2⟩;by_cases hi:i=n
   · right;rw[←hi];exact h2
   left;exact⟨i,by omega,h2⟩
theorem IJ (t:Nat→Option dB)(h:∀ (i:Nat) j,t i=some j→j.id=i):∀n,(fU t n).Pairwise (fun a c=>a.id<c.id):=by
 intro n
 induction n with
 |zero=>simp[fU]
 |succ n ih =>
   simp only[fU];rw[List.pairwise_append];refine⟨ih,?_,?_⟩
   · cases t n<;>simp
   intro x hx y hy;obtain⟨i,hi,hx'⟩:=(yQ t x n).1 hx;have hy':t n=some y:=by simpa using hy
   have:=h _ _ hx';have:=h _ _ hy';omega
theorem FD:∀ {l m:List dB},l.Pairwise (fun a c=>a.id<c.id)→m.Pairwise (fun a c=>a.id<c.id)→(∀x,x∈l↔x∈m)→l=m
 | [],[],_,_,_=>rfl
 | [],y ::m,_,_,h=>by have:=(h y).2 (by simp);simp at this
 |x ::l,[],_,_,h=>by have:=(h x).1 (by simp);simp at this
 |x ::l,y ::m,hl,hm,h=>by
   obtain⟨h1,h2⟩:=List.pairwise_cons.1 hl;obtain⟨h3,h4⟩:=List.pairwise_cons.1 hm
   have exy:x=y:=by
    rcases List.mem_cons.1 ((h x).1 (by simp))with e|e
    · exact e
    rcases List.mem_cons.1 ((h y).2 (by simp))with e'|e'
    · exact e'.symm
    have:=h3 _ e;have:=h1 _ e';omega
   subst exy;rw[FD h2 h4 fun z=>?_];constructor
   · intro hz;rcases List.mem_cons.1 ((h z).1 (by simp[hz]))with rfl|e
     · have:=h1 _ hz;omega
     exact e
   intro hz;rcases List.mem_cons.1 ((h z).2 (by simp[hz]))with rfl|e
   · have:=h3 _ hz;omega
   exact e
theorem FC {t:Nat→Option dB}{l:List dB}(hp:l.Pairwise (fun a c=>a.id<c.id))(hb:∀x∈l,¬eX x)(h:∀ (i:Nat) j,t i=some j↔j∈l∧j.id=i):fU t 6=l:=by
 refine FD (IJ t (fun i j hj=>((h i j).1 hj).2) 6) hp fun x=>?_
 rw[yQ];constructor
 · rintro⟨i,_,hx⟩;exact((h i x).1 hx).1
 intro hx;have:=hb x hx;unfold eX at this;exact⟨x.id.toNat,by omega,(h _ _).2 ⟨hx,by omega⟩⟩
def vR (b:cW)(x:aL):cW :=
 let t:=gI (fun _=>none) b.jobs
 if x.kind=1∧t x.job.toNat=none then⟨fU (mG t x.job.toNat (some ⟨x.job,x.every,x.time⟩)) 6,b.rung⟩
 else if x.kind=2 then⟨fU (mG t x.job.toNat none) 6,b.rung⟩
 else match t x.job.toNat with
  |some j=>if x.kind=3∧j.next=x.time∧b.rung.length<60 then⟨fU (mG t x.job.toNat (some ⟨x.job,j.every,x.time+j.every⟩)) 6,b.rung ++[⟨x.job,x.time,x.client⟩]⟩else⟨fU t 6,b.rung⟩
  |none=>⟨fU t 6,b.rung⟩
theorem wO {e:aL}(h:aG e=0):0≤e.job∧e.job<6:=by
 unfold aG at h
 (repeat' split at h)<;>omega
theorem cW.eq_of {a b:cW}(h1:a.jobs=b.jobs)(h2:a.rung=b.rung):a=b:=by cases a;cases b;simp_all
theorem KW {b:cW}{x:aL}(hb:nZ b)(hx:aG x=0):vR b x=hD b x:=by
 obtain⟨hj0,hj6⟩:=wO hx;have hgs:=vV hb hx
 have hT:∀ (i:Nat) j,gI (fun _=>none) b.jobs i=some j↔j∈b.jobs∧j.id=i:=by
  intro i j;rw[JD (fun y hy=>by have:=hb.ok y hy;unfold eX at this;omega) hb.ord];simp
 have hTk:∀j,gI (fun _=>none) b.jobs x.job.toNat=some j↔j∈b.jobs∧j.id=x.job:=by
  intro j;rw[hT];constructor<;>rintro⟨h1,h2⟩<;>exact⟨h1,by omega⟩
 have hrows:fU (gI (fun _=>none) b.jobs) 6=b.jobs:=FC hb.ord hb.ok hT
 -- the entry's job
 have hnone:gI (fun _=>none) b.jobs x.job.toNat=none↔¬0≤dZ b x.job:=by
  constructor
  · intro h h1;obtain⟨i,y,_,h3,h4⟩:=tQ h1;have:=(hTk y).2 ⟨List.mem_of_getElem? h3,h4⟩;rw[h]at this;cases this
  intro h;have h1:=qB h
  cases ht:gI (fun _=>none) b.jobs x.job.toNat with
  |none=>rfl
  |some j=>have h2:=(hTk j).1 ht;exact absurd h2.2 (h1 j h2.1)
 have huniq:∀y∈b.jobs,∀z∈b.jobs,y.id=z.id→y=z:=by
  intro y hy z hz e;obtain⟨i,hi,rfl⟩:=List.getElem_of_mem hy;obtain⟨k,hk,rfl⟩:=List.getElem_of_mem hz
  have hik:i=k:=by
   rcases Nat.lt_trichotomy i k with h|h|h
   · have:=List.pairwise_iff_getElem.1 hb.ord i k hi hk h;omega
   · exact h
   have:=List.pairwise_iff_getElem.1 hb.ord k i hk hi h;omega
  subst hik;rfl
 have hupd : ∀ (o : Option dB) (l : List dB), l.Pairwise (fun a c => a.id < c.id) → (∀y ∈ l, ¬eX y) → (∀y, y ∈ l ↔ (y ∈ b.jobs ∧ y.id ≠ x.job) ∨ o = some y) → (∀y, o = some y → y.id = x.job) →
     fU (mG (gI (fun _=>none) b.jobs) x.job.toNat o) 6=l:=by
  intro o l hp hg hm ho;refine FC hp hg fun i j=>?_
  rw[hm];by_cases hi:i=x.job.toNat
  · subst hi;rw[qC];constructor
    · intro h;exact⟨Or.inr h,by rw[ho j h];omega⟩
    rintro⟨h1|h1,h2⟩
    · omega
    exact h1
  rw[nI _ _ hi,hT];constructor
  · rintro⟨h1,h2⟩;exact⟨Or.inl ⟨h1,by omega⟩,h2⟩
  rintro⟨h1|h1,h2⟩
  · exact⟨h1.1,h2⟩
  have:=ho j h1;omega
 unfold vR;unfold hD at hgs⊢;dsimp only;by_cases h1:x.kind=1
 · rw[if_pos h1]at hgs⊢;by_cases h2:gI (fun _=>none) b.jobs x.job.toNat=none
   · rw[if_pos ⟨h1,h2⟩,if_neg (hnone.1 h2)];rw[if_neg (hnone.1 h2)]at hgs;refine cW.eq_of ?_ rfl;refine hupd _ _ hgs.ord hgs.ok (fun y=>?_) (fun y h=>by cases h;rfl)
     have hsp:y∈b.jobs↔y∈b.jobs.take (mH b.jobs x.job)∨y∈b.jobs.drop (mH b.jobs x.job):=by
      rw[←List.mem_append,List.take_append_drop]
     have hn:=qB (hnone.1 h2);simp only[List.mem_append,List.mem_singleton,Option.some.injEq];constructor
     · rintro((h|h)|h)
       · have:=hsp.2 (Or.inl h);exact Or.inl ⟨this,hn y this⟩
       · exact Or.inr h.symm
       have:=hsp.2 (Or.inr h);exact Or.inl ⟨this,hn y this⟩
     rintro(⟨h,_⟩|h)
     · rcases hsp.1 h with h|h
       · exact Or.inl (Or.inl h)
       exact Or.inr h
     exact Or.inl (Or.inr h.symm)
   rw[if_neg (fun h=>h2 h.2),if_neg (by omega),if_pos (Decidable.byContradiction fun h=>h2 (hnone.2 h))]
   cases ht:gI (fun _=>none) b.jobs x.job.toNat with
   |none=>exact absurd ht h2
   |some j=>dsimp only;rw[if_neg (by omega)];exact cW.eq_of hrows rfl
 rw[if_neg h1]at hgs;rw[if_neg (fun h=>h1 h.1),if_neg h1];by_cases h2:x.kind=2
 · rw[if_pos h2]at hgs⊢;rw[if_pos h2];by_cases h3:0≤dZ b x.job
   · rw[if_pos h3]at hgs⊢;refine cW.eq_of ?_ rfl;refine hupd _ _ hgs.ord hgs.ok (fun y=>?_) (fun y h=>by cases h);obtain⟨i,z,hi,hz,hzx⟩:=tQ h3;rw[hi];simp only[Int.toNat_natCast,reduceCtorEq,or_false];obtain⟨hil,hz'⟩:=List.getElem?_eq_some_iff.1 hz
     have hsp:b.jobs=b.jobs.take i ++z ::b.jobs.drop (i+1):=by
      rw[←hz',List.getElem_cons_drop,List.take_append_drop]
     have hord:=hb.ord;rw[hsp,List.pairwise_append,List.pairwise_cons]at hord;constructor
     · intro h;rcases List.mem_append.1 h with h|h
       · have:=hord.2.2 y h z (by simp);exact⟨List.mem_of_mem_take h,by omega⟩
       have:=hord.2.1.1 y h;exact⟨List.mem_of_mem_drop h,by omega⟩
     rintro⟨h,hne⟩;rw[hsp]at h;rcases List.mem_append.1 h with h|h
     · exact List.mem_append.2 (Or.inl h)
     rcases List.mem_cons.1 h with rfl|h
     · exact absurd hzx hne
     exact List.mem_append.2 (Or.inr h)
   rw[if_neg h3]at hgs⊢;refine cW.eq_of ?_ rfl;refine hupd _ _ hb.ord hb.ok (fun y=>?_) (fun y h=>by cases h);have hn:=qB h3;simp only[reduceCtorEq,or_false];exact⟨fun h=>⟨h,hn y h⟩,fun h=>h.1⟩
 rw[if_neg h2]at hgs⊢;rw[if_neg h2];by_cases h3:x.kind=3
 · rw[if_pos h3]at hgs⊢
   cases ht:gI (fun _=>none) b.jobs x.job.toNat with
   |none =>
     have hf:=hnone.1 ht;dsimp only;have e0:(⟨fU (gI (fun _=>none) b.jobs) 6,b.rung⟩:cW)=b:=cW.eq_of hrows rfl;rw[e0]
     split
     · rw[if_neg (fun h=>hf h.1)]
     rfl
   |some j =>
     obtain⟨hjm,hjx⟩:=(hTk j).1 ht;have hf:0≤dZ b x.job:=Decidable.byContradiction fun h=>by rw[hnone.2 h]at ht;cases ht
     obtain⟨i,z,hi,hz,hzx⟩:=tQ hf;have hzj:z=j:=huniq z (List.mem_of_getElem? hz) j hjm (by omega);subst hzj;rw[hi]at hgs⊢;simp only[Int.toNat_natCast,hz]at hgs⊢;by_cases h4:z.next=x.time∧b.rung.length<60
     · rw[if_pos ⟨by omega,h4⟩]at hgs;rw[if_pos ⟨h3,h4⟩,if_pos ⟨by omega,h4⟩];refine cW.eq_of ?_ rfl;have e1:(⟨x.job,z.every,x.time+z.every⟩:dB)=⟨z.id,z.every,z.next+z.every⟩:=by rw[hzx,h4.1]
       rw[e1];refine hupd _ _ hgs.ord hgs.ok (fun y=>?_) (fun y h=>by cases h;exact hzx);obtain⟨hil,hz'⟩:=List.getElem?_eq_some_iff.1 hz;simp only[Option.some.injEq];constructor
       · intro h;obtain⟨k,hk⟩:=List.mem_iff_getElem?.1 h;rw[List.getElem?_set]at hk
         split at hk
         · simp[hil]at hk;exact Or.inr hk
         rename_i hki;refine Or.inl ⟨List.mem_of_getElem? hk,fun he=>hki ?_⟩;obtain⟨hkl,hk'⟩:=List.getElem?_eq_some_iff.1 hk;rcases Nat.lt_trichotomy i k with h5|h5|h5
         · have:=List.pairwise_iff_getElem.1 hb.ord i k hil hkl h5;rw[hz',hk']at this;omega
         · exact h5
         have:=List.pairwise_iff_getElem.1 hb.ord k i hkl hil h5;rw[hz',hk']at this;omega
       rintro(⟨h,hne⟩|h)
       · obtain⟨k,hk⟩:=List.mem_iff_getElem?.1 h;refine List.mem_iff_getElem?.2 ⟨k,?_⟩;rw[List.getElem?_set]
         split
         · rename_i hik;subst hik;rw[hz]at hk;cases hk;exact absurd hzx hne
         exact hk
       subst h;refine List.mem_iff_getElem?.2 ⟨i,?_⟩;rw[List.getElem?_set];simp[hil]
     rw[if_neg (fun h=>h4 h.2),if_neg (fun h=>h4 h.2)];exact cW.eq_of hrows rfl
 rw[if_neg h3]
 cases ht:gI (fun _=>none) b.jobs x.job.toNat with
 |none=>exact cW.eq_of hrows rfl
 |some j=>dsimp only;rw[if_neg (fun h=>h3 h.1)];exact cW.eq_of hrows rfl
end
section
open Go.RowKit
end
section
theorem uN {α:Type}{k:Nat}:∀ {rows:List (List α)}{i j:Nat}{r:List α},(∀r∈rows,r.length=k)→rows[i]?=some r→j<k→∀u,rows.flatten.set (i*k+j) u=(rows.set i (r.set j u)).flatten
 | [],i,j,r,_,h,_,u=>by simp at h
 |q ::rows,0,j,r,hk,h,hj,u=>by
   simp at h;subst h;have hq:=hk q (by simp);simp only[Nat.zero_mul,Nat.zero_add,List.flatten_cons,List.set_cons_zero];rw[List.set_append_left _ _ (by omega)]
 |q ::rows,i+1,j,r,hk,h,hj,u=>by
   simp at h;have hq:=hk q (by simp);simp only[List.flatten_cons,List.set_cons_succ];rw[List.set_append_right _ _ (by rw[hq,Nat.add_mul];omega),hq,show(i+1)*k+j-k=i*k+j by rw[Nat.add_mul];omega,uN (fun r hr=>hk r (by simp[hr])) h hj u]
theorem cH.put {w : World}{base E k n c g : Nat}{rows : List (List Value)}{r : List Value}{i j : Nat}(h : cH w base E k (.slice (some ⟨g, 0, none⟩) n c) n rows)(hr : rows[i]? = some r)(hj : j < k)(u : Value) :
    cH (w.setCell ⟨g,i*k+j,none⟩ u) base E k (.slice (some ⟨g,0,none⟩) n c) n (rows.set i (r.set j u)):=by
 have hl:=h.2.1;have hi:i<rows.length:=(List.getElem?_eq_some_iff.1 hr).1;obtain⟨g',cur,e,hb,hlt,hh,h1,h2,h3,h4⟩:=h.open_ (by omega);injection e with e;injection e with e _ _;subst e;refine cH.mk_ hb (heap_setCell_same w g (i*k+j) cur E u hh) h1 h2 (by simpa using h3) ?_ (by simpa using hl) (fun q hq=>?_)
 · have:i*k+j<n*k:=by
    have:(i+1)*k≤n*k:=Nat.mul_le_mul_right k (by omega);rw[Nat.add_mul]at this;omega
   rw[←uN h.2.2 hr hj u,←h4];simp[List.take_set]
 rcases List.mem_or_eq_of_mem_set hq with h5|h5
 · exact h.2.2 q h5
 rw[h5,List.length_set];exact h.2.2 r (List.mem_of_getElem? hr)
end
section
def jF (b:cW)(t:Int):Int:=if cF b≠0 then cF b else if t<0∨100000<t then 3 else 0
def FT (jobs:List dB)(t:Int):List dB:=gM (fun x y=>decide (x.next-y.next<0)) (jobs.filter fun j=>!decide (t<j.next))
theorem DR {b:cW}{t:Int}(h:jF b t=0):nZ b∧0≤t∧t≤100000:=by
 unfold jF at h
 split at h
 · exact absurd h (by assumption)
 rename_i h1
 split at h
 · cases h
 exact⟨fE.1 (Decidable.byContradiction h1),by omega,by omega⟩
theorem MH (l:List dB)(t:Int):(FT l t).length≤l.length:=by
 unfold FT;rw[rX];exact List.length_filter_le _ _
end
section
open Go.RowKit
theorem tT (A : Option Addr)(n c base : Nat)(l : List dB)(g : FuncId)(lb : Array Value)(cf : dB → dB → Int)(w : World)(h : M w base 3 A n (l.map bX))(hn : n ≤ 12)
    (eg:∀args w,(callFunc g args).run prog w=.ok (.enter g args) w)
    (hp:∀ (x y:dB)(w':World),x∈l→y∈l→Calls prog g (#[.agg #[x.id,x.every,x.next],.agg #[y.id,y.every,y.next]] ++lb) w' fun e w''=>e=.returned (.int .i64 (cf x y))∧aA w' w'') :
    Calls prog 149 #[.slice A n c,.func (.func g) #[] lb] w fun e w'=>e=.returned (.tuple #[]) ∧
     M w' base 3 A n ((gM (fun x y=>decide (cf x y<0)) l).map bX)∧w.grownBy w' (A.map (·.block)):=by
 have hst : Calls prog 168 #[.slice A n c, .int .i64 n, .func (.func g) #[] lb] w fun e w' => e = .returned (.tuple #[]) ∧
     M w' base 3 A n ((gM (fun x y=>decide (cf x y<0)) l).map bX)∧w.grownBy w' (A.map (·.block)):=by
  have hp':=aH hp;clear hp;have hn':(n:Int)<20:=by omega
  go_enter func168,ntmps168;go_wp2_with fail;refine wp_loop_rounds 1 ?_;rw[rounds_succ];go_wp2_with fail;refine Calls.mono (DA A n c base l g lb cf _ h hn eg hp'.out) ?_;rintro e w1⟨rfl,h1,h2⟩;go_wp2_with fail;refine wp_loop_rounds 1 ?_;rw[rounds_succ];go_wp2_with fail
  go_end0
  exact⟨rfl,h1,h2⟩
 have HS:=aH hst;clear hst hp;go_enter func149,ntmps149;go_wp2_with fail;refine Calls.mono HS.out ?_;rintro e w'⟨rfl,h1,h2⟩;go_wp2
 go_end0
 exact⟨rfl,h1,h2⟩
def LY {α:Type}(k:Nat)(en:α→List Value)(w:World)(l:List α)(err:Int)(e:Ending)(w':World):Prop :=
 ∃A n c,e=.returned (.tuple #[.slice A n c,err])∧S w' k A n (l.map en)∧aA w w'∧aR w.heap.size A∧n≤c∧c≤maxLen
theorem sP (A A' : Option Addr)(n c m d : Nat)(b : cW)(t : Int)(w : World)(h : S w 3 A n (b.jobs.map bX))(h' : S w 3 A' m (b.rung.map dN)) :
    Calls prog 146 #[.agg #[.slice A n c,.slice A' m d],t] w fun e w'=>e=.returned (.int .i64 (jF b t))∧aA w w':=by
 by_cases h0:cF b=0
 · have hs:jF b t=if t<0∨100000<t then 3 else 0:=by unfold jF;rw[if_neg (by simp[h0])]
   have HS:=aH hs;have H0:=aH h0;clear hs h0;go_enter func146,ntmps146;go_wp2_with fail;refine Calls.mono (gY A A' n c m d _ b.jobs b.rung _ (h.new _) (h'.new _) (Nat.le_refl _)) ?_;rintro e w1⟨rfl,hb1⟩;rw[show cF ⟨b.jobs,b.rung⟩=0 from H0.out];have h01:aA w w1:=((Below.refl _ _).alloc (Nat.le_refl _) _).trans (hb1.mono (by simp));clear h h' hb1;go_wp2
   all_goals
    go_ret;refine⟨aO ?_,h01⟩;rw[HS.out]
    split<;>omega
 have hs:jF b t=cF b:=by unfold jF;rw[if_pos h0]
 have HS:=aH hs;obtain⟨r,hr⟩:∃r,r=cF b:=⟨_,rfl⟩
 rw[←hr]at h0;have hr0:(r !=0)=true:=by simpa using h0
 have HR:=aH hr;clear hs h0 hr;go_enter func146,ntmps146;go_wp2_with fail;refine Calls.mono (gY A A' n c m d _ b.jobs b.rung _ (h.new _) (h'.new _) (Nat.le_refl _)) ?_;rintro e w1⟨rfl,hb1⟩;rw[show cF ⟨b.jobs,b.rung⟩=r from HR.out.symm];have h01:aA w w1:=((Below.refl _ _).alloc (Nat.le_refl _) _).trans (hb1.mono (by simp));clear h h' hb1;go_wp2;go_ret;exact⟨aO (by rw[HS.out,HR.out]),h01⟩
theorem GH (x : dB)(t : Int)(q : Nat)(w : World)(hq : w.cell? ⟨q, 0, none⟩ = some (.int .i64 t)) :
    Calls prog 148 #[.agg #[x.id,x.every,x.next],.pointer (some ⟨q,0,none⟩)] w fun e w'=>e=.returned (.bool (decide (t<x.next)))∧Below w.heap.size w w':=by
 have hqb:q<w.heap.size:=World.block_lt_of_cell? w _ hq;go_enter func148,ntmps148;go_wp2
 all_goals
  go_ret;refine⟨QS (by first|rfl| (simp;done)| (simp;omega)),?_⟩
  repeat(first|exact Below.refl _ _|refine bV ?_ _|refine Below.alloc ?_ (by simp) _)
theorem FO (x y : dB)(w : World)(h1 : 0 ≤ x.next ∧ x.next ≤ 100100)(h2 : 0 ≤ y.next ∧ y.next ≤ 100100) :
    Calls prog 150 #[.agg #[x.id,x.every,x.next],.agg #[y.id,y.every,y.next]] w fun e w'=>e=.returned (.int .i64 (x.next-y.next))∧aA w w':=by
 obtain⟨h1a,h1b⟩:=h1;obtain⟨h2a,h2b⟩:=h2;go_enter func150,ntmps150;go_wp2;go_ret;refine⟨aO (by first|rfl|omega),?_⟩
 repeat(first|exact Below.refl _ _|refine bV ?_ _|refine Below.alloc ?_ (by simp<;>omega) _)
theorem KF (A A' : Option Addr)(n c m d : Nat)(b : cW)(t : Int)(w : World)(h : S w 3 A n (b.jobs.map bX))(h' : S w 3 A' m (b.rung.map dN)) :
    Calls prog 129 #[.agg #[.slice A n c,.slice A' m d],t] w (LY 3 bX w (if jF b t=0 then FT b.jobs t else []) (jF b t)):=by
 obtain⟨r,hr⟩:∃r,r=jF b t:=⟨_,rfl⟩
 rw[←hr];have HR:=aH hr;by_cases h0:r=0
 · obtain⟨hg,ht0,ht1⟩:=DR (h0▸hr.symm);have hl:b.jobs.length=n:=by have:=h.len;simpa using this
   have hn6:n≤6:=by have:=hg.nj;omega
   subst h0;rw[if_pos rfl];have HL:=aH hl;clear hr hl;go_enter func129,ntmps129;go_wp2_with fail;refine Calls.mono (sP A A' n c m d b t _ ((h.new _).new _) ((h'.new _).new _)) ?_;rintro e w1⟨rfl,hb1⟩;rw[←HR.out];have q0:w1.cell? ⟨w.heap.size,0,none⟩=some (.slice A n c):=aB hb1 (by simp[go_sem]);have q1:w1.cell? ⟨w.heap.size+1,0,none⟩=some (.int .i64 t):=aB hb1 (by simp[go_sem]);have h01:aA w w1:=(((Below.refl _ _).alloc (Nat.le_refl _) _).alloc (by simp) _).trans (hb1.mono (by simp;omega));have z1:w.heap.size+1<w1.heap.size:=World.block_lt_of_cell? _ _ q1;clear hb1;go_wp2_with fail;refine Calls.mono (rU _ A n c _ (Nat.le_refl _) (b.jobs.map bX) (h.oe h01) (oR _) (by omega)) ?_;rintro e w2⟨A2,c2,rfl,own2,hb2⟩;have q1':=aB hb2 q1;have h02:=aA.to h01 hb2;have hM2:M w2 w1.heap.size 3 A2 n (b.jobs.map bX):=own2.m;have hnc2:=own2.Zs;have hcm2':c2≤maxLen:=own2.cap_max
   have hlt1:∀bb,A2.map (·.block)=some bb→w1.heap.size≤bb:=fun bb e=>by
    cases A2 with
    |none=>cases e
    |some a=>exact own2.fresh (Nat.le_refl _) a rfl|> fun h=>by simp at e;omega
   have HM:=aH hcm2';have HLT:=aH hlt1;clear hb2 own2 q0 hcm2' hlt1;go_wp2_with fail;refine Calls.mono (tK A2 n c2 _ b.jobs _ _ (fun j=>decide (t<j.next)) _ hM2 (by omega) hnc2 HM.out (fun _ _=>by kernel_rfl) ?_) ?_
   · intro x w' hw';refine GH x t _ w' (aD hw' q1' ?_);intro e;have this:w1.heap.size≤w.heap.size+1:=HLT.out _ e.symm;omega
   rintro e w3⟨k,rfl,hk,hM3,hg3⟩;have h03:aA w w3:=aT h02 h02.size hg3 (fun g e=>by have:=HLT.out g e;have:=h01.size;omega);clear hM2 hg3 q1 q1';go_wp2_with fail;refine Calls.mono (tT A2 k c2 _ (b.jobs.filter fun j=>!decide (t<j.next)) _ _ (fun x y=>x.next-y.next) _ hM3 (by omega) (fun _ _=>by kernel_rfl) ?_) ?_
   · intro x y w' hx hy;have h1:=hg.ok x ((List.mem_filter.1 hx).1);have h2:=hg.ok y ((List.mem_filter.1 hy).1);unfold eX at h1 h2;exact FO x y w' (by omega) (by omega)
   rintro e w4⟨rfl,hM4,hg4⟩;have h04:aA w w4:=aT h03 h03.size hg4 (fun g e=>by have:=HLT.out g e;have:=h01.size;omega);clear hM3 hg4;go_wp2_with fail;refine bodyPost_ret (v:=.tuple #[.slice A2 k c2,()]) (by simp[results,results129,go_sem]) rfl ?_;exact⟨A2,k,c2,rfl,hM4.1,h04,fun a e=>by have:=HLT.out a.block (by rw[e];rfl);have:=h01.size;omega,by omega,HM.out⟩
 rw[if_neg h0];have hr0:(r !=0)=true:=by simpa using h0
 clear h0 hr;go_enter func129,ntmps129;go_wp2_with fail;refine Calls.mono (sP A A' n c m d b t _ ((h.new _).new _) ((h'.new _).new _)) ?_;rintro e w1⟨rfl,hb1⟩;rw[←HR.out];have h01:aA w w1:=(((Below.refl _ _).alloc (Nat.le_refl _) _).alloc (by simp) _).trans (hb1.mono (by simp;omega));clear h h' hb1;go_wp2_with fail;refine bodyPost_ret (v:=.tuple #[Nat,r]) (by simp[results,results129,go_sem]) rfl ?_;exact⟨none,0,0,rfl,Sl.nil,h01,aR.Zp _,Nat.le_refl _,by unfold maxLen;omega⟩
end
section
abbrev CL:dB→dB→Bool:=fun x y=>decide (x.next-y.next<0)
def kA (S:List dB):Prop:=S.Pairwise fun a b=>a.next≤b.next
theorem GT {α:Type}{p:α→Bool}{P Q:List α}(hP:∀y∈P,p y=false)(hQ:∀y∈Q,p y=true):BS p (P ++Q)=P.length:=by
 refine AF (by simp) (fun y hy=>hQ y (by simpa using hy)) (fun y h0 hy=>?_);rw[List.getElem?_append_left (by omega)]at hy;exact hP y (List.mem_of_getElem? hy)
theorem sJ {T:List dB}(hT:kA T)(x:dB):T.filter (fun y=>!CL x y) ++T.filter (CL x)=T:=by
 induction T with
 |nil=>rfl
 |cons t T ih =>
   obtain⟨k1,k2⟩:=List.pairwise_cons.1 hT;by_cases ht:CL x t=true
   · have hall:∀z∈T,CL x z=true:=by
      intro z hz;have:=k1 z hz;simp[CL]at ht⊢;omega
     have e1:T.filter (fun z=>!CL x z)=[]:=List.filter_eq_nil_iff.2 (fun z hz=>by simp[hall z hz]);have e2:T.filter (CL x)=T:=List.filter_eq_self.2 (fun z hz=>hall z hz);rw[List.filter_cons,List.filter_cons,e1,e2];simp[ht]
   rw[List.filter_cons,List.filter_cons];simp[ht];simpa using ih k2
theorem pK {S:List dB}(h:kA S)(x:dB):mZ CL S x=S.filter (fun y=>!CL x y) ++[x] ++S.filter (CL x):=by
 have hs:=sJ h x
 have hp:BS (CL x) S=(S.filter fun y=>!CL x y).length:=by
  conv=>lhs;rw[←hs]
  exact GT (fun y hy=>by simpa using(List.mem_filter.1 hy).2) (fun y hy=>(List.mem_filter.1 hy).2)
 unfold mZ;rw[hp]
 conv=>lhs;rw[←hs]
 simp
theorem FX {S:List dB}(h:kA S)(x:dB):kA (mZ CL S x):=by
 rw[pK h];unfold kA;have hf:∀p:dB→Bool,kA (S.filter p):=fun p=>List.Pairwise.sublist List.filter_sublist h
 refine List.pairwise_append.2 ⟨List.pairwise_append.2 ⟨hf _,by simp,fun a ha b hb=>?_⟩,hf _,fun a ha b hb=>?_⟩
 · have h1:=(List.mem_filter.1 ha).2;simp at hb;subst hb;simp[CL]at h1;omega
 have h2:=(List.mem_filter.1 hb).2;rcases List.mem_append.1 ha with ha|ha
 · have h1:=(List.mem_filter.1 ha).2;simp[CL]at h1 h2;omega
 simp at ha;subst ha;simp[CL]at h2;omega
abbrev yB (t:Int):dB→Bool:=fun j=>!decide (t<j.next)
theorem EW {S:List dB}(h:kA S)(x:dB)(t:Int):(mZ CL S x).filter (yB t)=if yB t x=true then mZ CL (S.filter (yB t)) x else S.filter (yB t):=by
 have hf:kA (S.filter (yB t)):=List.Pairwise.sublist List.filter_sublist h;rw[pK h,List.filter_append,List.filter_append]
 split
 · rename_i hx;rw[pK hf];simp only[List.filter_filter,List.filter_cons,hx,List.filter_nil,if_true];congr 1
   · congr 1;exact List.filter_congr fun y _=>Bool.and_comm _ _
   exact List.filter_congr fun y _=>Bool.and_comm _ _
 rename_i hx;simp only[List.filter_cons,hx,List.filter_nil,List.append_nil];simp only[Bool.false_eq_true,if_false,List.append_nil];rw[←List.filter_append,sJ h]
theorem rZ (t:Int):∀ (l S:List dB),kA S→(l.foldl (mZ CL) S).filter (yB t)=(l.filter (yB t)).foldl (mZ CL) (S.filter (yB t))
 | [],_,_=>rfl
 |x ::l,S,h=>by
   rw[List.foldl_cons,rZ t l _ (FX h x),EW h,List.filter_cons]
   split<;>rfl
theorem MO (l:List dB)(t:Int):FT l t=(gM CL l).filter (yB t):=by
 unfold FT gM;rw[rZ t l [] (by simp[kA])];rfl
end
section
theorem EC {l:List dB}{t:Int}{x:dB}:x∈FT l t↔x∈l∧x.next≤t:=by
 rw[MO,List.mem_filter,(wI CL l).mem_iff];simp[yB]
end
end Go.Proofs.YtpfkagghooihfaaGreatDoor
