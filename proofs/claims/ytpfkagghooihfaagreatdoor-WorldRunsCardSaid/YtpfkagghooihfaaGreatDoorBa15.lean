/- Part 15. -/
import Derived.Test.YtpfkagghooihfaaGreatDoorBa11
namespace Go.Proofs.YtpfkagghooihfaaGreatDoor
set_option linter.unusedSimpArgs false
set_option linter.unusedVariables false
set_option maxHeartbeats 8000000
set_option maxRecDepth 100000
open Go.Proofs.Tryz
open Go.RowKit
section
attribute [local go_sem ↓] Go.wp_at_zero Go.wp_at_succ
theorem iY:(prog.info? 53).map (·.size)=some 2:=by kernel_rfl
theorem aF.litNl {w0 w:World}{L:List (Option xV)}(h:aF w0 w L){i:Nat}(hi:i<L.length):aF w0 (w.alloc (.cells #[.int .u8 10] 5)) (L.set i (some ⟨.slice (some ⟨w.heap.size,0,none⟩) 1 1,5,1,1,[cA 10]⟩)):=h.litB hi 10
def gJ (w:World)(q:iM×Int)(e:Ending)(w':World):Prop:=∃F k i F' l j,e=.returned (.tuple #[.agg #[.slice F k i,.slice F' l j],q.2])∧DK w' F k i F' l j q.1∧aR w.heap.size F∧aR w.heap.size F'∧aA w w'
theorem gJ.bad {w w':World}{q:Int}{v:Value}(h:v=.tuple #[.agg #[Nat,Nat],q])(on:aA w w'):gJ w (GL,q) (.returned v) w':=⟨none,0,0,none,0,0,by rw[h],DK.Zp _,aR.Zp _,aR.Zp _,on⟩
theorem GY (x:iM)(h:bE x=0):x.safe.length+x.wait.length≤30000:=(jM.1 h).1
theorem xR (A A' : Option Addr)(n c m d : Nat)(x : iM)(r : dI)(w : World)(E : fR w)(K : DK w A n c A' m d x) :
    Calls prog 132 #[.agg #[.slice A n c,.slice A' m d],.agg #[r.kind,r.at_,r.epoch,r.e.kind,r.e.job,r.e.every,r.e.time,r.e.client]] w (gJ w (fH x r)):=by
 obtain⟨g,hg⟩:∃g,g=bE x:=⟨_,rfl⟩
 obtain⟨T,hT⟩:∃T,T=(dS r).1:=⟨_,rfl⟩
 obtain⟨h,hh⟩:∃h,h=(dS r).2:=⟨_,rfl⟩
 obtain⟨q,hq⟩:∃q,q=fH x r:=⟨_,rfl⟩
 rw[←hq];unfold fH at hq;rw[←hg,←hT,←hh,←K.n_eq,←K.m_eq]at hq;have hTl:T.length≤100:=hT▸wW r;have HG:=aH hg;have HT:=aH hT;have HH:=aH hh;have HQ:=aH hq;clear hg hT hh hq;go_enter func132,ntmps132;go_upto_region 1 with fail
 have B2:Bx (((w.alloc (Obj.cells #[.slice A n c,.slice A' m d] 53)).alloc (Obj.cells #[r.kind,r.at_,r.epoch,r.e.kind,r.e.job,r.e.every,r.e.time,r.e.client] 90)).alloc (Obj.cells #[Nat,Nat] 53)) w.heap.size [.slice A n c,.slice A' m d]:=by
  have:=(((Bx.Zt w #[.slice A n c,.slice A' m d] 53).new (Obj.cells #[r.kind,r.at_,r.epoch,r.e.kind,r.e.job,r.e.every,r.e.time,r.e.client] 90)).new (Obj.cells #[Nat,Nat] 53))
  simpa using this
 have B3:Bx (((w.alloc (Obj.cells #[.slice A n c,.slice A' m d] 53)).alloc (Obj.cells #[r.kind,r.at_,r.epoch,r.e.kind,r.e.job,r.e.every,r.e.time,r.e.client] 90)).alloc (Obj.cells #[Nat,Nat] 53)) (w.heap.size+1) [r.kind,r.at_,r.epoch,r.e.kind,r.e.job,r.e.every,r.e.time,r.e.client]:=by
  have:=((Bx.Zt (w.alloc (Obj.cells #[.slice A n c,.slice A' m d] 53)) #[r.kind,r.at_,r.epoch,r.e.kind,r.e.job,r.e.every,r.e.time,r.e.client] 90).new (Obj.cells #[Nat,Nat] 53))
  simpa using this
 have Bz:Bx (((w.alloc (Obj.cells #[.slice A n c,.slice A' m d] 53)).alloc (Obj.cells #[r.kind,r.at_,r.epoch,r.e.kind,r.e.job,r.e.every,r.e.time,r.e.client] 90)).alloc (Obj.cells #[Nat,Nat] 53)) (w.heap.size+2) [Nat,Nat]:=by
  have:=(Bx.Zt ((w.alloc (Obj.cells #[.slice A n c,.slice A' m d] 53)).alloc (Obj.cells #[r.kind,r.at_,r.epoch,r.e.kind,r.e.job,r.e.every,r.e.time,r.e.client] 90)) #[Nat,Nat] 53)
  simpa using this
 have on:aA w (((w.alloc (Obj.cells #[.slice A n c,.slice A' m d] 53)).alloc (Obj.cells #[r.kind,r.at_,r.epoch,r.e.kind,r.e.job,r.e.every,r.e.time,r.e.client] 90)).alloc (Obj.cells #[Nat,Nat] 53)):=(((aA.Zz w).new _).new _).new _;generalize(((w.alloc (Obj.cells #[.slice A n c,.slice A' m d] 53)).alloc (Obj.cells #[r.kind,r.at_,r.epoch,r.e.kind,r.e.job,r.e.every,r.e.time,r.e.client] 90)).alloc (Obj.cells #[Nat,Nat] 53))=w1 at *;have hz':w.heap.size≤w.heap.size+2:=by omega
 have hzz:w.heap.size≠w.heap.size+2:=by omega
 generalize w.heap.size+2=z at Bz hz' hzz⊢;generalize w.heap.size+1=z3 at B3⊢;generalize hz2:w.heap.size=z2 at B2 hzz⊢;clear hz2;obtain⟨b0,b1⟩:=B2.p2;go_wp2_with fail;refine Calls.mono (gX A A' n c m d x _ (E.oe on) (K.oe on)) ?_;rintro e w2⟨rfl,b⟩;rw[show bE x=g from HG.out.symm];replace on:=on.to b;replace B2:=B2.oe b;replace B3:=B3.oe b;replace Bz:=Bz.oe b;clear b b0 b1;by_cases hg0:g=0
 · have hbd:n+m≤30000:=by rw[K.n_eq,K.m_eq];exact GY x (by rw[←HG.out,hg0])
   have hn:n≤30000:=by omega
   have hm:m≤30000:=by omega
   have hq:=HQ.out;rw[if_neg (by simp[hg0])]at hq;replace HQ:=aH hq;subst hg0;clear hq;obtain⟨r0,r1,r2,r3,r4,r5,r6,r7⟩:=B3.p8;go_wp2_with fail;refine Calls.mono (zY r.kind r.at_ r.epoch r.e _ (E.oe on)) ?_;rw[show(dS ⟨r.kind,r.at_,r.epoch,r.e⟩).1=T from HT.out.symm,show(dS ⟨r.kind,r.at_,r.epoch,r.e⟩).2=h from HH.out.symm];rintro e w3⟨rfl,b⟩;replace on:=on.to b;replace B2:=B2.oe b;replace Bz:=Bz.oe b;clear b r0 r1 r2 r3 r4 r5 r6 r7 B3;by_cases hh0:h=0
   · have hq:=HQ.out;rw[if_neg (by simp[hh0])]at hq;replace HQ:=aH hq;subst hh0;clear hq;obtain⟨b0,b1⟩:=B2.p2;by_cases hf:30000<n+m+(T.length+1)
     · have hd:(30000:Int)-(n:Int)-(m:Int)<(T.length:Int)+1:=by omega
       have hq:=HQ.out;rw[if_pos hf]at hq;subst hq;clear hf b0 b1;obtain⟨b0,b1⟩:=B2.p2;go_wp2_with (refine pU Bz [Nat,Nat] 53 iY ?_)
       have hF:=Bz.put (us:=[Nat,Nat]) rfl;have oF:=aA.Zw (b:=z) (o:=0) (us:=[Nat,Nat]) hz' on;generalize World.setCells _ z 0 [.slice none 0 0,.slice none 0 0]=wF at hF oF⊢;go_wp2_with fail;obtain⟨p0,p1⟩:=hF.p2;refine bodyPost_ret (v:=.tuple #[.agg #[Nat,Nat],(2:Int)]) (by simp[results,results132,go_sem,p0,p1]) rfl (gJ.bad rfl oF)
     have hd:¬ (30000:Int)-(n:Int)-(m:Int)<(T.length:Int)+1:=by omega
     have hq:=HQ.out;rw[if_neg hf]at hq;subst hq;clear hf;go_upto_region 9 with fail
     have K3:=K.oe on;have LV:=aF.start w3 3;obtain⟨zb0,zb1⟩:=Bz.p2
     go_region_held3 (fun w'=>w'.cell? ⟨z2,0,none⟩=some (.slice A n c)∧w'.cell? ⟨z2,1,none⟩=some (.slice A' m d))
      (first|exact⟨aB (aF.on (by with_reducible(first|exact LV|exact LV.draw|exact LV.litNl (i:=2) (by simp)|exact LV.draw.litNl (i:=2) (by simp)|exact(LV.litNl (i:=2) (by simp)).draw))) b0,aB (aF.on (by with_reducible(first|exact LV|exact LV.draw|exact LV.litNl (i:=2) (by simp)|exact LV.draw.litNl (i:=2) (by simp)|exact(LV.litNl (i:=2) (by simp)).draw))) b1⟩|exact⟨(((B2.oe (aF.on (by with_reducible(first|exact LV|exact LV.draw|exact LV.litNl (i:=2) (by simp)|exact LV.draw.litNl (i:=2) (by simp)|exact(LV.litNl (i:=2) (by simp)).draw)))).Zr (p:=⟨z,0,none⟩) hzz _).Zr (p:=⟨z,1,none⟩) hzz _).at_ 0 rfl,(((B2.oe (aF.on (by with_reducible(first|exact LV|exact LV.draw|exact LV.litNl (i:=2) (by simp)|exact LV.draw.litNl (i:=2) (by simp)|exact(LV.litNl (i:=2) (by simp)).draw)))).Zr (p:=⟨z,0,none⟩) hzz _).Zr (p:=⟨z,1,none⟩) hzz _).at_ 1 rfl⟩|fail)
      (first
       | (go_at_call 65;refine Calls.mono (lP (by with_reducible(first|exact LV|exact LV.draw|exact LV.litNl (i:=2) (by simp)|exact LV.draw.litNl (i:=2) (by simp)|exact(LV.litNl (i:=2) (by simp)).draw)) 0 (by simp) A n c x.safe K3.safe (by omega)) ?_;rintro e w6⟨A1,c1,rfl,LV⟩;have Z:=Bz.oe LV.on;obtain⟨p0,p1⟩:=Z.p2;have f0:=Z.Zy 0;have f1:=Z.Zy 1;clear Z)
       | (go_at_call 65;refine Calls.mono (lP (by with_reducible(first|exact LV|exact LV.draw|exact LV.litNl (i:=2) (by simp)|exact LV.draw.litNl (i:=2) (by simp)|exact(LV.litNl (i:=2) (by simp)).draw)) 1 (by simp) A' m d x.wait K3.wait (by omega)) ?_;rintro e w7⟨A2,c2,rfl,LV⟩;have Z:=Bz.oe LV.on;obtain⟨p0,p1⟩:=Z.p2;have f0:=Z.Zy 0;have f1:=Z.Zy 1;clear Z)
       | (refine sM (by with_reducible(first|exact LV|exact LV.draw|exact LV.litNl (i:=2) (by simp)|exact LV.draw.litNl (i:=2) (by simp)|exact(LV.litNl (i:=2) (by simp)).draw)) (by rfl) _ _ (by rfl) 1 (.slice A2 m c2) m (x.wait.map cA) (by rfl) (by rfl) T (by rfl) (by omega) ?_;intro A3 c3 w8 LV;have Z:=Bz.oe LV.on;obtain⟨p0,p1⟩:=Z.p2;have f0:=Z.Zy 0;have f1:=Z.Zy 1;clear Z)
       | (refine gW (by with_reducible(first|exact LV|exact LV.draw|exact LV.litNl (i:=2) (by simp)|exact LV.draw.litNl (i:=2) (by simp)|exact(LV.litNl (i:=2) (by simp)).draw)) (by rfl) _ _ 51 (by rfl) 5 1 1 (.int .u8 0) wS underlying51 rfl (by omega) 1 (.slice A3 (m+T.length) c3) (m+T.length) (x.wait.map cA ++T.map cA) (by rfl) (by rfl) _ 1 1 [cA 10] (by rfl) (aF.sl (i:=2) (by with_reducible(first|exact LV|exact LV.draw|exact LV.litNl (i:=2) (by simp)|exact LV.draw.litNl (i:=2) (by simp)|exact(LV.litNl (i:=2) (by simp)).draw)) (by rfl)) (eY [10]) (by unfold maxLen;omega) (by omega) ?_;intro A5 c5 w9 LV;have Z:=Bz.oe LV.on;obtain⟨p0,p1⟩:=Z.p2;have f0:=Z.Zy 0;have f1:=Z.Zy 1;clear Z)
       |fail)
     all_goals
      have hz3:z<w3.heap.size:=Bz.lt;have o1:cH _ w3.heap.size 5 1 (.slice A1 n c1) n (x.safe.map cA):=LV.own 0 _ rfl;have o2:cH _ w3.heap.size 5 1 (.slice A5 (m+T.length+1) c5) (m+T.length+1) (x.wait.map cA ++T.map cA ++[cA 10]):=LV.own 1 _ rfl;have on9:=on.to LV.on;have HO1:=aH o1;have HO2:=aH o2;have HON:=aH on9;clear o1 o2 on9 LV;go_wp2_with fail;refine bodyPost_ret (v:=.tuple #[.agg #[.slice A1 n c1,.slice A5 (m+T.length+1) c5],()]) (by simp[results,results132,go_sem,p0,p1]) rfl ⟨A1,n,c1,A5,m+T.length+1,c5,rfl,⟨((HO1.out.setCell (p:=⟨z,0,none⟩) hz3 _).setCell (p:=⟨z,1,none⟩) hz3 _).sl,?_,HO1.out.Zs,HO1.out.cap_max,HO2.out.Zs,HO2.out.cap_max⟩,HO1.out.fresh on.size,HO2.out.fresh on.size,(HON.out.put hz' _).put hz' _⟩;rw[show(⟨x.safe,x.wait ++T ++[10]⟩:iM).wait.map cA=x.wait.map cA ++T.map cA ++[cA 10] by simp];exact((HO2.out.setCell (p:=⟨z,0,none⟩) hz3 _).setCell (p:=⟨z,1,none⟩) hz3 _).sl
   have hq:=HQ.out;rw[if_pos hh0]at hq;subst hq;have hh1:(h ==0)=false:=by simp[hh0]
   have hh2:(h !=0)=true:=by simp[hh0]
   clear hh0;go_wp2_with (refine pU Bz [Nat,Nat] 53 iY ?_)
   have hF:=Bz.put (us:=[Nat,Nat]) rfl;have oF:=aA.Zw (b:=z) (o:=0) (us:=[Nat,Nat]) hz' on;generalize World.setCells _ z 0 [.slice none 0 0,.slice none 0 0]=wF at hF oF⊢;go_wp2_with fail;obtain⟨p0,p1⟩:=hF.p2;refine bodyPost_ret (v:=.tuple #[.agg #[Nat,Nat],h]) (by simp[results,results132,go_sem,p0,p1]) rfl (gJ.bad rfl oF)
 have hq:=HQ.out;rw[if_pos hg0]at hq;subst hq;have hg1:(g ==0)=false:=by simp[hg0]
 have hg2:(g !=0)=true:=by simp[hg0]
 clear hg0;go_wp2_with (refine pU Bz [Nat,Nat] 53 iY ?_)
 have hF:=Bz.put (us:=[Nat,Nat]) rfl;have oF:=aA.Zw (b:=z) (o:=0) (us:=[Nat,Nat]) hz' on;generalize World.setCells _ z 0 [.slice none 0 0,.slice none 0 0]=wF at hF oF⊢;go_wp2_with fail;obtain⟨p0,p1⟩:=hF.p2;refine bodyPost_ret (v:=.tuple #[.agg #[Nat,Nat],g]) (by simp[results,results132,go_sem,p0,p1]) rfl (gJ.bad rfl oF)
end
end Go.Proofs.YtpfkagghooihfaaGreatDoor
