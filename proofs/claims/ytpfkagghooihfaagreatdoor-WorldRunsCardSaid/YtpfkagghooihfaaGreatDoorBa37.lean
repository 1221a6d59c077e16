/- Part 37. -/
import Derived.Test.YtpfkagghooihfaaGreatDoorBa30
import Derived.Test.YtpfkagghooihfaaGreatDoorBa24
namespace Go.Proofs.YtpfkagghooihfaaGreatDoor
set_option linter.unusedSimpArgs false
set_option linter.unusedVariables false
set_option maxHeartbeats 16000000
set_option maxRecDepth 100000
open Go.Proofs.Tryz
open Go.RowKit
section
theorem mV (er:Int)(w:World):Calls prog 94 #[er] w fun e w'=>e=.returned (.tuple #[.agg z8.toArray,.agg z5.toArray,er])∧aA w w':=by
 go_enter func94,ntmps94;go_wp2;refine bodyPost_ret (v:=.tuple #[.agg z8.toArray,.agg z5.toArray,er]) (by simp[results,results94,go_sem]) rfl ⟨rfl,?_⟩
 repeat(first|exact Below.refl _ _|refine Below.alloc ?_ (by simp<;>omega) _|refine Below.setCell ?_ (by simp) _)
theorem Bx.c8 {w:World}{z:Nat}{ρ:dI}(B:Bx w z (eO ρ)):w.cell? ⟨z,0,none⟩=some (.int .i64 ρ.kind)∧w.cell? ⟨z,1,none⟩=some (.int .i64 ρ.at_)∧w.cell? ⟨z,2,none⟩=some (.int .i64 ρ.epoch)∧w.cell? ⟨z,3,none⟩=some (.int .i64 ρ.e.kind)∧w.cell? ⟨z,4,none⟩=some (.int .i64 ρ.e.job)∧w.cell? ⟨z,5,none⟩=some (.int .i64 ρ.e.every)∧w.cell? ⟨z,6,none⟩=some (.int .i64 ρ.e.time)∧w.cell? ⟨z,7,none⟩=some (.int .i64 ρ.e.client) :=
 ⟨B.at_ 0 rfl,B.at_ 1 rfl,B.at_ 2 rfl,B.at_ 3 rfl,B.at_ 4 rfl,B.at_ 5 rfl,B.at_ 6 rfl,B.at_ 7 rfl⟩
theorem QB (y:aL)(w:World):(binOp .neq 27 (.agg #[y.kind,y.job,y.every,y.time,y.client]) (.agg #[(4:Int),(),(),(),()])).run prog w=.ok (.bool (decide (y≠fK))) w:=MP y fK w
theorem mX {w w4 W : World}{p q : Nat}{r : dI×aL×Int}{ts : Array Value}{o1 o2 : List Value}(on' : aA ((w4.setCells p 0 (eO r.1)).setCells q 0 (bA r.2.1)) W)(R : Bx w4 p o1)(Y : Bx w4 q o2)(l1 : o1.length = 8)(l2 : o2.length = 5)(ne : p ≠ q)(on : aA w w4)(hp : w.heap.size ≤ p)(hq : w.heap.size ≤ q)
    (h1:ts[10]?=some (.pointer (some ⟨p,0,none⟩)))(h2:ts[11]?=some (.pointer (some ⟨q,0,none⟩)))(h3:ts[12]?=some (.int .i64 r.2.2)):bodyPost prog Tryz.f60 (uW w r) .ret ⟨ts,[]⟩ W:=by
 have B:=((R.put (us:=eO r.1) (by rw[l1];rfl)).off (us:=bA r.2.1) (o:=0) ne).oe on';have B':=((Y.off (us:=eO r.1) (o:=0) (Ne.symm ne)).put (us:=bA r.2.1) (by rw[l2];rfl)).oe on';have Z8:=B.c8;have Z:=B'.c5;refine bodyPost_ret (v:=.tuple #[.agg (eO r.1).toArray,.agg (bA r.2.1).toArray,r.2.2]) ?_ rfl ⟨rfl,(cJ hq (cJ hp on)).to on'⟩;simp[results,results60,h1,h2,h3,go_sem,Z8,Z,eO,bA]
theorem qO (A : Option Addr)(n c : Nat)(l : List UV)(k a : Int)(x : aL)(ep : Int)(w : World)(h : Us w A n l) :
    Calls prog 60 #[.slice A n c,k,a,.agg (bA x).toArray,ep] w (uW w (lW (jW l) k a x ep)):=by
 obtain⟨q,hq⟩:∃q,q=gR (jW l):=⟨_,rfl⟩
 obtain⟨q2,hq2⟩:∃q2,q2=aG x:=⟨_,rfl⟩
 obtain⟨r,hr⟩:∃r,r=lW (jW l) k a x ep:=⟨_,rfl⟩
 rw[←hr];unfold lW at hr;rw[←hq,←hq2]at hr;have HQ:=aH hq;have HQ2:=aH hq2;have HR:=aH hr;clear hq hq2 hr;unfold bA;go_enter func60,ntmps60;go_upto_region 1 with fail
 refine fY (v1:=bA x) (v2:=z8) (v3:=z5) rfl rfl rfl fun w0 on X R Y=>?_
 replace h:=h.oe on;generalize hz:w.heap.size=z at X R Y⊢;go_wp2_with fail;refine Calls.mono (zC A n c l _ h) ?_;rw[←HQ.out];rintro e w1⟨rfl,b1⟩;replace on:=on.to b1;replace X:=X.oe b1;replace R:=R.oe b1;replace Y:=Y.oe b1;replace h:=h.oe b1;clear b1;by_cases h0:q≠0
 · have hr:=HR.out;rw[if_pos h0]at hr;have hd:(q !=0)=true:=by simpa using h0
   clear HR h0;have HR:=aH hr;clear hr;go_wp2_with (fail)
   refine Calls.mono (mV _ _) ?_;rintro e w9⟨rfl,ob⟩;replace R:=R.oe ob;replace Y:=Y.oe ob;go_wp2_with (refine eE R Y (by omega) (by rfl) (by rfl) (by rfl) (by rfl) (by rfl) (by rfl) (by rfl) (by rfl) ?_)
   rw[HR.out];exact mX (aA.Zz _) R Y rfl rfl (by omega) (on.to ob) (by omega) (by omega) rfl rfl rfl
 have h0:q=0:=by omega
 have hg:=lB.1 (HQ.out.symm.trans h0);have hn:n=3:=by rw[←h.len,←List.length_map (f:=UV.u)];exact hg.len
 subst h0;subst hn;have HG:=aH hg;have hr:=HR.out;rw[if_neg (by simp)]at hr;by_cases hbad:k<0∨3≤k∨a<0∨60≤a
 · rw[if_pos hbad]at hr;have hh:(decide (0≤k)&&decide (k≤2))=false∨((decide (0≤k)&&decide (k≤2))=true∧(decide (0≤a)&&decide (a≤59))=false):=by simp;omega
   clear hbad HR hg;rcases hh with h1| ⟨h1,h2⟩
   all_goals
    have HR:=aH hr;clear hr;go_wp2_with (go_at_call 18;refine Calls.mono (aM _ _ _ _) ?_;(first|rw[h1]|rw[h2]);rintro e w'⟨rfl,rfl⟩)
    refine Calls.mono (mV _ _) ?_;rintro e w9⟨rfl,ob⟩;replace R:=R.oe ob;replace Y:=Y.oe ob;go_wp2_with (refine eE R Y (by omega) (by rfl) (by rfl) (by rfl) (by rfl) (by rfl) (by rfl) (by rfl) (by rfl) ?_)
    rw[HR.out];exact mX (aA.Zz _) R Y rfl rfl (by omega) (on.to ob) (by omega) (by omega) rfl rfl rfl
 rw[if_neg hbad]at hr;obtain⟨j,rfl⟩:∃j:Nat,a=j:=⟨a.toNat,by omega⟩
 obtain⟨i,rfl⟩:∃i:Nat,k=i:=⟨k.toNat,by omega⟩
 have h1:(decide (0≤(i:Int))&&decide ((i:Int)≤2))=true:=by simp;omega
 have h2:(decide (0≤(j:Int))&&decide ((j:Int)≤59))=true:=by simp;omega
 have hi3:i<3:=by omega
 have hj60:j<60:=by omega
 have HR1:=aH hr;clear hr hbad HR hg;have Z:=X.c5;go_wp2_with (go_at_call 18;refine Calls.mono (aM _ _ _ _) ?_;(first|rw[h1]|rw[h2]);rintro e w'⟨rfl,rfl⟩)
 refine Calls.mono (eT x.kind x.job x.every x.time x.client _) ?_;rw[show aG ⟨x.kind,x.job,x.every,x.time,x.client⟩=q2 from HQ2.out.symm];rintro e w2⟨rfl,b2⟩;clear Z h1 h2;replace on:=on.to b2;replace X:=X.oe b2;replace R:=R.oe b2;replace Y:=Y.oe b2;replace h:=h.oe b2;clear b2;have hr:=HR1.out;by_cases h20:q2≠0
 · rw[if_pos h20]at hr;have hd:(q2 !=0)=true:=by simpa using h20
   clear h20 HR1;have HR:=aH hr;clear hr;go_wp2_with (fail)
   refine Calls.mono (mV _ _) ?_;rintro e w9⟨rfl,ob⟩;replace R:=R.oe ob;replace Y:=Y.oe ob;go_wp2_with (refine eE R Y (by omega) (by rfl) (by rfl) (by rfl) (by rfl) (by rfl) (by rfl) (by rfl) (by rfl) ?_)
   rw[HR.out];exact mX (aA.Zz _) R Y rfl rfl (by omega) (on.to ob) (by omega) (by omega) rfl rfl rfl
 have h20:q2=0:=by omega
 subst h20;rw[if_neg (by simp)]at hr;obtain⟨b,off,u,rfl,hbz,hu,e0,e1,hs,hul⟩:=h.atU hi3;have hgu:=HG.out.ok u.u (List.mem_map.2 ⟨u,List.mem_of_getElem? hu,rfl⟩);have hun:u.n=60:=by rw[←hul];exact hgu.len
 rw[Int.toNat_natCast,Int.toNat_natCast,mT (kB hu)]at hr;simp only[show u.u.ep=u.ep from rfl,show u.u.cells=u.cells from rfl]at hr;rw[hun]at hs e1;obtain⟨b1,off1,y,hA1,hyz,hy,d0,d1,d2,d3,d4⟩:=hs.atE hj60;have hoy:=sD (hgu.ok y (List.mem_of_getElem? hy));rw[hA1]at e1;rw[dH hy]at hr;have hj60':(j:Int)<60:=by omega
 have hi3':(i:Int)<3:=by omega
 have HR2:=aH hr;clear hr HR1 hy hu hgu hs hul;go_upto_region 11 with fail
 refine aW (v1:=bA y) rfl fun w4 ob V=>?_
 have hyv:=Y.lt;generalize hv:w2.heap.size=zv at V hyv⊢;clear d0 d1 d2 d3 d4;replace e0:=aB ob e0;replace e1:=aB ob e1;replace on:=on.to ob;replace X:=X.oe ob;replace R:=R.oe ob;replace Y:=Y.oe ob;replace h:=h.oe ob;clear ob;have hr:=HR2.out;by_cases hep:ep≠u.ep
 · rw[if_pos hep]at hr;have hd:(u.ep !=ep)=true:=by simpa using Ne.symm hep
   clear HR2 hep;have HR:=aH hr;clear hr;go_wp2_with (fail)
   refine Calls.mono (mV _ _) ?_;rintro e w9⟨rfl,ob⟩;replace R:=R.oe ob;replace Y:=Y.oe ob;go_wp2_with (refine eE R Y (by omega) (by rfl) (by rfl) (by rfl) (by rfl) (by rfl) (by rfl) (by rfl) (by rfl) ?_)
   rw[HR.out];exact mX (aA.Zz _) R Y rfl rfl (by omega) (on.to ob) (by omega) (by omega) rfl rfl rfl
 rw[if_neg hep]at hr;have hd:(u.ep !=ep)=false:=by simp;omega
 obtain⟨c,hc⟩:∃c:Bool,c=decide (0<(i:Int)∧bF (jK (jW l) (i-1)).cells j≠x):=⟨_,rfl⟩
 have hr2:r=if c=true then(dR,bP,7)else if y.kind≠4 then(dR,y,0)else(⟨1,j,0,x⟩,x,0):=by rw[hr,hc];simp only[decide_eq_true_eq]
 have HC:=aH hc;have HR:=aH hr2;clear hr hr2 hc hep HR2;have Z:=X.c5;go_wp2_with fail;go_cut [71] (fun s71 wx=>s71=.bool c∧aA w4 wx)
 case first =>
  rcases Nat.eq_zero_or_pos i with rfl|hpos
  · have hcf:c=false:=by rw[HC.out];simp
    go_quiet (fail);go_wp2_with fail;go_meet;exact⟨by rw[hcf],aA.Zv (aA.Zz _) _⟩
  obtain⟨b',off',v,hA',_,hv,g0,g1,hsv,hvl⟩:=h.atU (i:=i-1) (by omega);injection hA' with hA';injection hA' with e1' e2' _;subst e1';subst e2';have hgv:=HG.out.ok v.u (List.mem_map.2 ⟨v,List.mem_of_getElem? hv,rfl⟩);have hvn:v.n=60:=by rw[←hvl];exact hgv.len
  rw[hvn]at hsv g1;obtain⟨b2,off2,y',hA2,hyz',hy',f0,f1,f2,f3,f4⟩:=hsv.atE hj60;rw[hA2]at g1
  have hcv:c=decide (x≠y'):=by
   rw[HC.out,mT (kB hv),show bF v.u.cells j=y' from dH hy',decide_eq_decide];exact⟨fun h=>Ne.symm h.2,fun h=>⟨by omega,Ne.symm h⟩⟩
  have hne:=MP x y';rw[←hcv]at hne;have hge:(1:Int)≤(i:Int):=by omega
  clear hsv hv hy' hgv hA1 hA2 hcv e0 e1;go_quiet (fail);go_wp2_with fail;go_meet;exact⟨rfl,aA.Zv (aA.Zz _) _⟩
 case rest =>
  obtain⟨rfl,ob⟩:=hcut;clear e0 e1 Z h;replace on:=on.to ob;replace X:=X.oe ob;replace R:=R.oe ob;replace Y:=Y.oe ob;replace V:=V.oe ob;clear ob;have hr:=HR.out;by_cases h7:c=true
  · rw[if_pos h7]at hr;subst h7;clear HR;have HR:=aH hr;clear hr;go_wp2_with (fail)
    refine Calls.mono (mV _ _) ?_;rintro e w9⟨rfl,ob⟩;replace R:=R.oe ob;replace Y:=Y.oe ob;go_wp2_with (refine eE R Y (by omega) (by rfl) (by rfl) (by rfl) (by rfl) (by rfl) (by rfl) (by rfl) (by rfl) ?_)
    rw[HR.out];exact mX (aA.Zz _) R Y rfl rfl (by omega) (on.to ob) (by omega) (by omega) rfl rfl rfl
  rw[if_neg h7]at hr;obtain rfl:c=false:=by simpa using h7
  obtain⟨d,hd4⟩:∃d,d=decide (y≠fK):=⟨_,rfl⟩
  have hne:=QB y;rw[←hd4]at hne;have HD:=aH hd4;clear HR h7 hd4;go_wp2_with fail;go_cut [92] (fun s92 wx=>s92=.bool d∧aA wc wx)
  case first =>
   obtain⟨m0,m1,m2,m3,m4⟩:=V.c5;replace m0:=aC m0;replace m1:=aC m1;replace m2:=aC m2;replace m3:=aC m3;replace m4:=aC m4;refine aS (by kernel_rfl) (by kernel_rfl) ?_
   repeat(go_big_quiet_step ((first| (go_at_call 73;exact dO (dU _)))))
   refine wpQuiet_nil ?_;intro w5 hb5;clear m0 m1 m2 m3 m4;go_wp2_with fail;go_meet;exact⟨rfl,hb5⟩
  case rest =>
   obtain⟨rfl,ob⟩:=hcut;clear hne;replace on:=on.to ob;replace X:=X.oe ob;replace R:=R.oe ob;replace Y:=Y.oe ob;replace V:=V.oe ob;clear ob;have Z:=V.c5;have Z':=X.c5;have hrl:=R.lt;have hyl:=Y.lt;have Z8:=R.c8 (ρ:=dR);have Z5:=Y.c5 (y:=bP);have t1:=R.Zy;have t2:=Y.Zy;by_cases h4:y.kind≠4
   · rw[if_pos h4]at hr;obtain rfl:d=true:=by rw[HD.out];exact decide_eq_true fun h=>h4 (hoy.2.2.2 h)
     have HR:=aH hr;clear hr h4 hoy HD;go_wp2_with fail;go_region;go_wp2_with fail;rw[HR.out];exact mX (w4:=wc) (r:=(dR,y,0)) ((aA.Zz _).draw) R Y rfl rfl (by omega) on (by omega) (by omega) rfl rfl rfl
   rw[if_neg h4]at hr;obtain rfl:d=false:=by rw[HD.out];exact decide_eq_false fun h=>h (hoy.2.2.1 (by omega))
   have HR:=aH hr;clear hr h4 hoy HD;go_wp2_with fail;go_region;go_wp2_with fail;rw[HR.out];exact mX (w4:=wc) (r:=(⟨1,j,0,x⟩,x,0)) ((aA.Zz _).draw) R Y rfl rfl (by omega) on (by omega) (by omega) rfl rfl rfl
end
section
attribute [local go_sem ↓] Go.wp_at_zero Go.wp_at_succ
attribute [local go_sem ↓] jH kG
attribute [local go_sem] gP gF iV
theorem tA (K w0 : World)(z nb cN cb cC : Nat)(ns : List NV)(tip : Int)(cs : List CV)(time : Int)(kd nn jb ep : Int)(m : Nat)(y : aL)(w : World)(E0 : fR w0)(H : WM K w0 w z nb cN cb cC ns tip cs time)(hok : ∀v ∈ cs, aP v.x = 0)(hm : m < 3)(hk : kd = 14) :
    Calls prog 67 #[.pointer (some ⟨z,0,none⟩),.agg #[kd,.int .i64 ↑m,nn,jb,ep,y.kind,y.job,y.every,y.time,y.client]] w (bR K w0 z nb cN cb cC (aZ (aY ns tip cs time) ⟨kd,m,nn,jb,ep,y⟩)):=by
 obtain⟨c,hcv,J,on2,oc2,_⟩:=H.f.atC hm;have oz2:=H.cz c (List.mem_of_getElem? hcv);have hcc:=hok c (List.mem_of_getElem? hcv);have hzl0:=H.lts;obtain⟨q,hq⟩:∃q,q=aZ (aY ns tip cs time) ⟨kd,m,nn,jb,ep,y⟩:=⟨_,rfl⟩
 rw[←hq];have htm:((m:Nat):Int).toNat=m:=by omega
 unfold aZ at hq;dsimp only at hq;rw[if_neg (by omega)]at hq;simp only[htm,show(aY ns tip cs time).c=bL cs from rfl,cU hcv]at hq;have HQ:=aH hq;have HCV:=aH hcv;have HK:=aH hk;have HOK:=aH hok;have HCC:=aH hcc;have hm3:(m:Int)<3:=by omega
 clear hq hcv hk htm hcc hok;go_enter func67,ntmps67;go_upto_region 1 with fail
 refine aW (v1:=[kd,.int .i64 ↑m,nn,jb,ep,y.kind,y.job,y.every,y.time,y.client]) rfl fun w1 b X=>?_
 replace H:=H.oe b;replace J:=J.oe b;generalize hzx:w.heap.size=zx at X hzl0;clear hzx b;have x1:=X.at_ 1 rfl;have z2:=H.bx.at_ 2 rfl;go_quiet (fail);go_upto_region 3 with fail
 generalize hd:World.drewN w1 _=w2;have od:aA w1 w2:=by rw[←hd];exact(aA.Zz w1).Zv _
 clear hd x1 z2;replace H:=H.oe od;replace X:=X.oe od;replace J:=J.oe od;clear od;have x1:=X.at_ 1 rfl;have z2:=H.bx.at_ 2 rfl;obtain⟨c0,c1,c2,c3,c4,c5,c6,c7,c8,c9,c10,c11⟩:=CV.Zu H.f.cr (aX cs) (dD HCV.out);have hz2:=H.lts;have hxl:=X.lt;go_cut [5] (fun s5 wx=>∃ (p:Nat),s5=.pointer (some ⟨p,0,none⟩)∧Bx wx p [c.x.epoch,c.x.doing,c.x.e.kind,c.x.e.job,c.x.e.every,c.x.e.time,c.x.e.client,c.x.at_,c.x.link,c.x.played,.slice c.A c.n c.c,.slice c.G c.m c.d]∧aA w2 wx∧w2.heap.size≤p)
 case first =>
  go_region
  all_goals
   go_wp2_with fail;go_meet;exact⟨_,rfl,Bx.put (us:=[c.x.epoch,c.x.doing,c.x.e.kind,c.x.e.job,c.x.e.every,c.x.e.time,c.x.e.client,c.x.at_,c.x.link,c.x.played,.slice c.A c.n c.c,.slice c.G c.m c.d]) (vs:=[(),(),(),(),(),(),(),(),(),(),Nat,Nat]) ((Bx.Zt _ _ _).draw) rfl,aA.Zw (Nat.le_refl _) (((aA.Zz w2).new _).draw),Nat.le_refl _⟩
 case rest =>
  obtain⟨pc,rfl,PC,b,hpc⟩:=hcut;clear x1 z2 c0 c1 c2 c3 c4 c5 c6 c7 c8 c9 c10 c11;have NOFF:∀v∈ns,v.off pc:=fun v hv=>(H.f.ni v hv).1.Zn hpc
  have COFF:∀v∈cs,v.off pc:=fun v hv=>(H.f.ci v hv).1.Zn hpc
  have hw0p:w0.heap.size≤pc:=Nat.le_trans H.Zm.size hpc;have hkp:K.heap.size≤pc:=Nat.le_trans H.kp.size hpc;replace H:=H.oe b;replace X:=X.oe b;replace J:=J.oe b;clear b;generalize wc=w3 at *;have hpx:pc≠zx:=by omega
  have x0:=X.at_ 0 rfl;have hk:=HK.out;subst hk;have hq:=HQ.out;rw[if_neg (by decide),if_neg (by decide),if_neg (by decide),if_neg (by decide),if_neg (by decide),if_neg (by decide)]at hq;replace HQ:=aH hq;clear hq HK;go_upto_region 34 with fail
  have hzbw:=H.Zm.size;have hzb:=H.lts;go_wp2_with fail;refine Calls.mono (uK _) ?_;rintro e w4⟨rfl,b⟩;replace H:=H.oe b;replace X:=X.oe b;replace PC:=PC.oe b;clear b x0;have hst:=PC.there (n:=12) (by simp);have hcn:cb≠pc:=by omega
  go_upto_region 36 with fail
  have t:aK w4 (w4.setCells pc 0 [(1:Int),(),(),(),(),(),(),(),(),(),Nat,Nat]) pc:=(aK.Zz _ pc).Zw;have PC5:Bx (w4.setCells pc 0 [(1:Int),(),(),(),(),(),(),(),(),(),Nat,Nat]) pc [(1:Int),(),(),(),(),(),(),(),(),(),Nat,Nat]:=PC.put rfl;have X5:=X.off (b:=pc) (o:=0) (us:=[(1:Int),(),(),(),(),(),(),(),(),(),Nat,Nat]) (Ne.symm hpx);have H5:WM K w0 (w4.setCells pc 0 [(1:Int),(),(),(),(),(),(),(),(),(),Nat,Nat]) z nb cN cb cC ns tip cs time:=⟨H.bx.off (by omega),H.f.turn t hw0p (by omega) (by omega) NOFF COFF,H.nz,H.cz,H.hz,H.zn,H.zc,H.kp.far t hkp,H.fN,H.fC⟩
  clear H X PC hst t
  try change Code.wp _ _ _ _ (w4.setCells pc 0 [(1:Int),(),(),(),(),(),(),(),(),(),Nat,Nat])
  generalize(w4.setCells pc 0 [(1:Int),(),(),(),(),(),(),(),(),(),Nat,Nat])=w5 at *;have H:=H5;have X:=X5;have PC:=PC5;clear H5 X5 PC5;have x1:=X.at_ 1 rfl;have z2:=H.bx.at_ 2 rfl;obtain⟨v0,v1,v2,v3,v4,v5,v6,v7,v8,v9,v10,v11⟩:=PC.p12;have hzlw:=H.Zm.size;have hzl:=H.lts;have hvl:=PC.lt;have hlen:m*12+12≤(cs.map aE).flatten.length:=by rw[aN (aX cs),List.length_map,H.f.cl];omega
  have hth:w5.there cb (m*12) 12:=Bx.thereM H.f.cr hlen;go_region;go_wp2_with fail;refine bodyPost_ret (v:=.int .i64 0) (by simp[results,results67,go_sem]) rfl ?_;have hq:=HQ.out;have H1:=H.oe ((aA.Zz w5).draw);have H2:=H1.storeC HCV.out (v:=⟨iD,none,0,0,none,0,0⟩) ⟨Sl.nil,Sl.nil,Nat.le_refl _,Nat.le_refl _⟩ ⟨fun h=>absurd h (Nat.lt_irrefl _),fun h=>absurd h (Nat.lt_irrefl _)⟩ ⟨fun h=>absurd h (Nat.lt_irrefl _),fun h=>absurd h (Nat.lt_irrefl _)⟩ ⟨fun h=>absurd h (Nat.lt_irrefl _),fun h=>absurd h (Nat.lt_irrefl _)⟩ (fun b hb=>⟨fun h=>absurd h (Nat.lt_irrefl _),fun h=>absurd h (Nat.lt_irrefl _)⟩) (us:=[(1:Int),(),(),(),(),(),(),(),(),(),Nat,Nat]) rfl;have hq3:q=(aY ns tip (cs.set m ⟨iD,none,0,0,none,0,0⟩) time,0):=hq.trans (by rw[←kK]);exact bR.ok H2 hq3
end
end Go.Proofs.YtpfkagghooihfaaGreatDoor
