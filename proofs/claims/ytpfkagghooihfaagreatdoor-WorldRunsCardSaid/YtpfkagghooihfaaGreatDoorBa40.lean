/- Part 40. -/
import Derived.Test.YtpfkagghooihfaaGreatDoorBa28
import Derived.Test.YtpfkagghooihfaaGreatDoorBa37
namespace Go.Proofs.YtpfkagghooihfaaGreatDoor
set_option linter.unusedSimpArgs false
set_option linter.unusedVariables false
set_option maxHeartbeats 8000000
set_option maxRecDepth 100000
open Go.Proofs.Tryz
open Go.RowKit
section
abbrev QD (w:World):World:={ w with heap:=#[] }
structure NV.os (Y:Nat→Prop)(e:Nat)(v:NV):Prop where
 e:v.off e
 y:∀b,Y b→v.off b
structure CV.os (Y:Nat→Prop)(e:Nat)(v:CV):Prop where
 e:v.off e
 y:∀b,Y b→v.off b
structure YB (Y:Nat→Prop)(e:Nat)(w:World):Prop where
 e:e<w.heap.size
 y:∀b,Y b→b<w.heap.size
theorem YB.ns {Y:Nat→Prop}{e:Nat}{w:World}{u v:NV}(h:YB Y e w)(f:∀b,b<w.heap.size→v.off b→u.off b)(o:v.os Y e):u.os Y e:=⟨f _ h.e o.e,fun b hb=>f b (h.y b hb) (o.y b hb)⟩
theorem YB.cs {Y:Nat→Prop}{e:Nat}{w:World}{u v:CV}(h:YB Y e w)(f:∀b,b<w.heap.size→v.off b→u.off b)(o:v.os Y e):u.os Y e:=⟨f _ h.e o.e,fun b hb=>f b (h.y b hb) (o.y b hb)⟩
structure HM (w0 w:World)(Y:Nat→Prop)(e z nb cN cb cC:Nat)(ns:List NV)(tip:Int)(cs:List CV)(time:Int):Prop where
 m:WM w0 (QD w0) w z nb cN cb cC ns tip cs time
 hz:w0.heap.size≤z
 hn:w0.heap.size≤nb
 hc:w0.heap.size≤cb
 he:w0.heap.size≤e∧e<w.heap.size∧z≠e∧nb≠e∧cb≠e
 eN:∀v∈ns,v.os Y e
 eC:∀v∈cs,v.os Y e
 yl:∀b,Y b→b<w0.heap.size
section
variable {w0 w w':World}{Y:Nat→Prop}{e z nb cN cb cC:Nat}{ns:List NV}{cs:List CV}{tip time:Int}
theorem HM.on (h:HM w0 w Y e z nb cN cb cC ns tip cs time):aA w0 w :=
 ⟨h.m.f.on.os,h.m.f.on.tape,h.m.f.on.output,h.m.kp.size,fun k hk=>h.m.kp.block k hk (by have:=h.hz;omega) (by have:=h.hn;omega) (by have:=h.hc;omega)⟩
theorem HM.yb (h:HM w0 w Y e z nb cN cb cC ns tip cs time):YB Y e w:=⟨h.he.2.1,fun b hb=>Nat.lt_of_lt_of_le (h.yl b hb) h.on.size⟩
theorem HM.oe (h:HM w0 w Y e z nb cN cb cC ns tip cs time)(b:aA w w'):HM w0 w' Y e z nb cN cb cC ns tip cs time:=⟨h.m.oe b,h.hz,h.hn,h.hc,⟨h.he.1,Nat.lt_of_lt_of_le h.he.2.1 b.size,h.he.2.2⟩,h.eN,h.eC,h.yl⟩
theorem PD:(prog.info? 50).map (·.size)=some 2:=by kernel_rfl
theorem IE {α:Type}{l:List α}{k:Nat}{x:α}(h:l[k]?=some x):l.set k x=l:=by
 obtain⟨hl,rfl⟩:=List.getElem?_eq_some_iff.1 h;exact List.set_getElem_self hl
theorem yX {d:iM}{r:dI}(hd:bE d=0)(h:(fH d r).2=0):bE (fH d r).1=0:=by
 obtain⟨_,_,hs,e⟩:=LX h;rw[e];unfold bE at hd⊢;dsimp only
 split at hd
 · cases hd
 rw[if_neg (by simp;omega)];exact hd
theorem HM.at_ (h:HM w0 w Y e z nb cN cb cC ns tip cs time){k:Nat}(hk:k<3):∃v,ns[k]?=some v∧v.In w∧v.off nb∧v.off cb∧v.off z:=by
 obtain⟨v,hv,I,h1,h2,_⟩:=h.m.f.atN hk;exact⟨v,hv,I,h1,h2,h.m.nz v (List.mem_of_getElem? hv)⟩
end
theorem rL {w0 : World}{Yb : Nat → Prop}{e z nb cN cb cC : Nat}{ns : List NV}{cs : List CV}{tip time : Int}{k : Nat}{v : NV}(w : World)(H : HM w0 w Yb e z nb cN cb cC ns tip cs time)(E : fR w)(hv : ns[k]? = some v)(hk : bE v.x.d = 0)(r : dI) :
    Calls prog 50 #[k,.agg (eO r).toArray,.pointer (some ⟨z,0,none⟩)] w fun en w'=>en=.returned (.int .i64 (cT v.x r).2)∧aK w w' nb∧∃ns',bC ns'=(bC ns).set k (cT v.x r).1∧(∀y,y<w.heap.size→(∀u∈ns,u.off y)→∀u∈ns',u.off y)∧HM w0 w' Yb e z nb cN cb cC ns' tip cs time:=by
 obtain⟨N,hN⟩:∃q,q=bU v.x.u r:=⟨_,rfl⟩
 obtain⟨P,hP⟩:∃q,q=fH v.x.d r:=⟨_,rfl⟩
 obtain⟨Y,hY⟩:∃q,q=lL P.1:=⟨_,rfl⟩
 obtain⟨q,hq⟩:∃q,q=cT v.x r:=⟨_,rfl⟩
 rw[←hq];unfold cT at hq;rw[←hN,←hP,←hY]at hq;have hk3:k<3:=by have:=(List.getElem?_eq_some_iff.1 hv).1;rw[H.m.f.nl]at this;exact this
 have hki:(k:Int)<3:=by omega
 have I:=(H.m.f.ni v (List.mem_of_getElem? hv)).1;have HN:=aH hN;have HP:=aH hP;have HY:=aH hY;have HQ:=aH hq;have HV:=aH hv;have HK:=aH hk
 have hbad:Hid (∀w' er,q=(v.x,er)→aA w w'→aK w w' nb∧∃ns',bC ns'=(bC ns).set k q.1∧(∀y,y<w.heap.size→(∀u∈ns,u.off y)→∀u∈ns',u.off y)∧HM w0 w' Yb e z nb cN cb cC ns' tip cs time):=aH fun w' er hq b=>⟨aK.of b nb,ns,by
  rw[hq];exact(IE (by simp[bC,HV.out])).symm,fun y _ h=>h,H.oe b⟩
 clear hN hP hY hq hv hk;unfold eO;go_enter func50,ntmps50;go_upto_region 1 with fail
 refine aW (v1:=eO r) rfl fun w1 on R=>?_
 have hzr:w.heap.size≤w.heap.size:=Nat.le_refl _;generalize w.heap.size=zr at R;obtain⟨n0,n1,n2,n3,n4⟩:=NV.Zu (H.oe on).m.f.nr (bB ns) (cV HV.out);have z0:=(H.oe on).m.bx.at_ 0 rfl;go_upto_region 2 with fail
 refine aW (v1:=bW v) rfl fun w2 ob V=>?_
 have hzv:w.heap.size≤w1.heap.size:=on.size;generalize w1.heap.size=zv at V hzv⊢;clear n0 n1 n2 n3 n4 z0;replace on:=on.to ob;replace R:=R.oe ob;obtain⟨v0,v1⟩:=V.p2;have Z:=R.c8;go_wp2_with fail;refine Calls.mono (qQ v.x.u.ep v.A v.n v.c v.x.u.cells r.kind r.at_ r.epoch r.e _ (I.oe on).cells) ?_;rw[show bU ⟨v.x.u.ep,v.x.u.cells⟩ ⟨r.kind,r.at_,r.epoch,r.e⟩=N from HN.out.symm];rintro e w3⟨A1,k1,c1,rfl,s1,oc,f1,m1⟩;have hvl:=V.lt;have hw2:=on.size
 have o1:∀y,y<w2.heap.size→v.off y→bQ k1 y A1:=fun y hy h=>by
  rcases f1 with ⟨rfl,rfl⟩|f
  · exact h.a
  exact f.Zx hy
 have O1:=aH o1;have M1:=aH (m1 ⟨I.le,I.max⟩);replace on:=on.to oc;replace R:=R.oe oc;replace V:=V.oe oc;clear v0 v1 Z ob oc f1 m1 o1;go_upto_region 3 with fail
 refine aW (v1:=[N.1.ep,.slice A1 k1 c1]) rfl fun w4 od U=>?_
 have hzz:zv<w3.heap.size:=V.lt;have hzu:w.heap.size≤w3.heap.size:=on.size;generalize w3.heap.size=zu at U hzz hzu⊢;replace s1:=s1.oe od;replace on:=on.to od;replace R:=R.oe od;replace V:=V.oe od;clear od;have hq:=HQ.out;by_cases h1:N.2=0
 · rw[if_neg (by simp[h1])]at hq;rw[h1];have HQ1:=aH hq;clear hq HQ h1;have v2:=V.at_ 2 rfl;have v3:=V.at_ 3 rfl;have Z:=R.c8;go_wp2_with fail;refine Calls.mono (uO v.F v.G v.k v.i v.l v.j v.x.d r _ (E.oe on) (I.oe on).disk HK.out) ?_;rw[←HP.out];rintro e w5⟨F,k2,i2,G,l2,j2,rfl,K2,oc,fF,fG⟩;have hw4:=on.size;have hvl4:=V.lt
   have o2:∀y,y<w4.heap.size→v.off y→bQ k2 y F∧bQ l2 y G:=fun y hy h=>by
    refine⟨?_,fG.Zx hy⟩;rcases fF with ⟨rfl,rfl⟩|f
    · exact h.f
    exact f.Zx hy
   obtain⟨oF,oG⟩:=o2 zv hvl4 (I.Zn hzv);have O2:=aH o2;have hw45:=oc.size;replace on:=on.to oc;replace U:=U.oe oc;replace V:=V.oe oc;replace s1:=s1.oe oc;clear v2 v3 Z oc fF fG R o2;go_upto_region 5 with (refine pM V 2 [.slice F k2 i2,.slice G l2 j2] 53 (by simp[bW]) iY ?_)
   replace U:=U.off (b:=zv) (o:=2) (us:=[.slice F k2 i2,.slice G l2 j2]) (by omega);replace K2:=K2.Zw (o:=2) (us:=[.slice F k2 i2,.slice G l2 j2]) oF oG;replace s1:=dM (w:=w5) (vs:=[.slice F k2 i2,.slice G l2 j2]) (o:=2) (O1.out zv (by omega) (I.Zn hzv)) s1;replace on:=aA.Zw (b:=zv) (o:=2) (us:=[.slice F k2 i2,.slice G l2 j2]) hzv on;replace V:Bx _ zv [v.x.u.ep,.slice v.A v.n v.c,.slice F k2 i2,.slice G l2 j2,.bool v.x.up]:=V.putM (o:=2) (us:=[.slice F k2 i2,.slice G l2 j2]) (by simp[bW]);generalize World.setCells w5 zv 2 _=w6 at *;have hq:=HQ1.out;by_cases h2:P.2=0
   · rw[if_neg (by simp[h2])]at hq;rw[h2];have hkp:bE P.1=0:=by rw[HP.out];exact yX HK.out (by rw[←HP.out];exact h2)
     have HQ2:=aH hq;clear hq HQ1 h2;have v2:=V.at_ 2 rfl;have v3:=V.at_ 3 rfl;go_wp2_with fail;refine Calls.mono (zX F G k2 i2 l2 j2 P.1 _ (E.oe on) K2 hkp) ?_;rw[←HY.out];rintro e w7⟨F3,k3,i3,G3,l3,j3,rfl,K3,oc,fF,fG⟩;have hw6:=on.size;have hvl6:=V.lt
     have o3:∀y,y<w.heap.size∨y=zv→v.off y→bQ k3 y F3∧bQ l3 y G3:=fun y hy h=>by
      have hy6:y<w6.heap.size:=by omega
      refine⟨?_,fG.Zx hy6⟩;rcases fF with ⟨rfl,rfl⟩|f
      · exact(O2.out y (by omega) h).1
      exact f.Zx hy6
     obtain⟨oF,oG⟩:=o3 zv (.inr rfl) (I.Zn hzv);have O3:=aH o3;replace on:=on.to oc;replace U:=U.oe oc;replace V:=V.oe oc;replace s1:=s1.oe oc;clear v2 v3 oc fF fG o3 K2;go_upto_region 7 with (refine pM V 2 [.slice F3 k3 i3,.slice G3 l3 j3] 53 (by simp) iY ?_)
     replace U:=U.off (b:=zv) (o:=2) (us:=[.slice F3 k3 i3,.slice G3 l3 j3]) (by omega);replace K3:=K3.Zw (o:=2) (us:=[.slice F3 k3 i3,.slice G3 l3 j3]) oF oG;replace s1:=dM (w:=w7) (vs:=[.slice F3 k3 i3,.slice G3 l3 j3]) (o:=2) (O1.out zv (by omega) (I.Zn hzv)) s1;replace on:=aA.Zw (b:=zv) (o:=2) (us:=[.slice F3 k3 i3,.slice G3 l3 j3]) hzv on;replace V:Bx _ zv [v.x.u.ep,.slice v.A v.n v.c,.slice F3 k3 i3,.slice G3 l3 j3,.bool v.x.up]:=V.putM (o:=2) (us:=[.slice F3 k3 i3,.slice G3 l3 j3]) (by simp);generalize World.setCells w7 zv 2 _=w8 at *;have hq:=HQ2.out;by_cases h3:Y.2=0
     · rw[if_neg (by simp[h3])]at hq;rw[h3];have HQ3:=aH hq;clear hq HQ2 h3;obtain⟨u0,u1⟩:=U.p2;go_upto_region 9 with (refine pM V 0 [N.1.ep,.slice A1 k1 c1] 50 (by simp) PD ?_)
       replace K3:=K3.Zw (o:=0) (us:=[N.1.ep,.slice A1 k1 c1]) oF oG;replace s1:=dM (w:=w8) (vs:=[N.1.ep,.slice A1 k1 c1]) (o:=0) (O1.out zv (by omega) (I.Zn hzv)) s1;replace on:=aA.Zw (b:=zv) (o:=0) (us:=[N.1.ep,.slice A1 k1 c1]) hzv on;replace V:Bx _ zv [N.1.ep,.slice A1 k1 c1,.slice F3 k3 i3,.slice G3 l3 j3,.bool v.x.up]:=V.putM (o:=0) (us:=[N.1.ep,.slice A1 k1 c1]) (by simp);clear u0 u1 U;generalize World.setCells w8 zv 0 _=w9 at *;obtain⟨v0,v1,v2,v3,v4⟩:=V.p5;have z0:=(H.oe on).m.bx.at_ 0 rfl;have hlt:=H.m.lts;have hmem:=H.m.f.ni v (List.mem_of_getElem? HV.out);have hnz:=H.m.nz v (List.mem_of_getElem? HV.out);have J:NV.In w9 ⟨⟨N.1,Y.1,v.x.up⟩,A1,k1,c1,F3,k3,i3,G3,l3,j3⟩:=⟨s1,K3,M1.out.1,M1.out.2⟩
       have oJ:∀y,y<w.heap.size→v.off y→NV.off y ⟨⟨N.1,Y.1,v.x.up⟩,A1,k1,c1,F3,k3,i3,G3,l3,j3⟩:=fun y hy h=>⟨O1.out y (by omega) h,(O3.out y (.inl hy) h).1,(O3.out y (.inl hy) h).2⟩
       have HJ:=aH J;have HO:=aH oJ;have HL:=aH hlt;have HM:=aH hmem;have HZ:=aH hnz;clear J oJ hlt hmem hnz s1 K3 V;have Bn:=(H.oe on).m.f.nr;have hlen:k*5+5≤(ns.map bW).flatten.length:=by rw[aN (bB ns),List.length_map,H.m.f.nl];omega
       go_wp2_with (refine pM Bn (k*5) (bW ⟨⟨N.1,Y.1,v.x.up⟩,A1,k1,c1,F3,k3,i3,G3,l3,j3⟩) 55 hlen LG ?_)
       go_ret;have hq:=HQ3.out;refine⟨aO (by rw[hq]),aK.Zw (aK.of on nb),ns.set k ⟨⟨N.1,Y.1,v.x.up⟩,A1,k1,c1,F3,k3,i3,G3,l3,j3⟩,by rw[hq,bC,List.map_set],fun y hy h u hu=>?_,?_⟩
       · rcases List.mem_or_eq_of_mem_set hu with hu|rfl
         · exact h u hu
         exact HO.out y hy (h v (List.mem_of_getElem? HV.out))
       refine⟨(H.oe on).m.nextN (aK.Zw (aK.Zz _ _)) (Rx.put Bn (bB ns) (cV HV.out) rfl) (HJ.out.Zw (HO.out _ HL.out.2.1 HM.out.2.1)) (HO.out _ HL.out.2.1 HM.out.2.1) (HO.out _ HL.out.2.2 HM.out.2.2) (HO.out _ HL.out.1 HZ.out) (fun b hb=>absurd hb (Nat.not_lt_zero _)),H.hz,H.hn,H.hc,⟨H.he.1,by rw[DL];exact Nat.lt_of_lt_of_le H.he.2.1 on.size,H.he.2.2⟩,fun u hu=>?_,H.eC,H.yl⟩;rcases List.mem_or_eq_of_mem_set hu with hu|rfl
       · exact H.eN u hu
       exact H.yb.ns HO.out (H.eN v (List.mem_of_getElem? HV.out))
     rw[if_pos h3]at hq;have hd:(Y.2 ==0)=false:=by simpa using h3
     have HQ3:=aH hq;clear hq HQ2 h3;go_wp2_with fail;go_ret;exact⟨aO (by rw[HQ3.out]),hbad.out _ _ HQ3.out on⟩
   rw[if_pos h2]at hq;have hd:(P.2 ==0)=false:=by simpa using h2
   have HQ2:=aH hq;clear hq HQ1 h2;go_wp2_with fail;go_ret;exact⟨aO (by rw[HQ2.out]),hbad.out _ _ HQ2.out on⟩
 rw[if_pos h1]at hq;have hd:(N.2 ==0)=false:=by simpa using h1
 have HQ1:=aH hq;clear hq HQ h1;go_wp2_with fail;go_ret;exact⟨aO (by rw[HQ1.out]),hbad.out _ _ HQ1.out on⟩
end
end Go.Proofs.YtpfkagghooihfaaGreatDoor
