/- Part 27. -/
import Derived.Test.YtpfkagghooihfaaGreatDoorBa23
namespace Go.Proofs.YtpfkagghooihfaaGreatDoor
set_option linter.unusedSimpArgs false
set_option linter.unusedVariables false
set_option maxHeartbeats 8000000
set_option maxRecDepth 100000
open Go.Proofs.Tryz
open Go.RowKit
section
attribute [local go_sem ↓] Go.wp_at_zero Go.wp_at_succ
theorem LG:(prog.info? 55).map (·.size)=some 5:=by kernel_rfl
theorem sN (K w0 : World)(z nb cN cb cC : Nat)(ns : List NV)(tip : Int)(cs : List CV)(time : Int)(x : qY)(i : Nat)(w : World)(E : fR w)(H : WM K w0 w z nb cN cb cC ns tip cs time)(hi : i < 3)(hx : x.n = i)(hxk : x.kind = 12 ∨ x.kind = 13) :
    Calls prog 105 #[.pointer (some ⟨z,0,none⟩),.agg #[x.kind,x.client,x.n,x.job,x.epoch,x.e.kind,x.e.job,x.e.every,x.e.time,x.e.client]] w (bR K w0 z nb cN cb cC (lG (aY ns tip cs time) x)):=by
 obtain⟨v,hv,I,oz,on1,oc,n0,n1,n2,n3,n4⟩:∃v,ns[i]?=some v∧v.In w∧v.off z∧v.off nb∧v.off cb ∧
  w.cell? ⟨nb,i*5,none⟩=some (.int .i64 v.x.u.ep)∧w.cell? ⟨nb,i*5+1,none⟩=some (.slice v.A v.n v.c)∧w.cell? ⟨nb,i*5+2,none⟩=some (.slice v.F v.k v.i)∧w.cell? ⟨nb,i*5+3,none⟩=some (.slice v.G v.l v.j)∧w.cell? ⟨nb,i*5+4,none⟩=some (.bool v.x.up):=by
  obtain⟨v,h1,h2,h3,h4,h5⟩:=H.f.atN hi;exact⟨v,h1,h2,H.nz v (List.mem_of_getElem? h1),h3,h4,h5⟩
 clear n0 n1 n2 n3 n4;have FV:=aH (H.fN v (List.mem_of_getElem? hv));obtain⟨R,hR⟩:∃q,q=bN v.x.d:=⟨_,rfl⟩
 obtain⟨U,hU⟩:∃q,q=cI R.2.1:=⟨_,rfl⟩
 obtain⟨q,hq⟩:∃q,q=lG (aY ns tip cs time) x:=⟨_,rfl⟩
 rw[←hq];unfold lG rG at hq;rw[hx,show((i:Nat):Int).toNat=i by omega,show(aY ns tip cs time).n=bC ns from rfl,eW hv,←hR,←hU]at hq;have HR:=aH hR;have HU:=aH hU;have HQ:=aH hq;have HV:=aH hv;have HX:=aH hx;have HXK:=aH hxk;clear hR hU hq hv hx hxk;have hi3:(i:Int)<3:=by omega
 go_enter func105,ntmps105;go_upto_region 1 with fail
 refine aW (v1:=[x.kind,x.client,x.n,x.job,x.epoch,x.e.kind,x.e.job,x.e.every,x.e.time,x.e.client]) rfl fun w1 on X=>?_
 replace H:=H.oe on;replace E:=E.oe on;replace I:=I.oe on;generalize hzx:w.heap.size=zx at X;clear hzx on;have x0:=X.at_ 0 rfl;have x2:=X.at_ 2 rfl;rw[HX.out]at x2;have z0:=H.bx.at_ 0 rfl;obtain⟨n0,n1,n2,n3,n4⟩:=NV.Zu H.f.nr (bB ns) (cV HV.out);go_quiet (fail);go_upto_region 2 with fail
 generalize hd:World.drewN w1 _=w2;have od:aA w1 w2:=by rw[←hd];exact(aA.Zz w1).Zv _
 clear hd;replace H:=H.oe od;replace I:=I.oe od;replace E:=E.oe od;replace X:=X.oe od;replace x0:=aB od x0;replace n0:=aB od n0;replace n1:=aB od n1;replace n2:=aB od n2;replace n3:=aB od n3;replace n4:=aB od n4;clear od z0 x2;rcases HXK.out with hk|hk
 · rw[hk]at x0;rcases Bool.eq_false_or_eq_true v.x.up with hu|hu
   · rw[hu]at n4;have hq:=HQ.out;rw[hu,hk,if_neg (by decide),if_pos rfl]at hq;have HQ2:=aH hq;have f4:=Bx.Zy H.f.nr (i*5+4);clear hq HQ HXK hk hu;go_quiet (fail);go_wp2_with fail;refine bodyPost_ret (v:=.int .i64 0) (by simp[results,results105,go_sem]) rfl ?_;generalize hd:World.drewN w2 _=w3;have od:aA w2 w3:=by rw[←hd];exact(aA.Zz w2).Zv _
     clear hd;replace H:=H.oe od;replace I:=I.oe od;replace E:=E.oe od;have hq:=HQ2.out;have B3:Rx w3 nb ((ns.map bW).set i (bW v)):=by rw[mU (cV HV.out)];exact H.f.nr
     have B4:=Rx.cell1 (j:=4) B3 (bB ns) (by rw[List.length_map,H.f.nl];exact hi) rfl (by omega) (.bool false);have H2:=H.nextN (v:=⟨⟨v.x.u,v.x.d,false⟩,v.A,v.n,v.c,v.F,v.k,v.i,v.G,v.l,v.j⟩) ((aK.Zz _ nb).put rfl _) B4 ⟨(I.put on1 _).cells,(I.put on1 _).disk,I.le,I.max⟩ ⟨on1.a,on1.f,on1.g⟩ ⟨oc.a,oc.f,oc.g⟩ ⟨oz.a,oz.f,oz.g⟩ (fun b hb=>⟨(FV.out b hb).a,(FV.out b hb).f,(FV.out b hb).g⟩);exact bR.ok H2 (hq.trans (by rw[←pJ]))
   rw[hu]at n4;have hq:=HQ.out;rw[hu,hk,if_pos (by decide)]at hq;have HQ2:=aH hq;clear hq HQ HXK hk hu;go_quiet (fail);go_wp2_with fail;go_ret;exact bR.bad' (by rw[HQ2.out]) (by rw[HQ2.out];simp) (H.aw.Zv _)
 rw[hk]at x0;rcases Bool.eq_false_or_eq_true v.x.up with hu|hu
 · rw[hu]at n4;have hq:=HQ.out;rw[hu,hk,if_pos (by decide)]at hq;have HQ2:=aH hq;clear hq HQ HXK hk hu;go_quiet (fail);go_wp2_with fail;go_ret;exact bR.bad' (by rw[HQ2.out]) (by rw[HQ2.out];simp) (H.aw.Zv _)
 rw[hu]at n4;have hq:=HQ.out;rw[hu,hk,if_neg (by decide),if_neg (by decide)]at hq;replace HQ:=aH hq;clear hq HXK hk hu;go_quiet (fail);go_upto_region 7 with fail
 generalize hd:World.drewN w2 _=w3;have od:aA w2 w3:=by rw[←hd];exact(aA.Zz w2).Zv _
 clear hd;replace H:=H.oe od;replace I:=I.oe od;replace E:=E.oe od;replace X:=X.oe od;clear od x0 n0 n1 n2 n3 n4;obtain⟨n0,n1,n2,n3,n4⟩:=NV.Zu H.f.nr (bB ns) (cV HV.out);have hz3w:=H.Zm.size;have hz3:=H.lts;have hws:=H.Zm.size;go_wp2_with fail;refine Calls.mono (gL v.F v.G v.k v.i v.l v.j v.x.d _ E I.disk) ?_;rw[show bN v.x.d=R from HR.out.symm];unfold nE;rintro e w4⟨F,k2,i2,G,l2,j2,L,ln,ly,rfl,K2,sL,_,_,fF,fG,_,b⟩;replace H:=H.oe b;replace I:=I.oe b;replace E:=E.oe b;have hs34:=b.size;clear b n0 n1 n2 n3 n4 X;go_upto_region 8 with fail
 refine aW (v1:=[.slice F k2 i2,.slice G l2 j2]) rfl fun w5 b D=>?_
 replace H:=H.oe b;replace I:=I.oe b;replace E:=E.oe b;replace K2:=K2.oe b;replace sL:=sL.oe b;have hs35:=Nat.le_trans hs34 b.size;clear b;generalize w4.heap.size=zd at *;by_cases h1:R.2.2=0
 · have hq:=HQ.out;rw[if_neg (by simp[h1])]at hq;replace HQ:=aH hq;rw[h1];clear hq h1;go_wp2_with fail;refine Calls.mono (gN L ln ly R.2.1 _ sL) ?_;rw[show cI R.2.1=U from HU.out.symm];unfold fD;rintro e w6⟨A1,m1,c1,rfl,s1,b,f1,hmc,hcm⟩;have hz5w:=H.Zm.size;have hz5:=H.lts;have f1':aR w3.heap.size A1:=fun a e=>by have:=f1 a e;have:=hs35;omega
   replace H:=H.oe b;replace I:=I.oe b;replace E:=E.oe b;replace K2:=K2.oe b;replace D:=D.oe b;clear b sL f1;go_upto_region 11 with fail
   refine aW (v1:=[U.1.ep,.slice A1 m1 c1]) rfl fun w7 b V=>?_
   replace H:=H.oe b;replace I:=I.oe b;replace E:=E.oe b;replace K2:=K2.oe b;replace D:=D.oe b;replace s1:=s1.oe b;clear b;generalize w6.heap.size=zu at *;by_cases h2:U.2=0
   · have hq:=HQ.out;rw[if_neg (by simp[h2])]at hq;have HQ2:=aH hq;rw[h2];clear hq HQ h2;go_upto_region 13 with fail
     obtain⟨v0,v1⟩:=V.p2;obtain⟨d0,d1⟩:=D.p2;have HB:=aH H.f.nr;have hlen:i*5+5≤(ns.map bW).flatten.length:=by rw[aN (bB ns),List.length_map,H.f.nl];omega
     go_upto_region 14 with (refine pM HB.out (i*5) [U.1.ep,.slice A1 m1 c1,.slice F k2 i2,.slice G l2 j2,.bool true] 55 (by simpa using hlen) LG ?_)
     have B4:Rx (w7.setCells nb (i*5) [U.1.ep,.slice A1 m1 c1,.slice F k2 i2,.slice G l2 j2,.bool true]) nb ((ns.map bW).set i (bW ⟨⟨U.1,R.1,true⟩,A1,m1,c1,F,k2,i2,G,l2,j2⟩)):=Rx.put H.f.nr (bB ns) (cV HV.out) rfl;have on1':NV.off nb ⟨⟨U.1,R.1,true⟩,A1,m1,c1,F,k2,i2,G,l2,j2⟩:=⟨f1'.Zx hz3.2.1,fF.Zx hz3.2.1,fG.Zx hz3.2.1⟩
     have I2:NV.In w7 ⟨⟨U.1,R.1,true⟩,A1,m1,c1,F,k2,i2,G,l2,j2⟩:=⟨s1,K2,hmc,hcm⟩
     have H2:=H.nextN (v:=⟨⟨U.1,R.1,true⟩,A1,m1,c1,F,k2,i2,G,l2,j2⟩) ((aK.Zz _ nb).Zw) B4 (I2.Zw on1') on1' ⟨f1'.Zx hz3.2.2,fF.Zx hz3.2.2,fG.Zx hz3.2.2⟩ ⟨f1'.Zx hz3.1,fF.Zx hz3.1,fG.Zx hz3.1⟩ (fun b hb=>⟨f1'.Zx (Nat.lt_of_lt_of_le hb hz3w),fF.Zx (Nat.lt_of_lt_of_le hb hz3w),fG.Zx (Nat.lt_of_lt_of_le hb hz3w)⟩);go_wp2_with fail;go_ret;have hq:=HQ2.out;exact bR.ok H2 (hq.trans (by rw[←pJ]))
   have hq:=HQ.out;rw[if_pos h2]at hq;have HQ2:=aH hq;have hd:(U.2 !=0)=true:=by simpa using h2
   have h2':q.2≠0:=by rw[hq];exact h2
   clear hq HQ;go_wp2_with fail;go_ret;exact bR.bad' (by rw[HQ2.out]) h2' H.aw
 have hq:=HQ.out;rw[if_pos h1]at hq;have HQ2:=aH hq;have hd:(R.2.2 !=0)=true:=by simpa using h1
 have h2':q.2≠0:=by rw[hq];exact h1
 clear hq HQ;go_wp2_with fail;go_ret;exact bR.bad' (by rw[HQ2.out]) h2' H.aw
end
end Go.Proofs.YtpfkagghooihfaaGreatDoor
