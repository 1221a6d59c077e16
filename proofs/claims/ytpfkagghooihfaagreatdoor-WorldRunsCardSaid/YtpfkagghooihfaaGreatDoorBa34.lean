/- Part 34. -/
import Derived.Test.YtpfkagghooihfaaGreatDoorBa30
import Derived.Test.YtpfkagghooihfaaGreatDoorBa24
namespace Go.Proofs.YtpfkagghooihfaaGreatDoor
set_option linter.unusedSimpArgs false
set_option linter.unusedVariables false
set_option maxHeartbeats 16000000
set_option maxRecDepth 100000
open Go.Proofs.Tryz
open Go.RowKit
section
attribute [local go_sem ↓] Go.wp_at_zero Go.wp_at_succ
attribute [local go_sem ↓] jH kG
attribute [local go_sem] gP gF iV
theorem sW (K w0 : World)(z nb cN cb cC : Nat)(ns : List NV)(tip : Int)(cs : List CV)(time : Int)(kd nn jb ep : Int)(m : Nat)(y : aL)(w : World)(E0 : fR w0)(H : WM K w0 w z nb cN cb cC ns tip cs time)(hok : ∀v ∈ cs, aP v.x = 0)(hm : m < 3)(hk : kd = 1) :
    Calls prog 67 #[.pointer (some ⟨z,0,none⟩),.agg #[kd,.int .i64 ↑m,nn,jb,ep,y.kind,y.job,y.every,y.time,y.client]] w (bR K w0 z nb cN cb cC (aZ (aY ns tip cs time) ⟨kd,m,nn,jb,ep,y⟩)):=by
 obtain⟨c,hcv,J,on2,oc2,_⟩:=H.f.atC hm;have oz2:=H.cz c (List.mem_of_getElem? hcv);have hcc:=hok c (List.mem_of_getElem? hcv);have hzl0:=H.lts;obtain⟨q,hq⟩:∃q,q=aZ (aY ns tip cs time) ⟨kd,m,nn,jb,ep,y⟩:=⟨_,rfl⟩
 rw[←hq];have htm:((m:Nat):Int).toNat=m:=by omega
 unfold aZ at hq;dsimp only at hq;rw[if_neg (by omega)]at hq;simp only[htm,show(aY ns tip cs time).c=bL cs from rfl,cU hcv]at hq;have HQ:=aH hq;have HCV:=aH hcv;have HK:=aH hk;have HOK:=aH hok;have HCC:=aH hcc;have hm3:(m:Int)<3:=by omega
 clear hq hcv hk htm hcc hok;go_enter func67,ntmps67;go_upto_region 1 with fail
 refine aW (v1:=[kd,.int .i64 ↑m,nn,jb,ep,y.kind,y.job,y.every,y.time,y.client]) rfl fun w1 b X=>?_
 replace H:=H.oe b;replace J:=J.oe b;generalize hzx:w.heap.size=zx at X hzl0;clear hzx b;have x1:=X.at_ 1 rfl;have z2:=H.bx.at_ 2 rfl;go_quiet (fail);go_upto_region 3 with fail
 generalize hd:World.drewN w1 _=w2;have od:aA w1 w2:=by rw[←hd];exact(aA.Zz w1).Zv _
 clear hd x1 z2;replace H:=H.oe od;replace X:=X.oe od;replace J:=J.oe od;clear od;have x1:=X.at_ 1 rfl;have z2:=H.bx.at_ 2 rfl;obtain⟨c0,c1,c2,c3,c4,c5,c6,c7,c8,c9,c10,c11⟩:=CV.Zu H.f.cr (aX cs) (dD HCV.out);have hz2:=H.lts;have hxl:=X.lt;go_cut [5] (fun s5 wx=>∃ (p:Nat),s5=.pointer (some ⟨p,0,none⟩)∧Bx wx p [c.x.epoch,c.x.doing,c.x.e.kind,c.x.e.job,c.x.e.every,c.x.e.time,c.x.e.client,c.x.at_,c.x.link,c.x.played,.slice c.A c.n c.c,.slice c.G c.m c.d]∧aA w2 wx∧w2.heap.size≤p)
 case first =>
  go_region
  all_goals
   go_wp2_with fail;go_meet;exact⟨_,rfl,Bx.put (us:=[c.x.epoch,c.x.doing,c.x.e.kind,c.x.e.job,c.x.e.every,c.x.e.time,c.x.e.client,c.x.at_,c.x.link,c.x.played,.slice c.A c.n c.c,.slice c.G c.m c.d]) (vs:=[(),(),(),(),(),(),(),(),(),(),Nat,Nat]) ((Bx.Zt _ _ _).draw) rfl,aA.Zw (Nat.le_refl _) (((aA.Zz w2).new _).draw),Nat.le_refl _⟩
 case rest =>
  obtain⟨pc,rfl,PC,b,hpc⟩:=hcut;clear x1 z2 c0 c1 c2 c3 c4 c5 c6 c7 c8 c9 c10 c11;have NOFF:∀v∈ns,v.off pc:=fun v hv=>(H.f.ni v hv).1.Zn hpc
  have COFF:∀v∈cs,v.off pc:=fun v hv=>(H.f.ci v hv).1.Zn hpc
  have hw0p:w0.heap.size≤pc:=Nat.le_trans H.Zm.size hpc;have hkp:K.heap.size≤pc:=Nat.le_trans H.kp.size hpc;replace H:=H.oe b;replace X:=X.oe b;replace J:=J.oe b;clear b;generalize wc=w3 at *;have hpx:pc≠zx:=by omega
  have x0:=X.at_ 0 rfl;have hk:=HK.out;subst hk;have hq:=HQ.out;rw[if_neg (by decide),if_pos rfl]at hq;replace HQ:=aH hq;clear hq HK;have x5:=X.at_ 5 rfl;have x6:=X.at_ 6 rfl;have x7:=X.at_ 7 rfl;have x8:=X.at_ 8 rfl;have x9:=X.at_ 9 rfl;by_cases hy:y.kind=3
  · have hq:=HQ.out;rw[if_pos hy]at hq;have HQ2:=aH hq;rw[hy]at x5;clear hq HQ hy;go_wp2_with fail;go_ret;exact bR.bad' (by rw[HQ2.out]) (by rw[HQ2.out];simp) H.aw
  have hq:=HQ.out;rw[if_neg hy]at hq;replace HQ:=aH hq;have hyd:(y.kind ==3)=false:=by simpa using hy
  clear hq;obtain⟨r,hr⟩:∃r,r=fI c.x y:=⟨_,rfl⟩
  have hq:=HQ.out;unfold gK at hq;rw[←hr]at hq;replace HQ:=aH hq;have HR:=aH hr;clear hq hr;go_upto_region 13 with fail
  have hzbw:=H.Zm.size;have hzb:=H.lts;obtain⟨v0,v1,v2,v3,v4,v5,v6,v7,v8,v9,v10,v11⟩:=PC.p12;have hst0:=PC.there (n:=12) (by simp);go_wp2_with fail;refine Calls.mono (rT c y _ J) ?_;rw[←HR.out];rintro e w4 hp;obtain⟨A1,n1,k1,A2,n2,k2,rfl,s1,s2,b,hk1,hk2,f1,f2⟩:=hp.cl;replace H:=H.oe b;replace X:=X.oe b;replace PC:=PC.oe b;have hpl:pc<w3.heap.size:=by have:=World.block_lt_of_cell? _ _ v0;exact this
  have o1:bQ n1 pc A1:=f1.Zx hpl;have o2:bQ n2 pc A2:=f2.Zx hpl;clear b hst0 v0 v1 v2 v3 v4 v5 v6 v7 v8 v9 v10 v11;have hst:=PC.there (n:=12) (by simp);go_upto_region 35 with fail
  have t:aK w4 (w4.setCells pc 0 [r.1.epoch,r.1.doing,r.1.e.kind,r.1.e.job,r.1.e.every,r.1.e.time,r.1.e.client,r.1.at_,r.1.link,r.1.played,.slice A1 n1 k1,.slice A2 n2 k2]) pc:=(aK.Zz _ pc).Zw;have PC5:Bx (w4.setCells pc 0 [r.1.epoch,r.1.doing,r.1.e.kind,r.1.e.job,r.1.e.every,r.1.e.time,r.1.e.client,r.1.at_,r.1.link,r.1.played,.slice A1 n1 k1,.slice A2 n2 k2]) pc [r.1.epoch,r.1.doing,r.1.e.kind,r.1.e.job,r.1.e.every,r.1.e.time,r.1.e.client,r.1.at_,r.1.link,r.1.played,.slice A1 n1 k1,.slice A2 n2 k2]:=PC.put rfl;have X5:=X.off (b:=pc) (o:=0) (us:=[r.1.epoch,r.1.doing,r.1.e.kind,r.1.e.job,r.1.e.every,r.1.e.time,r.1.e.client,r.1.at_,r.1.link,r.1.played,.slice A1 n1 k1,.slice A2 n2 k2]) (Ne.symm hpx);have H5:WM K w0 (w4.setCells pc 0 [r.1.epoch,r.1.doing,r.1.e.kind,r.1.e.job,r.1.e.every,r.1.e.time,r.1.e.client,r.1.at_,r.1.link,r.1.played,.slice A1 n1 k1,.slice A2 n2 k2]) z nb cN cb cC ns tip cs time:=⟨H.bx.off (by omega),H.f.turn t hw0p (by omega) (by omega) NOFF COFF,H.nz,H.cz,H.hz,H.zn,H.zc,H.kp.far t hkp,H.fN,H.fC⟩
  have s15:=dM (w:=w4) o1 (vs:=[r.1.epoch,r.1.doing,r.1.e.kind,r.1.e.job,r.1.e.every,r.1.e.time,r.1.e.client,r.1.at_,r.1.link,r.1.played,.slice A1 n1 k1,.slice A2 n2 k2]) (o:=0) s1;have s25:=dM (w:=w4) o2 (vs:=[r.1.epoch,r.1.doing,r.1.e.kind,r.1.e.job,r.1.e.every,r.1.e.time,r.1.e.client,r.1.at_,r.1.link,r.1.played,.slice A1 n1 k1,.slice A2 n2 k2]) (o:=0) s2;clear H X PC s1 s2 hst t o1 o2
  try change Code.wp _ _ _ _ (w4.setCells pc 0 [r.1.epoch,r.1.doing,r.1.e.kind,r.1.e.job,r.1.e.every,r.1.e.time,r.1.e.client,r.1.at_,r.1.link,r.1.played,.slice A1 n1 k1,.slice A2 n2 k2])
  generalize(w4.setCells pc 0 [r.1.epoch,r.1.doing,r.1.e.kind,r.1.e.job,r.1.e.every,r.1.e.time,r.1.e.client,r.1.at_,r.1.link,r.1.played,.slice A1 n1 k1,.slice A2 n2 k2])=w5 at *;have H:=H5;have X:=X5;have PC:=PC5;have s1:=s15;have s2:=s25;clear H5 X5 PC5 s15 s25;have hcn:cb≠pc:=by omega
  by_cases h1:r.2=0
  · have hq:=HQ.out;rw[if_neg (by simp[h1])]at hq;have HQ2:=aH hq;rw[h1];clear hq HQ h1;go_upto_region 36 with fail
    have x1:=X.at_ 1 rfl;have z2:=H.bx.at_ 2 rfl;obtain⟨v0,v1,v2,v3,v4,v5,v6,v7,v8,v9,v10,v11⟩:=PC.p12;have hzlw:=H.Zm.size;have hzl:=H.lts;have hvl:=PC.lt;have hlen:m*12+12≤(cs.map aE).flatten.length:=by rw[aN (aX cs),List.length_map,H.f.cl];omega
    have hth:w5.there cb (m*12) 12:=Bx.thereM H.f.cr hlen;go_region;go_wp2_with fail;refine bodyPost_ret (v:=.int .i64 0) (by simp[results,results67,go_sem]) rfl ?_;have hq:=HQ2.out;have H1:=H.oe ((aA.Zz w5).draw);have H2:=H1.storeC HCV.out (v:=⟨r.1,A1,n1,k1,A2,n2,k2⟩) ⟨s1.draw,s2.draw,hk1,hk2⟩ ⟨f1.Zx hzb.2.1,f2.Zx hzb.2.1⟩ ⟨f1.Zx hzb.2.2,f2.Zx hzb.2.2⟩ ⟨f1.Zx hzb.1,f2.Zx hzb.1⟩ (fun b hb=>⟨f1.Zx (Nat.lt_of_lt_of_le hb hzbw),f2.Zx (Nat.lt_of_lt_of_le hb hzbw)⟩) (us:=[r.1.epoch,r.1.doing,r.1.e.kind,r.1.e.job,r.1.e.every,r.1.e.time,r.1.e.client,r.1.at_,r.1.link,r.1.played,.slice A1 n1 k1,.slice A2 n2 k2]) rfl;have hq3:q=(aY ns tip (cs.set m ⟨r.1,A1,n1,k1,A2,n2,k2⟩) time,0):=hq.trans (by rw[←kK]);exact bR.ok H2 hq3
  have hq:=HQ.out;rw[if_pos h1]at hq;have HQ2:=aH hq;have hd:(r.2 !=0)=true:=by simpa using h1
  have hd2:(r.2 ==0)=false:=by simpa using h1
  have h2':q.2≠0:=by rw[hq];exact h1
  clear hq HQ h1;go_wp2_with fail;go_ret;exact bR.bad' (by rw[HQ2.out]) h2' H.aw
end
section
attribute [local go_sem ↓] Go.wp_at_zero Go.wp_at_succ
attribute [local go_sem ↓] jH kG
attribute [local go_sem] gP gF iV
theorem tL (K w0 : World)(z nb cN cb cC : Nat)(ns : List NV)(tip : Int)(cs : List CV)(time : Int)(kd nn jb ep : Int)(m : Nat)(y : aL)(w : World)(E0 : fR w0)(H : WM K w0 w z nb cN cb cC ns tip cs time)(hok : ∀v ∈ cs, aP v.x = 0)(hm : m < 3)(ht0 : 0 ≤ tip)(ht1 : tip ≤ 60)(hk : kd = 3) :
    Calls prog 67 #[.pointer (some ⟨z,0,none⟩),.agg #[kd,.int .i64 ↑m,nn,jb,ep,y.kind,y.job,y.every,y.time,y.client]] w (bR K w0 z nb cN cb cC (aZ (aY ns tip cs time) ⟨kd,m,nn,jb,ep,y⟩)):=by
 obtain⟨c,hcv,J,on2,oc2,_⟩:=H.f.atC hm;have oz2:=H.cz c (List.mem_of_getElem? hcv);have hcc:=hok c (List.mem_of_getElem? hcv);have hzl0:=H.lts;obtain⟨q,hq⟩:∃q,q=aZ (aY ns tip cs time) ⟨kd,m,nn,jb,ep,y⟩:=⟨_,rfl⟩
 rw[←hq];have htm:((m:Nat):Int).toNat=m:=by omega
 unfold aZ at hq;dsimp only at hq;rw[if_neg (by omega)]at hq;simp only[htm,show(aY ns tip cs time).c=bL cs from rfl,cU hcv]at hq;have HQ:=aH hq;have HCV:=aH hcv;have HK:=aH hk;have HOK:=aH hok;have HCC:=aH hcc;have hm3:(m:Int)<3:=by omega
 clear hq hcv hk htm hcc hok;go_enter func67,ntmps67;go_upto_region 1 with fail
 refine aW (v1:=[kd,.int .i64 ↑m,nn,jb,ep,y.kind,y.job,y.every,y.time,y.client]) rfl fun w1 b X=>?_
 replace H:=H.oe b;replace J:=J.oe b;generalize hzx:w.heap.size=zx at X hzl0;clear hzx b;have x1:=X.at_ 1 rfl;have z2:=H.bx.at_ 2 rfl;go_quiet (fail);go_upto_region 3 with fail
 generalize hd:World.drewN w1 _=w2;have od:aA w1 w2:=by rw[←hd];exact(aA.Zz w1).Zv _
 clear hd x1 z2;replace H:=H.oe od;replace X:=X.oe od;replace J:=J.oe od;clear od;have x1:=X.at_ 1 rfl;have z2:=H.bx.at_ 2 rfl;obtain⟨c0,c1,c2,c3,c4,c5,c6,c7,c8,c9,c10,c11⟩:=CV.Zu H.f.cr (aX cs) (dD HCV.out);have hz2:=H.lts;have hxl:=X.lt;go_cut [5] (fun s5 wx=>∃ (p:Nat),s5=.pointer (some ⟨p,0,none⟩)∧Bx wx p [c.x.epoch,c.x.doing,c.x.e.kind,c.x.e.job,c.x.e.every,c.x.e.time,c.x.e.client,c.x.at_,c.x.link,c.x.played,.slice c.A c.n c.c,.slice c.G c.m c.d]∧aA w2 wx∧w2.heap.size≤p)
 case first =>
  go_region
  all_goals
   go_wp2_with fail;go_meet;exact⟨_,rfl,Bx.put (us:=[c.x.epoch,c.x.doing,c.x.e.kind,c.x.e.job,c.x.e.every,c.x.e.time,c.x.e.client,c.x.at_,c.x.link,c.x.played,.slice c.A c.n c.c,.slice c.G c.m c.d]) (vs:=[(),(),(),(),(),(),(),(),(),(),Nat,Nat]) ((Bx.Zt _ _ _).draw) rfl,aA.Zw (Nat.le_refl _) (((aA.Zz w2).new _).draw),Nat.le_refl _⟩
 case rest =>
  obtain⟨pc,rfl,PC,b,hpc⟩:=hcut;clear x1 z2 c0 c1 c2 c3 c4 c5 c6 c7 c8 c9 c10 c11;have NOFF:∀v∈ns,v.off pc:=fun v hv=>(H.f.ni v hv).1.Zn hpc
  have COFF:∀v∈cs,v.off pc:=fun v hv=>(H.f.ci v hv).1.Zn hpc
  have hw0p:w0.heap.size≤pc:=Nat.le_trans H.Zm.size hpc;have hkp:K.heap.size≤pc:=Nat.le_trans H.kp.size hpc;replace H:=H.oe b;replace X:=X.oe b;replace J:=J.oe b;clear b;generalize wc=w3 at *;have hpx:pc≠zx:=by omega
  have x0:=X.at_ 0 rfl;have hk:=HK.out;subst hk;have hq:=HQ.out;rw[if_neg (by decide),if_neg (by decide),if_neg (by decide),if_pos rfl]at hq;replace HQ:=aH hq;clear hq HK;have htm:((m:Nat):Int).toNat=m:=by omega
  have z1:=H.bx.at_ 1 rfl;by_cases ht:tip=60
  · have hq:=HQ.out;rw[if_pos ht]at hq;have HQ2:=aH hq;rw[ht]at z1;clear hq HQ ht;go_wp2_with fail;go_ret;exact bR.bad' (by rw[HQ2.out]) (by rw[HQ2.out];simp) H.aw
  have hq:=HQ.out;rw[if_neg ht]at hq;replace HQ:=aH hq;have htd:(tip ==60)=false:=by simpa using ht
  clear hq;obtain⟨r,hr⟩:∃r,r=eU c.x tip:=⟨_,rfl⟩
  have hq:=HQ.out;rw[←hr]at hq;replace HQ:=aH hq;have HR:=aH hr;clear hq hr;go_upto_region 19 with fail
  clear x0;have hzbw:=H.Zm.size;have hzb:=H.lts;obtain⟨v0,v1,v2,v3,v4,v5,v6,v7,v8,v9,v10,v11⟩:=PC.p12;have hpl:pc<w3.heap.size:=PC.lt
  go_region_law (first
   | (go_simp;go_at_call 100;refine Calls.mono (yE c tip _ (J.oe (by with_reducible(first|exact aA.Zz _|exact(aA.Zz _).draw)))) ?_;rw[←HR.out];rintro e w4 hp;obtain⟨A1,n1,k1,A2,n2,k2,rfl,s1,s2,ob,hk1,hk2,f1,f2⟩:=hp.cl;have b:aA w3 w4:=aA.to (by with_reducible(first|exact aA.Zz _|exact(aA.Zz _).draw)) ob;have tb:aK w3 w4 pc:=aK.of b pc;have PC4:=PC.oe b;have hst:=PC4.there (n:=12) (by simp);have o1:bQ n1 pc A1:=f1.Zx (by first|exact hpl| (simp;omega));have o2:bQ n2 pc A2:=f2.Zx (by first|exact hpl| (simp;omega));have P5:Bx (w4.setCells pc 0 [r.1.epoch,r.1.doing,r.1.e.kind,r.1.e.job,r.1.e.every,r.1.e.time,r.1.e.client,r.1.at_,r.1.link,r.1.played,.slice A1 n1 k1,.slice A2 n2 k2]) pc [r.1.epoch,r.1.doing,r.1.e.kind,r.1.e.job,r.1.e.every,r.1.e.time,r.1.e.client,r.1.at_,r.1.link,r.1.played,.slice A1 n1 k1,.slice A2 n2 k2]:=PC4.put rfl;have s15:=dM (w:=w4) o1 (vs:=[r.1.epoch,r.1.doing,r.1.e.kind,r.1.e.job,r.1.e.every,r.1.e.time,r.1.e.client,r.1.at_,r.1.link,r.1.played,.slice A1 n1 k1,.slice A2 n2 k2]) (o:=0) s1;have s25:=dM (w:=w4) o2 (vs:=[r.1.epoch,r.1.doing,r.1.e.kind,r.1.e.job,r.1.e.every,r.1.e.time,r.1.e.client,r.1.at_,r.1.link,r.1.played,.slice A1 n1 k1,.slice A2 n2 k2]) (o:=0) s2;have t:aK w3 (w4.setCells pc 0 [r.1.epoch,r.1.doing,r.1.e.kind,r.1.e.job,r.1.e.every,r.1.e.time,r.1.e.client,r.1.at_,r.1.link,r.1.played,.slice A1 n1 k1,.slice A2 n2 k2]) pc:=aK.Zw tb))
  all_goals
   clear s1 s2;have PC5:=P5;have s1:=s15;have s2:=s25;replace f1:aR w3.heap.size A1:=f1;replace f2:aR w3.heap.size A2:=f2;clear z1 v0 v1 v2 v3 v4 v5 v6 v7 v8 v9 v10 v11 P5 s15 s25 tb b PC4 hst o1 o2;have H5:WM K w0 (w4.setCells pc 0 [r.1.epoch,r.1.doing,r.1.e.kind,r.1.e.job,r.1.e.every,r.1.e.time,r.1.e.client,r.1.at_,r.1.link,r.1.played,.slice A1 n1 k1,.slice A2 n2 k2]) z nb cN cb cC ns tip cs time:=⟨H.bx.grown t (by intro e;injection e with e;omega),H.f.turn t hw0p (by omega) (by omega) NOFF COFF,H.nz,H.cz,H.hz,H.zn,H.zc,H.kp.far t hkp,H.fN,H.fC⟩
   have X5:=X.grown t (by intro e;injection e with e;omega);clear H X PC t
   try change Code.wp _ _ _ _ (w4.setCells pc 0 [r.1.epoch,r.1.doing,r.1.e.kind,r.1.e.job,r.1.e.every,r.1.e.time,r.1.e.client,r.1.at_,r.1.link,r.1.played,.slice A1 n1 k1,.slice A2 n2 k2])
   generalize(w4.setCells pc 0 [r.1.epoch,r.1.doing,r.1.e.kind,r.1.e.job,r.1.e.every,r.1.e.time,r.1.e.client,r.1.at_,r.1.link,r.1.played,.slice A1 n1 k1,.slice A2 n2 k2])=w5 at *;have H:=H5;have X:=X5;have PC:=PC5;clear H5 X5 PC5;go_upto_region 20 with fail
   have hcn:cb≠pc:=by omega
   by_cases h1:r.2=0
   · have hq:=HQ.out;rw[if_neg (by simp[h1])]at hq;have HQ2:=aH hq;rw[h1];clear hq HQ h1;go_upto_region 21 with fail
     have z1:=H.bx.at_ 1 rfl;have fz1:=H.bx.Zy 1;have hwt:IntKind.i64.wrap (tip+1)=tip+1:=IntWalk.i64_in _ (by omega);have tz:aK w5 (w5.setCell ⟨z,1,none⟩ (.int .i64 (tip+1))) z:=(aK.Zz _ z).put rfl _;have bz:=H.bx.Zq (j:=1) (by simp) (.int .i64 (tip+1));have H6:=H.setZ (tip':=tip+1) (time':=time) tz bz;have PC6:=PC.Zr (p:=⟨z,1,none⟩) (by show pc≠z;omega) (.int .i64 (tip+1));have X6:=X.Zr (p:=⟨z,1,none⟩) (by show zx≠z;omega) (.int .i64 (tip+1));have o1z:bQ n1 z A1:=f1.Zx hzb.1;have o2z:bQ n2 z A2:=f2.Zx hzb.1;have s16:=S.off s1 (p:=⟨z,1,none⟩) o1z (.int .i64 (tip+1));have s26:=S.off s2 (p:=⟨z,1,none⟩) o2z (.int .i64 (tip+1));go_upto_region 36 with fail
     clear z1 fz1 tz bz H PC X s1 s2
     try change Code.wp _ _ _ _ (w5.setCell ⟨z,1,none⟩ (.int .i64 (tip+1)))
     generalize(w5.setCell ⟨z,1,none⟩ (.int .i64 (tip+1)))=w6 at *;have H:=H6;have PC:=PC6;have X:=X6;have s1:=s16;have s2:=s26;clear H6 PC6 X6 s16 s26;have x1:=X.at_ 1 rfl;have z2:=H.bx.at_ 2 rfl;obtain⟨v0,v1,v2,v3,v4,v5,v6,v7,v8,v9,v10,v11⟩:=PC.p12;have hzlw:=H.Zm.size;have hzl:=H.lts;have hvl:=PC.lt;have hlen:m*12+12≤(cs.map aE).flatten.length:=by rw[aN (aX cs),List.length_map,H.f.cl];omega
     have hth:w6.there cb (m*12) 12:=Bx.thereM H.f.cr hlen;go_region;go_wp2_with fail;refine bodyPost_ret (v:=.int .i64 0) (by simp[results,results67,go_sem]) rfl ?_;have hq:=HQ2.out;have H1:=H.oe ((aA.Zz w6).draw);have H2:=H1.storeC HCV.out (v:=⟨r.1,A1,n1,k1,A2,n2,k2⟩) ⟨s1.draw,s2.draw,hk1,hk2⟩ ⟨f1.Zx hzb.2.1,f2.Zx hzb.2.1⟩ ⟨f1.Zx hzb.2.2,f2.Zx hzb.2.2⟩ ⟨f1.Zx hzb.1,f2.Zx hzb.1⟩ (fun b hb=>⟨f1.Zx (Nat.lt_of_lt_of_le hb hzbw),f2.Zx (Nat.lt_of_lt_of_le hb hzbw)⟩) (us:=[r.1.epoch,r.1.doing,r.1.e.kind,r.1.e.job,r.1.e.every,r.1.e.time,r.1.e.client,r.1.at_,r.1.link,r.1.played,.slice A1 n1 k1,.slice A2 n2 k2]) rfl;have hq3:q=(aY ns (tip+1) (cs.set m ⟨r.1,A1,n1,k1,A2,n2,k2⟩) time,0):=hq.trans (by simp[aY,bL,List.map_set]);exact bR.ok H2 hq3
   have hq:=HQ.out;rw[if_pos h1]at hq;have HQ2:=aH hq;have hd:(r.2 !=0)=true:=by simpa using h1
   have hd2:(r.2 ==0)=false:=by simpa using h1
   have h2':q.2≠0:=by rw[hq];exact h1
   clear hq HQ h1;go_wp2_with fail;go_ret;exact bR.bad' (by rw[HQ2.out]) h2' H.aw
end
end Go.Proofs.YtpfkagghooihfaaGreatDoor
