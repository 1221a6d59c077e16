/- Part 35. -/
import Derived.Test.YtpfkagghooihfaaGreatDoorBa30
import Derived.Test.YtpfkagghooihfaaGreatDoorBa24
namespace Go.Proofs.YtpfkagghooihfaaGreatDoor
set_option linter.unusedSimpArgs false
set_option linter.unusedVariables false
set_option maxHeartbeats 16000000
set_option maxRecDepth 100000
open Go.Proofs.Tryz
open Go.RowKit
section
attribute [local go_sem ↓] Go.wp_at_zero Go.wp_at_succ
attribute [local go_sem ↓] jH kG
attribute [local go_sem] gP gF iV
theorem tH (K w0 : World)(z nb cN cb cC : Nat)(ns : List NV)(tip : Int)(cs : List CV)(time : Int)(kd nn jb ep : Int)(m : Nat)(y : aL)(w : World)(E0 : fR w0)(H : WM K w0 w z nb cN cb cC ns tip cs time)(hok : ∀v ∈ cs, aP v.x = 0)(hm : m < 3)(hk : kd = 6) :
    Calls prog 67 #[.pointer (some ⟨z,0,none⟩),.agg #[kd,.int .i64 ↑m,nn,jb,ep,y.kind,y.job,y.every,y.time,y.client]] w (bR K w0 z nb cN cb cC (aZ (aY ns tip cs time) ⟨kd,m,nn,jb,ep,y⟩)):=by
 obtain⟨c,hcv,J,on2,oc2,_⟩:=H.f.atC hm;have oz2:=H.cz c (List.mem_of_getElem? hcv);have hcc:=hok c (List.mem_of_getElem? hcv);have hzl0:=H.lts;obtain⟨q,hq⟩:∃q,q=aZ (aY ns tip cs time) ⟨kd,m,nn,jb,ep,y⟩:=⟨_,rfl⟩
 rw[←hq];have htm:((m:Nat):Int).toNat=m:=by omega
 unfold aZ at hq;dsimp only at hq;rw[if_neg (by omega)]at hq;simp only[htm,show(aY ns tip cs time).c=bL cs from rfl,cU hcv]at hq;have HQ:=aH hq;have HCV:=aH hcv;have HK:=aH hk;have HOK:=aH hok;have HCC:=aH hcc;have hm3:(m:Int)<3:=by omega
 clear hq hcv hk htm hcc hok;go_enter func67,ntmps67;go_upto_region 1 with fail
 refine aW (v1:=[kd,.int .i64 ↑m,nn,jb,ep,y.kind,y.job,y.every,y.time,y.client]) rfl fun w1 b X=>?_
 replace H:=H.oe b;replace J:=J.oe b;generalize hzx:w.heap.size=zx at X hzl0;clear hzx b;have x1:=X.at_ 1 rfl;have z2:=H.bx.at_ 2 rfl;go_quiet (fail);go_upto_region 3 with fail
 generalize hd:World.drewN w1 _=w2;have od:aA w1 w2:=by rw[←hd];exact(aA.Zz w1).Zv _
 clear hd x1 z2;replace H:=H.oe od;replace X:=X.oe od;replace J:=J.oe od;clear od;have x1:=X.at_ 1 rfl;have z2:=H.bx.at_ 2 rfl;obtain⟨c0,c1,c2,c3,c4,c5,c6,c7,c8,c9,c10,c11⟩:=CV.Zu H.f.cr (aX cs) (dD HCV.out);have hz2:=H.lts;have hxl:=X.lt;go_cut [5] (fun s5 wx=>∃ (p:Nat),s5=.pointer (some ⟨p,0,none⟩)∧Bx wx p [c.x.epoch,c.x.doing,c.x.e.kind,c.x.e.job,c.x.e.every,c.x.e.time,c.x.e.client,c.x.at_,c.x.link,c.x.played,.slice c.A c.n c.c,.slice c.G c.m c.d]∧aA w2 wx∧w2.heap.size≤p)
 case first =>
  go_region
  all_goals
   go_wp2_with fail;go_meet;exact⟨_,rfl,Bx.put (us:=[c.x.epoch,c.x.doing,c.x.e.kind,c.x.e.job,c.x.e.every,c.x.e.time,c.x.e.client,c.x.at_,c.x.link,c.x.played,.slice c.A c.n c.c,.slice c.G c.m c.d]) (vs:=[(),(),(),(),(),(),(),(),(),(),Nat,Nat]) ((Bx.Zt _ _ _).draw) rfl,aA.Zw (Nat.le_refl _) (((aA.Zz w2).new _).draw),Nat.le_refl _⟩
 case rest =>
  obtain⟨pc,rfl,PC,b,hpc⟩:=hcut;clear x1 z2 c0 c1 c2 c3 c4 c5 c6 c7 c8 c9 c10 c11;have NOFF:∀v∈ns,v.off pc:=fun v hv=>(H.f.ni v hv).1.Zn hpc
  have COFF:∀v∈cs,v.off pc:=fun v hv=>(H.f.ci v hv).1.Zn hpc
  have hw0p:w0.heap.size≤pc:=Nat.le_trans H.Zm.size hpc;have hkp:K.heap.size≤pc:=Nat.le_trans H.kp.size hpc;replace H:=H.oe b;replace X:=X.oe b;replace J:=J.oe b;clear b;generalize wc=w3 at *;have hpx:pc≠zx:=by omega
  have x0:=X.at_ 0 rfl;have hk:=HK.out;subst hk;have hq:=HQ.out;rw[if_neg (by decide),if_neg (by decide),if_neg (by decide),if_neg (by decide),if_pos rfl]at hq;replace HQ:=aH hq;clear hq HK;have x2:=X.at_ 2 rfl;obtain⟨r,hr⟩:∃r,r=jC c.x nn:=⟨_,rfl⟩
  have hq:=HQ.out;unfold gK at hq;rw[←hr]at hq;replace HQ:=aH hq;have HR:=aH hr;clear hq hr;go_upto_region 23 with fail
  have hzbw:=H.Zm.size;have hzb:=H.lts;obtain⟨v0,v1,v2,v3,v4,v5,v6,v7,v8,v9,v10,v11⟩:=PC.p12;have hst0:=PC.there (n:=12) (by simp);go_wp2_with fail;refine Calls.mono (zN c nn _ J) ?_;rw[←HR.out];rintro e w4 hp;obtain⟨A1,n1,k1,A2,n2,k2,rfl,s1,s2,b,hk1,hk2,f1,f2⟩:=hp.cl;replace H:=H.oe b;replace X:=X.oe b;replace PC:=PC.oe b;have hpl:pc<w3.heap.size:=by have:=World.block_lt_of_cell? _ _ v0;exact this
  have o1:bQ n1 pc A1:=f1.Zx hpl;have o2:bQ n2 pc A2:=f2.Zx hpl;clear b hst0 v0 v1 v2 v3 v4 v5 v6 v7 v8 v9 v10 v11;have hst:=PC.there (n:=12) (by simp);go_upto_region 35 with fail
  have t:aK w4 (w4.setCells pc 0 [r.1.epoch,r.1.doing,r.1.e.kind,r.1.e.job,r.1.e.every,r.1.e.time,r.1.e.client,r.1.at_,r.1.link,r.1.played,.slice A1 n1 k1,.slice A2 n2 k2]) pc:=(aK.Zz _ pc).Zw;have PC5:Bx (w4.setCells pc 0 [r.1.epoch,r.1.doing,r.1.e.kind,r.1.e.job,r.1.e.every,r.1.e.time,r.1.e.client,r.1.at_,r.1.link,r.1.played,.slice A1 n1 k1,.slice A2 n2 k2]) pc [r.1.epoch,r.1.doing,r.1.e.kind,r.1.e.job,r.1.e.every,r.1.e.time,r.1.e.client,r.1.at_,r.1.link,r.1.played,.slice A1 n1 k1,.slice A2 n2 k2]:=PC.put rfl;have X5:=X.off (b:=pc) (o:=0) (us:=[r.1.epoch,r.1.doing,r.1.e.kind,r.1.e.job,r.1.e.every,r.1.e.time,r.1.e.client,r.1.at_,r.1.link,r.1.played,.slice A1 n1 k1,.slice A2 n2 k2]) (Ne.symm hpx);have H5:WM K w0 (w4.setCells pc 0 [r.1.epoch,r.1.doing,r.1.e.kind,r.1.e.job,r.1.e.every,r.1.e.time,r.1.e.client,r.1.at_,r.1.link,r.1.played,.slice A1 n1 k1,.slice A2 n2 k2]) z nb cN cb cC ns tip cs time:=⟨H.bx.off (by omega),H.f.turn t hw0p (by omega) (by omega) NOFF COFF,H.nz,H.cz,H.hz,H.zn,H.zc,H.kp.far t hkp,H.fN,H.fC⟩
  have s15:=dM (w:=w4) o1 (vs:=[r.1.epoch,r.1.doing,r.1.e.kind,r.1.e.job,r.1.e.every,r.1.e.time,r.1.e.client,r.1.at_,r.1.link,r.1.played,.slice A1 n1 k1,.slice A2 n2 k2]) (o:=0) s1;have s25:=dM (w:=w4) o2 (vs:=[r.1.epoch,r.1.doing,r.1.e.kind,r.1.e.job,r.1.e.every,r.1.e.time,r.1.e.client,r.1.at_,r.1.link,r.1.played,.slice A1 n1 k1,.slice A2 n2 k2]) (o:=0) s2;clear H X PC s1 s2 hst t o1 o2
  try change Code.wp _ _ _ _ (w4.setCells pc 0 [r.1.epoch,r.1.doing,r.1.e.kind,r.1.e.job,r.1.e.every,r.1.e.time,r.1.e.client,r.1.at_,r.1.link,r.1.played,.slice A1 n1 k1,.slice A2 n2 k2])
  generalize(w4.setCells pc 0 [r.1.epoch,r.1.doing,r.1.e.kind,r.1.e.job,r.1.e.every,r.1.e.time,r.1.e.client,r.1.at_,r.1.link,r.1.played,.slice A1 n1 k1,.slice A2 n2 k2])=w5 at *;have H:=H5;have X:=X5;have PC:=PC5;have s1:=s15;have s2:=s25;clear H5 X5 PC5 s15 s25;have hcn:cb≠pc:=by omega
  by_cases h1:r.2=0
  · have hq:=HQ.out;rw[if_neg (by simp[h1])]at hq;have HQ2:=aH hq;rw[h1];clear hq HQ h1;go_upto_region 36 with fail
    have x1:=X.at_ 1 rfl;have z2:=H.bx.at_ 2 rfl;obtain⟨v0,v1,v2,v3,v4,v5,v6,v7,v8,v9,v10,v11⟩:=PC.p12;have hzlw:=H.Zm.size;have hzl:=H.lts;have hvl:=PC.lt;have hlen:m*12+12≤(cs.map aE).flatten.length:=by rw[aN (aX cs),List.length_map,H.f.cl];omega
    have hth:w5.there cb (m*12) 12:=Bx.thereM H.f.cr hlen;go_region;go_wp2_with fail;refine bodyPost_ret (v:=.int .i64 0) (by simp[results,results67,go_sem]) rfl ?_;have hq:=HQ2.out;have H1:=H.oe ((aA.Zz w5).draw);have H2:=H1.storeC HCV.out (v:=⟨r.1,A1,n1,k1,A2,n2,k2⟩) ⟨s1.draw,s2.draw,hk1,hk2⟩ ⟨f1.Zx hzb.2.1,f2.Zx hzb.2.1⟩ ⟨f1.Zx hzb.2.2,f2.Zx hzb.2.2⟩ ⟨f1.Zx hzb.1,f2.Zx hzb.1⟩ (fun b hb=>⟨f1.Zx (Nat.lt_of_lt_of_le hb hzbw),f2.Zx (Nat.lt_of_lt_of_le hb hzbw)⟩) (us:=[r.1.epoch,r.1.doing,r.1.e.kind,r.1.e.job,r.1.e.every,r.1.e.time,r.1.e.client,r.1.at_,r.1.link,r.1.played,.slice A1 n1 k1,.slice A2 n2 k2]) rfl;have hq3:q=(aY ns tip (cs.set m ⟨r.1,A1,n1,k1,A2,n2,k2⟩) time,0):=hq.trans (by rw[←kK]);exact bR.ok H2 hq3
  have hq:=HQ.out;rw[if_pos h1]at hq;have HQ2:=aH hq;have hd:(r.2 !=0)=true:=by simpa using h1
  have hd2:(r.2 ==0)=false:=by simpa using h1
  have h2':q.2≠0:=by rw[hq];exact h1
  clear hq HQ h1;go_wp2_with fail;go_ret;exact bR.bad' (by rw[HQ2.out]) h2' H.aw
end
section
attribute [local go_sem ↓] Go.wp_at_zero Go.wp_at_succ
attribute [local go_sem ↓] jH kG
attribute [local go_sem] gP gF iV
theorem tO (K w0 : World)(z nb cN cb cC : Nat)(ns : List NV)(tip : Int)(cs : List CV)(time : Int)(kd nn jb ep : Int)(m : Nat)(y : aL)(w : World)(E0 : fR w0)(H : WM K w0 w z nb cN cb cC ns tip cs time)(hok : ∀v ∈ cs, aP v.x = 0)(hm : m < 3)(hk : kd = 7) :
    Calls prog 67 #[.pointer (some ⟨z,0,none⟩),.agg #[kd,.int .i64 ↑m,nn,jb,ep,y.kind,y.job,y.every,y.time,y.client]] w (bR K w0 z nb cN cb cC (aZ (aY ns tip cs time) ⟨kd,m,nn,jb,ep,y⟩)):=by
 obtain⟨c,hcv,J,on2,oc2,_⟩:=H.f.atC hm;have oz2:=H.cz c (List.mem_of_getElem? hcv);have hcc:=hok c (List.mem_of_getElem? hcv);have hzl0:=H.lts;obtain⟨q,hq⟩:∃q,q=aZ (aY ns tip cs time) ⟨kd,m,nn,jb,ep,y⟩:=⟨_,rfl⟩
 rw[←hq];have htm:((m:Nat):Int).toNat=m:=by omega
 unfold aZ at hq;dsimp only at hq;rw[if_neg (by omega)]at hq;simp only[htm,show(aY ns tip cs time).c=bL cs from rfl,cU hcv]at hq;have HQ:=aH hq;have HCV:=aH hcv;have HK:=aH hk;have HOK:=aH hok;have HCC:=aH hcc;have hm3:(m:Int)<3:=by omega
 clear hq hcv hk htm hcc hok;go_enter func67,ntmps67;go_upto_region 1 with fail
 refine aW (v1:=[kd,.int .i64 ↑m,nn,jb,ep,y.kind,y.job,y.every,y.time,y.client]) rfl fun w1 b X=>?_
 replace H:=H.oe b;replace J:=J.oe b;generalize hzx:w.heap.size=zx at X hzl0;clear hzx b;have x1:=X.at_ 1 rfl;have z2:=H.bx.at_ 2 rfl;go_quiet (fail);go_upto_region 3 with fail
 generalize hd:World.drewN w1 _=w2;have od:aA w1 w2:=by rw[←hd];exact(aA.Zz w1).Zv _
 clear hd x1 z2;replace H:=H.oe od;replace X:=X.oe od;replace J:=J.oe od;clear od;have x1:=X.at_ 1 rfl;have z2:=H.bx.at_ 2 rfl;obtain⟨c0,c1,c2,c3,c4,c5,c6,c7,c8,c9,c10,c11⟩:=CV.Zu H.f.cr (aX cs) (dD HCV.out);have hz2:=H.lts;have hxl:=X.lt;go_cut [5] (fun s5 wx=>∃ (p:Nat),s5=.pointer (some ⟨p,0,none⟩)∧Bx wx p [c.x.epoch,c.x.doing,c.x.e.kind,c.x.e.job,c.x.e.every,c.x.e.time,c.x.e.client,c.x.at_,c.x.link,c.x.played,.slice c.A c.n c.c,.slice c.G c.m c.d]∧aA w2 wx∧w2.heap.size≤p)
 case first =>
  go_region
  all_goals
   go_wp2_with fail;go_meet;exact⟨_,rfl,Bx.put (us:=[c.x.epoch,c.x.doing,c.x.e.kind,c.x.e.job,c.x.e.every,c.x.e.time,c.x.e.client,c.x.at_,c.x.link,c.x.played,.slice c.A c.n c.c,.slice c.G c.m c.d]) (vs:=[(),(),(),(),(),(),(),(),(),(),Nat,Nat]) ((Bx.Zt _ _ _).draw) rfl,aA.Zw (Nat.le_refl _) (((aA.Zz w2).new _).draw),Nat.le_refl _⟩
 case rest =>
  obtain⟨pc,rfl,PC,b,hpc⟩:=hcut;clear x1 z2 c0 c1 c2 c3 c4 c5 c6 c7 c8 c9 c10 c11;have NOFF:∀v∈ns,v.off pc:=fun v hv=>(H.f.ni v hv).1.Zn hpc
  have COFF:∀v∈cs,v.off pc:=fun v hv=>(H.f.ci v hv).1.Zn hpc
  have hw0p:w0.heap.size≤pc:=Nat.le_trans H.Zm.size hpc;have hkp:K.heap.size≤pc:=Nat.le_trans H.kp.size hpc;replace H:=H.oe b;replace X:=X.oe b;replace J:=J.oe b;clear b;generalize wc=w3 at *;have hpx:pc≠zx:=by omega
  have x0:=X.at_ 0 rfl;have hk:=HK.out;subst hk;have hq:=HQ.out;rw[if_neg (by decide),if_neg (by decide),if_neg (by decide),if_neg (by decide),if_neg (by decide),if_pos rfl]at hq;replace HQ:=aH hq;clear hq HK;have p9:=PC.at_ 9 rfl;have hq:=HQ.out;unfold pA at hq;replace HQ:=aH hq;clear hq;by_cases hp:c.x.played=60
  · have hq:=HQ.out;rw[if_pos hp]at hq;replace HQ:=aH hq;rw[hp]at p9;clear hq hp;have hq:q=(aY ns tip cs time,2):=by have h:=HQ.out;simpa[gK]using h
    have HQ2:=aH hq;clear hq HQ;go_wp2_with fail;go_ret;exact bR.bad' (by rw[HQ2.out]) (by rw[HQ2.out];simp) H.aw
  have hq:=HQ.out;rw[if_neg hp]at hq;replace HQ:=aH hq;have hpd:(c.x.played ==60)=false:=by simpa using hp
  clear hq hp;obtain⟨v,hv,-⟩:=H.f.atN (i:=2) (by omega);have hq:=HQ.out;simp only[show(aY ns tip cs time).n=bC ns from rfl,eW hv]at hq;replace HQ:=aH hq
  have n4:w3.cell? ⟨nb,14,none⟩=some (.bool v.x.up):=by
   have:=(NV.Zu H.f.nr (bB ns) (cV hv)).2.2.2.2;simpa using this
  have z0:=H.bx.at_ 0 rfl;clear hq hv;go_upto_region 27 with fail
  clear hpd;rcases Bool.eq_false_or_eq_true v.x.up with hu|hu
  · have hq:=HQ.out;rw[hu,if_neg (by decide)]at hq;replace HQ:=aH hq;rw[hu]at n4;clear hq hu;go_quiet (fail);go_upto_region 30 with fail
    clear n4 z0 p9;generalize hd:World.drewN w3 _=w4;have od:aA w3 w4:=by rw[←hd];exact(aA.Zz w3).Zv _
    have hsz:w4.heap.size=w3.heap.size:=by rw[←hd];rfl
    clear hd;have oa:=od.new (Obj.cells #[(),(),(),(),()] 27);have PE:Bx (w4.alloc (Obj.cells #[(),(),(),(),()] 27)) w3.heap.size [(),(),(),(),()]:=by rw[←hsz];exact Bx.Zt _ _ _
    have hpe:w3.heap.size≤w3.heap.size:=Nat.le_refl _;have hpl0:=PC.lt;have hz3w:=H.Zm.size;have hz3:=H.lts;have hx3:=X.lt;have NOFE:∀v∈ns,v.off w3.heap.size:=fun v hv=>(H.f.ni v hv).1.Zn hpe
    have COFE:∀v∈cs,v.off w3.heap.size:=fun v hv=>(H.f.ci v hv).1.Zn hpe
    have hw0e:w0.heap.size≤w3.heap.size:=Nat.le_trans H.Zm.size hpe;have hke:K.heap.size≤w3.heap.size:=Nat.le_trans H.kp.size hpe;have Joff:c.off w3.heap.size:=J.Zn hpe;replace H:=H.oe oa;replace X:=X.oe oa;replace J:=J.oe oa;replace PC:=PC.oe oa;clear od oa
    try change Code.wp _ _ _ _ (w4.alloc (Obj.cells #[(),(),(),(),()] 27))
    generalize(w4.alloc (Obj.cells #[(),(),(),(),()] 27))=w5 at *;clear hsz;generalize w3.heap.size=pe at *;obtain⟨a,ha⟩:∃a,a=nY (iB (bC ns)) c.x.played:=⟨_,rfl⟩
    have hq:=HQ.out;rw[←ha]at hq;replace HQ:=aH hq;have HA:=aH ha;clear hq ha;obtain⟨z0,z1,z2,z3⟩:=H.bx.p4;have p9:=PC.at_ 9 rfl;have hz0:∀w',aK w5 w' pe→w'.cell? ⟨z,0,none⟩=some (.slice (some ⟨nb,0,none⟩) 3 cN):=fun w' h=>aD h z0 (by intro e;injection e with e;simp only at e;omega);have hz1:∀w',aK w5 w' pe→w'.cell? ⟨z,1,none⟩=some (.int .i64 tip):=fun w' h=>aD h z1 (by intro e;injection e with e;simp only at e;omega);have hzz2:∀w',aK w5 w' pe→w'.cell? ⟨z,2,none⟩=some (.slice (some ⟨cb,0,none⟩) 3 cC):=fun w' h=>aD h z2 (by intro e;injection e with e;simp only at e;omega);have hzz3:∀w',aK w5 w' pe→w'.cell? ⟨z,3,none⟩=some (.int .i64 time):=fun w' h=>aD h z3 (by intro e;injection e with e;simp only at e;omega);have hp9:∀w',aK w5 w' pe→w'.cell? ⟨pc,9,none⟩=some (.int .i64 c.x.played):=fun w' h=>aD h p9 (by intro e;injection e with e;simp only at e;omega)
    clear z0 z1 z2 z3 p9 x0;have W5:=H.f.wr
    go_region_held3 (fun w'=>aK w5 w' pe)
     (((with_reducible(repeat(first|exact aK.Zz _ _|exact tb7|exact tb6|refine aK.Zw ?_|refine aK.oe ?_ ((aA.Zz _).draw))));done))
     (first
     | (go_at_call 103;refine Calls.mono (uQ (some ⟨nb,0,none⟩) 3 cN tip (some ⟨cb,0,none⟩) 3 cC time ns cs _ (W5.oe (by with_reducible(first|exact aA.Zz _|exact(aA.Zz _).draw))) (by omega)) ?_;rintro e w6⟨U0,un,uy,rfl,HU,ob⟩;have b6:aA w5 w6:=aA.to (by with_reducible(first|exact aA.Zz _|exact(aA.Zz _).draw)) ob;have tb6:aK w5 w6 pe:=aK.of b6 pe)
     | (go_at_call 102;refine Calls.mono (GE U0 un uy (ns.map NV.uv) c.x.played _ (HU.oe (by with_reducible(first|exact aA.Zz _|exact(aA.Zz _).draw)))) ?_;rw[rO,show nY (iB (bC ns)) c.x.played=a from HA.out.symm];unfold LL;rintro e w7⟨rfl,ob⟩;have b7:aA w5 w7:=aA.to b6 (aA.to (by with_reducible(first|exact aA.Zz _|exact(aA.Zz _).draw)) ob);have tb7:aK w5 w7 pe:=aK.of b7 pe;have PE7:=PE.oe b7;have hst:=PE7.there (n:=5) (by simp);have P7:Bx (w7.setCells pe 0 [a.1.kind,a.1.job,a.1.every,a.1.time,a.1.client]) pe [a.1.kind,a.1.job,a.1.every,a.1.time,a.1.client]:=PE7.put rfl;have t:aK w5 (w7.setCells pe 0 [a.1.kind,a.1.job,a.1.every,a.1.time,a.1.client]) pe:=aK.Zw tb7)
     |fail)
    have H7:WM K w0 (w7.setCells pe 0 [a.1.kind,a.1.job,a.1.every,a.1.time,a.1.client]) z nb cN cb cC ns tip cs time:=⟨H.bx.grown t (by intro e;injection e with e;omega),H.f.turn t hw0e (by omega) (by omega) NOFE COFE,H.nz,H.cz,H.hz,H.zn,H.zc,H.kp.far t hke,H.fN,H.fC⟩
    have X7:=X.grown t (by intro e;injection e with e;omega);have PC7:=PC.grown t (by intro e;injection e with e;omega);have J7:=J.grown t Joff;go_upto_region 31 with fail
    clear H X PC PE J tb6 tb7 b6 b7 ob hst PE7 HU W5 hz0 hz1 hp9 t;have H:=H7;have X:=X7;have PC:=PC7;have J:=J7;have PE:=P7;clear H7 X7 PC7 J7 P7
    try change Code.wp _ _ _ _ (w7.setCells pe 0 [a.1.kind,a.1.job,a.1.every,a.1.time,a.1.client])
    generalize(w7.setCells pe 0 [a.1.kind,a.1.job,a.1.every,a.1.time,a.1.client])=w7' at *;have x0:=X.at_ 0 rfl;by_cases ha0:a.2=0
    · have hq:=HQ.out;rw[if_neg (by simp[ha0])]at hq;replace HQ:=aH hq;rw[ha0];clear hq ha0;obtain⟨r,hr⟩:∃r,r=iP c.x a.1:=⟨_,rfl⟩
      have hq:=HQ.out;unfold gK at hq;rw[←hr]at hq;replace HQ:=aH hq;have HR:=aH hr;clear hq hr;go_upto_region 32 with fail
      have hzbw:=H.Zm.size;have hzb:=H.lts;obtain⟨v0,v1,v2,v3,v4,v5,v6,v7,v8,v9,v10,v11⟩:=PC.p12;obtain⟨e0,e1,e2,e3,e4⟩:=PE.p5;have hst0:=PC.there (n:=12) (by simp);go_wp2_with fail;refine Calls.mono (CJ c a.1 _ J) ?_;rw[←HR.out];rintro e w8 hp;obtain⟨A1,n1,k1,A2,n2,k2,rfl,s1,s2,b,hk1,hk2,f1,f2⟩:=hp.cl;replace H:=H.oe b;replace X:=X.oe b;replace PC:=PC.oe b;have hpl:pc<w7'.heap.size:=by have:=World.block_lt_of_cell? _ _ v0;exact this
      have o1:bQ n1 pc A1:=f1.Zx hpl;have o2:bQ n2 pc A2:=f2.Zx hpl;clear b hst0 e0 e1 e2 e3 e4 v0 v1 v2 v3 v4 v5 v6 v7 v8 v9 v10 v11;have hst:=PC.there (n:=12) (by simp);go_upto_region 35 with fail
      have t:aK w8 (w8.setCells pc 0 [r.1.epoch,r.1.doing,r.1.e.kind,r.1.e.job,r.1.e.every,r.1.e.time,r.1.e.client,r.1.at_,r.1.link,r.1.played,.slice A1 n1 k1,.slice A2 n2 k2]) pc:=(aK.Zz _ pc).Zw;have PC5:Bx (w8.setCells pc 0 [r.1.epoch,r.1.doing,r.1.e.kind,r.1.e.job,r.1.e.every,r.1.e.time,r.1.e.client,r.1.at_,r.1.link,r.1.played,.slice A1 n1 k1,.slice A2 n2 k2]) pc [r.1.epoch,r.1.doing,r.1.e.kind,r.1.e.job,r.1.e.every,r.1.e.time,r.1.e.client,r.1.at_,r.1.link,r.1.played,.slice A1 n1 k1,.slice A2 n2 k2]:=PC.put rfl;have X5:=X.off (b:=pc) (o:=0) (us:=[r.1.epoch,r.1.doing,r.1.e.kind,r.1.e.job,r.1.e.every,r.1.e.time,r.1.e.client,r.1.at_,r.1.link,r.1.played,.slice A1 n1 k1,.slice A2 n2 k2]) (Ne.symm hpx);have H5:WM K w0 (w8.setCells pc 0 [r.1.epoch,r.1.doing,r.1.e.kind,r.1.e.job,r.1.e.every,r.1.e.time,r.1.e.client,r.1.at_,r.1.link,r.1.played,.slice A1 n1 k1,.slice A2 n2 k2]) z nb cN cb cC ns tip cs time:=⟨H.bx.off (by omega),H.f.turn t hw0p (by omega) (by omega) NOFF COFF,H.nz,H.cz,H.hz,H.zn,H.zc,H.kp.far t hkp,H.fN,H.fC⟩
      have s15:=dM (w:=w8) o1 (vs:=[r.1.epoch,r.1.doing,r.1.e.kind,r.1.e.job,r.1.e.every,r.1.e.time,r.1.e.client,r.1.at_,r.1.link,r.1.played,.slice A1 n1 k1,.slice A2 n2 k2]) (o:=0) s1;have s25:=dM (w:=w8) o2 (vs:=[r.1.epoch,r.1.doing,r.1.e.kind,r.1.e.job,r.1.e.every,r.1.e.time,r.1.e.client,r.1.at_,r.1.link,r.1.played,.slice A1 n1 k1,.slice A2 n2 k2]) (o:=0) s2;clear H X PC s1 s2 hst t o1 o2
      try change Code.wp _ _ _ _ (w8.setCells pc 0 [r.1.epoch,r.1.doing,r.1.e.kind,r.1.e.job,r.1.e.every,r.1.e.time,r.1.e.client,r.1.at_,r.1.link,r.1.played,.slice A1 n1 k1,.slice A2 n2 k2])
      generalize(w8.setCells pc 0 [r.1.epoch,r.1.doing,r.1.e.kind,r.1.e.job,r.1.e.every,r.1.e.time,r.1.e.client,r.1.at_,r.1.link,r.1.played,.slice A1 n1 k1,.slice A2 n2 k2])=w9 at *;have H:=H5;have X:=X5;have PC:=PC5;have s1:=s15;have s2:=s25;clear H5 X5 PC5 s15 s25;have hcn:cb≠pc:=by omega
      by_cases h1:r.2=0
      · have hq:=HQ.out;rw[if_neg (by simp[h1])]at hq;have HQ2:=aH hq;rw[h1];clear hq HQ h1;go_upto_region 36 with fail
        have x1:=X.at_ 1 rfl;have z2:=H.bx.at_ 2 rfl;obtain⟨v0,v1,v2,v3,v4,v5,v6,v7,v8,v9,v10,v11⟩:=PC.p12;have hzlw:=H.Zm.size;have hzl:=H.lts;have hvl:=PC.lt;have hlen:m*12+12≤(cs.map aE).flatten.length:=by rw[aN (aX cs),List.length_map,H.f.cl];omega
        have hth:w9.there cb (m*12) 12:=Bx.thereM H.f.cr hlen;go_region;go_wp2_with fail;refine bodyPost_ret (v:=.int .i64 0) (by simp[results,results67,go_sem]) rfl ?_;have hq:=HQ2.out;have H1:=H.oe ((aA.Zz w9).draw);have H2:=H1.storeC HCV.out (v:=⟨r.1,A1,n1,k1,A2,n2,k2⟩) ⟨s1.draw,s2.draw,hk1,hk2⟩ ⟨f1.Zx hzb.2.1,f2.Zx hzb.2.1⟩ ⟨f1.Zx hzb.2.2,f2.Zx hzb.2.2⟩ ⟨f1.Zx hzb.1,f2.Zx hzb.1⟩ (fun b hb=>⟨f1.Zx (Nat.lt_of_lt_of_le hb hzbw),f2.Zx (Nat.lt_of_lt_of_le hb hzbw)⟩) (us:=[r.1.epoch,r.1.doing,r.1.e.kind,r.1.e.job,r.1.e.every,r.1.e.time,r.1.e.client,r.1.at_,r.1.link,r.1.played,.slice A1 n1 k1,.slice A2 n2 k2]) rfl;have hq3:q=(aY ns tip (cs.set m ⟨r.1,A1,n1,k1,A2,n2,k2⟩) time,0):=hq.trans (by rw[←kK]);exact bR.ok H2 hq3
      have hq:=HQ.out;rw[if_pos h1]at hq;have HQ2:=aH hq;have hd:(r.2 !=0)=true:=by simpa using h1
      have hd2:(r.2 ==0)=false:=by simpa using h1
      have h2':q.2≠0:=by rw[hq];exact h1
      clear hq HQ h1;go_wp2_with fail;go_ret;exact bR.bad' (by rw[HQ2.out]) h2' H.aw
    have hq:=HQ.out;rw[if_pos ha0]at hq;replace HQ:=aH hq;have hd:(a.2 ==0)=false:=by simpa using ha0
    have hq:q=(aY ns tip cs time,a.2):=by have h:=HQ.out;simpa[gK,ha0]using h
    have HQ2:=aH hq;have h2':q.2≠0:=by rw[hq];exact ha0
    clear hq HQ ha0;go_wp2_with fail;go_ret;exact bR.bad' (by rw[HQ2.out]) h2' H.aw
  have hq:=HQ.out;rw[hu,if_pos rfl]at hq;replace HQ:=aH hq;rw[hu]at n4;have hq:q=(aY ns tip cs time,7):=by have h:=HQ.out;simpa[gK]using h
  have HQ2:=aH hq;clear hq HQ hu;go_quiet (fail);go_wp2_with fail;go_ret;exact bR.bad' (by rw[HQ2.out]) (by rw[HQ2.out];simp) (H.aw.Zv _)
end
end Go.Proofs.YtpfkagghooihfaaGreatDoor
