/- Part 48. -/
import Derived.Test.YtpfkagghooihfaaGreatDoorBa41
import Derived.Test.YtpfkagghooihfaaGreatDoorBa36
namespace Go.Proofs.YtpfkagghooihfaaGreatDoor
set_option linter.unusedSimpArgs false
set_option linter.unusedVariables false
set_option maxHeartbeats 16000000
set_option maxRecDepth 100000
open Go.Proofs.Tryz
open Go.RowKit
section
attribute [local go_sem ↓] Go.wp_at_zero Go.wp_at_succ
theorem EO (A : Option Addr)(n c : Nat)(tip : Int)(C : Option Addr)(m d : Nat)(time : Int)(ns : List NV)(cs : List CV)(kd cl nn jb ep : Int)(y : aL)(w : World)(Y : Nat → Prop)(HY : YH Y w ns cs)(E : fR w)(R : WR w A n C m ns cs)(hok : dL (aY ns tip cs time) = 0)(hp : kd = 7 ∨ kd = 14) :
    Calls prog 13 #[.agg #[.slice A n c,tip,.slice C m d,time],.agg (dY ⟨kd,cl,nn,jb,ep,y⟩).toArray] w (QT Y w (mN (aY ns tip cs time) ⟨kd,cl,nn,jb,ep,y⟩)):=by
 have HP:=aH hp;have E0:=aH E;clear hp;have hg:=bZ.1 hok;obtain⟨rfl,rfl,hsm⟩:=iF R hg;obtain⟨q,hq⟩:∃q,q=mN (aY ns tip cs time) ⟨kd,cl,nn,jb,ep,y⟩:=⟨_,rfl⟩
 rw[←hq];have HQ:=aH hq;have HG:=aH hg;clear hq hg hok;unfold dY;go_enter func13,ntmps13;go_upto_region 1 with fail
 refine fY (v1:=[.slice A 3 c,tip,.slice C 3 d,time]) (v2:=dY ⟨kd,cl,nn,jb,ep,y⟩) (v3:=[Nat,(),Nat,()]) rfl rfl rfl fun w1 on W X Q=>?_
 generalize hz0:w.heap.size=z0 at W X Q⊢;obtain⟨a0,a1,a2,a3⟩:=W.p4;go_wp2_with fail;have LV:aF w1 _ [some ⟨.slice (some ⟨w1.heap.size,0,none⟩) 1 1,25,4,1,[[.slice A 3 c,tip,.slice C 3 d,time]]⟩,none,none]:=aF.box (aF.start w1 3) (i:=0) (by simp) 25 #[.slice A 3 c,tip,.slice C 3 d,time] _ rfl;have hzl:=W.lt;generalize hz:w1.heap.size=z at LV;generalize(w1.alloc (Obj.cells #[.slice A 3 c,tip,.slice C 3 d,time] 25))=w2 at LV⊢;have Zb:=aF.zb LV rfl;have p0:=Zb.at_ 0 rfl;have p2:=Zb.at_ 2 rfl;have f0:=Zb.Zy 0;have f2:=Zb.Zy 2;go_cut []from 464 (fun wx=>∃A1 c1 C1 d1,aF w1 wx [some ⟨.slice (some ⟨z,0,none⟩) 1 1,25,4,1,[[.slice A1 3 c1,tip,.slice C1 3 d1,time]]⟩,some ⟨.slice A1 3 c1,55,5,3,ns.map bW⟩,some ⟨.slice C1 3 d1,68,12,3,cs.map aE⟩])
 case first =>
  have RN:=R.nr.oe on;have RC:=R.cr.oe on
  go_region_held3 (fun w'=>w'.cell? ⟨z0,0,none⟩=some (.slice A 3 c)∧w'.cell? ⟨z0,2,none⟩=some (.slice C 3 d))
   (exact⟨aB (aF.on (by with_reducible(repeat(first|exact LV|apply aF.draw|apply aF.litN|apply aF.litC|apply aF.st0|apply aF.st2));all_goals (first|with_reducible rfl|simp))) a0,aB (aF.on (by with_reducible(repeat(first|exact LV|apply aF.draw|apply aF.litN|apply aF.litC|apply aF.st0|apply aF.st2));all_goals (first|with_reducible rfl|simp))) a2⟩)
   (first
    | (refine kY (by rfl) (by rfl) (by rfl) (by rfl) (by omega) RN (kJ ns) (by with_reducible(repeat(first|exact LV|apply aF.draw|apply aF.litN|apply aF.litC|apply aF.st0|apply aF.st2));all_goals (first|with_reducible rfl|simp)) ?_;intro A1 c1 w8 LV;(try simp only[World.size_alloc,World.size_setCell,World.size_drew]at LV);have Zb:=aF.zb LV rfl;have p0:=Zb.at_ 0 rfl;have p2:=Zb.at_ 2 rfl;have f0:=Zb.Zy 0;have f2:=Zb.Zy 2)
    | (refine kX (by rfl) (by rfl) (by rfl) (by rfl) (by omega) RC (kF cs) (by with_reducible(repeat(first|exact LV|apply aF.draw|apply aF.litN|apply aF.litC|apply aF.st0|apply aF.st2));all_goals (first|with_reducible rfl|simp)) ?_;intro C1 d1 w9 LV;(try simp only[World.size_alloc,World.size_setCell,World.size_drew]at LV);have Zb:=aF.zb LV rfl;have p0:=Zb.at_ 0 rfl;have p2:=Zb.at_ 2 rfl;have f0:=Zb.Zy 0;have f2:=Zb.Zy 2)
    |fail)
  all_goals
   clear a0 a1 a2 a3 p0 p2 f0 f2;go_wp2_with fail;go_meet;exact⟨A1,c1,C1,d1,by with_reducible(repeat(first|exact LV|apply aF.draw|apply aF.litN|apply aF.litC|apply aF.st0|apply aF.st2));all_goals (first|with_reducible rfl|simp)⟩
 case rest =>
  obtain⟨A1,cN,C1,cC,LV⟩:=hcut;obtain⟨nb,cb,rfl,rfl,hzz,hnb,hcb,H⟩:=HM.of_live (e:=z0+1+1) on R ⟨by omega,Q.lt⟩ HY LV;have hzx:=X.lt;replace X:=X.oe LV.on;replace Q:=Q.oe LV.on;replace on:=on.to LV.on;clear LV a0 a1 a2 a3 p0 p2 f0 f2 Zb R W hsm;go_upto_region 4 with fail
  refine aW (v1:=[.func (.func 48) #[] #[]]) rfl fun w4 ob G=>?_
  have hzb:nb<wc.heap.size∧cb<wc.heap.size∧z<wc.heap.size:=⟨H.m.lts.2.1,H.m.lts.2.2,H.m.lts.1⟩
  generalize wc.heap.size=zb at G hzb⊢;replace H:=H.oe ob;replace X:=X.oe ob;replace Q:=Q.oe ob;replace on:=on.to ob;replace E:=E.oe on;have g0:=G.at_ 0 rfl;generalize z0+1+1=ze at *;clear ob
  have HB:Hid (∀W er,aI (aY ns tip cs time) ⟨kd,cl,nn,jb,ep,y⟩=(W,er)→er≠0→q=(fQ,er)):=aH fun W er h he=>by
   rw[HQ.out];unfold mN;rw[if_neg (by simp[bZ.2 HG.out]),h,if_pos he]
  have HO:Hid (∀W,aI (aY ns tip cs time) ⟨kd,cl,nn,jb,ep,y⟩=(W,0)→q=(W,0)):=aH fun W h=>by
   rw[HQ.out];unfold mN;rw[if_neg (by simp[bZ.2 HG.out]),h];rfl
  clear HQ;obtain⟨b,hb⟩:∃b,b=decide (kd=8∨kd=9∨kd=12∨kd=13):=⟨_,rfl⟩
  have HBB:=aH hb;have x0:=X.at_ 0 rfl;clear hb;go_upto_region 6 with fail
  go_cut [1,10]from 464 (fun s1 s10 wx=>s10=.bool b∧wx=w4)
  case first =>
   go_wp2_with fail
   all_goals
    go_meet;refine⟨congrArg _ ?_,rfl⟩;rw[HBB.out];clear HB HO HBB;by_cases h8:kd=8<;>by_cases h9:kd=9<;>by_cases h12:kd=12<;>by_cases h13:kd=13<;>simp_all
  case rest =>
  obtain⟨rfl,rfl⟩:=hcut;go_upto_block 0 with fail
  go_cut [10]from 464 (fun s10 wx=>aA wc wx∧∃m:Nat,cl=(m:Int)∧m<3∧((kd=1∨kd=2∨kd=3∨kd=4∨kd=5∨kd=6∨kd=7∨kd=14∨kd=15)∨(kd=9∧∃i:Nat,nn=(i:Int)∧i<3∧(aV (bC ns) i).up=true)))
  case rest =>
   obtain⟨bo,m,rfl,hm,hk⟩:=hcut;have HK:=aH hk;have HM3:=aH hm;replace H:=H.oe bo;replace X:=X.oe bo;replace Q:=Q.oe bo;replace G:=G.oe bo;replace on:=on.to bo;replace E:=E.oe bo;clear bo hk x0 HBB g0;generalize wc=w5 at *;have x1:=X.at_ 1 rfl;have b0:=H.m.bx.at_ 0 rfl;go_wp2_with fail
   go_loopg [15,207] 3 (fun g s15 s207 wr=>∃ (k y0:Nat) (B:Option Addr),k≤3∧3-k≤g∧s207=.int .i64 k∧s15=.slice B k y0∧Hid (cH wr w5.heap.size 50 2 (.slice B k y0) k ((ns.take k).map fun v=>cP v.uv))∧aA w5 wr)
   case atStart=>exact⟨0,0,none,Nat.zero_le _,Nat.le_refl _,rfl,rfl,cH.nil _ _ _ _,aA.Zz _⟩
   case round =>
    obtain⟨k,y0,B,hk,hg,rfl,rfl,HO5,ob⟩:=hrel;have hol:=HO5.out.lt;by_cases hlt:k<3
    · obtain⟨bb,off,v,hbb,hb,hv,vi,d0,d1,d2,d3,d4⟩:=(H.oe ob).m.f.wr.atN hlt;injection hbb with hbb;injection hbb with hb1 hb2 _;subst hb1;subst hb2;rw[Nat.zero_add]at d0 d1 d2 d3 d4;obtain⟨i0,hi0,hzz0,hzz1,hzz2⟩:=info_parts yS;have HI0:=aH hi0;have HZ0:=aH hzz0;have HZ1:=aH hzz1;have HZ2:=aH hzz2;have HV:=aH hv;have hsw:=ob.size;clear hi0 hzz0 hzz1 hzz2 hv vi;go_upto_region 39 with fail
      refine aW (v1:=bW v) rfl fun w6 oc BV=>?_
      have HO6:=aH (HO5.out.below oc);replace ob:=ob.to oc;clear HO5 oc d0 d1 d2 d3 d4 hb;generalize wr.heap.size=zr at *;obtain⟨c0,c1⟩:=BV.p2;have hs5:=ob.size
      have hnew:Sl (w6.alloc (Obj.cells #[v.x.u.ep,.slice v.A v.n v.c] 50)) (w6.heap.size+1) 2 (some ⟨w6.heap.size,0,none⟩) 1 [cP v.uv]:=by
       have:=Sl.block (w:=w6.alloc (Obj.cells #[v.x.u.ep,.slice v.A v.n v.c] 50)) (k:=2) [cP v.uv] (heap_alloc_new w6 _) (by simp[cP]) rfl;simpa using this
      have HNEW:=aH hnew;clear hnew;go_wp2_with (at_builtin;refine aQ _ rfl _ _ 96 rfl w5.heap.size 50 i0 _ 2 32 underlying96 HI0.out HZ0.out HZ1.out HZ2.out rfl (by decide) (.slice B k y0) k ((ns.take k).map fun v=>cP v.uv) (by rfl) (HO6.out.alloc _) (w6.heap.size+1) (some ⟨w6.heap.size,0,none⟩) 1 1 [cP v.uv] (by rfl) HNEW.out (by simp[cP,Value.oneCell']) (by unfold maxLen;omega) (by omega) (by simp;omega) ?_)
      intro v8 w8 own8 grow8 hv8;obtain⟨A8,c8,rfl,_,_⟩:=own8.slice;have on8:aA w5 w8:=aT (ob.new _) (by simp;omega) grow8 (fun g hg=>(HO6.out.lt g hg).1);have HO8:=aH own8;clear own8 grow8 hv8 HO6 HNEW HI0 HZ0 HZ1 HZ2 c0 c1 BV ob;go_wp2_with fail;go_roundg (3-(k+1))
      case measure=>omega
      case rel =>
       refine⟨k+1,c8,A8,by omega,Nat.le_refl _,by go_num,rfl,?_,on8⟩;refine aH ?_
       have e:(ns.take (k+1)).map (fun v=>cP v.uv)=(ns.take k).map (fun v=>cP v.uv) ++[cP v.uv]:=by
        obtain⟨h2,rfl⟩:=List.getElem?_eq_some_iff.1 HV.out;rw[List.take_add_one,HV.out,List.map_append];rfl
       rw[e]
       first|exact HO8.out| (rw[List.map_take];exact HO8.out)
    obtain rfl:k=3:=by omega
    have hall:(ns.take 3).map (fun v=>cP v.uv)=(ns.map NV.uv).map cP:=by
     rw[List.take_of_length_le (by have:=H.m.f.nl;omega),List.map_map];rfl
    have hOw:=HO5.out;rw[hall]at hOw;have UU:Us wr B 3 (ns.map NV.uv):=(H.oe ob).m.f.wr.us hOw.sl;replace H:=H.oe ob;replace X:=X.oe ob;replace Q:=Q.oe ob;replace G:=G.oe ob;replace on:=on.to ob;replace E:=E.oe ob;clear hall hOw HO5 ob hol hg hlt hk x1 b0;generalize wr=w6 at *;obtain⟨c,hc,I,o1,o2,hcell⟩:=H.m.f.atC hm;have o3:=H.m.cz c (List.mem_of_getElem? hc);have o4:=H.eC c (List.mem_of_getElem? hc);obtain⟨q0,q1,q2,q3,q4,q5,q6,q7,q8,q9,q10,q11⟩:=CV.Zu H.m.f.cr (aX cs) (dD hc);have x1:=X.at_ 1 rfl;have b2:=H.m.bx.at_ 2 rfl;have hmi:(m:Int)<3:=by omega
    go_upto_region 42 with fail
    refine aW (v1:=aE c) rfl fun w7 oc CB=>?_
    have hzc:zb<w6.heap.size:=G.lt;have hze:ze<w6.heap.size:=H.he.2.1;have hw6:=on.size;have NZ0:∀v∈ns,v.off w6.heap.size:=fun v hv=>(H.m.f.ni v hv).1.Zn (Nat.le_refl _)
    have CZ0:∀v∈cs,v.off w6.heap.size:=fun v hv=>(H.m.f.ci v hv).1.Zn (Nat.le_refl _)
    generalize w6.heap.size=zc at CB hzc NZ0 CZ0 hze hw6⊢;replace H:=H.oe oc;replace X:=X.oe oc;replace Q:=Q.oe oc;replace G:=G.oe oc;replace on:=on.to oc;replace E:=E.oe oc;replace UU:=UU.oe oc;replace I:=I.oe oc;clear q0 q1 q2 q3 q4 q5 q6 q7 q8 q9 q10 q11 x1 b2 oc hcell;have x0:=X.at_ 0 rfl;have NZ:=aH NZ0;have CZ:=aH CZ0;clear NZ0 CZ0;have hkk:=HK.out;clear HK;rcases hkk with (rfl|rfl|rfl|rfl|rfl|rfl|rfl|rfl|rfl)| ⟨rfl,i,rfl,hi,hup⟩
    · exfalso;have:=HP.out;omega
    · exfalso;have:=HP.out;omega
    · exfalso;have:=HP.out;omega
    · exfalso;have:=HP.out;omega
    · exfalso;have:=HP.out;omega
    · exfalso;have:=HP.out;omega
    · have C12:=CB.c12;by_cases hpl:c.x.played=60
      · have C9:w7.cell? ⟨zc,9,none⟩=some (.int .i64 60):=by rw[←hpl];exact CB.at_ 9 rfl
        clear C12;have HQ:=aH (HB.out (aY ns tip cs time) 2 (by have h3:=HM3.out;have hcl:=cU hc;unfold aI aZ;dsimp only;rw[if_neg (by omega),if_neg (by omega),if_neg (by omega),if_neg (by omega),if_neg (by omega),if_neg (by omega),if_neg (by omega),if_neg (by omega),if_neg (by omega),if_neg (by omega),if_pos rfl];simp only[Int.toNat_natCast,aY,hcl];simp[gK,pA,hpl]) (by simp));have g0:=G.at_ 0 rfl;go_wp2_with fail;refine Calls.mono (aU _ _) ?_;rintro en w9⟨rfl,ob⟩;replace Q:=Q.oe ob;replace on:=on.to ob;go_wp2_with ((with_reducible refine gd ?_);refine pU Q z4 25 bJ ?_)
        exact cL rfl rfl rfl Q rfl on H.he.1 HQ.out
      have hpd:(c.x.played ==60)=false:=by simpa using hpl
      obtain⟨v,hv,_,_,_,_⟩:=H.at_ (k:=2) (by omega);obtain⟨n0,n1,n2,n3,n4⟩:=NV.Zu H.m.f.nr (bB ns) (cV hv);have b0:=H.m.bx.at_ 0 rfl;have hnd:aV (bC ns) 2=v.x:=eW hv;by_cases hu:v.x.up=false
      · rw[hu]at n4;have HQ:=aH (HB.out (aY ns tip cs time) 7 (by have h3:=HM3.out;have hcl:=cU hc;unfold aI aZ;dsimp only;rw[if_neg (by omega),if_neg (by omega),if_neg (by omega),if_neg (by omega),if_neg (by omega),if_neg (by omega),if_neg (by omega),if_neg (by omega),if_neg (by omega),if_neg (by omega),if_pos rfl];simp only[Int.toNat_natCast,aY,hcl];simp[gK,pA,hpl,hnd,hu]) (by simp));have g0:=G.at_ 0 rfl;go_wp2_with fail;refine Calls.mono (aU _ _) ?_;rintro en w9⟨rfl,ob⟩;replace Q:=Q.oe ob;replace on:=on.to ob;go_wp2_with ((with_reducible refine gd ?_);refine pU Q z4 25 bJ ?_)
        exact cL rfl rfl rfl Q rfl on H.he.1 HQ.out
      have hu':v.x.up=true:=by simpa using hu
      rw[hu']at n4;obtain⟨a,ha⟩:∃a,a=nY (iB (bC ns)) c.x.played:=⟨_,rfl⟩
      obtain⟨r,hr⟩:∃r,r=if a.2≠0 then(c.x,a.2)else iP c.x a.1:=⟨_,rfl⟩
      have hw:aI (aY ns tip cs time) ⟨7,(m:Int),nn,jb,ep,y⟩=gK (aY ns tip cs time) m r:=by
       rw[hr,ha];have h3:=HM3.out;have hcl:=cU hc;unfold aI aZ;dsimp only;rw[if_neg (by omega),if_neg (by omega),if_neg (by omega),if_neg (by omega),if_neg (by omega),if_neg (by omega),if_neg (by omega),if_neg (by omega),if_neg (by omega),if_neg (by omega),if_pos rfl];simp only[Int.toNat_natCast,aY,hcl];simp only[pA,hnd,hu',if_neg hpl];simp
      have HW:=aH hw;have HR:=aH hr;have HA:=aH ha;clear hw hr ha hu hnd hv hpl;go_upto_region 84 with fail
      refine aW (v1:=bA bP) rfl fun w8 ob S5=>?_
      have hzs:zc<w7.heap.size:=CB.lt;have hzs2:=H.m.lts;have hzs3:=H.he.2.1;have hzs4:=G.lt;have hzs5:=on.size;have NS:Hid (∀v∈ns,v.off w7.heap.size):=aH fun v hv=>(H.m.f.ni v hv).1.Zn (Nat.le_refl _)
      have CS:Hid (∀v∈cs,v.off w7.heap.size):=aH fun v hv=>(H.m.f.ci v hv).1.Zn (Nat.le_refl _)
      generalize w7.heap.size=zs at *;replace H:=H.oe ob;replace X:=X.oe ob;replace Q:=Q.oe ob;replace G:=G.oe ob;replace CB:=CB.oe ob;replace I:=I.oe ob;replace UU:=UU.oe ob;replace on:=on.to ob;clear C12 n0 n1 n2 n3 n4 b0 x0 ob;have C9:=CB.at_ 9 rfl;go_wp2_with fail;refine Calls.mono (CY B 3 y0 (ns.map NV.uv) c.x.played _ UU) ?_;rw[rO,←HA.out];rintro en w9⟨rfl,ob⟩;replace H:=H.oe ob;replace X:=X.oe ob;replace Q:=Q.oe ob;replace G:=G.oe ob;replace CB:=CB.oe ob;replace I:=I.oe ob;replace S5:=S5.oe ob;replace on:=on.to ob;clear C9 ob UU;go_upto_region 85 with ((with_reducible refine gd ?_);refine pU S5 (bA a.1) 27 LQ ?_)
      have tz:aK w9 (w9.setCells zs 0 (bA a.1)) zs:=aK.Zw (aK.Zz _ _);have hzs6:=H.m.hz;replace H:=H.far tz (by omega) (by omega) (by omega) (by omega) NS.out CS.out;replace X:=X.grown tz (by simp;omega);replace Q:=Q.grown tz (by simp;omega);replace G:=G.grown tz (by simp;omega);replace CB:=CB.grown tz (by simp;omega);replace I:=I.Zw (o:=0) (us:=bA a.1) (CS.out c (List.mem_of_getElem? hc));replace S5:=S5.put (us:=bA a.1) rfl;clear tz;generalize w9.setCells zs 0 (bA a.1)=w7 at *;by_cases ha0:a.2=0
      · have hr2:r=iP c.x a.1:=by rw[HR.out,if_neg (by simp[ha0])]
        replace HR:=aH hr2;rw[ha0];clear hr2 ha0;have S:=S5.c5;have C12:=CB.c12;go_wp2_with fail;have hzcl:=CB.lt;have hlt7:=H.m.lts;have hle7:=H.yb;refine Calls.mono (FB c a.1 _ I) ?_;rw[←HR.out];rintro en w8⟨u,hu,rfl,Iu,ob,nr⟩;have HUX:=aH hu;clear hu;have j0:=nr _ hzcl (CZ.out c (List.mem_of_getElem? hc));have j1:=nr _ hlt7.2.1 o1;have j2:=nr _ hlt7.2.2 o2;have j3:=nr _ hlt7.1 o3;have j4:=hle7.cs nr o4;replace H:=H.oe ob;replace X:=X.oe ob;replace Q:=Q.oe ob;replace G:=G.oe ob;replace CB:=CB.oe ob;clear C12 S S5 ob nr 
        try clear x0
        try clear x1
        go_upto_region 89 with ((with_reducible refine gd ?_);refine oK u CB ?_)
        have hs8:=CB.lt;have hn8:=H.m.lts;have tz:aK w8 (w8.setCells zc 0 (aE u)) zc:=aK.Zw (aK.Zz _ _);replace H:=H.far tz (by omega) (by omega) (by omega) (by omega) (NZ.out) CZ.out;replace X:=X.grown tz (by simp;omega);replace Q:=Q.grown tz (by simp;omega);replace G:=G.grown tz (by simp;omega);replace CB:=CB.put (us:=aE u) rfl;have J:=Iu.Zw (o:=0) (us:=aE u) j0;clear tz hs8 hn8;generalize w8.setCells zc 0 (aE u)=w10 at *;have hqb:Hid (r.2≠0→q=(fQ,r.2)):=aH fun h=>HB.out _ _ (by rw[HW.out];exact if_pos h) h
        have hqo:Hid (r.2=0→q=(⟨bC ns,tip,(bL cs).set m u.x,time⟩,0)):=aH fun h=>by
         rw[HO.out _ (by rw[HW.out];exact if_neg (by simp[h])),HUX.out];rfl
        generalize r.2=er at hqb hqo⊢;have C12:=CB.c12;have x1:=X.at_ 1 rfl;have b2:=H.m.bx.at_ 2 rfl;have Bn:=H.m.f.cr;have hlen:m*12+12≤(cs.map aE).flatten.length:=by rw[aN (aX cs),List.length_map,H.m.f.cl];omega
        go_upto_region 90 with ((with_reducible refine gd ?_);refine pM Bn (m*12) (aE u) 68 hlen jG ?_)
        have tn:aK w10 (w10.setCells cb (m*12) (aE u)) cb:=aK.Zw (aK.Zz _ _);have H':=H.client tn (Rx.put Bn (aX cs) (dD hc) rfl) (J.Zw j2) j1 j2 j3 j4;replace Q:=Q.grown tn (by simpa using Ne.symm H.he.2.2.2.2);replace G:=G.grown tn (by simp;omega);have hcs:=aH (show bL (cs.set m u)=(bL cs).set m u.x by rw[bL,List.map_set]);generalize cs.set m u=cs' at H' hcs;clear x1 b2 C12 tn H Bn hlen CB X J NZ CZ;generalize w10.setCells cb (m*12) _=w11 at *;go_wp2_with fail;refine Calls.mono (cO _ zb z _ _ _ _ _ _ _ _ _ G H'.m.bx) ?_;by_cases hr0:er=0
        · have HQ:Hid (q=(aY ns tip cs' time,0)):=aH (by rw[hqo.out hr0,←hcs.out]);subst hr0;rw[if_pos rfl];rintro en w9⟨rfl,ob⟩;replace H':=H'.oe ob;replace Q:=Q.oe ob;go_wp2_with ((with_reducible refine gd ?_);refine pU Q [.slice (some ⟨nb,0,none⟩) 3 cN,tip,.slice (some ⟨cb,0,none⟩) 3 cC,time] 25 bJ ?_)
          exact kR rfl rfl rfl Q rfl H' HQ.out
        rw[if_neg hr0];rintro en w9⟨rfl,ob⟩;replace H':=H'.oe ob;replace Q:=Q.oe ob;have HQ:=aH (hqb.out hr0);clear hr0;go_wp2_with ((with_reducible refine gd ?_);refine pU Q z4 25 bJ ?_)
        exact cL rfl rfl rfl Q rfl H'.on H'.he.1 HQ.out
      have had:(a.2 ==0)=false:=by simpa using ha0
      have hr2:r=(c.x,a.2):=by rw[HR.out,if_pos ha0]
      have hqb:Hid (a.2≠0→q=(fQ,a.2)):=aH fun h=>HB.out _ _ (by rw[HW.out,hr2];exact if_pos h) h
      have hqo:Hid (a.2=0→q=(⟨bC ns,tip,(bL cs).set m c.x,time⟩,0)):=aH fun h=>absurd h ha0
      generalize a.2=er at hqb hqo had⊢;clear hr2 ha0 HW HR;obtain⟨u,hu⟩:∃u:CV,u=c:=⟨_,rfl⟩
      rw[←hu]at hqo CB;have J:u.In w7:=hu▸I;have j1:u.off nb:=hu▸o1;have j2:u.off cb:=hu▸o2;have j3:u.off z:=hu▸o3;have j4:u.os Y ze:=hu▸o4;clear hu I S5;go_upto_region 89 with fail
      have C12:=CB.c12;have x1:=X.at_ 1 rfl;have b2:=H.m.bx.at_ 2 rfl;have Bn:=H.m.f.cr;have hlen:m*12+12≤(cs.map aE).flatten.length:=by rw[aN (aX cs),List.length_map,H.m.f.cl];omega
      go_upto_region 90 with ((with_reducible refine gd ?_);refine pM Bn (m*12) (aE u) 68 hlen jG ?_)
      have tn:aK w7 (w7.setCells cb (m*12) (aE u)) cb:=aK.Zw (aK.Zz _ _);have H':=H.client tn (Rx.put Bn (aX cs) (dD hc) rfl) (J.Zw j2) j1 j2 j3 j4;replace Q:=Q.grown tn (by simpa using Ne.symm H.he.2.2.2.2);replace G:=G.grown tn (by simp;omega);have hcs:=aH (show bL (cs.set m u)=(bL cs).set m u.x by rw[bL,List.map_set]);generalize cs.set m u=cs' at H' hcs;clear x1 b2 C12 tn H Bn hlen CB X J NZ CZ;generalize w7.setCells cb (m*12) _=w11 at *;go_wp2_with fail;refine Calls.mono (cO _ zb z _ _ _ _ _ _ _ _ _ G H'.m.bx) ?_;by_cases hr0:er=0
      · have HQ:Hid (q=(aY ns tip cs' time,0)):=aH (by rw[hqo.out hr0,←hcs.out]);subst hr0;rw[if_pos rfl];rintro en w9⟨rfl,ob⟩;replace H':=H'.oe ob;replace Q:=Q.oe ob;go_wp2_with ((with_reducible refine gd ?_);refine pU Q [.slice (some ⟨nb,0,none⟩) 3 cN,tip,.slice (some ⟨cb,0,none⟩) 3 cC,time] 25 bJ ?_)
        exact kR rfl rfl rfl Q rfl H' HQ.out
      rw[if_neg hr0];rintro en w9⟨rfl,ob⟩;replace H':=H'.oe ob;replace Q:=Q.oe ob;have HQ:=aH (hqb.out hr0);clear hr0;go_wp2_with ((with_reducible refine gd ?_);refine pU Q z4 25 bJ ?_)
      exact cL rfl rfl rfl Q rfl H'.on H'.he.1 HQ.out
    · go_upto_region 89 with ((with_reducible refine gd ?_);refine oK ⟨iD,none,0,0,none,0,0⟩ CB ?_)
      have tz:aK w7 (w7.setCells zc 0 (aE ⟨iD,none,0,0,none,0,0⟩)) zc:=aK.Zw (aK.Zz _ _);replace H:=H.far tz (by omega) (by omega) (by omega) (by omega) (NZ.out) CZ.out;replace X:=X.grown tz (by simp;omega);replace Q:=Q.grown tz (by simp;omega);replace G:=G.grown tz (by simp;omega);replace CB:=CB.put (us:=aE ⟨iD,none,0,0,none,0,0⟩) rfl;obtain⟨u,hu⟩:∃u:CV,u=⟨iD,none,0,0,none,0,0⟩:=⟨_,rfl⟩
      have hqo:Hid (q=(⟨bC ns,tip,(bL cs).set m u.x,time⟩,0)):=aH (by
       rw[HO.out _ (show aI (aY ns tip cs time) ⟨14,(m:Int),nn,jb,ep,y⟩=(setC (aY ns tip cs time) m iD,0) by have:=HM3.out;simp[aI,aZ];omega),hu];rfl)
      have J:u.In (w7.setCells zc 0 (aE u)):=by rw[hu];exact⟨Sl.nil,Sl.nil,Nat.le_refl _,Nat.le_refl _⟩
      have j1:u.off nb:=by rw[hu];exact⟨mD,mD⟩
      have j2:u.off cb:=by rw[hu];exact⟨mD,mD⟩
      have j3:u.off z:=by rw[hu];exact⟨mD,mD⟩
      have j4:u.os Y ze:=by rw[hu];exact⟨⟨mD,mD⟩,fun _ _=>⟨mD,mD⟩⟩
      rw[←hu]at tz H X Q G CB⊢;clear hu tz;generalize w7.setCells zc 0 (aE u)=w10 at *;have C12:=CB.c12;have x1:=X.at_ 1 rfl;have b2:=H.m.bx.at_ 2 rfl;have Bn:=H.m.f.cr;have hlen:m*12+12≤(cs.map aE).flatten.length:=by rw[aN (aX cs),List.length_map,H.m.f.cl];omega
      go_upto_region 90 with ((with_reducible refine gd ?_);refine pM Bn (m*12) (aE u) 68 hlen jG ?_)
      have tn:aK w10 (w10.setCells cb (m*12) (aE u)) cb:=aK.Zw (aK.Zz _ _);have H':=H.client tn (Rx.put Bn (aX cs) (dD hc) rfl) (J.Zw j2) j1 j2 j3 j4;replace Q:=Q.grown tn (by simpa using Ne.symm H.he.2.2.2.2);replace G:=G.grown tn (by simp;omega);have hcs:=aH (show bL (cs.set m u)=(bL cs).set m u.x by rw[bL,List.map_set]);generalize cs.set m u=cs' at H' hcs;clear x1 b2 C12 tn H Bn hlen CB X J NZ CZ;generalize w10.setCells cb (m*12) _=w11 at *;go_wp2_with fail;refine Calls.mono (cO _ zb z _ _ _ _ _ _ _ _ _ G H'.m.bx) ?_;have HQ:Hid (q=(aY ns tip cs' time,0)):=aH (by rw[hqo.out,←hcs.out]);rw[if_pos rfl];rintro en w9⟨rfl,ob⟩;replace H':=H'.oe ob;replace Q:=Q.oe ob;go_wp2_with ((with_reducible refine gd ?_);refine pU Q [.slice (some ⟨nb,0,none⟩) 3 cN,tip,.slice (some ⟨cb,0,none⟩) 3 cC,time] 25 bJ ?_)
      exact kR rfl rfl rfl Q rfl H' HQ.out
    · exfalso;have:=HP.out;omega
    exfalso;have:=HP.out;omega
  case first =>
  generalize wc=w4 at *;have hcases:(kd<1∨15<kd)∨kd=10∨kd=11∨(kd=8∨kd=9∨kd=12∨kd=13)∨(kd=1∨kd=2∨kd=3∨kd=4∨kd=5∨kd=6∨kd=7∨kd=14∨kd=15):=by omega
  rcases hcases with hr|rfl|rfl|hk|hk
  · exfalso;have:=HP.out;omega
  · exfalso;have:=HP.out;omega
  · exfalso;have:=HP.out;omega
  · rcases hk with rfl|rfl|rfl|rfl
    · exfalso;have:=HP.out;omega
    · exfalso;have:=HP.out;omega
    · exfalso;have:=HP.out;omega
    exfalso;have:=HP.out;omega
  obtain rfl:b=false:=by rw[HBB.out];exact decide_eq_false (by omega)
  have h3:(decide (1≤kd)&&decide (kd≤15))=true:=by simp;omega
  have e1:(kd ==10)=false:=by simp;omega
  have e2:(kd ==11)=false:=by simp;omega
  have e3:(kd ==12)=false:=by simp;omega
  have e4:(kd ==13)=false:=by simp;omega
  have e5:(kd ==8)=false:=by simp;omega
  have HK:=aH hk;obtain⟨x0,x1⟩:=X.p2;by_cases hc:cl<0∨3≤cl
  · have h2:(decide (0≤cl)&&decide (cl≤2))=false:=by simp;omega
    have HQ:=aH (HB.out (aY ns tip cs time) 5 (by unfold aI;dsimp only;rw[if_neg (by omega),if_neg (by omega),if_neg (by omega),if_neg (by omega)];unfold aZ;dsimp only;rw[if_pos hc]) (by simp));clear hk hc HBB;go_wp2_with (go_at_call 18;refine Calls.mono (aM _ _ _ _) ?_;(first|rw[h1]|rw[h2]|rw[h3]);rintro en w'⟨rfl,rfl⟩)
    go_quiet (fail);obtain⟨w5,hw5⟩:∃w5,w5=w4.drewN nq:=⟨_,rfl⟩
    rw[←hw5];have b5:aA w4 w5:=hw5▸aA.Zv (aA.Zz _) nq;clear hw5 g0 x0 x1 ;replace H:=H.oe b5;replace X:=X.oe b5;replace Q:=Q.oe b5;replace G:=G.oe b5;replace on:=on.to b5;replace E:=E.oe b5;have b5':=aH b5;clear b5;have g0:=G.at_ 0 rfl;obtain⟨x0,x1⟩:=X.p2;go_wp2_with ((go_at_call 18;refine Calls.mono (aM _ _ _ _) ?_;(first|rw[h1]|rw[h2]|rw[h3]);rintro en w'⟨rfl,rfl⟩))
    refine Calls.mono (aU _ _) ?_;rintro en w9⟨rfl,ob⟩;replace Q:=Q.oe ob;replace on:=on.to ob;go_wp2_with ((with_reducible refine gd ?_);refine pU Q z4 25 bJ ?_)
    exact cL rfl rfl rfl Q rfl on H.he.1 HQ.out
  have h2:(decide (0≤cl)&&decide (cl≤2))=true:=by simp;omega
  have HCL:Hid (0≤cl∧cl<3):=aH (by omega);clear hk hc HBB;go_wp2_with (go_at_call 18;refine Calls.mono (aM _ _ _ _) ?_;(first|rw[h1]|rw[h2]|rw[h3]);rintro en w'⟨rfl,rfl⟩)
  go_quiet (fail);obtain⟨w5,hw5⟩:∃w5,w5=w4.drewN nq:=⟨_,rfl⟩
  rw[←hw5];have b5:aA w4 w5:=hw5▸aA.Zv (aA.Zz _) nq;clear hw5 g0 x0 x1 ;replace H:=H.oe b5;replace X:=X.oe b5;replace Q:=Q.oe b5;replace G:=G.oe b5;replace on:=on.to b5;replace E:=E.oe b5;have b5':=aH b5;clear b5;have g0:=G.at_ 0 rfl;obtain⟨x0,x1⟩:=X.p2;go_wp2_with (go_at_call 18;refine Calls.mono (aM _ _ _ _) ?_;(first|rw[h1]|rw[h2]|rw[h3]);rintro en w'⟨rfl,rfl⟩)
  go_meet;exact⟨b5'.out,cl.toNat,by have:=HCL.out;omega,by have:=HCL.out;omega,.inl HK.out⟩
end
end Go.Proofs.YtpfkagghooihfaaGreatDoor
