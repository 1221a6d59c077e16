/- Part 44. -/
import Derived.Test.YtpfkagghooihfaaGreatDoorBa41
import Derived.Test.YtpfkagghooihfaaGreatDoorBa36
namespace Go.Proofs.YtpfkagghooihfaaGreatDoor
set_option linter.unusedSimpArgs false
set_option linter.unusedVariables false
set_option maxHeartbeats 16000000
set_option maxRecDepth 100000
open Go.Proofs.Tryz
open Go.RowKit
section
attribute [local go_sem ↓] Go.wp_at_zero Go.wp_at_succ
theorem NI {n:iC}{r:dI}{k:Int}(hck:bE n.d=0)(h0:r.kind≠0)(hp:(fH n.d r).2=0):iH n r k=(⟨n.u,⟨(fH n.d r).1.safe,(fH n.d r).1.wait.take (kL (fH n.d r).1 k).toNat⟩,false⟩,0):=by
 have hc:kQ (fH n.d r).1 (kL (fH n.d r).1 k)=(⟨(fH n.d r).1.safe,(fH n.d r).1.wait.take (kL (fH n.d r).1 k).toNat⟩,0):=by
  unfold kQ;rw[if_neg (by simp[yX hck hp]),if_neg (by unfold kL;omega)]
 unfold iH;rw[if_neg h0,if_neg (by simp[hp]),hc];rfl
theorem ET (A : Option Addr)(n c : Nat)(tip : Int)(C : Option Addr)(m d : Nat)(time : Int)(ns : List NV)(cs : List CV)(kd cl nn jb ep : Int)(y : aL)(w : World)(Y : Nat → Prop)(HY : YH Y w ns cs)(E : fR w)(R : WR w A n C m ns cs)(hok : dL (aY ns tip cs time) = 0)(hp : kd = 15) :
    Calls prog 13 #[.agg #[.slice A n c,tip,.slice C m d,time],.agg (dY ⟨kd,cl,nn,jb,ep,y⟩).toArray] w (QT Y w (mN (aY ns tip cs time) ⟨kd,cl,nn,jb,ep,y⟩)):=by
 have HP:=aH hp;have E0:=aH E;clear hp;have hg:=bZ.1 hok;obtain⟨rfl,rfl,hsm⟩:=iF R hg;obtain⟨q,hq⟩:∃q,q=mN (aY ns tip cs time) ⟨kd,cl,nn,jb,ep,y⟩:=⟨_,rfl⟩
 rw[←hq];have HQ:=aH hq;have HG:=aH hg;clear hq hg hok;unfold dY;go_enter func13,ntmps13;go_upto_region 1 with fail
 refine fY (v1:=[.slice A 3 c,tip,.slice C 3 d,time]) (v2:=dY ⟨kd,cl,nn,jb,ep,y⟩) (v3:=[Nat,(),Nat,()]) rfl rfl rfl fun w1 on W X Q=>?_
 generalize hz0:w.heap.size=z0 at W X Q⊢;obtain⟨a0,a1,a2,a3⟩:=W.p4;go_wp2_with fail;have LV:aF w1 _ [some ⟨.slice (some ⟨w1.heap.size,0,none⟩) 1 1,25,4,1,[[.slice A 3 c,tip,.slice C 3 d,time]]⟩,none,none]:=aF.box (aF.start w1 3) (i:=0) (by simp) 25 #[.slice A 3 c,tip,.slice C 3 d,time] _ rfl;have hzl:=W.lt;generalize hz:w1.heap.size=z at LV;generalize(w1.alloc (Obj.cells #[.slice A 3 c,tip,.slice C 3 d,time] 25))=w2 at LV⊢;have Zb:=aF.zb LV rfl;have p0:=Zb.at_ 0 rfl;have p2:=Zb.at_ 2 rfl;have f0:=Zb.Zy 0;have f2:=Zb.Zy 2;go_cut []from 464 (fun wx=>∃A1 c1 C1 d1,aF w1 wx [some ⟨.slice (some ⟨z,0,none⟩) 1 1,25,4,1,[[.slice A1 3 c1,tip,.slice C1 3 d1,time]]⟩,some ⟨.slice A1 3 c1,55,5,3,ns.map bW⟩,some ⟨.slice C1 3 d1,68,12,3,cs.map aE⟩])
 case first =>
  have RN:=R.nr.oe on;have RC:=R.cr.oe on
  go_region_held3 (fun w'=>w'.cell? ⟨z0,0,none⟩=some (.slice A 3 c)∧w'.cell? ⟨z0,2,none⟩=some (.slice C 3 d))
   (exact⟨aB (aF.on (by with_reducible(repeat(first|exact LV|apply aF.draw|apply aF.litN|apply aF.litC|apply aF.st0|apply aF.st2));all_goals (first|with_reducible rfl|simp))) a0,aB (aF.on (by with_reducible(repeat(first|exact LV|apply aF.draw|apply aF.litN|apply aF.litC|apply aF.st0|apply aF.st2));all_goals (first|with_reducible rfl|simp))) a2⟩)
   (first
    | (refine kY (by rfl) (by rfl) (by rfl) (by rfl) (by omega) RN (kJ ns) (by with_reducible(repeat(first|exact LV|apply aF.draw|apply aF.litN|apply aF.litC|apply aF.st0|apply aF.st2));all_goals (first|with_reducible rfl|simp)) ?_;intro A1 c1 w8 LV;(try simp only[World.size_alloc,World.size_setCell,World.size_drew]at LV);have Zb:=aF.zb LV rfl;have p0:=Zb.at_ 0 rfl;have p2:=Zb.at_ 2 rfl;have f0:=Zb.Zy 0;have f2:=Zb.Zy 2)
    | (refine kX (by rfl) (by rfl) (by rfl) (by rfl) (by omega) RC (kF cs) (by with_reducible(repeat(first|exact LV|apply aF.draw|apply aF.litN|apply aF.litC|apply aF.st0|apply aF.st2));all_goals (first|with_reducible rfl|simp)) ?_;intro C1 d1 w9 LV;(try simp only[World.size_alloc,World.size_setCell,World.size_drew]at LV);have Zb:=aF.zb LV rfl;have p0:=Zb.at_ 0 rfl;have p2:=Zb.at_ 2 rfl;have f0:=Zb.Zy 0;have f2:=Zb.Zy 2)
    |fail)
  all_goals
   clear a0 a1 a2 a3 p0 p2 f0 f2;go_wp2_with fail;go_meet;exact⟨A1,c1,C1,d1,by with_reducible(repeat(first|exact LV|apply aF.draw|apply aF.litN|apply aF.litC|apply aF.st0|apply aF.st2));all_goals (first|with_reducible rfl|simp)⟩
 case rest =>
  obtain⟨A1,cN,C1,cC,LV⟩:=hcut;obtain⟨nb,cb,rfl,rfl,hzz,hnb,hcb,H⟩:=HM.of_live (e:=z0+1+1) on R ⟨by omega,Q.lt⟩ HY LV;have hzx:=X.lt;replace X:=X.oe LV.on;replace Q:=Q.oe LV.on;replace on:=on.to LV.on;clear LV a0 a1 a2 a3 p0 p2 f0 f2 Zb R W hsm;go_upto_region 4 with fail
  refine aW (v1:=[.func (.func 48) #[] #[]]) rfl fun w4 ob G=>?_
  have hzb:nb<wc.heap.size∧cb<wc.heap.size∧z<wc.heap.size:=⟨H.m.lts.2.1,H.m.lts.2.2,H.m.lts.1⟩
  generalize wc.heap.size=zb at G hzb⊢;replace H:=H.oe ob;replace X:=X.oe ob;replace Q:=Q.oe ob;replace on:=on.to ob;replace E:=E.oe on;have g0:=G.at_ 0 rfl;generalize z0+1+1=ze at *;clear ob
  have HB:Hid (∀W er,aI (aY ns tip cs time) ⟨kd,cl,nn,jb,ep,y⟩=(W,er)→er≠0→q=(fQ,er)):=aH fun W er h he=>by
   rw[HQ.out];unfold mN;rw[if_neg (by simp[bZ.2 HG.out]),h,if_pos he]
  have HO:Hid (∀W,aI (aY ns tip cs time) ⟨kd,cl,nn,jb,ep,y⟩=(W,0)→q=(W,0)):=aH fun W h=>by
   rw[HQ.out];unfold mN;rw[if_neg (by simp[bZ.2 HG.out]),h];rfl
  clear HQ;obtain⟨b,hb⟩:∃b,b=decide (kd=8∨kd=9∨kd=12∨kd=13):=⟨_,rfl⟩
  have HBB:=aH hb;have x0:=X.at_ 0 rfl;clear hb;go_upto_region 6 with fail
  go_cut [1,10]from 464 (fun s1 s10 wx=>s10=.bool b∧wx=w4)
  case first =>
   go_wp2_with fail
   all_goals
    go_meet;refine⟨congrArg _ ?_,rfl⟩;rw[HBB.out];clear HB HO HBB;by_cases h8:kd=8<;>by_cases h9:kd=9<;>by_cases h12:kd=12<;>by_cases h13:kd=13<;>simp_all
  case rest =>
  obtain⟨rfl,rfl⟩:=hcut;go_upto_block 0 with fail
  go_cut [10]from 464 (fun s10 wx=>aA wc wx∧∃m:Nat,cl=(m:Int)∧m<3∧((kd=1∨kd=2∨kd=3∨kd=4∨kd=5∨kd=6∨kd=7∨kd=14∨kd=15)∨(kd=9∧∃i:Nat,nn=(i:Int)∧i<3∧(aV (bC ns) i).up=true)))
  case rest =>
   obtain⟨bo,m,rfl,hm,hk⟩:=hcut;have HK:=aH hk;have HM3:=aH hm;replace H:=H.oe bo;replace X:=X.oe bo;replace Q:=Q.oe bo;replace G:=G.oe bo;replace on:=on.to bo;replace E:=E.oe bo;clear bo hk x0 HBB g0;generalize wc=w5 at *;have x1:=X.at_ 1 rfl;have b0:=H.m.bx.at_ 0 rfl;go_wp2_with fail
   go_loopg [15,207] 3 (fun g s15 s207 wr=>∃ (k y0:Nat) (B:Option Addr),k≤3∧3-k≤g∧s207=.int .i64 k∧s15=.slice B k y0∧Hid (cH wr w5.heap.size 50 2 (.slice B k y0) k ((ns.take k).map fun v=>cP v.uv))∧aA w5 wr)
   case atStart=>exact⟨0,0,none,Nat.zero_le _,Nat.le_refl _,rfl,rfl,cH.nil _ _ _ _,aA.Zz _⟩
   case round =>
    obtain⟨k,y0,B,hk,hg,rfl,rfl,HO5,ob⟩:=hrel;have hol:=HO5.out.lt;by_cases hlt:k<3
    · obtain⟨bb,off,v,hbb,hb,hv,vi,d0,d1,d2,d3,d4⟩:=(H.oe ob).m.f.wr.atN hlt;injection hbb with hbb;injection hbb with hb1 hb2 _;subst hb1;subst hb2;rw[Nat.zero_add]at d0 d1 d2 d3 d4;obtain⟨i0,hi0,hzz0,hzz1,hzz2⟩:=info_parts yS;have HI0:=aH hi0;have HZ0:=aH hzz0;have HZ1:=aH hzz1;have HZ2:=aH hzz2;have HV:=aH hv;have hsw:=ob.size;clear hi0 hzz0 hzz1 hzz2 hv vi;go_upto_region 39 with fail
      refine aW (v1:=bW v) rfl fun w6 oc BV=>?_
      have HO6:=aH (HO5.out.below oc);replace ob:=ob.to oc;clear HO5 oc d0 d1 d2 d3 d4 hb;generalize wr.heap.size=zr at *;obtain⟨c0,c1⟩:=BV.p2;have hs5:=ob.size
      have hnew:Sl (w6.alloc (Obj.cells #[v.x.u.ep,.slice v.A v.n v.c] 50)) (w6.heap.size+1) 2 (some ⟨w6.heap.size,0,none⟩) 1 [cP v.uv]:=by
       have:=Sl.block (w:=w6.alloc (Obj.cells #[v.x.u.ep,.slice v.A v.n v.c] 50)) (k:=2) [cP v.uv] (heap_alloc_new w6 _) (by simp[cP]) rfl;simpa using this
      have HNEW:=aH hnew;clear hnew;go_wp2_with (at_builtin;refine aQ _ rfl _ _ 96 rfl w5.heap.size 50 i0 _ 2 32 underlying96 HI0.out HZ0.out HZ1.out HZ2.out rfl (by decide) (.slice B k y0) k ((ns.take k).map fun v=>cP v.uv) (by rfl) (HO6.out.alloc _) (w6.heap.size+1) (some ⟨w6.heap.size,0,none⟩) 1 1 [cP v.uv] (by rfl) HNEW.out (by simp[cP,Value.oneCell']) (by unfold maxLen;omega) (by omega) (by simp;omega) ?_)
      intro v8 w8 own8 grow8 hv8;obtain⟨A8,c8,rfl,_,_⟩:=own8.slice;have on8:aA w5 w8:=aT (ob.new _) (by simp;omega) grow8 (fun g hg=>(HO6.out.lt g hg).1);have HO8:=aH own8;clear own8 grow8 hv8 HO6 HNEW HI0 HZ0 HZ1 HZ2 c0 c1 BV ob;go_wp2_with fail;go_roundg (3-(k+1))
      case measure=>omega
      case rel =>
       refine⟨k+1,c8,A8,by omega,Nat.le_refl _,by go_num,rfl,?_,on8⟩;refine aH ?_
       have e:(ns.take (k+1)).map (fun v=>cP v.uv)=(ns.take k).map (fun v=>cP v.uv) ++[cP v.uv]:=by
        obtain⟨h2,rfl⟩:=List.getElem?_eq_some_iff.1 HV.out;rw[List.take_add_one,HV.out,List.map_append];rfl
       rw[e]
       first|exact HO8.out| (rw[List.map_take];exact HO8.out)
    obtain rfl:k=3:=by omega
    have hall:(ns.take 3).map (fun v=>cP v.uv)=(ns.map NV.uv).map cP:=by
     rw[List.take_of_length_le (by have:=H.m.f.nl;omega),List.map_map];rfl
    have hOw:=HO5.out;rw[hall]at hOw;have UU:Us wr B 3 (ns.map NV.uv):=(H.oe ob).m.f.wr.us hOw.sl;replace H:=H.oe ob;replace X:=X.oe ob;replace Q:=Q.oe ob;replace G:=G.oe ob;replace on:=on.to ob;replace E:=E.oe ob;clear hall hOw HO5 ob hol hg hlt hk x1 b0;generalize wr=w6 at *;obtain⟨c,hc,I,o1,o2,hcell⟩:=H.m.f.atC hm;have o3:=H.m.cz c (List.mem_of_getElem? hc);have o4:=H.eC c (List.mem_of_getElem? hc);obtain⟨q0,q1,q2,q3,q4,q5,q6,q7,q8,q9,q10,q11⟩:=CV.Zu H.m.f.cr (aX cs) (dD hc);have x1:=X.at_ 1 rfl;have b2:=H.m.bx.at_ 2 rfl;have hmi:(m:Int)<3:=by omega
    go_upto_region 42 with fail
    refine aW (v1:=aE c) rfl fun w7 oc CB=>?_
    have hzc:zb<w6.heap.size:=G.lt;have hze:ze<w6.heap.size:=H.he.2.1;have hw6:=on.size;have NZ0:∀v∈ns,v.off w6.heap.size:=fun v hv=>(H.m.f.ni v hv).1.Zn (Nat.le_refl _)
    have CZ0:∀v∈cs,v.off w6.heap.size:=fun v hv=>(H.m.f.ci v hv).1.Zn (Nat.le_refl _)
    generalize w6.heap.size=zc at CB hzc NZ0 CZ0 hze hw6⊢;replace H:=H.oe oc;replace X:=X.oe oc;replace Q:=Q.oe oc;replace G:=G.oe oc;replace on:=on.to oc;replace E:=E.oe oc;replace UU:=UU.oe oc;replace I:=I.oe oc;clear q0 q1 q2 q3 q4 q5 q6 q7 q8 q9 q10 q11 x1 b2 oc hcell;have x0:=X.at_ 0 rfl;have NZ:=aH NZ0;have CZ:=aH CZ0;clear NZ0 CZ0;have hkd:=HP.out;have hcl:=cU hc;have hcc:=bK.1 (show aP c.x=0 by have:=(HG.out.cli m hm).1;rw[show(aY ns tip cs time).c=bL cs from rfl,hcl]at this;exact this);obtain⟨l,hl,hl3⟩:∃l:Nat,c.x.link=(l:Int)∧l<3:=⟨c.x.link.toNat,by omega,by omega⟩
    obtain⟨v,hv,Iv,v1,v2,v3⟩:=H.at_ hl3;have v4:=H.eN v (List.mem_of_getElem? hv);have hck:=HG.out.chkN hv;obtain⟨r,hr⟩:∃r,r=lW (iB (bC ns)) (l:Int) c.x.at_ c.x.e c.x.epoch:=⟨_,rfl⟩
    have hw:aI (aY ns tip cs time) ⟨kd,(m:Int),nn,jb,ep,y⟩=if c.x.doing≠2 then(aY ns tip cs time,7)else if v.x.up=false then(aY ns tip cs time,7)else pL (aY ns tip cs time) ⟨kd,(m:Int),nn,jb,ep,y⟩ c.x v.x r:=by
     have h3:=HM3.out;unfold aI aZ;dsimp only;rw[if_neg (by omega),if_neg (by omega),if_neg (by omega),if_neg (by omega),if_neg (by omega),if_pos (by omega)];unfold kP;simp only[Int.toNat_natCast,show(aY ns tip cs time).c=bL cs from rfl,show(aY ns tip cs time).n=bC ns from rfl,hcl,hl,eW hv,hr]
    have HW:=aH hw;have HR:=aH hr;have HV:=aH hv;have HC:=aH hc;have HCK:=aH hck;have HL:=aH hl;have d9:(kd ==9)=false:=by simp;omega
    have d1:(kd ==1)=false:=by simp;omega
    have d2:(kd ==2)=false:=by simp;omega
    have d3:(kd ==3)=false:=by simp;omega
    have d6:(kd ==6)=false:=by simp;omega
    have d7:(kd ==7)=false:=by simp;omega
    have d14:(kd ==14)=false:=by simp;omega
    have hlb:(l:Int)<3:=by omega
    have C12:=CB.c12;rw[hl]at C12;clear hw hr hcl hcc HK hck hl hkd;have b0:=H.m.bx.at_ 0 rfl;obtain⟨n0,n1,n2,n3,n4⟩:=NV.Zu H.m.f.nr (bB ns) (cV hv);by_cases hd:c.x.doing≠2
    · have hdd:(c.x.doing !=2)=true:=by simpa using hd
      have hbad:(7:Int)≠0:=by decide
      clear n0 n1 n2 n3 n4 b0;have HQ:=aH (HB.out (aY ns tip cs time) 7 (by rw[HW.out,if_pos hd]) (by first|exact hbad|simp));have g0:=G.at_ 0 rfl;go_wp2_with fail;refine Calls.mono (aU _ _) ?_;rintro en w20⟨rfl,ob⟩;replace Q:=Q.oe ob;replace on:=on.to ob;go_wp2_with ((with_reducible refine gd ?_);refine pU Q z4 25 bJ ?_)
      exact cL rfl rfl rfl Q rfl on H.he.1 HQ.out
    have hdd:(c.x.doing !=2)=false:=by simpa using hd
    by_cases hu:v.x.up=false
    · rw[hu]at n4;have hbad:(7:Int)≠0:=by decide
      have HQ:=aH (HB.out (aY ns tip cs time) 7 (by rw[HW.out,if_neg hd,if_pos hu]) (by first|exact hbad|simp));have g0:=G.at_ 0 rfl;go_wp2_with fail;refine Calls.mono (aU _ _) ?_;rintro en w20⟨rfl,ob⟩;replace Q:=Q.oe ob;replace on:=on.to ob;go_wp2_with ((with_reducible refine gd ?_);refine pU Q z4 25 bJ ?_)
      exact cL rfl rfl rfl Q rfl on H.he.1 HQ.out
    have hu':v.x.up=true:=by simpa using hu
    rw[hu']at n4;have hw2:aI (aY ns tip cs time) ⟨kd,(m:Int),nn,jb,ep,y⟩=pL (aY ns tip cs time) ⟨kd,(m:Int),nn,jb,ep,y⟩ c.x v.x r:=by rw[HW.out,if_neg hd,if_neg hu]
    replace HW:=aH hw2;have HU:=aH hu';clear hw2 hd hu hu' hc hv;go_wp2_with fail;refine Calls.mono (qO B 3 y0 (ns.map NV.uv) (l:Int) c.x.at_ c.x.e c.x.epoch _ UU) ?_;rw[rO,←HR.out];unfold uW;rintro en w8⟨rfl,ob⟩;replace X:=X.oe ob;replace Q:=Q.oe ob;replace G:=G.oe ob;replace CB:=CB.oe ob;replace I:=I.oe ob;replace on:=on.to ob;replace H:=H.oe ob;replace Iv:=Iv.oe ob;clear C12 n0 n1 n2 n3 n4 b0 x0 ob UU d9 d1 d2 d3 d6 d7 d14 hdd;go_upto_region 46 with fail
    refine kD (v1:=eO r.1) (v2:=bA r.2.1) rfl rfl fun w9 ob RB EB=>?_
    have hzr:zc<w8.heap.size:=CB.lt;have hzr2:=H.m.lts;have hzr3:=H.he.2.1;have hzr4:=G.lt;generalize w8.heap.size=zr at RB EB hzr hzr2 hzr3 hzr4⊢;replace X:=X.oe ob;replace Q:=Q.oe ob;replace G:=G.oe ob;replace CB:=CB.oe ob;replace I:=I.oe ob;replace on:=on.to ob;replace H:=H.oe ob;replace Iv:=Iv.oe ob;clear ob;have EN:=aH (E0.out.oe on);by_cases hr0:r.2.2≠0
    · have hbad:=hr0;have hrd:(r.2.2 !=0)=true:=by simpa using hr0
      have HQ:=aH (HB.out (aY ns tip cs time) r.2.2 (by rw[HW.out];unfold pL;exact if_pos hbad) (by first|exact hbad|simp));have g0:=G.at_ 0 rfl;go_wp2_with fail;refine Calls.mono (aU _ _) ?_;rintro en w20⟨rfl,ob⟩;replace Q:=Q.oe ob;replace on:=on.to ob;go_wp2_with ((with_reducible refine gd ?_);refine pU Q z4 25 bJ ?_)
      exact cL rfl rfl rfl Q rfl on H.he.1 HQ.out
    have hw3:=HW.out;unfold pL at hw3;rw[if_neg hr0]at hw3;replace HW:=aH hw3;rw[show r.2.2=0 by simpa using hr0];clear hw3 hr0;have x0:=X.at_ 0 rfl;have Z8:=RB.c8;obtain rfl:kd=15:=HP.out;have hw3:=HW.out;dsimp only at hw3;rw[if_pos rfl]at hw3;replace HW:=aH hw3;clear hw3;by_cases hz:r.1.kind=0
    · have hzd:(r.1.kind ==0)=true:=by simpa using hz
      have hbad:(6:Int)≠0:=by decide
      have HQ:=aH (HB.out _ 6 (by rw[HW.out];simp only[iH,if_pos hz];rfl) (by first|exact hbad|simp));have g0:=G.at_ 0 rfl;go_wp2_with fail;refine Calls.mono (aU _ _) ?_;rintro en w20⟨rfl,ob⟩;replace Q:=Q.oe ob;replace on:=on.to ob;go_wp2_with ((with_reducible refine gd ?_);refine pU Q z4 25 bJ ?_)
      exact cL rfl rfl rfl Q rfl on H.he.1 HQ.out
    have hzd:(r.1.kind ==0)=false:=by simpa using hz
    obtain⟨P,hP⟩:∃P,P=fH v.x.d r.1:=⟨_,rfl⟩
    have HPK:=aH hP;have HZ:=aH hz;clear hP hz;go_upto_region 51 with fail
    obtain⟨n0,n1,n2,n3,n4⟩:=NV.Zu H.m.f.nr (bB ns) (cV HV.out);have b0:=H.m.bx.at_ 0 rfl;have c8:=CB.at_ 8 rfl;rw[HL.out]at c8;have hrl:=RB.lt;have hnl:=H.m.lts.2.1;have hcl:=CB.lt;have hzl:=H.m.lts.1;clear hzd n0 n1 n4 x0;go_cut [24,25]from 464 (fun s24 s25 wx=>∃ (p:Nat) (F:Option Addr) (k i:Nat) (G:Option Addr) (l j:Nat),s24=.pointer (some ⟨p,0,none⟩)∧s25=.int .i64 P.2∧Bx wx p [.slice F k i,.slice G l j]∧DK wx F k i G l j P.1∧aA w9 wx∧w9.heap.size≤p∧((F=v.F∧k=v.k)∨aR w9.heap.size F)∧aR w9.heap.size G∧bQ k p F∧bQ l p G)
    case first =>
     have hb0:∀w',aA w9 w'→w'.cell? ⟨z,0,none⟩=some (.slice (some ⟨nb,0,none⟩) 3 cN):=fun w' h=>aB h b0
     have hc8:∀w',aA w9 w'→w'.cell? ⟨zc,8,none⟩=some (.int .i64 (l:Int)):=fun w' h=>aB h c8
     have hn2:∀w',aA w9 w'→w'.cell? ⟨nb,l*5+2,none⟩=some (.slice v.F v.k v.i):=fun w' h=>aB h n2
     have hn3:∀w',aA w9 w'→w'.cell? ⟨nb,l*5+3,none⟩=some (.slice v.G v.l v.j):=fun w' h=>aB h n3
     have hz8:∀w',aA w9 w'→w'.cell? ⟨zr,0,none⟩=some (.int .i64 r.1.kind)∧w'.cell? ⟨zr,1,none⟩=some (.int .i64 r.1.at_)∧w'.cell? ⟨zr,2,none⟩=some (.int .i64 r.1.epoch)∧w'.cell? ⟨zr,3,none⟩=some (.int .i64 r.1.e.kind)∧w'.cell? ⟨zr,4,none⟩=some (.int .i64 r.1.e.job)∧w'.cell? ⟨zr,5,none⟩=some (.int .i64 r.1.e.every)∧w'.cell? ⟨zr,6,none⟩=some (.int .i64 r.1.e.time)∧w'.cell? ⟨zr,7,none⟩=some (.int .i64 r.1.e.client):=fun w' h=>(RB.oe h).c8
     have y0:=fun w' h=>(hz8 w' h).1;have y1:=fun w' h=>(hz8 w' h).2.1;have y2:=fun w' h=>(hz8 w' h).2.2.1;have y3:=fun w' h=>(hz8 w' h).2.2.2.1;have y4:=fun w' h=>(hz8 w' h).2.2.2.2.1;have y5:=fun w' h=>(hz8 w' h).2.2.2.2.2.1;have y6:=fun w' h=>(hz8 w' h).2.2.2.2.2.2.1;have y7:=fun w' h=>(hz8 w' h).2.2.2.2.2.2.2
     clear hz8 b0 c8 n2 n3 Z8;have ob:aA w9 w9:=aA.Zz _
     go_region_held3 (fun w'=>aA w9 w')
      (((with_reducible(repeat(first|exact aA.Zz _|exact ob|refine aA.draw ?_|refine aA.new ?_ _|refine aA.put ?_ (by first|exact Nat.le_refl _|exact ob.size) _)));done))
      (first
      | (go_at_call 52;refine Calls.mono (uO v.F v.G v.k v.i v.l v.j v.x.d r.1 _ (EN.out.oe (by with_reducible(repeat(first|exact aA.Zz _|refine aA.draw ?_|refine aA.new ?_ _)))) (Iv.disk.oe (by with_reducible(repeat(first|exact aA.Zz _|refine aA.draw ?_|refine aA.new ?_ _)))) HCK.out) ?_;rw[←HPK.out];unfold OG;rintro en w10⟨F,k2,i,G',l2,j,rfl,K2,o10,fF,fG⟩;replace ob:aA w9 w10:=aA.to (by with_reducible(repeat(first|exact aA.Zz _|refine aA.draw ?_|refine aA.new ?_ _))) o10;(first| (have Z5:Bx w10 w9.heap.size [Nat,Nat]:=(by first|exact Bx.oe (Bx.draw (Bx.Zt w9 #[Nat,Nat] 53)) o10|exact Bx.oe (Bx.Zt w9 #[Nat,Nat] 53) o10);obtain⟨z50,z51⟩:=Z5.p2;have f50:=Z5.Zy 0;have f51:=Z5.Zy 1;have oz:bQ k2 w9.heap.size F:=fF.elim (fun h=>by rw[h.1,h.2];exact Iv.disk.safe.Zx (Nat.le_refl _)) (fun f=>f.Zx (by simp));have oz':bQ l2 w9.heap.size G':=fG.Zx (by simp))|skip);replace fF:(F=v.F∧k2=v.k)∨aR w9.heap.size F:=fF.imp id (fun f a e=>by have:=f a e;simp at this;omega);replace fG:aR w9.heap.size G':=fun a e=>by have:=fG a e;simp at this;omega)
      |fail)
     all_goals
      go_wp2_with fail;go_meet
      first
       |exact⟨_,F,k2,i,G',l2,j,rfl,rfl,Bx.Zt _ _ _,K2.oe ((aA.Zz _).new _),ob.new _,ob.size,fF,fG,K2.safe.Zx (Nat.le_refl _),K2.wait.Zx (Nat.le_refl _)⟩
       |exact⟨_,F,k2,i,G',l2,j,rfl,rfl,(Z5.Zq (j:=0) (by simp) _).Zq (j:=1) (by simp) _,(K2.Zq oz oz' _).Zq oz oz' _,(ob.put (Nat.le_refl _) _).put (Nat.le_refl _) _,Nat.le_refl _,fF,fG,oz,oz'⟩
    case rest =>
     obtain⟨pd,F,k2,i,GG,l2,j,rfl,rfl,D,K2,ob,hpd,fF,fG,oz,oz'⟩:=hcut;have NP:∀v∈ns,v.off pd:=fun v hv=>(H.m.f.ni v hv).1.Zn hpd
     have CP:∀v∈cs,v.off pd:=fun v hv=>(H.m.f.ci v hv).1.Zn hpd
     have oIv:v.off pd:=NP v (List.mem_of_getElem? HV.out);have hl9:nb<w9.heap.size∧cb<w9.heap.size∧z<w9.heap.size∧YB Y ze w9:=⟨H.m.lts.2.1,H.m.lts.2.2,H.m.lts.1,H.yb⟩
     have hz9:=H.m.hz;have hx9:=X.lt;have hg9:=G.lt;have hw9:=on.size;have NPH:=aH NP;have CPH:=aH CP;clear n2 n3 b0 c8 Z8 NP CP;generalize wc=w10 at *;replace X:=X.oe ob;replace Q:=Q.oe ob;replace G:=G.oe ob;replace CB:=CB.oe ob;replace I:=I.oe ob;replace on:=on.to ob;replace H:=H.oe ob;replace Iv:=Iv.oe ob;clear ob;by_cases hp0:P.2≠0
     · have hbad:=hp0;have hpdd:(P.2 !=0)=true:=by simpa using hp0
       have HQ:=aH (HB.out _ P.2 (by rw[HW.out,iH,if_neg HZ.out,←HPK.out,if_pos hbad]) (by first|exact hbad|simp));have g0:=G.at_ 0 rfl;go_wp2_with fail;refine Calls.mono (aU _ _) ?_;rintro en w20⟨rfl,ob⟩;replace Q:=Q.oe ob;replace on:=on.to ob;go_wp2_with ((with_reducible refine gd ?_);refine pU Q z4 25 bJ ?_)
       exact cL rfl rfl rfl Q rfl on H.he.1 HQ.out
     have hp1:P.2=0:=by simpa using hp0
     have hlw:=K2.m_eq;obtain⟨jj,hjj⟩:∃jj:Nat,max (0:Int) (min nn (l2:Int))=(jj:Int):=⟨(max (0:Int) (min nn (l2:Int))).toNat,by omega⟩
     have hjl:jj≤l2:=by omega
     have hw4:aI (aY ns tip cs time) ⟨15,(m:Int),nn,jb,ep,y⟩=(setN (aY ns tip cs time) l ⟨v.x.u,⟨P.1.safe,P.1.wait.take jj⟩,false⟩,0):=by
      rw[HW.out,NI HCK.out HZ.out (by rw[←HPK.out];exact hp1),HL.out,Int.toNat_natCast,←HPK.out,show(kL P.1 nn).toNat=jj by unfold kL;rw[←hlw,hjj];exact Int.toNat_natCast jj]
     replace HW:=aH hw4;rw[hp1];have x2:=X.at_ 2 rfl;obtain⟨dd0,dd1⟩:=D.p2;have ddf:=D.Zy;have hjc:jj≤j:=Nat.le_trans hjl K2.m_le;have hji:(jj:Int)≤(j:Int):=by omega
     have hj0:¬ ((jj:Int)<0):=by omega
     clear hw4 hp1 hp0 hlw;go_upto_region 55 with fail
     have KJ:DK w10 F k2 i GG jj j ⟨P.1.safe,P.1.wait.take jj⟩:=⟨K2.safe,by rw[List.map_take];exact Sl.take K2.wait hjl,K2.n_le,K2.c_le,hjc,K2.d_le⟩
     have ozj:bQ jj pd GG:=fun hn=>oz' (by omega)
     have v':∀y,y<w9.heap.size→v.off y→NV.off y ⟨⟨v.x.u,⟨P.1.safe,P.1.wait.take jj⟩,false⟩,v.A,v.n,v.c,F,k2,i,GG,jj,j⟩:=fun y hy h=>⟨h.a,fF.elim (fun e=>by rw[e.1,e.2];exact h.f) (fun f=>f.Zx hy),fG.Zx hy⟩
     have u1:=v' nb hl9.1 v1;have u2:=v' cb hl9.2.1 v2;have u3:=v' z hl9.2.2.1 v3;have u4:=hl9.2.2.2.ns v' v4;have tp:=(aK.Zz w10 pd).put (p:=⟨pd,1,none⟩) rfl (.slice GG jj j);replace H:=H.far tp (by omega) (by omega) (by omega) (by omega) NPH.out CPH.out;replace Q:=Q.Zr (p:=⟨pd,1,none⟩) (by show ze≠pd;omega) (.slice GG jj j);replace CB:=CB.Zr (p:=⟨pd,1,none⟩) (by show zc≠pd;omega) (.slice GG jj j);replace D:=D.Zq (j:=1) (by simp) (.slice GG jj j);replace KJ:=KJ.Zq (p:=⟨pd,1,none⟩) oz ozj (.slice GG jj j);replace Iv:=Iv.put (p:=⟨pd,1,none⟩) oIv (.slice GG jj j);clear dd0 dd1 ddf x2 tp hjj hjl hjc hji hj0 v' X G K2 fF fG EB RB I oz oz' ozj;generalize w10.setCell ⟨pd,1,none⟩ (.slice GG jj j)=w11 at *;obtain⟨n0,n1,n2,n3,n4⟩:=NV.Zu H.m.f.nr (bB ns) (cV HV.out);have hfz:=Bx.Zy H.m.f.nr;have b0:=H.m.bx.at_ 0 rfl;have c8:=CB.at_ 8 rfl;rw[HL.out]at c8;obtain⟨dd0,dd1⟩:=D.p2;have hlen:l*5+5≤(ns.map bW).flatten.length:=by rw[aN (bB ns),List.length_map,H.m.f.nl];omega
     have D12:=(aA.Zz w11).draw
     go_still_tail 14,(by kernel_rfl)
     change wpList _ _ _ _ _ w11.drew;replace H:=H.oe D12;replace Q:=Q.oe D12;replace KJ:=KJ.oe D12;replace Iv:=Iv.oe D12;clear n0 n1 n2 n3 n4 hfz b0 c8 dd0 dd1 D12 CB D;generalize w11.drew=w12 at *;have Bn:=H.m.f.nr;go_upto_region 56 with ((with_reducible refine gd ?_);refine pM Bn (l*5) (bW ⟨⟨v.x.u,⟨P.1.safe,P.1.wait.take jj⟩,false⟩,v.A,v.n,v.c,F,k2,i,GG,jj,j⟩) 55 hlen LG ?_)
     clear Bn;have tn:aK w12 (w12.setCells nb (l*5) (bW ⟨⟨v.x.u,⟨P.1.safe,P.1.wait.take jj⟩,false⟩,v.A,v.n,v.c,F,k2,i,GG,jj,j⟩)) nb:=aK.Zw (aK.Zz _ _);have J:NV.In w12 ⟨⟨v.x.u,⟨P.1.safe,P.1.wait.take jj⟩,false⟩,v.A,v.n,v.c,F,k2,i,GG,jj,j⟩:=⟨Iv.cells,KJ,Iv.le,Iv.max⟩
     have H':=H.node tn (Rx.put H.m.f.nr (bB ns) (cV HV.out) rfl) (J.Zw u1) u1 u2 u3 u4;replace Q:=Q.grown tn (by simpa using Ne.symm H.he.2.2.2.1);have HQ:Hid (q=(aY (ns.set l ⟨⟨v.x.u,⟨P.1.safe,P.1.wait.take jj⟩,false⟩,v.A,v.n,v.c,F,k2,i,GG,jj,j⟩) tip cs time,0)):=aH (by rw[HO.out _ HW.out,←pJ]);clear tn J KJ Iv H hlen;generalize(w12.setCells nb (l*5) _)=w13 at *;obtain⟨z0',z1,z2,z3⟩:=H'.m.bx.p4;go_wp2_with ((with_reducible refine gd ?_);refine pU Q [.slice (some ⟨nb,0,none⟩) 3 cN,tip,.slice (some ⟨cb,0,none⟩) 3 cC,time] 25 bJ ?_)
     exact kR rfl rfl rfl Q rfl H' HQ.out
  case first =>
  generalize wc=w4 at *;have hcases:(kd<1∨15<kd)∨kd=10∨kd=11∨(kd=8∨kd=9∨kd=12∨kd=13)∨(kd=1∨kd=2∨kd=3∨kd=4∨kd=5∨kd=6∨kd=7∨kd=14∨kd=15):=by omega
  rcases hcases with hr|rfl|rfl|hk|hk
  · exfalso;have:=HP.out;omega
  · exfalso;have:=HP.out;omega
  · exfalso;have:=HP.out;omega
  · rcases hk with rfl|rfl|rfl|rfl
    · exfalso;have:=HP.out;omega
    · exfalso;have:=HP.out;omega
    · exfalso;have:=HP.out;omega
    exfalso;have:=HP.out;omega
  obtain rfl:b=false:=by rw[HBB.out];exact decide_eq_false (by omega)
  have h3:(decide (1≤kd)&&decide (kd≤15))=true:=by simp;omega
  have e1:(kd ==10)=false:=by simp;omega
  have e2:(kd ==11)=false:=by simp;omega
  have e3:(kd ==12)=false:=by simp;omega
  have e4:(kd ==13)=false:=by simp;omega
  have e5:(kd ==8)=false:=by simp;omega
  have HK:=aH hk;obtain⟨x0,x1⟩:=X.p2;by_cases hc:cl<0∨3≤cl
  · have h2:(decide (0≤cl)&&decide (cl≤2))=false:=by simp;omega
    have HQ:=aH (HB.out (aY ns tip cs time) 5 (by unfold aI;dsimp only;rw[if_neg (by omega),if_neg (by omega),if_neg (by omega),if_neg (by omega)];unfold aZ;dsimp only;rw[if_pos hc]) (by simp));clear hk hc HBB;go_wp2_with (go_at_call 18;refine Calls.mono (aM _ _ _ _) ?_;(first|rw[h1]|rw[h2]|rw[h3]);rintro en w'⟨rfl,rfl⟩)
    go_quiet (fail);obtain⟨w5,hw5⟩:∃w5,w5=w4.drewN nq:=⟨_,rfl⟩
    rw[←hw5];have b5:aA w4 w5:=hw5▸aA.Zv (aA.Zz _) nq;clear hw5 g0 x0 x1 ;replace H:=H.oe b5;replace X:=X.oe b5;replace Q:=Q.oe b5;replace G:=G.oe b5;replace on:=on.to b5;replace E:=E.oe b5;have b5':=aH b5;clear b5;have g0:=G.at_ 0 rfl;obtain⟨x0,x1⟩:=X.p2;go_wp2_with ((go_at_call 18;refine Calls.mono (aM _ _ _ _) ?_;(first|rw[h1]|rw[h2]|rw[h3]);rintro en w'⟨rfl,rfl⟩))
    refine Calls.mono (aU _ _) ?_;rintro en w9⟨rfl,ob⟩;replace Q:=Q.oe ob;replace on:=on.to ob;go_wp2_with ((with_reducible refine gd ?_);refine pU Q z4 25 bJ ?_)
    exact cL rfl rfl rfl Q rfl on H.he.1 HQ.out
  have h2:(decide (0≤cl)&&decide (cl≤2))=true:=by simp;omega
  have HCL:Hid (0≤cl∧cl<3):=aH (by omega);clear hk hc HBB;go_wp2_with (go_at_call 18;refine Calls.mono (aM _ _ _ _) ?_;(first|rw[h1]|rw[h2]|rw[h3]);rintro en w'⟨rfl,rfl⟩)
  go_quiet (fail);obtain⟨w5,hw5⟩:∃w5,w5=w4.drewN nq:=⟨_,rfl⟩
  rw[←hw5];have b5:aA w4 w5:=hw5▸aA.Zv (aA.Zz _) nq;clear hw5 g0 x0 x1 ;replace H:=H.oe b5;replace X:=X.oe b5;replace Q:=Q.oe b5;replace G:=G.oe b5;replace on:=on.to b5;replace E:=E.oe b5;have b5':=aH b5;clear b5;have g0:=G.at_ 0 rfl;obtain⟨x0,x1⟩:=X.p2;go_wp2_with (go_at_call 18;refine Calls.mono (aM _ _ _ _) ?_;(first|rw[h1]|rw[h2]|rw[h3]);rintro en w'⟨rfl,rfl⟩)
  go_meet;exact⟨b5'.out,cl.toNat,by have:=HCL.out;omega,by have:=HCL.out;omega,.inl HK.out⟩
end
end Go.Proofs.YtpfkagghooihfaaGreatDoor
