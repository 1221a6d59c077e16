/- Part 46. -/
import Derived.Test.YtpfkagghooihfaaGreatDoorBa41
import Derived.Test.YtpfkagghooihfaaGreatDoorBa36
namespace Go.Proofs.YtpfkagghooihfaaGreatDoor
set_option linter.unusedSimpArgs false
set_option linter.unusedVariables false
set_option maxHeartbeats 16000000
set_option maxRecDepth 100000
open Go.Proofs.Tryz
open Go.RowKit
section
attribute [local go_sem ↓] Go.wp_at_zero Go.wp_at_succ
theorem CR (A : Option Addr)(n c : Nat)(tip : Int)(C : Option Addr)(m d : Nat)(time : Int)(ns : List NV)(cs : List CV)(kd cl nn jb ep : Int)(y : aL)(w : World)(Y : Nat → Prop)(HY : YH Y w ns cs)(E : fR w)(R : WR w A n C m ns cs)(hok : dL (aY ns tip cs time) = 0)(hp : (kd < 1 ∨ 15 < kd) ∨ kd = 8 ∨ kd = 10 ∨ kd = 11 ∨ kd = 12 ∨ kd = 13) :
    Calls prog 13 #[.agg #[.slice A n c,tip,.slice C m d,time],.agg (dY ⟨kd,cl,nn,jb,ep,y⟩).toArray] w (QT Y w (mN (aY ns tip cs time) ⟨kd,cl,nn,jb,ep,y⟩)):=by
 have HP:=aH hp;have E0:=aH E;clear hp;have hg:=bZ.1 hok;obtain⟨rfl,rfl,hsm⟩:=iF R hg;obtain⟨q,hq⟩:∃q,q=mN (aY ns tip cs time) ⟨kd,cl,nn,jb,ep,y⟩:=⟨_,rfl⟩
 rw[←hq];have HQ:=aH hq;have HG:=aH hg;clear hq hg hok;unfold dY;go_enter func13,ntmps13;go_upto_region 1 with fail
 refine fY (v1:=[.slice A 3 c,tip,.slice C 3 d,time]) (v2:=dY ⟨kd,cl,nn,jb,ep,y⟩) (v3:=[Nat,(),Nat,()]) rfl rfl rfl fun w1 on W X Q=>?_
 generalize hz0:w.heap.size=z0 at W X Q⊢;obtain⟨a0,a1,a2,a3⟩:=W.p4;go_wp2_with fail;have LV:aF w1 _ [some ⟨.slice (some ⟨w1.heap.size,0,none⟩) 1 1,25,4,1,[[.slice A 3 c,tip,.slice C 3 d,time]]⟩,none,none]:=aF.box (aF.start w1 3) (i:=0) (by simp) 25 #[.slice A 3 c,tip,.slice C 3 d,time] _ rfl;have hzl:=W.lt;generalize hz:w1.heap.size=z at LV;generalize(w1.alloc (Obj.cells #[.slice A 3 c,tip,.slice C 3 d,time] 25))=w2 at LV⊢;have Zb:=aF.zb LV rfl;have p0:=Zb.at_ 0 rfl;have p2:=Zb.at_ 2 rfl;have f0:=Zb.Zy 0;have f2:=Zb.Zy 2;go_cut []from 464 (fun wx=>∃A1 c1 C1 d1,aF w1 wx [some ⟨.slice (some ⟨z,0,none⟩) 1 1,25,4,1,[[.slice A1 3 c1,tip,.slice C1 3 d1,time]]⟩,some ⟨.slice A1 3 c1,55,5,3,ns.map bW⟩,some ⟨.slice C1 3 d1,68,12,3,cs.map aE⟩])
 case first =>
  have RN:=R.nr.oe on;have RC:=R.cr.oe on
  go_region_held3 (fun w'=>w'.cell? ⟨z0,0,none⟩=some (.slice A 3 c)∧w'.cell? ⟨z0,2,none⟩=some (.slice C 3 d))
   (exact⟨aB (aF.on (by with_reducible(repeat(first|exact LV|apply aF.draw|apply aF.litN|apply aF.litC|apply aF.st0|apply aF.st2));all_goals (first|with_reducible rfl|simp))) a0,aB (aF.on (by with_reducible(repeat(first|exact LV|apply aF.draw|apply aF.litN|apply aF.litC|apply aF.st0|apply aF.st2));all_goals (first|with_reducible rfl|simp))) a2⟩)
   (first
    | (refine kY (by rfl) (by rfl) (by rfl) (by rfl) (by omega) RN (kJ ns) (by with_reducible(repeat(first|exact LV|apply aF.draw|apply aF.litN|apply aF.litC|apply aF.st0|apply aF.st2));all_goals (first|with_reducible rfl|simp)) ?_;intro A1 c1 w8 LV;(try simp only[World.size_alloc,World.size_setCell,World.size_drew]at LV);have Zb:=aF.zb LV rfl;have p0:=Zb.at_ 0 rfl;have p2:=Zb.at_ 2 rfl;have f0:=Zb.Zy 0;have f2:=Zb.Zy 2)
    | (refine kX (by rfl) (by rfl) (by rfl) (by rfl) (by omega) RC (kF cs) (by with_reducible(repeat(first|exact LV|apply aF.draw|apply aF.litN|apply aF.litC|apply aF.st0|apply aF.st2));all_goals (first|with_reducible rfl|simp)) ?_;intro C1 d1 w9 LV;(try simp only[World.size_alloc,World.size_setCell,World.size_drew]at LV);have Zb:=aF.zb LV rfl;have p0:=Zb.at_ 0 rfl;have p2:=Zb.at_ 2 rfl;have f0:=Zb.Zy 0;have f2:=Zb.Zy 2)
    |fail)
  all_goals
   clear a0 a1 a2 a3 p0 p2 f0 f2;go_wp2_with fail;go_meet;exact⟨A1,c1,C1,d1,by with_reducible(repeat(first|exact LV|apply aF.draw|apply aF.litN|apply aF.litC|apply aF.st0|apply aF.st2));all_goals (first|with_reducible rfl|simp)⟩
 case rest =>
  obtain⟨A1,cN,C1,cC,LV⟩:=hcut;obtain⟨nb,cb,rfl,rfl,hzz,hnb,hcb,H⟩:=HM.of_live (e:=z0+1+1) on R ⟨by omega,Q.lt⟩ HY LV;have hzx:=X.lt;replace X:=X.oe LV.on;replace Q:=Q.oe LV.on;replace on:=on.to LV.on;clear LV a0 a1 a2 a3 p0 p2 f0 f2 Zb R W hsm;go_upto_region 4 with fail
  refine aW (v1:=[.func (.func 48) #[] #[]]) rfl fun w4 ob G=>?_
  have hzb:nb<wc.heap.size∧cb<wc.heap.size∧z<wc.heap.size:=⟨H.m.lts.2.1,H.m.lts.2.2,H.m.lts.1⟩
  generalize wc.heap.size=zb at G hzb⊢;replace H:=H.oe ob;replace X:=X.oe ob;replace Q:=Q.oe ob;replace on:=on.to ob;replace E:=E.oe on;have g0:=G.at_ 0 rfl;generalize z0+1+1=ze at *;clear ob
  have HB:Hid (∀W er,aI (aY ns tip cs time) ⟨kd,cl,nn,jb,ep,y⟩=(W,er)→er≠0→q=(fQ,er)):=aH fun W er h he=>by
   rw[HQ.out];unfold mN;rw[if_neg (by simp[bZ.2 HG.out]),h,if_pos he]
  have HO:Hid (∀W,aI (aY ns tip cs time) ⟨kd,cl,nn,jb,ep,y⟩=(W,0)→q=(W,0)):=aH fun W h=>by
   rw[HQ.out];unfold mN;rw[if_neg (by simp[bZ.2 HG.out]),h];rfl
  clear HQ;obtain⟨b,hb⟩:∃b,b=decide (kd=8∨kd=9∨kd=12∨kd=13):=⟨_,rfl⟩
  have HBB:=aH hb;have x0:=X.at_ 0 rfl;clear hb;go_upto_region 6 with fail
  go_cut [1,10]from 464 (fun s1 s10 wx=>s10=.bool b∧wx=w4)
  case first =>
   go_wp2_with fail
   all_goals
    go_meet;refine⟨congrArg _ ?_,rfl⟩;rw[HBB.out];clear HB HO HBB;by_cases h8:kd=8<;>by_cases h9:kd=9<;>by_cases h12:kd=12<;>by_cases h13:kd=13<;>simp_all
  case rest =>
  obtain⟨rfl,rfl⟩:=hcut;go_upto_block 0 with fail
  go_cut [10]from 464 (fun s10 wx=>aA wc wx∧∃m:Nat,cl=(m:Int)∧m<3∧((kd=1∨kd=2∨kd=3∨kd=4∨kd=5∨kd=6∨kd=7∨kd=14∨kd=15)∨(kd=9∧∃i:Nat,nn=(i:Int)∧i<3∧(aV (bC ns) i).up=true)))
  case rest=>obtain⟨_,m,_,_,hk⟩:=hcut;exfalso;have:=HP.out;omega
  case first =>
  generalize wc=w4 at *;have hcases:(kd<1∨15<kd)∨kd=10∨kd=11∨(kd=8∨kd=9∨kd=12∨kd=13)∨(kd=1∨kd=2∨kd=3∨kd=4∨kd=5∨kd=6∨kd=7∨kd=14∨kd=15):=by omega
  rcases hcases with hr|rfl|rfl|hk|hk
  · have h1:(decide (1≤kd)&&decide (kd≤15))=false:=by simp;omega
    have x0:=X.at_ 0 rfl;have HQ:=aH (HB.out (aY ns tip cs time) 4 (by unfold aI;dsimp only;rw[if_pos hr]) (by simp));clear hr;go_wp2_with ((go_at_call 18;refine Calls.mono (aM _ _ _ _) ?_;(first|rw[h1]|rw[h2]|rw[h3]);rintro en w'⟨rfl,rfl⟩))
    refine Calls.mono (aU _ _) ?_;rintro en w9⟨rfl,ob⟩;replace Q:=Q.oe ob;replace on:=on.to ob;go_wp2_with ((with_reducible refine gd ?_);refine pU Q z4 25 bJ ?_)
    exact cL rfl rfl rfl Q rfl on H.he.1 HQ.out
  · have x0:=X.at_ 0 rfl;have x2:=X.at_ 2 rfl;have h2:(decide (1≤(10:Int))&&decide ((10:Int)≤15))=true:=rfl;by_cases hn:nn<0∨60<nn
    · have h1:(decide (0≤nn)&&decide (nn≤60))=false:=by simp;omega
      have HQ:=aH (HB.out (aY ns tip cs time) 3 (by simp[aI,hn]) (by simp));clear hn;go_wp2_with ((go_at_call 18;refine Calls.mono (aM _ _ _ _) ?_;(first|rw[h1]|rw[h2]|rw[h3]);rintro en w'⟨rfl,rfl⟩))
      refine Calls.mono (aU _ _) ?_;rintro en w9⟨rfl,ob⟩;replace Q:=Q.oe ob;replace on:=on.to ob;go_wp2_with ((with_reducible refine gd ?_);refine pU Q z4 25 bJ ?_)
      exact cL rfl rfl rfl Q rfl on H.he.1 HQ.out
    have h1:(decide (0≤nn)&&decide (nn≤60))=true:=by simp;omega
    have HQ:=aH (HO.out (aY ns nn cs time) (by simp[aI,hn]));have Zb:=H.m.bx;have z1:=Zb.at_ 1 rfl;have f1:=Zb.Zy;clear hn;go_upto_region 13 with (go_at_call 18;refine Calls.mono (aM _ _ _ _) ?_;(first|rw[h1]|rw[h2]|rw[h3]);rintro en w'⟨rfl,rfl⟩)
    replace H:=H.tipTo (tip':=nn) (time':=time) (w':=w4.setCell ⟨z,1,none⟩ (.int .i64 nn)) (aK.put (aK.Zz _ _) rfl _) (Zb.Zq (j:=1) (by simp) _);replace Q:=Q.Zr (p:=⟨z,1,none⟩) (Ne.symm H.he.2.2.1) (.int .i64 nn);clear z1 f1 Zb x0 x2 g0;generalize w4.setCell ⟨z,1,none⟩ (.int .i64 nn)=w5 at *;have Zb:=H.m.bx;obtain⟨z0',z1,z2,z3⟩:=Zb.p4;go_wp2_with ((with_reducible refine gd ?_);refine pU Q [.slice (some ⟨nb,0,none⟩) 3 cN,(nn:Int),.slice (some ⟨cb,0,none⟩) 3 cC,(time:Int)] 25 bJ ?_)
    exact kR rfl rfl rfl Q rfl H HQ.out
  · have x0:=X.at_ 0 rfl;have x2:=X.at_ 2 rfl;have h2:(decide (1≤(11:Int))&&decide ((11:Int)≤15))=true:=rfl;have Zb:=H.m.bx;have z3:=Zb.at_ 3 rfl;have f3:=Zb.Zy;have ht:IntKind.i64.wrap (100000-time)=100000-time:=by rw[IntKind.wrap_i64];have h0:0≤time:=HG.out.t0;have h1:time≤100000:=HG.out.t1;omega
    by_cases hn:nn<1∨100000-time<nn
    · have h1:(decide (1≤nn)&&decide (nn≤100000-time))=false:=by simp;omega
      have HQ:=aH (HB.out (aY ns tip cs time) 3 (by simp[aI,hn]) (by simp));clear hn;go_wp2_with ((go_at_call 18;refine Calls.mono (aM _ _ _ _) ?_;(first|rw[h1]|rw[h2]|rw[h3]);rintro en w'⟨rfl,rfl⟩))
      refine Calls.mono (aU _ _) ?_;rintro en w9⟨rfl,ob⟩;replace Q:=Q.oe ob;replace on:=on.to ob;go_wp2_with ((with_reducible refine gd ?_);refine pU Q z4 25 bJ ?_)
      exact cL rfl rfl rfl Q rfl on H.he.1 HQ.out
    have h1:(decide (1≤nn)&&decide (nn≤100000-time))=true:=by simp;omega
    have HQ:=aH (HO.out (aY ns tip cs (time+nn)) (by simp[aI,hn]));have ht2:IntKind.i64.wrap (time+nn)=time+nn:=by rw[IntKind.wrap_i64];have h0:0≤time:=HG.out.t0;omega
    clear hn;go_upto_region 18 with (go_at_call 18;refine Calls.mono (aM _ _ _ _) ?_;(first|rw[h1]|rw[h2]|rw[h3]);rintro en w'⟨rfl,rfl⟩)
    replace H:=H.tipTo (tip':=tip) (time':=time+nn) (w':=w4.setCell ⟨z,3,none⟩ (.int .i64 (time+nn))) (aK.put (aK.Zz _ _) rfl _) (Zb.Zq (j:=3) (by simp) _);replace Q:=Q.Zr (p:=⟨z,3,none⟩) (Ne.symm H.he.2.2.1) (.int .i64 (time+nn));clear z3 f3 Zb x0 x2 g0;generalize w4.setCell ⟨z,3,none⟩ (.int .i64 (time+nn))=w5 at *;have Zb:=H.m.bx;obtain⟨z0',z1,z2,z3⟩:=Zb.p4;go_wp2_with ((with_reducible refine gd ?_);refine pU Q [.slice (some ⟨nb,0,none⟩) 3 cN,(tip:Int),.slice (some ⟨cb,0,none⟩) 3 cC,(time+nn:Int)] 25 bJ ?_)
    exact kR rfl rfl rfl Q rfl H HQ.out
  · rcases hk with rfl|rfl|rfl|rfl
    · obtain rfl:b=true:=by rw[HBB.out];decide
      clear HBB;obtain⟨x0,x1,x2⟩:=X.p3;have x4:=X.at_ 4 rfl;have h3:(decide (1≤(8:Int))&&decide ((8:Int)≤15))=true:=rfl;by_cases hn:nn<0∨3≤nn
      · have h1:(decide (0≤nn)&&decide (nn≤2))=false:=by simp;omega
        have HQ:=aH (HB.out (aY ns tip cs time) 5 (by simp[aI,dV,hn]) (by simp));clear hn;go_wp2_with ((go_at_call 18;refine Calls.mono (aM _ _ _ _) ?_;(first|rw[h1]|rw[h2]|rw[h3]);rintro en w'⟨rfl,rfl⟩))
        refine Calls.mono (aU _ _) ?_;rintro en w9⟨rfl,ob⟩;replace Q:=Q.oe ob;replace on:=on.to ob;go_wp2_with ((with_reducible refine gd ?_);refine pU Q z4 25 bJ ?_)
        exact cL rfl rfl rfl Q rfl on H.he.1 HQ.out
      obtain⟨i,rfl⟩:∃i:Nat,nn=(i:Int):=⟨nn.toNat,by omega⟩
      have hi:i<3:=by omega
      have hii:(i:Int)<3:=by omega
      have h1:(decide (0≤(i:Int))&&decide ((i:Int)≤2))=true:=by simp;omega
      obtain⟨v,hv,I,v1,v2,v3⟩:=H.at_ hi;have v4:=H.eN v (List.mem_of_getElem? hv);have hnd:aV (bC ns) i=v.x:=eW hv;obtain⟨n0,n1,n2,n3,n4⟩:=NV.Zu H.m.f.nr (bB ns) (cV hv);have b0:=H.m.bx.at_ 0 rfl;have hlt:=H.m.lts;by_cases hu:v.x.up=false
      · have HQ:=aH (HB.out (aY ns tip cs time) 7 (by simp[aI,dV,lG,hn,hnd,hu]) (by simp));rw[hu]at n4;clear hu hn hnd hv I;go_wp2_with (go_at_call 18;refine Calls.mono (aM _ _ _ _) ?_;(first|rw[h1]|rw[h2]|rw[h3]);rintro en w'⟨rfl,rfl⟩)
        go_quiet (fail);obtain⟨w5,hw5⟩:∃w5,w5=w4.drewN nq:=⟨_,rfl⟩
        rw[←hw5];have b5:aA w4 w5:=hw5▸aA.Zv (aA.Zz _) nq;clear hw5 g0 x0 x1 x2 x4 n0 n1 n2 n3 n4 b0;replace H:=H.oe b5;replace X:=X.oe b5;replace Q:=Q.oe b5;replace G:=G.oe b5;replace on:=on.to b5;replace E:=E.oe b5;have b5':=aH b5;clear b5;have g0:=G.at_ 0 rfl;go_wp2_with ((go_at_call 18;refine Calls.mono (aM _ _ _ _) ?_;(first|rw[h1]|rw[h2]|rw[h3]);rintro en w'⟨rfl,rfl⟩))
        refine Calls.mono (aU _ _) ?_;rintro en w9⟨rfl,ob⟩;replace Q:=Q.oe ob;replace on:=on.to ob;go_wp2_with ((with_reducible refine gd ?_);refine pU Q z4 25 bJ ?_)
        exact cL rfl rfl rfl Q rfl on H.he.1 HQ.out
      have hu':v.x.up=true:=by simpa using hu
      obtain⟨r,hr⟩:∃r,r=cT v.x ⟨2,0,ep,bP⟩:=⟨_,rfl⟩
      have hw:aI (aY ns tip cs time) ⟨8,cl,(i:Int),jb,ep,y⟩=(setN (aY ns tip cs time) i r.1,r.2):=by simp[aI,dV,hn,hnd,hu',hr]
      have HW:=aH hw;have HR:=aH hr;rw[hu']at n4;have hck:=HG.out.chkN hv;clear hu hu' hn hnd I hw hr;go_wp2_with (go_at_call 18;refine Calls.mono (aM _ _ _ _) ?_;(first|rw[h1]|rw[h2]|rw[h3]);rintro en w'⟨rfl,rfl⟩)
      go_quiet (fail);obtain⟨w5,hw5⟩:∃w5,w5=w4.drewN nq:=⟨_,rfl⟩
      rw[←hw5];have b5:aA w4 w5:=hw5▸aA.Zv (aA.Zz _) nq;clear hw5 g0 x0 x1 x2 x4 n0 n1 n2 n3 n4 b0;replace H:=H.oe b5;replace X:=X.oe b5;replace Q:=Q.oe b5;replace G:=G.oe b5;replace on:=on.to b5;replace E:=E.oe b5;have b5':=aH b5;clear b5;have g0:=G.at_ 0 rfl;have x0:=X.at_ 0 rfl;have x2:=X.at_ 2 rfl;have x4:=X.at_ 4 rfl;go_wp2_with (go_at_call 18;refine Calls.mono (aM _ _ _ _) ?_;(first|rw[h1]|rw[h2]|rw[h3]);rintro en w'⟨rfl,rfl⟩)
      refine Calls.mono (rL (v:=v) _ H E hv hck ⟨2,0,ep,bP⟩) ?_;rw[←HR.out];rintro en w6⟨rfl,tn,ns',hns,_,H'⟩;replace Q:=Q.grown tn (by simpa using Ne.symm H.he.2.2.2.1);replace G:=G.grown tn (by simp;omega);have hns':=aH hns;clear x0 x2 x4 g0 X E tn H hns;go_wp2_with fail;refine Calls.mono (cO _ zb z _ _ _ _ _ _ _ _ _ G H'.m.bx) ?_;by_cases hr0:r.2=0
      · rw[if_pos hr0];rintro en w7⟨rfl,ob⟩;replace H':=H'.oe ob;replace Q:=Q.oe ob;have HQ:Hid (q=(aY ns' tip cs time,0)):=aH (by rw[HO.out _ (by rw[HW.out,hr0]),show aY ns' tip cs time=setN (aY ns tip cs time) i r.1 by simp[setN,aY,hns'.out]]);rw[hr0];clear hr0;go_wp2_with ((with_reducible refine gd ?_);refine pU Q [.slice (some ⟨nb,0,none⟩) 3 cN,tip,.slice (some ⟨cb,0,none⟩) 3 cC,time] 25 bJ ?_)
        exact kR rfl rfl rfl Q rfl H' HQ.out
      rw[if_neg hr0];rintro en w7⟨rfl,ob⟩;replace H':=H'.oe ob;replace Q:=Q.oe ob;have HQ:=aH (HB.out _ _ HW.out hr0);clear hr0;go_wp2_with ((with_reducible refine gd ?_);refine pU Q z4 25 bJ ?_)
      exact cL rfl rfl rfl Q rfl H'.on H'.he.1 HQ.out
    · exfalso;have:=HP.out;omega
    · obtain rfl:b=true:=by rw[HBB.out];decide
      clear HBB;obtain⟨x0,x1,x2⟩:=X.p3;have x4:=X.at_ 4 rfl;have h3:(decide (1≤(12:Int))&&decide ((12:Int)≤15))=true:=rfl;by_cases hn:nn<0∨3≤nn
      · have h1:(decide (0≤nn)&&decide (nn≤2))=false:=by simp;omega
        have HQ:=aH (HB.out (aY ns tip cs time) 5 (by simp[aI,dV,hn]) (by simp));clear hn;go_wp2_with ((go_at_call 18;refine Calls.mono (aM _ _ _ _) ?_;(first|rw[h1]|rw[h2]|rw[h3]);rintro en w'⟨rfl,rfl⟩))
        refine Calls.mono (aU _ _) ?_;rintro en w9⟨rfl,ob⟩;replace Q:=Q.oe ob;replace on:=on.to ob;go_wp2_with ((with_reducible refine gd ?_);refine pU Q z4 25 bJ ?_)
        exact cL rfl rfl rfl Q rfl on H.he.1 HQ.out
      obtain⟨i,rfl⟩:∃i:Nat,nn=(i:Int):=⟨nn.toNat,by omega⟩
      have hi:i<3:=by omega
      have hii:(i:Int)<3:=by omega
      have h1:(decide (0≤(i:Int))&&decide ((i:Int)≤2))=true:=by simp;omega
      obtain⟨v,hv,I,v1,v2,v3⟩:=H.at_ hi;have v4:=H.eN v (List.mem_of_getElem? hv);have hnd:aV (bC ns) i=v.x:=eW hv;obtain⟨n0,n1,n2,n3,n4⟩:=NV.Zu H.m.f.nr (bB ns) (cV hv);have b0:=H.m.bx.at_ 0 rfl;have hlt:=H.m.lts;by_cases hu:v.x.up=false
      · have HQ:=aH (HB.out (aY ns tip cs time) 7 (by simp[aI,dV,lG,hn,hnd,hu]) (by simp));rw[hu]at n4;clear hu hn hnd hv I;go_wp2_with (go_at_call 18;refine Calls.mono (aM _ _ _ _) ?_;(first|rw[h1]|rw[h2]|rw[h3]);rintro en w'⟨rfl,rfl⟩)
        go_quiet (fail);obtain⟨w5,hw5⟩:∃w5,w5=w4.drewN nq:=⟨_,rfl⟩
        rw[←hw5];have b5:aA w4 w5:=hw5▸aA.Zv (aA.Zz _) nq;clear hw5 g0 x0 x1 x2 x4 n0 n1 n2 n3 n4 b0;replace H:=H.oe b5;replace X:=X.oe b5;replace Q:=Q.oe b5;replace G:=G.oe b5;replace on:=on.to b5;replace E:=E.oe b5;have b5':=aH b5;clear b5;have g0:=G.at_ 0 rfl;go_wp2_with ((go_at_call 18;refine Calls.mono (aM _ _ _ _) ?_;(first|rw[h1]|rw[h2]|rw[h3]);rintro en w'⟨rfl,rfl⟩))
        refine Calls.mono (aU _ _) ?_;rintro en w9⟨rfl,ob⟩;replace Q:=Q.oe ob;replace on:=on.to ob;go_wp2_with ((with_reducible refine gd ?_);refine pU Q z4 25 bJ ?_)
        exact cL rfl rfl rfl Q rfl on H.he.1 HQ.out
      have hu':v.x.up=true:=by simpa using hu
      have HQ:=aH (HO.out (aY (ns.set i ⟨⟨v.x.u,v.x.d,false⟩,v.A,v.n,v.c,v.F,v.k,v.i,v.G,v.l,v.j⟩) tip cs time) (by simp[aI,dV,lG,hn,hnd,hu',setN,aY,bC,List.map_set]));rw[hu']at n4;have HU:=aH hu';clear hu hu' hn hnd I;go_wp2_with (go_at_call 18;refine Calls.mono (aM _ _ _ _) ?_;(first|rw[h1]|rw[h2]|rw[h3]);rintro en w'⟨rfl,rfl⟩)
      go_quiet (fail);obtain⟨w5,hw5⟩:∃w5,w5=w4.drewN nq:=⟨_,rfl⟩
      rw[←hw5];have b5:aA w4 w5:=hw5▸aA.Zv (aA.Zz _) nq;clear hw5 g0 x0 x1 x2 x4 n0 n1 n2 n3 n4 b0;replace H:=H.oe b5;replace X:=X.oe b5;replace Q:=Q.oe b5;replace G:=G.oe b5;replace on:=on.to b5;replace E:=E.oe b5;have b5':=aH b5;clear b5;have g0:=G.at_ 0 rfl;have x0:=X.at_ 0 rfl;have x2:=X.at_ 2 rfl;have b0:=H.m.bx.at_ 0 rfl;have n4:=(NV.Zu H.m.f.nr (bB ns) (cV hv)).2.2.2.2;have f4:=Bx.Zy H.m.f.nr;go_upto_region 25 with (go_at_call 18;refine Calls.mono (aM _ _ _ _) ?_;(first|rw[h1]|rw[h2]|rw[h3]);rintro en w'⟨rfl,rfl⟩)
      have B:=Rx.cellOf H.m.f.nr (bB ns) (cV hv) (j:=4) (by omega) (.bool false);have J:=(H.at_' hv).put (p:=⟨nb,i*5+4,none⟩) v1 (.bool false);replace H:=H.node (v:=⟨⟨v.x.u,v.x.d,false⟩,v.A,v.n,v.c,v.F,v.k,v.i,v.G,v.l,v.j⟩) (aK.put (aK.Zz _ _) rfl _) B ⟨J.1,J.2,J.3,J.4⟩ ⟨v1.1,v1.2,v1.3⟩ ⟨v2.1,v2.2,v2.3⟩ ⟨v3.1,v3.2,v3.3⟩ ⟨⟨v4.1.1,v4.1.2,v4.1.3⟩,fun b hb=>⟨(v4.2 b hb).1,(v4.2 b hb).2,(v4.2 b hb).3⟩⟩;replace Q:=Q.Zr (p:=⟨nb,i*5+4,none⟩) (Ne.symm H.he.2.2.2.1) (.bool false);clear x0 x2 b0 n4 f4 B J g0;generalize w5.setCell ⟨nb,i*5+4,none⟩ (.bool false)=w6 at *;obtain⟨z0',z1,z2,z3⟩:=H.m.bx.p4;go_wp2_with ((with_reducible refine gd ?_);refine pU Q [.slice (some ⟨nb,0,none⟩) 3 cN,(tip:Int),.slice (some ⟨cb,0,none⟩) 3 cC,(time:Int)] 25 bJ ?_)
      exact kR rfl rfl rfl Q rfl H HQ.out
    obtain rfl:b=true:=by rw[HBB.out];decide
    clear HBB;obtain⟨x0,x1,x2⟩:=X.p3;have x4:=X.at_ 4 rfl;have h3:(decide (1≤(13:Int))&&decide ((13:Int)≤15))=true:=rfl;by_cases hn:nn<0∨3≤nn
    · have h1:(decide (0≤nn)&&decide (nn≤2))=false:=by simp;omega
      have HQ:=aH (HB.out (aY ns tip cs time) 5 (by simp[aI,dV,hn]) (by simp));clear hn;go_wp2_with ((go_at_call 18;refine Calls.mono (aM _ _ _ _) ?_;(first|rw[h1]|rw[h2]|rw[h3]);rintro en w'⟨rfl,rfl⟩))
      refine Calls.mono (aU _ _) ?_;rintro en w9⟨rfl,ob⟩;replace Q:=Q.oe ob;replace on:=on.to ob;go_wp2_with ((with_reducible refine gd ?_);refine pU Q z4 25 bJ ?_)
      exact cL rfl rfl rfl Q rfl on H.he.1 HQ.out
    obtain⟨i,rfl⟩:∃i:Nat,nn=(i:Int):=⟨nn.toNat,by omega⟩
    have hi:i<3:=by omega
    have hii:(i:Int)<3:=by omega
    have h1:(decide (0≤(i:Int))&&decide ((i:Int)≤2))=true:=by simp;omega
    obtain⟨v,hv,I,v1,v2,v3⟩:=H.at_ hi;have v4:=H.eN v (List.mem_of_getElem? hv);have hnd:aV (bC ns) i=v.x:=eW hv;obtain⟨n0,n1,n2,n3,n4⟩:=NV.Zu H.m.f.nr (bB ns) (cV hv);have b0:=H.m.bx.at_ 0 rfl;have hlt:=H.m.lts;by_cases hu:v.x.up=true
    · have HQ:=aH (HB.out (aY ns tip cs time) 7 (by simp[aI,dV,lG,hn,hnd,hu]) (by simp));rw[hu]at n4;clear hu hn hnd hv I;go_wp2_with (go_at_call 18;refine Calls.mono (aM _ _ _ _) ?_;(first|rw[h1]|rw[h2]|rw[h3]);rintro en w'⟨rfl,rfl⟩)
      go_quiet (fail);obtain⟨w5,hw5⟩:∃w5,w5=w4.drewN nq:=⟨_,rfl⟩
      rw[←hw5];have b5:aA w4 w5:=hw5▸aA.Zv (aA.Zz _) nq;clear hw5 g0 x0 x1 x2 x4 n0 n1 n2 n3 n4 b0;replace H:=H.oe b5;replace X:=X.oe b5;replace Q:=Q.oe b5;replace G:=G.oe b5;replace on:=on.to b5;replace E:=E.oe b5;have b5':=aH b5;clear b5;have g0:=G.at_ 0 rfl;go_wp2_with ((go_at_call 18;refine Calls.mono (aM _ _ _ _) ?_;(first|rw[h1]|rw[h2]|rw[h3]);rintro en w'⟨rfl,rfl⟩))
      refine Calls.mono (aU _ _) ?_;rintro en w9⟨rfl,ob⟩;replace Q:=Q.oe ob;replace on:=on.to ob;go_wp2_with ((with_reducible refine gd ?_);refine pU Q z4 25 bJ ?_)
      exact cL rfl rfl rfl Q rfl on H.he.1 HQ.out
    have hu':v.x.up=false:=by simpa using hu
    obtain⟨r,hr⟩:∃r,r=cI (hH v.x.d):=⟨_,rfl⟩
    have hck:=HG.out.chkN hv
    have hw:aI (aY ns tip cs time) ⟨13,cl,(i:Int),jb,ep,y⟩=(if r.2≠0 then(aY ns tip cs time,r.2)else(setN (aY ns tip cs time) i ⟨r.1,iK v.x.d,true⟩,0)):=by
     have e:=MM hck;rw[←hr]at e;simp only[aI,dV,lG,aY,Int.toNat_natCast,hnd,hu',e];have:setN (aY ns tip cs time) i v.x=aY ns tip cs time:=by simp only[setN,aY];rw[IE (show(bC ns)[i]?=some v.x by simp[bC,hv])]
     simp only[aY]at this;by_cases h:r.2=0<;>simp[h,hn,this]
    have HW:=aH hw;have HR:=aH hr;rw[hu']at n4;clear hu hu' hn hnd hw hr;go_wp2_with (go_at_call 18;refine Calls.mono (aM _ _ _ _) ?_;(first|rw[h1]|rw[h2]|rw[h3]);rintro en w'⟨rfl,rfl⟩)
    go_quiet (fail);obtain⟨w5,hw5⟩:∃w5,w5=w4.drewN nq:=⟨_,rfl⟩
    rw[←hw5];have b5:aA w4 w5:=hw5▸aA.Zv (aA.Zz _) nq;clear hw5 g0 x0 x1 x2 x4 n0 n1 n2 n3 n4 b0;replace H:=H.oe b5;replace X:=X.oe b5;replace Q:=Q.oe b5;replace G:=G.oe b5;replace on:=on.to b5;replace E:=E.oe b5;have b5':=aH b5;clear b5;have g0:=G.at_ 0 rfl;replace I:=H.at_' hv;have x0:=X.at_ 0 rfl;have x2:=X.at_ 2 rfl;have b0:=H.m.bx.at_ 0 rfl;obtain⟨n0,n1,n2,n3,n4⟩:=NV.Zu H.m.f.nr (bB ns) (cV hv);go_wp2_with (go_at_call 18;refine Calls.mono (aM _ _ _ _) ?_;(first|rw[h1]|rw[h2]|rw[h3]);rintro en w'⟨rfl,rfl⟩)
    refine Calls.mono (pF v.F v.G v.k v.i v.l v.j v.x.d _ E I.disk hck) ?_;rintro en w6⟨F1,k1,i1,G1,l1,j1,B1,bb1,yy1,rfl,K1,sL,_,ob,fF,fG⟩;have hlt6:nb<w5.heap.size∧cb<w5.heap.size∧z<w5.heap.size∧YB Y ze w5:=⟨H.m.lts.2.1,H.m.lts.2.2,H.m.lts.1,H.yb⟩
    have hs56:=ob.size;clear x0 x2 b0 n0 n1 n2 n3 n4 I E g0;replace H:=H.oe ob;replace X:=X.oe ob;replace Q:=Q.oe ob;replace G:=G.oe ob;replace on:=on.to ob;clear ob;go_upto_region 28 with fail
    refine aW (v1:=[.slice F1 k1 i1,.slice G1 l1 j1]) rfl fun w7 ob D=>?_
    generalize w6.heap.size=zd at D⊢;replace H:=H.oe ob;replace X:=X.oe ob;replace Q:=Q.oe ob;replace G:=G.oe ob;replace on:=on.to ob;replace K1:=K1.oe ob;replace sL:=sL.oe ob;have hs67:=ob.size;clear ob;go_wp2_with fail;refine Calls.mono (rC B1 bb1 yy1 (hH v.x.d) _ sL) ?_;rw[←HR.out];rintro en w8⟨A2,m1,d1,rfl,s1,ob,fA,mA,mB⟩;replace H:=H.oe ob;replace X:=X.oe ob;replace Q:=Q.oe ob;replace G:=G.oe ob;replace on:=on.to ob;replace K1:=K1.oe ob;replace D:=D.oe ob;clear ob sL;go_upto_region 29 with fail
    refine aW (v1:=[r.1.ep,.slice A2 m1 d1]) rfl fun w10 ob U=>?_
    generalize w8.heap.size=zu at U⊢;replace H:=H.oe ob;replace X:=X.oe ob;replace Q:=Q.oe ob;replace G:=G.oe ob;replace on:=on.to ob;replace K1:=K1.oe ob;replace D:=D.oe ob;replace s1:=s1.oe ob;clear ob;have J:NV.In w10 ⟨⟨r.1,iK v.x.d,true⟩,A2,m1,d1,F1,k1,i1,G1,l1,j1⟩:=⟨s1,K1,mA,mB⟩
    have oJ:∀y,y<w5.heap.size→NV.off y ⟨⟨r.1,iK v.x.d,true⟩,A2,m1,d1,F1,k1,i1,G1,l1,j1⟩:=fun y hy=>⟨fA.Zx (by omega),fF.Zx hy,fG.Zx hy⟩
    have HJ:=aH J;have HO2:=aH oJ;clear J oJ s1 K1 fA fF fG;have x0:=X.at_ 0 rfl;have x2:=X.at_ 2 rfl;have b0:=H.m.bx.at_ 0 rfl;have g0:=G.at_ 0 rfl;obtain⟨u0,u1⟩:=U.p2;obtain⟨dd0,dd1⟩:=D.p2;have Bn:=H.m.f.nr;have hlen:i*5+5≤(ns.map bW).flatten.length:=by rw[aN (bB ns),List.length_map,H.m.f.nl];omega
    go_upto_region 30 with ((with_reducible refine gd ?_);refine pM Bn (i*5) (bW ⟨⟨r.1,iK v.x.d,true⟩,A2,m1,d1,F1,k1,i1,G1,l1,j1⟩) 55 hlen LG ?_)
    have tn:aK w10 (w10.setCells nb (i*5) (bW ⟨⟨r.1,iK v.x.d,true⟩,A2,m1,d1,F1,k1,i1,G1,l1,j1⟩)) nb:=aK.Zw (aK.Zz _ _);have H':=H.node tn (Rx.put Bn (bB ns) (cV hv) rfl) (HJ.out.Zw (HO2.out _ hlt6.1)) (HO2.out _ hlt6.1) (HO2.out _ hlt6.2.1) (HO2.out _ hlt6.2.2.1) ⟨HO2.out _ hlt6.2.2.2.e,fun b hb=>HO2.out b (hlt6.2.2.2.y b hb)⟩;replace Q:=Q.grown tn (by simpa using Ne.symm H.he.2.2.2.1);replace G:=G.grown tn (by simp;omega);have hns':=aH (show bC (ns.set i ⟨⟨r.1,iK v.x.d,true⟩,A2,m1,d1,F1,k1,i1,G1,l1,j1⟩)=(bC ns).set i ⟨r.1,iK v.x.d,true⟩ by rw[bC,List.map_set]);generalize(ns.set i ⟨⟨r.1,iK v.x.d,true⟩,A2,m1,d1,F1,k1,i1,G1,l1,j1⟩)=ns' at H' hns';clear x0 x2 b0 g0 u0 u1 dd0 dd1 U D X tn H Bn hlen;generalize w10.setCells nb (i*5) _=w11 at *;go_wp2_with fail;refine Calls.mono (cO _ zb z _ _ _ _ _ _ _ _ _ G H'.m.bx) ?_;have hw:=HW.out;by_cases hr0:r.2=0
    · rw[if_neg (by simp[hr0])]at hw;rw[if_pos hr0];rintro en w7⟨rfl,ob⟩;replace H':=H'.oe ob;replace Q:=Q.oe ob;have HQ:Hid (q=(aY ns' tip cs time,0)):=aH (by rw[HO.out _ hw,show aY ns' tip cs time=setN (aY ns tip cs time) i ⟨r.1,iK v.x.d,true⟩ by simp[setN,aY,hns'.out]]);rw[hr0];clear hr0 hw;go_wp2_with ((with_reducible refine gd ?_);refine pU Q [.slice (some ⟨nb,0,none⟩) 3 cN,tip,.slice (some ⟨cb,0,none⟩) 3 cC,time] 25 bJ ?_)
      exact kR rfl rfl rfl Q rfl H' HQ.out
    rw[if_pos hr0]at hw;rw[if_neg hr0];rintro en w7⟨rfl,ob⟩;replace H':=H'.oe ob;replace Q:=Q.oe ob;have HQ:=aH (HB.out _ _ hw hr0);clear hr0 hw;go_wp2_with ((with_reducible refine gd ?_);refine pU Q z4 25 bJ ?_)
    exact cL rfl rfl rfl Q rfl H'.on H'.he.1 HQ.out
  exfalso;have:=HP.out;omega
end
end Go.Proofs.YtpfkagghooihfaaGreatDoor
