/- The law WorldDoes. No condition beyond the listed variables, which the card ties. -/
/- Part 51. -/
import Derived.Test.YtpfkagghooihfaaGreatDoorBa49
import Derived.Test.YtpfkagghooihfaaGreatDoorBa42
import Derived.Test.YtpfkagghooihfaaGreatDoorBa31
import Derived.Test.YtpfkagghooihfaaGreatDoorBaF
import Derived.Test.YtpfkagghooihfaaGreatDoorCards
import Derived.Test.YtpfkagghooihfaaGreatDoorTie
import Derived.SevenTiedAt
namespace Go.Proofs.YtpfkagghooihfaaGreatDoor
set_option linter.unusedSimpArgs false
set_option linter.unusedVariables false
set_option maxHeartbeats 16000000
set_option maxRecDepth 100000
open Go.Proofs.Tryz
section
open Go.RowKit
attribute [local go_sem ↓] Go.wp_at_zero Go.wp_at_succ
theorem vJ (A : Option Addr)(n c : Nat)(tip : Int)(C : Option Addr)(m d : Nat)(time : Int)(ns : List NV)(cs : List CV)(x : qY)(A' : Option Addr)(n' c' : Nat)(tip' : Int)(C' : Option Addr)(m' d' : Nat)(time' : Int)(ns' : List NV)(cs' : List CV)(w : World)(E : fR w)
    (hn:n≤9223372036854775807)(hm:m≤9223372036854775807)(hc:∀v∈cs,v.n≤9223372036854775807∧v.m≤9223372036854775807)(R:WR w A n C m ns cs)(R':WR w A' n' C' m' ns' cs') :
    Calls prog 3 #[.agg #[.slice A n c,tip,.slice C m d,time],.agg #[x.kind,x.client,x.n,x.job,x.epoch,x.e.kind,x.e.job,x.e.every,x.e.time,x.e.client],.agg #[.slice A' n' c',tip',.slice C' m' d',time']] w fun e w'=>e=.returned (.bool true)∧aA w w':=by
 obtain⟨g,hg⟩:∃g,g=dL (aY ns tip cs time):=⟨_,rfl⟩
 obtain⟨q,hq⟩:∃q,q=mN (aY ns tip cs time) x:=⟨_,rfl⟩
 obtain⟨s,hs⟩:∃s,s=decide (aY ns tip cs time=aY ns' tip' cs' time'):=⟨_,rfl⟩
 have HG:=aH hg;have HQ:=aH hq;have HS:=aH hs;have HN:=aH hn;have HM:=aH hm;have HC:=aH hc;clear hg hq hs hn hm hc;go_enter func3,ntmps3;go_upto_region 1 with fail
 refine fY (v1:=[.slice A n c,tip,.slice C m d,time]) (v2:=dY x) (v3:=[.slice A' n' c',tip',.slice C' m' d',time']) rfl rfl rfl fun w1 on X Y Z=>?_
 replace R:=R.oe on;replace R':=R'.oe on;generalize w.heap.size=z at X Y Z⊢;obtain⟨x0,x1,x2,x3⟩:=X.p4;obtain⟨y0,y1,y2,y3,y4,y5,y6,y7,y8,y9⟩:=Y.p10;go_wp2_with fail;refine Calls.mono (KH A n c tip C m d time ns cs x.kind x.client x.n x.job x.epoch x.e _ (E.oe on) R) ?_;rw[show mN (aY ns tip cs time) ⟨x.kind,x.client,x.n,x.job,x.epoch,x.e⟩=q from HQ.out.symm];rintro e w2⟨B,b,y,D,k,i,nd,cd,rfl,RY,hnd,hcd,ob⟩;replace on:=on.to ob;replace X:=X.oe ob;replace Y:=Y.oe ob;replace Z:=Z.oe ob;replace R:=R.oe ob;replace R':=R'.oe ob;clear x0 x1 x2 x3 y0 y1 y2 y3 y4 y5 y6 y7 y8 y9;clear ob;go_upto_region 2 with fail
 refine aW (v1:=[.slice B b y,q.1.tip,.slice D k i,q.1.time]) rfl fun w3 ob V=>?_
 generalize w2.heap.size=zv at V⊢;replace on:=on.to ob;replace X:=X.oe ob;replace Y:=Y.oe ob;replace Z:=Z.oe ob;replace R:=R.oe ob;replace R':=R'.oe ob;replace RY:=RY.oe ob;clear ob;obtain⟨x0,x1,x2,x3⟩:=X.p4;go_wp2_with fail;refine Calls.mono (JT A n c tip C m d time ns cs _ (E.oe on) R) ?_;rw[←HG.out];rintro e w4⟨rfl,ob⟩;replace on:=on.to ob;replace X:=X.oe ob;replace Y:=Y.oe ob;replace Z:=Z.oe ob;replace R:=R.oe ob;replace R':=R'.oe ob;replace RY:=RY.oe ob;replace V:=V.oe ob;clear x0 x1 x2 x3;clear ob;have x0:∀w',aA w4 w'→w'.cell? ⟨z,0,none⟩=some (.slice A n c):=fun w' h=>(X.oe h).at_ 0 rfl
 have x1:∀w',aA w4 w'→w'.cell? ⟨z,1,none⟩=some (.int .i64 tip):=fun w' h=>(X.oe h).at_ 1 rfl
 have x2:∀w',aA w4 w'→w'.cell? ⟨z,2,none⟩=some (.slice C m d):=fun w' h=>(X.oe h).at_ 2 rfl
 have x3:∀w',aA w4 w'→w'.cell? ⟨z,3,none⟩=some (.int .i64 time):=fun w' h=>(X.oe h).at_ 3 rfl
 have y0:∀w',aA w4 w'→w'.cell? ⟨z+1+1,0,none⟩=some (.slice A' n' c'):=fun w' h=>(Z.oe h).at_ 0 rfl
 have y1:∀w',aA w4 w'→w'.cell? ⟨z+1+1,1,none⟩=some (.int .i64 tip'):=fun w' h=>(Z.oe h).at_ 1 rfl
 have y2:∀w',aA w4 w'→w'.cell? ⟨z+1+1,2,none⟩=some (.slice C' m' d'):=fun w' h=>(Z.oe h).at_ 2 rfl
 have y3:∀w',aA w4 w'→w'.cell? ⟨z+1+1,3,none⟩=some (.int .i64 time'):=fun w' h=>(Z.oe h).at_ 3 rfl
 have E4:=E.oe on;go_upto_region 3 with fail
 have oc:aA w4 w4:=aA.Zz _
 go_region_held3 (fun w'=>aA w4 w')
  (exact(by with_reducible(repeat(first|exact oc|exact aA.Zz _|refine aA.draw ?_))))
  (first
  | (go_at_call 7;(with_reducible refine Calls.mono (BG _ (E4.oe (by with_reducible(repeat(first|exact oc|exact aA.Zz _|refine aA.draw ?_))))) ?_);rintro e w5⟨rfl,o5⟩;replace oc:aA w4 w5:=aA.to (by with_reducible(repeat(first|exact oc|exact aA.Zz _|refine aA.draw ?_))) o5)
  | (go_at_call 8;(with_reducible refine Calls.mono (nA A n c tip C m d time ns cs _ (E4.oe (by with_reducible(repeat(first|exact oc|exact aA.Zz _|refine aA.draw ?_)))) (R.oe (by with_reducible(repeat(first|exact oc|exact aA.Zz _|refine aA.draw ?_))))) ?_);rw[←HG.out];rintro e w6⟨rfl,o6⟩;replace oc:aA w4 w6:=aA.to (by with_reducible(repeat(first|exact oc|exact aA.Zz _|refine aA.draw ?_))) o6)
  | (go_at_call 9;(with_reducible refine Calls.mono (DN A A' n c n' c' tip tip' C C' m d m' d' time time' ns ns' cs cs' _ (R.oe (by with_reducible(repeat(first|exact oc|exact aA.Zz _|refine aA.draw ?_)))) (R'.oe (by with_reducible(repeat(first|exact oc|exact aA.Zz _|refine aA.draw ?_)))) HN.out HM.out HC.out) ?_);rw[←HS.out];rintro e w7⟨rfl,o7⟩;replace oc:aA w4 w7:=aA.to (by with_reducible(repeat(first|exact oc|exact aA.Zz _|refine aA.draw ?_))) o7)
  | (go_at_call 10;(with_reducible refine Calls.mono (kV A A' n c n' c' tip tip' C C' m d m' d' time time' ns ns' cs cs' _ (R.oe (by with_reducible(repeat(first|exact oc|exact aA.Zz _|refine aA.draw ?_)))) (R'.oe (by with_reducible(repeat(first|exact oc|exact aA.Zz _|refine aA.draw ?_)))) HN.out HM.out HC.out) ?_);rw[←HS.out];rintro e w8⟨rfl,o8⟩;replace oc:aA w4 w8:=aA.to (by with_reducible(repeat(first|exact oc|exact aA.Zz _|refine aA.draw ?_))) o8)
  | (go_at_call 11;(with_reducible refine Calls.mono (vM _) ?_);rintro e w9⟨An,ln,Cn,kn,nn,cn,rfl,RN,hN,o9⟩;(try replace RF:=RF.oe (aA.to (by with_reducible(repeat(first|exact aA.Zz _|refine aA.draw ?_))) o9));replace oc:aA w4 w9:=aA.to (by with_reducible(repeat(first|exact oc|exact aA.Zz _|refine aA.draw ?_))) o9)
  | (go_at_call 12;(with_reducible refine Calls.mono (BP _) ?_);rintro e w10⟨Af,Cf,nf,cf,rfl,RF,hF,o10⟩;(try replace RN:=RN.oe (aA.to (by with_reducible(repeat(first|exact aA.Zz _|refine aA.draw ?_))) o10));replace oc:aA w4 w10:=aA.to (by with_reducible(repeat(first|exact oc|exact aA.Zz _|refine aA.draw ?_))) o10)
  | (go_at_call 10;(with_reducible refine Calls.mono (kV An Af 3 ln 3 3 0 0 Cn Cf 3 kn 3 3 0 0 nn nf cn cf _ (RN.oe (by with_reducible(repeat(first|exact aA.Zz _|refine aA.draw ?_)))) (RF.oe (by with_reducible(repeat(first|exact aA.Zz _|refine aA.draw ?_)))) (by omega) (by omega) (JY hN RN)) ?_);rw[show decide (aY nn 0 cn 0=aY nf 0 cf 0)=true by rw[hN,hF];simp];rintro e w11⟨rfl,o11⟩;replace oc:aA w4 w11:=aA.to (by with_reducible(repeat(first|exact oc|exact aA.Zz _|refine aA.draw ?_))) o11)
  |fail)
 all_goals
  replace on:=on.to oc;replace X:=X.oe oc;replace Y:=Y.oe oc;replace R:=R.oe oc;replace RY:=RY.oe oc;replace V:=V.oe oc;have hq:=HQ.out;have hsm:=JQ hq RY hnd hcd;clear x0 x1 x2 x3 y0 y1 y2 y3 E4 oc;obtain⟨x0,x1,x2,x3⟩:=X.p4;obtain⟨y0,y1,y2,y3,y4,y5,y6,y7,y8,y9⟩:=Y.p10;obtain⟨v0,v1,v2,v3⟩:=V.p4;by_cases hg0:g=0
  · subst hg0;clear hq;go_wp2_with fail;refine Calls.mono (GJ A n c tip C m d time ns cs x.kind x.client x.n x.job x.epoch x.e _ (fun _=>False) ⟨fun _ h=>h.elim,fun _ _ _ h=>h.elim,fun _ _ _ h=>h.elim⟩ (E.oe on) R HG.out.symm) ?_;rw[show mN (aY ns tip cs time) ⟨x.kind,x.client,x.n,x.job,x.epoch,x.e⟩=q from HQ.out.symm];rintro e w6⟨B2,b2,c2,D2,k2,i2,nd2,cd2,rfl,R2,hnd2,hcd2,ob,-⟩;replace on:=on.to ob;replace RY:=RY.oe ob;replace V:=V.oe ob;clear x0 x1 x2 x3 y0 y1 y2 y3 y4 y5 y6 y7 y8 y9 v0 v1 v2 v3 ob X Y;go_upto_region 8 with fail
    refine aW (v1:=[.slice B2 b2 c2,q.1.tip,.slice D2 k2 i2,q.1.time]) rfl fun w7 ob U=>?_
    generalize w6.heap.size=zu at U⊢;replace on:=on.to ob;replace RY:=RY.oe ob;replace V:=V.oe ob;replace R2:=R2.oe ob;clear ob;obtain⟨v0,v1,v2,v3⟩:=V.p4;obtain⟨u0,u1,u2,u3⟩:=U.p4;go_wp2_with fail;refine Calls.mono (kV B B2 b y b2 c2 q.1.tip q.1.tip D D2 k i k2 i2 q.1.time q.1.time nd nd2 cd cd2 _ RY R2 hsm.1 hsm.2.1 hsm.2.2) ?_;rw[show decide (aY nd q.1.tip cd q.1.time=aY nd2 q.1.tip cd2 q.1.time)=true by simp[aY,hnd,hcd,hnd2,hcd2]];rintro e w8⟨rfl,ob⟩;go_wp2_with fail;go_ret;exact⟨rfl,on.to ob⟩
  have hgd:(g ==0)=false:=by simpa using hg0
  have hgd2:(g !=0)=true:=by simpa using hg0
  have hq2:q=(fQ,g):=by rw[hq];unfold mN;rw[←HG.out,if_pos hg0]
  subst hq2;have HGD:=aH hg0;clear hq hg0;go_wp2_with fail;refine Calls.mono (kV B none b y 0 0 0 0 D none k i 0 0 0 0 nd [] cd [] _ RY ⟨Sl.nil,Sl.nil,fun v hv=>absurd hv (by simp),fun v hv=>absurd hv (by simp)⟩ hsm.1 hsm.2.1 hsm.2.2) ?_;rw[show decide (aY nd 0 cd 0=aY [] 0 [] 0)=true by simp[aY,hnd,hcd,fQ,bC,bL]];rintro e w8⟨rfl,ob⟩;go_wp2_with fail;go_ret;exact⟨rfl,on.to ob⟩
end
section
open Go.RowKit Go.ChangeShapes Go.WideShapes Go.ChangeAt
set_option maxRecDepth 100000 in
theorem worldDoes_lifted (os : Os)(started : os.Started)(H : Type)(enc : TypeId×Value → H) :
    ReturnsInHanded {} checked os 3 .any (fun w args=>(Rows.worldDoesSpec.pre enc prog Tryz.f3 Rows.worldDoesRow.domain false w args∧laidMetH prog Rows.worldDoesRow.laid w)∧sizedMet enc prog Tryz.f3 (OpenSpec.ofChange Rows.worldDoesSpec) false w args)
     (Rows.worldDoesSpec.post enc prog Tryz.f3 false true false false):=by
 refine yL (C:=checked) (X:=fun w _=>laidMetH prog Rows.worldDoesRow.laid w) (fun _ _ _ hh h=>h.of_heap hh) own started (by kernel_rfl) func3
  (ChangeSpec.witness_shaped (enc:=enc) (C:=checked) (os:=os) (X:=fun w _=>laidMetH prog Rows.worldDoesRow.laid w) false (World.laidAll prog os Rows.worldDoesRow.laid) #[.agg #[Nat,(),Nat,()],.agg #[(),(),(),(),(),(),(),(),(),()],.agg #[Nat,(),Nat,()]] 8 (World.laidAll_os _ _ _)
   (World.shaped_of_ZipB (by kernel_rfl) (by kernel_rfl)) (by kernel_rfl) (by kernel_rfl) (by kernel_rfl)
   (by rw[MakeChecks.laidMetH_plain _ _ _ (by kernel_rfl)];exact laidMet_laidAll _ (by kernel_rfl) (by kernel_rfl))) ?_
 intro W base args ds gs before hval0 hW hsz0 hL hS;rw[MakeChecks.laidMetH_plain _ _ _ (by kernel_rfl)]at hL;have E:fR W:=PJ hL hS;clear hL hS;have hval:∀ (j:Nat) t v,Tryz.f3.params[j]?=some t→args[j]?=some v→Value.okWide prog W .any base t v:=hval0;have hW':=hW;obtain⟨p,q,hA0,hV,rfl,hfz,hnd⟩:=hW;have hA:DataW.TrodAll enc prog W 0 (fun _=>true) true Tryz.f3.params.toList args.toList ds p:=hA0;rw[params3]at hA hval;obtain⟨v0,vs0,d0,ds0,p0,q0,hargs,rfl,rfl,h0,r0⟩:=trodAll_cons hA;obtain⟨v1,vs1,d1,ds1,p1,q1,rfl,rfl,rfl,h1,r1⟩:=trodAll_cons r0;obtain⟨v2,vs2,d2,ds2,p2,q2,rfl,rfl,rfl,h2,r2⟩:=trodAll_cons r1;obtain⟨rfl,rfl,rfl⟩:=trodAll_nil r2;obtain rfl:args=#[v0,v1,v2]:=by cases args;simp_all
 obtain⟨rfl,rfl⟩:=trodVars_none hV;have hall:=hA;obtain⟨cv0,rfl,_⟩:=okWide_struct underlying25 (hval 0 25 v0 rfl rfl);obtain⟨A0,n0,c0,tip0,C0,m0,d0,time0,nv0,kv0,e0,hnc0,hcn0,hmd0,hdm0,R0,mx0⟩:=uC (xM h0);obtain rfl:cv0=#[.slice A0 n0 c0,.int .i64 tip0,.slice C0 m0 d0,.int .i64 time0]:=by cases cv0;simpa[Value.cells]using e0
 have hn0:n0≤9223372036854775807:=by unfold maxLen at hcn0;omega
 have hm0:m0≤9223372036854775807:=by unfold maxLen at hdm0;omega
 have hc0:∀v∈kv0,v.n≤9223372036854775807∧v.m≤9223372036854775807:=fun v hv=>by have h1:=mx0 v hv;have h2:=(R0.ci v hv).le;have h3:=(R0.ci v hv).le';unfold maxLen at h1;omega
 obtain⟨cv1,rfl,_⟩:=okWide_struct underlying29 (hval 1 29 v1 rfl rfl);obtain⟨x1,e1,_⟩:=KI (xM h1);obtain rfl:cv1=#[.int .i64 x1.kind,.int .i64 x1.client,.int .i64 x1.n,.int .i64 x1.job,.int .i64 x1.epoch,.int .i64 x1.e.kind,.int .i64 x1.e.job,.int .i64 x1.e.every,.int .i64 x1.e.time,.int .i64 x1.e.client]:=by cases cv1;simpa[Value.cells,dY]using e1
 obtain⟨cv2,rfl,_⟩:=okWide_struct underlying25 (hval 2 25 v2 rfl rfl);obtain⟨A2,n2,c2,tip2,C2,m2,d2,time2,nv2,kv2,e2,_,_,_,_,R2,_⟩:=uC (xM h2);obtain rfl:cv2=#[.slice A2 n2 c2,.int .i64 tip2,.slice C2 m2 d2,.int .i64 time2]:=by cases cv2;simpa[Value.cells]using e2
 clear hA0 hval0;refine(vJ A0 n0 c0 tip0 C0 m0 d0 time0 nv0 kv0 x1 A2 n2 c2 tip2 C2 m2 d2 time2 nv2 kv2 W E hn0 hm0 hc0 R0 R2).mono fun e W' ⟨he,bel⟩=>?_
 subst he;exact⟨_,rfl,_,_,_,[],_,[],hW',trodAll_mk1 (shut_bool underlying4 _),qS (ts:=[25,29,25]) NU bel (by intro t ht;simp only[List.mem_cons,List.not_mem_nil,or_false]at ht;rcases ht with rfl|rfl|rfl<;>exact⟨by kernel_rfl,of_decide_eq_true (by kernel_rfl)⟩) hall,rfl,bel.frame _,fun h=>by cases h⟩
theorem worldDoes_row:Rows.WorldDoesSaid :=
 OpenClaim.holds_of_wide 3 Tryz.f3 rfl rfl rfl rfl rfl rfl rfl ⟨rfl,rfl,rfl,rfl,rfl⟩ rfl rfl rfl rfl rfl (by kernel_rfl) func3 (by kernel_rfl)
  (of_decide_eq_true (by kernel_rfl)) (by unfold Func.isWrapper;first| (rw[if_pos (by decide +kernel)];kernel_rfl)| (rw[if_neg (by decide +kernel)];exact⟨rfl,rfl⟩))
  (fun os started H enc _=>worldDoes_lifted os started H enc)
theorem worldDoes_holds : Rows.WorldDoesCardSaid :=
 Claim7.holds_tied_plain_at .later [] [.data,.data,.data,.data,.sentinel,.sentinel,.pinned] true Rows.worldDoesCard.stood.harness true worldDoes_row (fun _ h=>by cases h) (by kernel_rfl) (fun _ h=>by cases h) worldDoes_row_tie rfl ⟨rfl,rfl⟩ (by kernel_rfl) rfl
  (fun f fn hf hfn=>by
   obtain rfl:f=3:=Option.some.inj ((show prog.funcNamed "carillon/carillonlaw.WorldDoes"=some 3 by kernel_rfl).symm.trans hf)|>.symm
   obtain rfl:fn=Tryz.f3:=(Option.some.inj (func3.symm.trans hfn)).symm
   exact⟨by kernel_rfl,fun j t ht=>by
    rw[params3]at ht;have hm:t∈[25,29,25]:=by simpa using Array.mem_of_getElem? ht
    have hall:([25,29,25].all fun u=>!prog.wantsStandIn u)=true:=by kernel_rfl
    exact(show prog.wantsStandIn t=false by simpa using List.all_eq_true.1 hall t hm)⟩)
  (by kernel_rfl)
end
end Go.Proofs.YtpfkagghooihfaaGreatDoor
