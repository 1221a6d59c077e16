/- Part 36. -/
import Derived.Test.YtpfkagghooihfaaGreatDoorBa30
namespace Go.Proofs.YtpfkagghooihfaaGreatDoor
set_option linter.unusedSimpArgs false
set_option linter.unusedVariables false
set_option maxHeartbeats 8000000
set_option maxRecDepth 100000
open Go.Proofs.Tryz
open Go.RowKit
section
theorem BQ (v:CV)(t:Int)(w:World)(I:v.In w):Calls prog 54 #[.agg (aE v).toArray,t] w (nF w v (fP v.x t)):=by
 obtain⟨q,hq⟩:∃q,q=aP v.x:=⟨_,rfl⟩
 obtain⟨r,hr⟩:∃r,r=fP v.x t:=⟨_,rfl⟩
 obtain⟨g,hg⟩:∃g,g=if q≠0 then q else if t<1∨20<t then 3 else if t≤v.x.epoch then 8 else 0:=⟨_,rfl⟩
 rw[←hr]
 have hr2:r=if g≠0 then(cS,g)else({ v.x with epoch:=t },0):=by
  rw[hr,hg];unfold fP;rw[←hq]
  (repeat' split)<;>simp_all
 have HQ:=aH hq;have HR:=aH hr2;have HG:=aH hg;have F:=yT I;clear hr hr2 hq hg;unfold aE;go_enter func54,ntmps54;go_upto_region 1 with fail
 refine kD (v1:=aE v) (v2:=aE zV) rfl rfl fun w1 on B Q=>?_
 replace I:=I.oe on;generalize hz:w.heap.size=z at B Q⊢;have X:=B.c12;go_wp2_with fail;refine Calls.mono (KR I) ?_;rw[←HQ.out];rintro e w2⟨rfl,b2⟩;clear X;replace on:=on.to b2;replace B:=B.oe b2;replace Q:=Q.oe b2;replace I:=I.oe b2;clear b2;have x0:=B.at_ 0 rfl;go_upto_block 0 with fail
 go_cut [6] (fun s6 wx=>s6=.int .i64 g∧wx=w2)
 case first =>
  go_wp2_with (go_at_call 18;refine Calls.mono (aM _ _ _ _) ?_;rintro e w'⟨rfl,rfl⟩)
  all_goals
   go_meet;refine⟨congrArg _ ?_,rfl⟩;rw[HG.out];clear HG HR HQ;simp only[beq_iff_eq,bne_iff_ne,ne_eq,bne_eq_false_iff_eq,beq_eq_false_iff_ne,Bool.and_eq_true,Bool.and_eq_false_iff,Bool.not_eq_true',Bool.not_eq_false',decide_eq_true_eq,decide_eq_false_iff_not]at *
   (repeat' split)<;>first|omega| (simp_all;done)| (simp_all;omega)
 case rest =>
  obtain⟨rfl,rfl⟩:=hcut;have hr:=HR.out;by_cases h0:g=0
  · subst h0;rw[if_neg (by simp)]at hr;have HR:=aH hr;clear hr HG;have t0:=B.Zy 0;go_upto_region 10 with fail
    clear x0 t0;generalize hw:World.setCell _ _ _=w3;obtain⟨B,Q,I,on⟩:=sV B Q I (F.out _ (by omega)) on (by omega) (by omega) 0 ([t]) hw (vs':=aE ⟨{ v.x with epoch:=t },v.A,v.n,v.c,v.G,v.m,v.d⟩) rfl (by simp[aE,bA]);have X:=B.c12;go_wp2_with (refine rH Q B ?_)
    exact qE results54 rfl rfl rfl Q rfl I F on (by omega) HR.out
  rw[if_pos h0]at hr;have hd:(g !=0)=true:=by simpa using h0
  have HR:=aH hr;clear hr HG;go_wp2_with (refine iJ Q ?_)
  exact lZ results54 rfl rfl rfl Q rfl on (by omega) HR.out
def LI (b:Bool)(c:eB)(t:Int):eB×Int:=if b=true then jC c t else eU c t
theorem sQ (v:CV)(t:Int)(b:Bool)(w:World)(I:v.In w):Calls prog 57 #[.agg (aE v).toArray,t,.bool b] w (nF w v (LI b v.x t)):=by
 obtain⟨q,hq⟩:∃q,q=aP v.x:=⟨_,rfl⟩
 obtain⟨r,hr⟩:∃r,r=LI b v.x t:=⟨_,rfl⟩
 obtain⟨g,hg⟩:∃g,g=if q≠0 then q else if(b=true∧v.x.doing≠0)∨(b=false∧v.x.doing≠1)then 7 else if t<0∨60≤t then 5 else 0:=⟨_,rfl⟩
 rw[←hr]
 have hr2:r=if g≠0 then(cS,g)else({ v.x with doing:=2,at_:=t },0):=by
  rw[hr,hg];unfold LI jC eU dP;rw[←hq]
  (repeat' split)<;>simp_all
 have HQ:=aH hq;have HR:=aH hr2;have HG:=aH hg;have F:=yT I;clear hr hr2 hq hg;unfold aE;go_enter func57,ntmps57;go_upto_region 1 with fail
 refine kD (v1:=aE v) (v2:=aE zV) rfl rfl fun w1 on B Q=>?_
 replace I:=I.oe on;generalize hz:w.heap.size=z at B Q⊢;have X:=B.c12;go_wp2_with fail;refine Calls.mono (KR I) ?_;rw[←HQ.out];rintro e w2⟨rfl,b2⟩;clear X;replace on:=on.to b2;replace B:=B.oe b2;replace Q:=Q.oe b2;replace I:=I.oe b2;clear b2;have x1:=B.at_ 1 rfl;go_upto_block 0 with fail
 go_cut [2,8] (fun s2 s8 wx=>s2=.bool b∧s8=.int .i64 g∧wx=w2)
 case first =>
  go_wp2_with (go_at_call 18;refine Calls.mono (aM _ _ _ _) ?_;rintro e w'⟨rfl,rfl⟩)
  all_goals
   go_meet;refine⟨by simp_all,congrArg _ ?_,rfl⟩;rw[HG.out];clear HG HR HQ;simp only[beq_iff_eq,bne_iff_ne,ne_eq,bne_eq_false_iff_eq,beq_eq_false_iff_ne,Bool.and_eq_true,Bool.and_eq_false_iff,Bool.not_eq_true',Bool.not_eq_false',decide_eq_true_eq,decide_eq_false_iff_not]at *
   (repeat' split)<;>first|omega| (simp_all;done)| (simp_all;omega)
 case rest =>
  obtain⟨rfl,rfl,rfl⟩:=hcut;have hr:=HR.out;by_cases h0:g=0
  · subst h0;rw[if_neg (by simp)]at hr;have HR:=aH hr;clear hr HG;have t1:=B.Zy 1;have x3:=B.at_ 3 rfl;have t3:=B.Zy 7;have x7:=B.at_ 7 rfl;go_upto_region 11 with fail
    clear x1 t1 t3 x3 x7;obtain⟨B,Q,I,on⟩:=sV B Q I (F.out _ (by omega)) on (by omega) (by omega) 1 ([(2:Int)]) rfl (vs':=aE ⟨{ v.x with doing:=2 },v.A,v.n,v.c,v.G,v.m,v.d⟩) rfl (by simp[aE,bA]);generalize hw:World.setCell _ _ _=w3;obtain⟨B,Q,I,on⟩:=sV B Q I (F.out _ (by omega)) on (by omega) (by omega) 7 ([t]) hw (vs':=aE ⟨{ v.x with doing:=2,at_:=t },v.A,v.n,v.c,v.G,v.m,v.d⟩) rfl (by simp[aE,bA]);have X:=B.c12;go_wp2_with (refine rH Q B ?_)
    exact qE results57 rfl rfl rfl Q rfl I F on (by omega) HR.out
  rw[if_pos h0]at hr;have hd:(g !=0)=true:=by simpa using h0
  have HR:=aH hr;clear hr HG;go_wp2_with (refine iJ Q ?_)
  exact lZ results57 rfl rfl rfl Q rfl on (by omega) HR.out
theorem tV (v:CV)(y:aL)(w:World)(I:v.In w):Calls prog 55 #[.agg (aE v).toArray,.agg (bA y).toArray] w (nF w v (fI v.x y)):=by
 obtain⟨q,hq⟩:∃q,q=aP v.x:=⟨_,rfl⟩
 obtain⟨r,hr⟩:∃r,r=fI v.x y:=⟨_,rfl⟩
 obtain⟨ey,hey⟩:∃e,e=aG y:=⟨_,rfl⟩
 have HE:=aH hey;obtain⟨g,hg⟩:∃g,g=if q≠0 then q else if v.x.doing≠0 then 7 else if ey≠0 then ey else if y.kind=0 then 4 else 0:=⟨_,rfl⟩
 rw[←hr]
 have hr2:r=if g≠0 then(cS,g)else({ v.x with doing:=1,e:=y },0):=by
  rw[hr,hg];unfold fI dP;rw[←hq,←hey]
  (repeat' split)<;>simp_all
 have HQ:=aH hq;have HR:=aH hr2;have HG:=aH hg;have F:=yT I;clear hr hr2 hq hg hey;unfold aE bA;go_enter func55,ntmps55;go_upto_region 1 with fail
 refine fY (v1:=aE v) (v2:=bA y) (v3:=aE zV) rfl rfl rfl fun w1 on B Y Q=>?_
 replace I:=I.oe on;generalize hz:w.heap.size=z at B Q Y⊢;have X:=B.c12;go_wp2_with fail;refine Calls.mono (KR I) ?_;rw[←HQ.out];rintro e w2⟨rfl,b2⟩;clear X;replace on:=on.to b2;replace B:=B.oe b2;replace Q:=Q.oe b2;replace I:=I.oe b2;replace Y:=Y.oe b2;clear b2;have x1:=B.at_ 1 rfl;have Z:=Y.c5;have oo:=aA.Zz w2;go_upto_block 0 with fail
 go_cut [6] (fun s6 wx=>s6=.int .i64 g∧aA w2 wx)
 case first =>
  go_wp2_with (go_at_call 74;refine Calls.mono (eT y.kind y.job y.every y.time y.client _) ?_;rw[show aG ⟨y.kind,y.job,y.every,y.time,y.client⟩=ey from HE.out.symm];rintro e w3⟨rfl,b3⟩;replace Y:=Y.oe b3;replace oo:=oo.to b3;clear b3;have Z:=Y.c5)
  all_goals
   go_meet;refine⟨congrArg _ ?_,oo⟩;rw[HG.out];clear HG HR HQ;simp only[beq_iff_eq,bne_iff_ne,ne_eq,bne_eq_false_iff_eq,beq_eq_false_iff_ne,Bool.and_eq_true,Bool.and_eq_false_iff,Bool.not_eq_true',Bool.not_eq_false',decide_eq_true_eq,decide_eq_false_iff_not]at *
   (repeat' split)<;>first|omega| (simp_all;done)| (simp_all;omega)
 case rest =>
  obtain⟨rfl,b2⟩:=hcut;replace on:=on.to b2;replace B:=B.oe b2;replace Q:=Q.oe b2;replace I:=I.oe b2;replace Y:=Y.oe b2;clear b2 x1 Z oo;have hr:=HR.out;by_cases h0:g=0
  · subst h0;rw[if_neg (by simp)]at hr;have HR:=aH hr;clear hr HG;have t1:=B.Zy 1;have t2:=B.Zy 2;have t3:=B.Zy 3;have t4:=B.Zy 4;have t5:=B.Zy 5;have t6:=B.Zy 6;have X:=B.c12;have Z:=Y.c5;go_upto_region 11 with fail
    go_region;generalize hw:World.drew _=w3;obtain⟨B,Q,I,on⟩:=OW B Q I (F.out _ (by omega)) on (by omega) (by omega) 1 (.int .i64 1 ::bA y) hw (vs':=aE ⟨{ v.x with doing:=1,e:=y },v.A,v.n,v.c,v.G,v.m,v.d⟩) rfl (by simp[aE,bA]);have X:=B.c12;go_wp2_with (refine rH Q B ?_)
    exact qE results55 rfl rfl rfl Q rfl I F on (by omega) HR.out
  rw[if_pos h0]at hr;have hd:(g !=0)=true:=by simpa using h0
  have HR:=aH hr;clear hr HG;go_wp2_with (refine iJ Q ?_)
  exact lZ results55 rfl rfl rfl Q rfl on (by omega) HR.out
theorem FB (v:CV)(y:aL)(w:World)(I:v.In w):Calls prog 59 #[.agg (aE v).toArray,.agg (bA y).toArray] w (nF w v (iP v.x y)):=by
 obtain⟨q,hq⟩:∃q,q=aP v.x:=⟨_,rfl⟩
 obtain⟨r,hr⟩:∃r,r=iP v.x y:=⟨_,rfl⟩
 obtain⟨ap,hap⟩:∃e,e=eR v.x.b y:=⟨_,rfl⟩
 have HA:=aH hap;obtain⟨g,hg⟩:∃g,g=if q≠0 then q else if v.x.played=60 then 2 else ap.2:=⟨_,rfl⟩
 rw[←hr]
 have hr2:r=if g≠0 then(cS,g)else({ v.x with played:=v.x.played+1,b:=ap.1 },0):=by
  rw[hr,hg];unfold iP;rw[←hq,←hap]
  (repeat' split)<;>simp_all
 have HQ:=aH hq;have HR:=aH hr2;have HG:=aH hg;have F:=yT I;clear hr hr2 hq hg hap;unfold aE bA;go_enter func59,ntmps59;go_upto_region 1 with fail
 refine fY (v1:=aE v) (v2:=bA y) (v3:=aE zV) rfl rfl rfl fun w1 on B Y Q=>?_
 replace I:=I.oe on;generalize hz:w.heap.size=z at B Q Y⊢;have X:=B.c12;go_wp2_with fail;refine Calls.mono (KR I) ?_;rw[←HQ.out];rintro e w2⟨rfl,b2⟩;clear X;replace on:=on.to b2;replace B:=B.oe b2;replace Q:=Q.oe b2;replace I:=I.oe b2;replace Y:=Y.oe b2;clear b2;have X:=B.c12;have Z:=Y.c5;go_wp2_with (refine iJ Q ?_)
 rotate_left 2
 · refine Calls.mono (xK v.A v.G v.n v.c v.m v.d v.x.b y _ I.1 I.2) ?_;rw[←HA.out];rintro e w3⟨A1,n1,c1,A2,n2,c2,rfl,s1,s2,b3,f1,f2,k1,k2⟩;have hq0:q=0:=by simp_all
   have hp0:v.x.played≠60:=by simp_all
   have hpl:=oN (HQ.out.symm.trans hq0);have hr:=HR.out;have hg:=HG.out;rw[if_neg (by omega),if_neg hp0]at hg;rw[hg]at hr;have hwp:IntKind.i64.wrap (v.x.played+1)=v.x.played+1:=by rw[IntKind.wrap_i64];omega
   have J:CV.In w3 ⟨{ v.x with played:=v.x.played+1,b:=ap.1 },A1,n1,c1,A2,n2,c2⟩:=⟨s1,s2,k1,k2⟩
   have G:Hid (∀z,z<w2.heap.size→CV.off z ⟨{ v.x with played:=v.x.played+1,b:=ap.1 },A1,n1,c1,A2,n2,c2⟩):=aH fun z hz=>⟨f1.Zx hz,f2.Zx hz⟩
   have hzl:=B.lt;have hql:=Q.lt;have hsz:=on.size;replace on:=on.to b3;replace B:=B.oe b3;replace Q:=Q.oe b3;have HR':=aH hr;clear X Z s1 s2 f1 f2 k1 k2 hg hr HR HG I F;go_upto_region 7 with fail
   refine aW (v1:=[.slice A1 n1 c1,.slice A2 n2 c2]) rfl fun w4 ob V=>?_
   replace J:=J.oe ob;replace on:=on.to ob;replace B:=B.oe ob;replace Q:=Q.oe ob;generalize w3.heap.size=zv at V⊢;have X:=B.c12;obtain⟨u0,u1⟩:=V.p2;have t9:=B.Zy 9;have t10:=B.Zy 10;have t11:=B.Zy 11;clear b3 ob;have hr:=HR'.out;by_cases ha:ap.2=0
   · rw[if_neg (by omega)]at hr;have hd:(ap.2 !=0)=false:=by simp[ha]
     have HR:=aH hr;clear hr ha HR';go_upto_region 9 with fail
     go_region;generalize hw:World.drew _=w5;obtain⟨B,Q,J,on⟩:=OW B Q J (G.out z hzl) on (by omega) (by omega) 9 [(v.x.played+1:Int),.slice A1 n1 c1,.slice A2 n2 c2] hw (vs':=aE ⟨{ v.x with played:=v.x.played+1,b:=ap.1 },A1,n1,c1,A2,n2,c2⟩) rfl (by simp[aE]);clear X t9 t10 t11;have X:=B.c12;go_wp2_with (refine rH Q B ?_)
     exact AT (u:=⟨{ v.x with played:=v.x.played+1,b:=ap.1 },A1,n1,c1,A2,n2,c2⟩) results59 rfl rfl rfl Q rfl J (G.out _ hql) on (by omega) HR.out fun z hz _=>G.out z (by omega)
   rw[if_pos ha]at hr;have hd:(ap.2 !=0)=true:=by simp[ha]
   have HR:=aH hr;clear hr ha HR' t9 t10 t11 X;go_wp2_with (refine iJ Q ?_)
   exact lZ results59 rfl rfl rfl Q rfl on (by omega) HR.out
 · exact lZ results59 rfl rfl rfl Q rfl on (by omega) (by rw[HR.out,HG.out];simp_all)
 exact lZ results59 rfl rfl rfl Q rfl on (by omega) (by rw[HR.out,HG.out];simp_all)
theorem EQ (v:CV)(y:aL)(w:World)(I:v.In w):Calls prog 61 #[.agg (aE v).toArray,.agg (bA y).toArray] w (nF w v (cZ v.x y)):=by
 obtain⟨q,hq⟩:∃q,q=aP v.x:=⟨_,rfl⟩
 obtain⟨r,hr⟩:∃r,r=cZ v.x y:=⟨_,rfl⟩
 obtain⟨ey,hey⟩:∃e,e=aG y:=⟨_,rfl⟩
 have HE:=aH hey;obtain⟨g,hg⟩:∃g,g=if q≠0 then q else if ey≠0 then ey else if v.x.doing≠2 then 7 else 0:=⟨_,rfl⟩
 rw[←hr]
 have hr2:r=if g≠0 then(cS,g)else if y≠v.x.e∧v.x.e.kind≠0 then(⟨v.x.epoch,1,v.x.e,0,0,v.x.played,v.x.b⟩,0)else if v.x.link+1=3 then(⟨v.x.epoch,0,bP,0,0,v.x.played,v.x.b⟩,0)else({ v.x with e:=y,link:=v.x.link+1 },0):=by
  rw[hr,hg];unfold cZ;rw[←hq,←hey]
  (repeat' split)<;>simp_all
 have HQ:=aH hq;have HR:=aH hr2;have HG:=aH hg;have F:=yT I;clear hr hr2 hq hg hey;unfold aE bA;go_enter func61,ntmps61;go_upto_region 1 with fail
 refine fY (v1:=aE v) (v2:=bA y) (v3:=aE zV) rfl rfl rfl fun w1 on B Y Q=>?_
 replace I:=I.oe on;generalize hz:w.heap.size=z at B Q Y⊢;have X:=B.c12;go_wp2_with fail;refine Calls.mono (KR I) ?_;rw[←HQ.out];rintro e w2⟨rfl,b2⟩;clear X;replace on:=on.to b2;replace B:=B.oe b2;replace Q:=Q.oe b2;replace I:=I.oe b2;replace Y:=Y.oe b2;clear b2;have x1:=B.at_ 1 rfl;have Z:=Y.c5;have oo:=aA.Zz w2;go_upto_block 0 with fail
 go_cut [6] (fun s6 wx=>s6=.int .i64 g∧aA w2 wx)
 case first =>
  go_wp2_with (go_at_call 74;refine Calls.mono (eT y.kind y.job y.every y.time y.client _) ?_;rw[show aG ⟨y.kind,y.job,y.every,y.time,y.client⟩=ey from HE.out.symm];rintro e w3⟨rfl,b3⟩;replace Y:=Y.oe b3;replace B:=B.oe b3;replace oo:=oo.to b3;clear b3 x1;have Z:=Y.c5;have x1:=B.at_ 1 rfl)
  all_goals
   go_meet;refine⟨congrArg _ ?_,oo⟩;rw[HG.out];clear HG HR HQ;simp only[beq_iff_eq,bne_iff_ne,ne_eq,bne_eq_false_iff_eq,beq_eq_false_iff_ne,Bool.and_eq_true,Bool.and_eq_false_iff,Bool.not_eq_true',Bool.not_eq_false',decide_eq_true_eq,decide_eq_false_iff_not]at *
   (repeat' split)<;>first|omega| (simp_all;done)| (simp_all;omega)
 case rest =>
  obtain⟨rfl,b2⟩:=hcut;replace on:=on.to b2;replace B:=B.oe b2;replace Q:=Q.oe b2;replace I:=I.oe b2;replace Y:=Y.oe b2;clear b2 x1 Z oo;have hr:=HR.out;by_cases h0:g=0
  · subst h0;rw[if_neg (by simp)]at hr;have HR:=aH hr;have hl:=sH (HQ.out.symm.trans (Decidable.byContradiction fun h=>h ((HG.out.trans (if_pos h)).symm)));clear hr HG;have X:=B.c12;have Z:=Y.c5;have hr:=HR.out;have hne:=MP v.x.e y;by_cases h1:y≠v.x.e∧v.x.e.kind≠0
    · rw[if_pos h1]at hr;have HR:=aH hr;have hk:(v.x.e.kind !=0)=true:=by simpa using h1.2
      rw[decide_eq_true (Ne.symm h1.1)]at hne;clear hr h1;go_wp2_with (refine oK ⟨⟨v.x.epoch,1,v.x.e,0,0,v.x.played,v.x.b⟩,v.A,v.n,v.c,v.G,v.m,v.d⟩ Q ?_)
      exact qE results61 rfl rfl rfl Q rfl I F on (by omega) HR.out
    rw[if_neg h1]at hr
    have hkk:(v.x.e.kind !=0)=false∨((v.x.e.kind !=0)=true∧decide (v.x.e≠y)=false):=by
     by_cases h:v.x.e.kind=0
     · exact .inl (by simp[h])
     exact .inr ⟨by simp[h],by rw[decide_eq_false_iff_not];exact fun h'=>h1 ⟨Ne.symm h',h⟩⟩
    clear h1;by_cases h2:v.x.link+1=3
    · rw[if_pos h2]at hr;have hk2:(v.x.link ==2)=true:=by simp;omega
      have HR:=aH hr;clear hr h2 hl;rcases hkk with hk| ⟨hk,hn⟩
      all_goals
       try rw[hn]at hne
       go_wp2_with (refine oK ⟨⟨v.x.epoch,0,bP,0,0,v.x.played,v.x.b⟩,v.A,v.n,v.c,v.G,v.m,v.d⟩ Q ?_)
       exact qE results61 rfl rfl rfl Q rfl I F on (by omega) HR.out
    rw[if_neg h2]at hr;have hk2:(v.x.link ==2)=false:=by simp;omega
    have hwp:IntKind.i64.wrap (v.x.link+1)=v.x.link+1:=by rw[IntKind.wrap_i64];omega
    have HR:=aH hr;have t2:=B.Zy 2;have t3:=B.Zy 3;have t4:=B.Zy 4;have t5:=B.Zy 5;have t6:=B.Zy 6;have t8:=B.Zy 8;clear hr h2 hl;rcases hkk with hk| ⟨hk,hn⟩
    all_goals
     try rw[hn]at hne
     go_upto_region 15 with fail
     clear X t2 t3 t4 t5 t6 t8;generalize hw:World.setCell _ _ _=w3;obtain⟨B,Q,I,on⟩:=sV B Q I (F.out _ (by omega)) on (by omega) (by omega) 2 (bA y) rfl (vs':=aE ⟨{ v.x with e:=y },v.A,v.n,v.c,v.G,v.m,v.d⟩) rfl (by simp[aE,bA]);obtain⟨B,Q,I,on⟩:=sV B Q I (F.out _ (by omega)) on (by omega) (by omega) 8 ([(v.x.link+1:Int)]) hw (vs':=aE ⟨{ v.x with e:=y,link:=v.x.link+1 },v.A,v.n,v.c,v.G,v.m,v.d⟩) rfl (by simp[aE,bA]);have X:=B.c12;go_wp2_with (refine rH Q B ?_)
     exact qE results61 rfl rfl rfl Q rfl I F on (by omega) HR.out
  rw[if_pos h0]at hr;have hd:(g !=0)=true:=by simpa using h0
  have HR:=aH hr;clear hr HG;go_wp2_with (refine iJ Q ?_)
  exact lZ results61 rfl rfl rfl Q rfl on (by omega) HR.out
end
section
attribute [local go_sem ↓] jH
attribute [local go_sem] MJ
theorem CX (v:CV)(me job t:Int)(w:World)(I:v.In w):Calls prog 56 #[.agg (aE v).toArray,me,job,t] w (nF w v (iQ v.x me job t)):=by
 obtain⟨q,hq⟩:∃q,q=aP v.x:=⟨_,rfl⟩
 obtain⟨r,hr⟩:∃r,r=iQ v.x me job t:=⟨_,rfl⟩
 obtain⟨g,hg⟩:∃g,g=if q≠0 then q else if v.x.doing≠0 then 7 else if t<0∨100000<t then 3 else 0:=⟨_,rfl⟩
 rw[←hr]
 have hr2:r=if g≠0 then(cS,g)else nX v.x me job t:=by
  rw[hr,hg];unfold iQ;rw[←hq]
  (repeat' split)<;>simp_all
 have HQ:=aH hq;have HR:=aH hr2;have HG:=aH hg;have F:=yT I;clear hr hr2 hq hg;unfold aE;go_enter func56,ntmps56;go_upto_region 1 with fail
 refine kD (v1:=aE v) (v2:=aE zV) rfl rfl fun w1 on B Q=>?_
 replace I:=I.oe on;generalize hz:w.heap.size=z at B Q⊢;have X:=B.c12;go_wp2_with fail;refine Calls.mono (KR I) ?_;rw[←HQ.out];rintro e w2⟨rfl,b2⟩;clear X;replace on:=on.to b2;replace B:=B.oe b2;replace Q:=Q.oe b2;replace I:=I.oe b2;clear b2;have x1:=B.at_ 1 rfl;go_upto_block 0 with fail
 go_cut [10] (fun s10 wx=>s10=.int .i64 g∧wx=w2)
 case first =>
  go_wp2_with (go_at_call 18;refine Calls.mono (aM _ _ _ _) ?_;rintro e w'⟨rfl,rfl⟩)
  all_goals
   go_meet;refine⟨congrArg _ ?_,rfl⟩;rw[HG.out];clear HG HR HQ;simp only[beq_iff_eq,bne_iff_ne,ne_eq,bne_eq_false_iff_eq,beq_eq_false_iff_ne,Bool.and_eq_true,Bool.and_eq_false_iff,Bool.not_eq_true',Bool.not_eq_false',decide_eq_true_eq,decide_eq_false_iff_not]at *
   (repeat' split)<;>first|omega| (simp_all;done)| (simp_all;omega)
 case rest =>
  obtain⟨rfl,rfl⟩:=hcut;have hr:=HR.out;by_cases h0:g=0
  · subst h0;rw[if_neg (by simp)]at hr;have HR:=aH hr;have hgb:=fZ (HQ.out.symm.trans (Decidable.byContradiction fun h=>h ((HG.out.trans (if_pos h)).symm)));clear hr HG;have X:=B.c12;have hr:=HR.out;have hn:v.n≤9223372036854775807:=by have h1:=I.jobs.len;have h2:=hgb.nj;rw[List.length_map]at h1;omega
    go_upto_region 9 with fail
    go_wp2_with fail;refine Calls.mono (AB v.A v.G v.n v.c v.m v.d v.x.b job _ I.jobs hn) ?_;rcases wJ (fun j=>decide (j.id=job)) v.x.b.jobs with ⟨hi,hno⟩| ⟨i,x,hi,hx,hp,hlt⟩
    · obtain⟨k,hk⟩:∃k,k=dZ v.x.b job:=⟨_,rfl⟩
      have hk0:k<0:=by rw[hk,show dZ v.x.b job=-1 from hi];decide
      rw[←hk];rintro e w3⟨rfl,b2⟩;clear hk hi;replace on:=on.to b2;replace B:=B.oe b2;replace Q:=Q.oe b2;have HR:=aH (hr.trans (KB hno));clear hr b2 X I;go_upto_region 11 with fail
      go_wp2_with (refine iJ Q ?_)
      exact lZ results56 rfl rfl rfl Q rfl on (by omega) HR.out
    have hin:i<v.n:=by have h1:=I.jobs.len;have h2:=(List.getElem?_eq_some_iff.1 hx).1;rw[List.length_map]at h1;omega
    rw[show dZ v.x.b job=i from hi];rintro e w3⟨rfl,b2⟩;rw[JV hx hp hlt]at hr;replace on:=on.to b2;replace B:=B.oe b2;replace Q:=Q.oe b2;replace I:=I.oe b2;obtain⟨bb,off,x',hA,hbb,hx',d0,d1,d2⟩:=I.jobs.atJ hin;obtain rfl:x=x':=by rw[hx]at hx';injection hx'
    have hiz:¬ (i:Int)<0:=by omega
    have hcI:(i:Int)<(v.n:Int):=by omega
    have HA:=aH hA;clear X b2 hx' hx hp hlt hi hbb d0 d1 hin;by_cases hle:x.next≤t
    · rw[if_pos hle]at hr;have hd4:¬t<x.next:=by omega
      have HR:=aH hr;clear hr hle;have hX:∀j u,(aE v)[j]?=some u→∀w',aK w3 w' (z+1)→w'.cell? ⟨z,j,none⟩=some u:=fun j u hu w' h=>(B.grown h (by simp)).at_ j hu
      have hbz:bb≠z+1:=(F.out (z+1) (by omega)).a (by omega) _ HA.out;have h0:=hX 0 _ rfl;have h1:=hX 1 _ rfl;have h2:=hX 2 _ rfl;have h3:=hX 3 _ rfl;have h4:=hX 4 _ rfl;have h5:=hX 5 _ rfl;have h6:=hX 6 _ rfl;have h7:=hX 7 _ rfl;have h8:=hX 8 _ rfl;have h9:=hX 9 _ rfl;have h10:=hX 10 _ rfl;have h11:=hX 11 _ rfl;have hd2:∀w',aK w3 w' (z+1)→w'.cell? ⟨bb,off+i*3+2,none⟩=some (.int .i64 x.next):=fun w' h=>aD h d2 (by simpa using hbz)
      rw[hA]at h10;have I':CV.In w3 ⟨v.x,some ⟨bb,off,none⟩,v.n,v.c,v.G,v.m,v.d⟩:=by rw[←hA];exact I
      clear hX;have X:=B.c12;rw[hA]at X;go_wp2_with fail;clear X d2
      go_region_held3 (fun w'=>aK w3 w' (z+1))
       (((with_reducible(repeat(first|exact aK.Zz _ _|exact tb|refine aK.Zw ?_|refine aK.oe ?_ ((aA.Zz _).draw))));done))
       (first
       | (go_at_call 55;refine Calls.mono (tV ⟨v.x,some ⟨bb,off,none⟩,v.n,v.c,v.G,v.m,v.d⟩ ⟨3,job,0,x.next,me⟩ _ (I'.oe (by with_reducible(first|exact aA.Zz _|exact(aA.Zz _).draw)))) ?_;rintro e w4⟨u,hu,rfl,J,oc,nr⟩;have ob:aA w3 w4:=aA.to (by with_reducible(first|exact aA.Zz _|exact(aA.Zz _).draw)) oc;have tb:=aK.of ob (z+1);have th1:w4.there (z+1) 0 12:=(Q.oe ob).there (by simp[aE]);have th2:w4.drew.there (z+1) 0 12:=(Q.oe ob.draw).there (by simp[aE]))
       |fail)
      go_wp2_with fail;have hql:=Q.lt;have hsz:=on.size;have ho:∀y,v.off y→CV.off y ⟨v.x,some ⟨bb,off,none⟩,v.n,v.c,v.G,v.m,v.d⟩:=fun y h=>⟨HA.out▸h.1,h.2⟩
      exact AT (u:=u) results56 rfl rfl rfl (Q.oe ob) rfl J (nr _ hql (ho _ (F.out _ (by omega)))) (on.to ob) (by omega) (by rw[HR.out,hu]) fun y h1 h2=>nr y (Nat.lt_of_lt_of_le h1 hsz) (ho y h2)
    rw[if_neg hle]at hr;have hd4:t<x.next:=by omega
    have HR:=aH hr;clear hr hle;have X:=B.c12;rw[hA]at X;go_upto_region 11 with fail
    go_wp2_with (refine iJ Q ?_)
    exact lZ results56 rfl rfl rfl Q rfl on (by omega) HR.out
  rw[if_pos h0]at hr;have hd:(g !=0)=true:=by simpa using h0
  have HR:=aH hr;clear hr HG;go_wp2_with (refine iJ Q ?_)
  exact lZ results56 rfl rfl rfl Q rfl on (by omega) HR.out
end
end Go.Proofs.YtpfkagghooihfaaGreatDoor
