/- Part 20. -/
import Derived.Test.YtpfkagghooihfaaGreatDoorBa16
import Derived.Test.YtpfkagghooihfaaGreatDoorBa12
namespace Go.Proofs.YtpfkagghooihfaaGreatDoor
set_option linter.unusedSimpArgs false
set_option linter.unusedVariables false
set_option maxHeartbeats 8000000
set_option maxRecDepth 100000
open Go.Proofs.Tryz
open Go.RowKit
section
theorem gU (v:CV)(w:World)(I:v.In w)(hn:v.n≤1000000)(hm:v.m≤1000000):Calls prog 66 #[.agg (aE v).toArray] w fun e w'=>∃A1 c1 A2 c2,e=.returned (.agg (aE ⟨v.x,A1,v.n,c1,A2,v.m,c2⟩).toArray)∧CV.In w' ⟨v.x,A1,v.n,c1,A2,v.m,c2⟩∧aA w w'∧CV.fresh w.heap.size ⟨v.x,A1,v.n,c1,A2,v.m,c2⟩:=by
 unfold aE;go_enter func66,ntmps66;go_upto_region 1 with fail
 refine kD (v1:=aE v) (v2:=aE zV) rfl rfl fun w1 on B Q=>?_
 generalize hz:w.heap.size=z at B Q⊢;have X:=B.c12;go_wp2_with fail;refine Calls.mono (tX v.A v.G v.n v.c v.m v.d _ v.x.b.jobs v.x.b.rung _ (I.oe on).jobs (I.oe on).rung (Nat.le_refl _) hn hm) ?_;rintro e w2⟨A1,c1,A2,c2,rfl,own1,own2,ob⟩;have J:CV.In w2 ⟨v.x,A1,v.n,c1,A2,v.m,c2⟩:=⟨own1.sl,own2.sl,own1.Zs,own2.Zs⟩
 have F:∀y,y<w1.heap.size→CV.off y ⟨v.x,A1,v.n,c1,A2,v.m,c2⟩:=fun y hy=>⟨(own1.fresh (Nat.le_refl _)).Zx hy,(own2.fresh (Nat.le_refl _)).Zx hy⟩
 have G:CV.fresh z ⟨v.x,A1,v.n,c1,A2,v.m,c2⟩:=⟨fun a e=>Nat.le_trans (by have:=on.size;omega) (own1.fresh (Nat.le_refl _) a e),fun a e=>Nat.le_trans (by have:=on.size;omega) (own2.fresh (Nat.le_refl _) a e)⟩
 have hzl:=B.lt;have hql:=Q.lt;replace ob:aA w1 w2:=ob;replace B:=B.oe ob;replace Q:=Q.oe ob;replace on:=on.to ob;have f:=B.Zy;clear own1 own2 ob X;have X:=B.c12;go_upto_region 2 with fail
 clear f;generalize hw:World.setCell (World.setCell _ _ _) _ _=w3;obtain⟨B,Q,J,on⟩:=sV B Q J (F z hzl) on (by omega) (by omega) 10 [.slice A1 v.n c1,.slice A2 v.m c2] hw (vs':=aE ⟨v.x,A1,v.n,c1,A2,v.m,c2⟩) rfl (by simp[aE]);clear X;have X:=B.c12;go_wp2_with (refine rH Q B ?_)
 have P:=Q.put (us:=aE ⟨v.x,A1,v.n,c1,A2,v.m,c2⟩) rfl;have J2:=J.Zw (o:=0) (us:=aE ⟨v.x,A1,v.n,c1,A2,v.m,c2⟩) (F _ hql);have on2:aA w (w3.setCells (z+1) 0 (aE ⟨v.x,A1,v.n,c1,A2,v.m,c2⟩)):=cJ (by omega) on;generalize World.setCells w3 (z+1) 0 _=w5 at *;have Y:=P.c12;refine bodyPost_ret (v:=.agg (aE ⟨v.x,A1,v.n,c1,A2,v.m,c2⟩).toArray) (by simp[results,results66,go_sem,Y,aE]) rfl ⟨A1,c1,A2,c2,rfl,J2,on2,G⟩
theorem DI (v:CV)(w:World)(I:v.In w):Calls prog 33 #[.agg (aE v).toArray] w fun e w'=>e=.returned (.int .i64 (aP v.x))∧aA w w' :=
 qP _ _ _ _ _ _ _ _ _ _ _ _ _ _ I.jobs I.rung
theorem lY (v:CV)(w:World)(I:v.In w):Calls prog 128 #[.agg (aE v).toArray] w fun e w'=>e=.returned (.int .i64 (dP v.x))∧aA w w':=by
 obtain⟨q,hq⟩:∃q,q=aP v.x:=⟨_,rfl⟩
 obtain⟨r,hr⟩:∃r,r=dP v.x:=⟨_,rfl⟩
 rw[←hr];unfold dP at hr;rw[←hq]at hr;have HQ:=aH hq;have HR:=aH hr;clear hq hr;unfold aE;go_enter func128,ntmps128;go_upto_region 1 with fail
 refine aW (v1:=aE v) rfl fun w1 on B=>?_
 generalize hz:w.heap.size=z at B⊢;have X:=B.c12;go_wp2_with fail;refine Calls.mono (DI v _ (I.oe on)) ?_;rw[←HQ.out];rintro e w2⟨rfl,ob⟩;replace B:=B.oe ob;replace on:=on.to ob;clear X ob;have x1:=B.at_ 1 rfl;have hr:=HR.out;by_cases h0:q≠0
 · rw[if_pos h0]at hr;have hd:(q !=0)=true:=by simpa using h0
   go_wp2_with fail;go_ret;exact⟨aO (by rw[hr]),on⟩
 rw[if_neg h0]at hr;have hd:(q !=0)=false:=by simpa using h0
 by_cases h1:v.x.doing≠0
 · rw[if_pos h1]at hr;have hd2:(v.x.doing !=0)=true:=by simpa using h1
   have HR:=aH hr;clear hr;go_wp2_with fail;go_ret;exact⟨aO (by rw[HR.out]),on⟩
 rw[if_neg h1]at hr;have hd2:(v.x.doing !=0)=false:=by simpa using h1
 have HR:=aH hr;clear hr h1;go_wp2_with fail;go_ret;exact⟨aO (by rw[HR.out]),on⟩
theorem yE (v:CV)(t:Int)(w:World)(I:v.In w):Calls prog 100 #[.agg (aE v).toArray,t] w (oZ w (eU v.x t)):=by
 obtain⟨q,hq⟩:∃q,q=aP v.x:=⟨_,rfl⟩
 obtain⟨r,hr⟩:∃r,r=eU v.x t:=⟨_,rfl⟩
 rw[←hr];unfold eU at hr;rw[←hq]at hr;have HQ:=aH hq;clear hq;unfold aE;go_enter func100,ntmps100;go_upto_region 1 with fail
 refine kD (v1:=aE v) (v2:=aE zV) rfl rfl fun w1 on B Q=>?_
 generalize hz:w.heap.size=z at B Q⊢;have X:=B.c12;have HR:=aH hr;clear hr;go_wp2_with fail;refine Calls.mono (DI v _ (I.oe on)) ?_;rw[←HQ.out];rintro e w2⟨rfl,ob⟩;replace on:=on.to ob;replace B:=B.oe ob;replace Q:=Q.oe ob;clear ob X;have hr:=HR.out;clear HR;have X:=B.c12;by_cases h0:q≠0
 · rw[if_pos h0]at hr;have HR:=aH hr;have hd:(q !=0)=true:=by simpa using h0
   clear hr h0;go_wp2_with (refine iJ Q ?_)
   exact eI results100 rfl rfl rfl Q rfl on (by omega) HR.out
 rw[if_neg h0]at hr;have hd:(q !=0)=false:=by simpa using h0
 by_cases h0:v.x.doing≠1
 · rw[if_pos h0]at hr;have HR:=aH hr;have hd1:(v.x.doing !=1)=true:=by simpa using h0
   clear hr h0;go_wp2_with (refine iJ Q ?_)
   exact eI results100 rfl rfl rfl Q rfl on (by omega) HR.out
 rw[if_neg h0]at hr;have hd1:(v.x.doing !=1)=false:=by simpa using h0
 by_cases h2:t<0
 · rw[if_pos (.inl h2)]at hr;have HR:=aH hr;clear hr;go_upto_region 7 with fail
   go_wp2_with (refine iJ Q ?_)
   exact eI results100 rfl rfl rfl Q rfl on (by omega) HR.out
 by_cases h3:60≤t
 · rw[if_pos (.inr (by omega))]at hr;have HR:=aH hr;clear hr;go_upto_region 7 with fail
   go_wp2_with (refine iJ Q ?_)
   exact eI results100 rfl rfl rfl Q rfl on (by omega) HR.out
 rw[if_neg (by omega)]at hr;have hgb:=fZ (show aP v.x=0 by have e:=HQ.out;simp_all);have hn:v.n≤1000000:=by have h9:=hgb.nj;have:=I.jobs.len;simp only[List.length_map]at this;omega
 have hm:v.m≤1000000:=by have h9:=hgb.nr;have:=I.rung.len;simp only[List.length_map]at this;omega
 have HR:=aH hr;clear hr hgb;have hzl:=B.lt;have hql:=Q.lt;go_upto_region 8 with fail
 go_wp2_with fail;refine Calls.mono (gU v _ (I.oe on) hn hm) ?_;rintro e w3⟨A1,c1,A2,c2,rfl,J,ob,g⟩;have F:∀y,y<w2.heap.size→∀x:eB,CV.off y ⟨x,A1,v.n,c1,A2,v.m,c2⟩:=fun y hy _=>⟨g.a.Zx hy,g.g.Zx hy⟩
 have G:∀x:eB,CV.fresh w.heap.size ⟨x,A1,v.n,c1,A2,v.m,c2⟩:=fun _=>⟨fun a e=>Nat.le_trans on.size (g.a a e),fun a e=>Nat.le_trans on.size (g.g a e)⟩
 replace on:=on.to ob;replace B:=B.oe ob;replace Q:=Q.oe ob;clear ob X g hn hm;go_upto_region 9 with (refine oK ⟨v.x,A1,v.n,c1,A2,v.m,c2⟩ B ?_)
 generalize hw:World.setCells _ z 0 _=w4;obtain⟨B,Q,J,on⟩:=sV B Q J (F z hzl _) on (by omega) (by omega) 0 (aE ⟨v.x,A1,v.n,c1,A2,v.m,c2⟩) hw (vs':=aE ⟨v.x,A1,v.n,c1,A2,v.m,c2⟩) rfl (by simp[aE]);have X:=B.c12;have f:=B.Zy;go_upto_region 10 with fail
 clear f X;generalize hw:World.setCell (World.setCell _ _ _) _ _=w5;obtain⟨B,Q,J,on⟩:=sV B Q J (F z hzl _) on (by omega) (by omega) 1 [(2:Int)] rfl (vs':=aE ⟨{ v.x with doing:=2 },A1,v.n,c1,A2,v.m,c2⟩) rfl (by simp[aE]);obtain⟨B,Q,J,on⟩:=sV B Q J (F z hzl _) on (by omega) (by omega) 7 [t] hw (vs':=aE ⟨{ v.x with doing:=2,at_:=t },A1,v.n,c1,A2,v.m,c2⟩) rfl (by simp[aE]);have X:=B.c12;go_wp2_with (refine rH Q B ?_)
 exact mI results100 rfl rfl rfl Q rfl (u:=⟨{ v.x with doing:=2,at_:=t },A1,v.n,c1,A2,v.m,c2⟩) ⟨J.jobs,J.rung,J.le,J.le'⟩ (F _ hql _) on (by omega) HR.out (G _)
theorem zN (v:CV)(t:Int)(w:World)(I:v.In w):Calls prog 101 #[.agg (aE v).toArray,t] w (oZ w (jC v.x t)):=by
 obtain⟨q,hq⟩:∃q,q=dP v.x:=⟨_,rfl⟩
 obtain⟨r,hr⟩:∃r,r=jC v.x t:=⟨_,rfl⟩
 rw[←hr];unfold jC at hr;rw[←hq]at hr;have HQ:=aH hq;clear hq;unfold aE;go_enter func101,ntmps101;go_upto_region 1 with fail
 refine kD (v1:=aE v) (v2:=aE zV) rfl rfl fun w1 on B Q=>?_
 generalize hz:w.heap.size=z at B Q⊢;have X:=B.c12;have HR:=aH hr;clear hr;go_wp2_with fail;refine Calls.mono (lY v _ (I.oe on)) ?_;rw[←HQ.out];rintro e w2⟨rfl,ob⟩;replace on:=on.to ob;replace B:=B.oe ob;replace Q:=Q.oe ob;clear ob X;have hr:=HR.out;clear HR;have X:=B.c12;by_cases h0:q≠0
 · rw[if_pos h0]at hr;have HR:=aH hr;have hd:(q !=0)=true:=by simpa using h0
   clear hr h0;go_wp2_with (refine iJ Q ?_)
   exact eI results101 rfl rfl rfl Q rfl on (by omega) HR.out
 rw[if_neg h0]at hr;have hd:(q !=0)=false:=by simpa using h0
 by_cases h2:t<0
 · rw[if_pos (.inl h2)]at hr;have HR:=aH hr;clear hr;go_upto_region 5 with fail
   go_wp2_with (refine iJ Q ?_)
   exact eI results101 rfl rfl rfl Q rfl on (by omega) HR.out
 by_cases h3:60≤t
 · rw[if_pos (.inr (by omega))]at hr;have HR:=aH hr;clear hr;go_upto_region 5 with fail
   go_wp2_with (refine iJ Q ?_)
   exact eI results101 rfl rfl rfl Q rfl on (by omega) HR.out
 rw[if_neg (by omega)]at hr;have hgb:=fZ (show aP v.x=0 by have e:=HQ.out;unfold dP at e;(repeat split at e)<;>simp_all);have hn:v.n≤1000000:=by have h9:=hgb.nj;have:=I.jobs.len;simp only[List.length_map]at this;omega
 have hm:v.m≤1000000:=by have h9:=hgb.nr;have:=I.rung.len;simp only[List.length_map]at this;omega
 have HR:=aH hr;clear hr hgb;have hzl:=B.lt;have hql:=Q.lt;go_upto_region 6 with fail
 go_wp2_with fail;refine Calls.mono (gU v _ (I.oe on) hn hm) ?_;rintro e w3⟨A1,c1,A2,c2,rfl,J,ob,g⟩;have F:∀y,y<w2.heap.size→∀x:eB,CV.off y ⟨x,A1,v.n,c1,A2,v.m,c2⟩:=fun y hy _=>⟨g.a.Zx hy,g.g.Zx hy⟩
 have G:∀x:eB,CV.fresh w.heap.size ⟨x,A1,v.n,c1,A2,v.m,c2⟩:=fun _=>⟨fun a e=>Nat.le_trans on.size (g.a a e),fun a e=>Nat.le_trans on.size (g.g a e)⟩
 replace on:=on.to ob;replace B:=B.oe ob;replace Q:=Q.oe ob;clear ob X g hn hm;go_upto_region 7 with (refine oK ⟨v.x,A1,v.n,c1,A2,v.m,c2⟩ B ?_)
 generalize hw:World.setCells _ z 0 _=w4;obtain⟨B,Q,J,on⟩:=sV B Q J (F z hzl _) on (by omega) (by omega) 0 (aE ⟨v.x,A1,v.n,c1,A2,v.m,c2⟩) hw (vs':=aE ⟨v.x,A1,v.n,c1,A2,v.m,c2⟩) rfl (by simp[aE]);have X:=B.c12;have f:=B.Zy;go_upto_region 8 with fail
 clear f X;generalize hw:World.setCell (World.setCell _ _ _) _ _=w5;obtain⟨B,Q,J,on⟩:=sV B Q J (F z hzl _) on (by omega) (by omega) 1 [(2:Int)] rfl (vs':=aE ⟨{ v.x with doing:=2 },A1,v.n,c1,A2,v.m,c2⟩) rfl (by simp[aE]);obtain⟨B,Q,J,on⟩:=sV B Q J (F z hzl _) on (by omega) (by omega) 7 [t] hw (vs':=aE ⟨{ v.x with doing:=2,at_:=t },A1,v.n,c1,A2,v.m,c2⟩) rfl (by simp[aE]);have X:=B.c12;go_wp2_with (refine rH Q B ?_)
 exact mI results101 rfl rfl rfl Q rfl (u:=⟨{ v.x with doing:=2,at_:=t },A1,v.n,c1,A2,v.m,c2⟩) ⟨J.jobs,J.rung,J.le,J.le'⟩ (F _ hql _) on (by omega) HR.out (G _)
theorem yO (v:CV)(t:Int)(w:World)(I:v.In w):Calls prog 107 #[.agg (aE v).toArray,t] w (oZ w (fP v.x t)):=by
 obtain⟨q,hq⟩:∃q,q=aP v.x:=⟨_,rfl⟩
 obtain⟨r,hr⟩:∃r,r=fP v.x t:=⟨_,rfl⟩
 rw[←hr];unfold fP at hr;rw[←hq]at hr;have HQ:=aH hq;clear hq;unfold aE;go_enter func107,ntmps107;go_upto_region 1 with fail
 refine kD (v1:=aE v) (v2:=aE zV) rfl rfl fun w1 on B Q=>?_
 generalize hz:w.heap.size=z at B Q⊢;have X:=B.c12;have HR:=aH hr;clear hr;go_wp2_with fail;refine Calls.mono (DI v _ (I.oe on)) ?_;rw[←HQ.out];rintro e w2⟨rfl,ob⟩;replace on:=on.to ob;replace B:=B.oe ob;replace Q:=Q.oe ob;clear ob X;have hr:=HR.out;clear HR;have X:=B.c12;by_cases h0:q≠0
 · rw[if_pos h0]at hr;have HR:=aH hr;have hd:(q !=0)=true:=by simpa using h0
   clear hr h0;go_wp2_with (refine iJ Q ?_)
   exact eI results107 rfl rfl rfl Q rfl on (by omega) HR.out
 rw[if_neg h0]at hr;have hd:(q !=0)=false:=by simpa using h0
 by_cases h2:t<1
 · rw[if_pos (.inl h2)]at hr;have HR:=aH hr;clear hr;go_upto_region 5 with fail
   go_wp2_with (refine iJ Q ?_)
   exact eI results107 rfl rfl rfl Q rfl on (by omega) HR.out
 by_cases h3:20<t
 · rw[if_pos (.inr (by omega))]at hr;have HR:=aH hr;clear hr;go_upto_region 5 with fail
   go_wp2_with (refine iJ Q ?_)
   exact eI results107 rfl rfl rfl Q rfl on (by omega) HR.out
 rw[if_neg (by omega)]at hr;by_cases h4:t≤v.x.epoch
 · rw[if_pos h4]at hr;have HR:=aH hr;clear hr;go_upto_region 7 with fail
   go_wp2_with (refine iJ Q ?_)
   exact eI results107 rfl rfl rfl Q rfl on (by omega) HR.out
 rw[if_neg h4]at hr;have hgb:=fZ (show aP v.x=0 by have e:=HQ.out;simp_all);have hn:v.n≤1000000:=by have h9:=hgb.nj;have:=I.jobs.len;simp only[List.length_map]at this;omega
 have hm:v.m≤1000000:=by have h9:=hgb.nr;have:=I.rung.len;simp only[List.length_map]at this;omega
 have HR:=aH hr;clear hr hgb;have hzl:=B.lt;have hql:=Q.lt;go_upto_region 8 with fail
 go_wp2_with fail;refine Calls.mono (gU v _ (I.oe on) hn hm) ?_;rintro e w3⟨A1,c1,A2,c2,rfl,J,ob,g⟩;have F:∀y,y<w2.heap.size→∀x:eB,CV.off y ⟨x,A1,v.n,c1,A2,v.m,c2⟩:=fun y hy _=>⟨g.a.Zx hy,g.g.Zx hy⟩
 have G:∀x:eB,CV.fresh w.heap.size ⟨x,A1,v.n,c1,A2,v.m,c2⟩:=fun _=>⟨fun a e=>Nat.le_trans on.size (g.a a e),fun a e=>Nat.le_trans on.size (g.g a e)⟩
 replace on:=on.to ob;replace B:=B.oe ob;replace Q:=Q.oe ob;clear ob X g hn hm;go_upto_region 9 with (refine oK ⟨v.x,A1,v.n,c1,A2,v.m,c2⟩ B ?_)
 generalize hw:World.setCells _ z 0 _=w4;obtain⟨B,Q,J,on⟩:=sV B Q J (F z hzl _) on (by omega) (by omega) 0 (aE ⟨v.x,A1,v.n,c1,A2,v.m,c2⟩) hw (vs':=aE ⟨v.x,A1,v.n,c1,A2,v.m,c2⟩) rfl (by simp[aE]);have X:=B.c12;have f:=B.Zy;go_upto_region 10 with fail
 clear f X;generalize hw:World.setCell _ _ _=w5;obtain⟨B,Q,J,on⟩:=sV B Q J (F z hzl _) on (by omega) (by omega) 0 [t] hw (vs':=aE ⟨{ v.x with epoch:=t },A1,v.n,c1,A2,v.m,c2⟩) rfl (by simp[aE]);have X:=B.c12;go_wp2_with (refine rH Q B ?_)
 exact mI results107 rfl rfl rfl Q rfl (u:=⟨{ v.x with epoch:=t },A1,v.n,c1,A2,v.m,c2⟩) ⟨J.jobs,J.rung,J.le,J.le'⟩ (F _ hql _) on (by omega) HR.out (G _)
theorem rT (v:CV)(y:aL)(w:World)(I:v.In w):Calls prog 98 #[.agg (aE v).toArray,.agg (bA y).toArray] w (oZ w (fI v.x y)):=by
 obtain⟨q,hq⟩:∃q,q=dP v.x:=⟨_,rfl⟩
 obtain⟨r,hr⟩:∃r,r=fI v.x y:=⟨_,rfl⟩
 rw[←hr];unfold fI at hr;rw[←hq]at hr;obtain⟨q2,hq2⟩:∃q2,q2=aG y:=⟨_,rfl⟩
 rw[←hq2]at hr;have HQ2:=aH hq2;clear hq2;have HQ:=aH hq;clear hq;unfold aE bA;go_enter func98,ntmps98;go_upto_region 1 with fail
 refine fY (v1:=aE v) (v2:=bA y) (v3:=aE zV) rfl rfl rfl fun w1 on B Y Q=>?_
 generalize hz:w.heap.size=z at B Q Y⊢;have X:=B.c12;have HR:=aH hr;clear hr;go_wp2_with fail;refine Calls.mono (lY v _ (I.oe on)) ?_;rw[←HQ.out];rintro e w2⟨rfl,ob⟩;replace on:=on.to ob;replace B:=B.oe ob;replace Q:=Q.oe ob;replace Y:=Y.oe ob;clear ob X;have hr:=HR.out;clear HR;have X:=B.c12;have Z:=Y.c5;by_cases h0:q≠0
 · rw[if_pos h0]at hr;have HR:=aH hr;have hd:(q !=0)=true:=by simpa using h0
   clear hr h0;go_wp2_with (refine iJ Q ?_)
   exact eI results98 rfl rfl rfl Q rfl on (by omega) HR.out
 rw[if_neg h0]at hr;have hd:(q !=0)=false:=by simpa using h0
 have HRE:=aH hr;clear hr;go_wp2_with fail;refine Calls.mono (dG y.kind y.job y.every y.time y.client _) ?_;rw[show aG ⟨y.kind,y.job,y.every,y.time,y.client⟩=q2 from HQ2.out.symm];rintro e w2b⟨rfl,ob⟩;replace on:=on.to ob;replace B:=B.oe ob;replace Q:=Q.oe ob;replace Y:=Y.oe ob;clear ob X Z;generalize w2b=w2 at *;have X:=B.c12;have Z:=Y.c5;have hr:=HRE.out;clear HRE;by_cases h0:q2≠0
 · rw[if_pos h0]at hr;have HR:=aH hr;have hdq2:(q2 !=0)=true:=by simpa using h0
   clear hr h0;go_wp2_with (refine iJ Q ?_)
   exact eI results98 rfl rfl rfl Q rfl on (by omega) HR.out
 rw[if_neg h0]at hr;have hdq2:(q2 !=0)=false:=by simpa using h0
 by_cases h0:y.kind=0
 · rw[if_pos h0]at hr;have HR:=aH hr;have hk:(y.kind ==0)=true:=by simpa using h0
   clear hr h0;go_wp2_with (refine iJ Q ?_)
   exact eI results98 rfl rfl rfl Q rfl on (by omega) HR.out
 rw[if_neg h0]at hr;have hk:(y.kind ==0)=false:=by simpa using h0
 have hgb:=fZ (show aP v.x=0 by have e:=HQ.out;unfold dP at e;(repeat split at e)<;>simp_all);have hn:v.n≤1000000:=by have h9:=hgb.nj;have:=I.jobs.len;simp only[List.length_map]at this;omega
 have hm:v.m≤1000000:=by have h9:=hgb.nr;have:=I.rung.len;simp only[List.length_map]at this;omega
 have HR:=aH hr;clear hr hgb;have hzl:=B.lt;have hql:=Q.lt;go_upto_region 9 with fail
 go_wp2_with fail;refine Calls.mono (gU v _ (I.oe on) hn hm) ?_;rintro e w3⟨A1,c1,A2,c2,rfl,J,ob,g⟩;have F:∀y,y<w2.heap.size→∀x:eB,CV.off y ⟨x,A1,v.n,c1,A2,v.m,c2⟩:=fun y hy _=>⟨g.a.Zx hy,g.g.Zx hy⟩
 have G:∀x:eB,CV.fresh w.heap.size ⟨x,A1,v.n,c1,A2,v.m,c2⟩:=fun _=>⟨fun a e=>Nat.le_trans on.size (g.a a e),fun a e=>Nat.le_trans on.size (g.g a e)⟩
 replace on:=on.to ob;replace B:=B.oe ob;replace Q:=Q.oe ob;replace Y:=Y.oe ob;clear ob X Z g hn hm;go_upto_region 10 with (refine oK ⟨v.x,A1,v.n,c1,A2,v.m,c2⟩ B ?_)
 replace Y:=Y.off (b:=z) (o:=0) (us:=aE ⟨v.x,A1,v.n,c1,A2,v.m,c2⟩) (by omega);generalize hw:World.setCells _ z 0 _=w4 at Y;obtain⟨B,Q,J,on⟩:=sV B Q J (F z hzl _) on (by omega) (by omega) 0 (aE ⟨v.x,A1,v.n,c1,A2,v.m,c2⟩) hw (vs':=aE ⟨v.x,A1,v.n,c1,A2,v.m,c2⟩) rfl (by simp[aE]);have X:=B.c12;have f:=B.Zy;have Z:=Y.c5;go_region
 all_goals
  go_upto_region 11 with fail
  clear f X;generalize hw:World.drew _=w5;obtain⟨B,Q,J,on⟩:=OW B Q J (F z hzl _) on (by omega) (by omega) 1 (.int .i64 1 ::bA y) hw (vs':=aE ⟨{ v.x with doing:=1,e:=y },A1,v.n,c1,A2,v.m,c2⟩) rfl (by simp[aE,bA]);have X:=B.c12;go_wp2_with (refine rH Q B ?_)
  exact mI results98 rfl rfl rfl Q rfl (u:=⟨{ v.x with doing:=1,e:=y },A1,v.n,c1,A2,v.m,c2⟩) ⟨J.jobs,J.rung,J.le,J.le'⟩ (F _ hql _) on (by omega) HR.out (G _)
theorem CJ (v:CV)(y:aL)(w:World)(I:v.In w):Calls prog 104 #[.agg (aE v).toArray,.agg (bA y).toArray] w (oZ w (iP v.x y)):=by
 obtain⟨q,hq⟩:∃q,q=aP v.x:=⟨_,rfl⟩
 obtain⟨r,hr⟩:∃r,r=iP v.x y:=⟨_,rfl⟩
 rw[←hr];unfold iP at hr;rw[←hq]at hr;obtain⟨ap,hap⟩:∃ap,ap=eR v.x.b y:=⟨_,rfl⟩
 rw[←hap]at hr;have HAP:=aH hap;clear hap;have HQ:=aH hq;clear hq;unfold aE bA;go_enter func104,ntmps104;go_upto_region 1 with fail
 refine fY (v1:=aE v) (v2:=bA y) (v3:=aE zV) rfl rfl rfl fun w1 on B Y Q=>?_
 generalize hz:w.heap.size=z at B Q Y⊢;have X:=B.c12;have HR:=aH hr;clear hr;go_wp2_with fail;refine Calls.mono (DI v _ (I.oe on)) ?_;rw[←HQ.out];rintro e w2⟨rfl,ob⟩;replace on:=on.to ob;replace B:=B.oe ob;replace Q:=Q.oe ob;replace Y:=Y.oe ob;clear ob X;have hr:=HR.out;clear HR;have X:=B.c12;have Z:=Y.c5;by_cases h0:q≠0
 · rw[if_pos h0]at hr;have HR:=aH hr;have hd:(q !=0)=true:=by simpa using h0
   clear hr h0;go_wp2_with (refine iJ Q ?_)
   exact eI results104 rfl rfl rfl Q rfl on (by omega) HR.out
 rw[if_neg h0]at hr;have hd:(q !=0)=false:=by simpa using h0
 by_cases h0:v.x.played=60
 · rw[if_pos h0]at hr;have HR:=aH hr;have hp:(v.x.played ==60)=true:=by simpa using h0
   clear hr h0;go_wp2_with (refine iJ Q ?_)
   exact eI results104 rfl rfl rfl Q rfl on (by omega) HR.out
 rw[if_neg h0]at hr;have hp:(v.x.played ==60)=false:=by simpa using h0
 have hpl:=oN (show aP v.x=0 by have e:=HQ.out;simp_all);have hwp:IntKind.i64.wrap (v.x.played+1)=v.x.played+1:=by rw[IntKind.wrap_i64];omega
 have HRR:=aH hr;have hzl:=B.lt;have hql:=Q.lt;clear hr;go_wp2_with fail;refine Calls.mono (CQ v.A v.G v.n v.c v.m v.d _ v.x.b y.kind y.job y.every y.time y.client _ (I.oe on).jobs (I.oe on).rung (Nat.le_refl _)) ?_;rw[show eR v.x.b ⟨y.kind,y.job,y.every,y.time,y.client⟩=ap from HAP.out.symm];rintro e w3⟨A1,n1,c1,A2,n2,c2,rfl,s1,s2,b3,f1,f2,k1,k2⟩;replace b3:aA w2 w3:=b3;have J:CV.In w3 ⟨{ v.x with played:=v.x.played+1,b:=ap.1 },A1,n1,c1,A2,n2,c2⟩:=⟨s1,s2,k1,k2⟩
 have F:∀y,y<w2.heap.size→∀x:eB,CV.off y ⟨x,A1,n1,c1,A2,n2,c2⟩:=fun y hy _=>⟨f1.Zx hy,f2.Zx hy⟩
 have G:∀x:eB,CV.fresh w.heap.size ⟨x,A1,n1,c1,A2,n2,c2⟩:=fun _=>⟨fun a e=>Nat.le_trans on.size (f1 a e),fun a e=>Nat.le_trans on.size (f2 a e)⟩
 replace on:=on.to b3;replace B:=B.oe b3;replace Q:=Q.oe b3;clear X Z s1 s2 f1 f2 k1 k2 b3 Y;go_upto_region 7 with fail
 refine aW (v1:=[.slice A1 n1 c1,.slice A2 n2 c2]) rfl fun w4 ob V=>?_
 generalize hv:w3.heap.size=zv at V⊢;replace J:=J.oe ob;replace on:=on.to ob;replace B:=B.oe ob;replace Q:=Q.oe ob;clear ob;have hr:=HRR.out;by_cases h0:ap.2≠0
 · rw[if_pos h0]at hr;have HR:=aH hr;have ha:(ap.2 !=0)=true:=by simpa using h0
   clear hr h0;go_wp2_with (refine iJ Q ?_)
   exact eI results104 rfl rfl rfl Q rfl on (by omega) HR.out
 rw[if_neg h0]at hr;have ha:(ap.2 !=0)=false:=by simpa using h0
 have X:=B.c12;obtain⟨u0,u1⟩:=V.p2;have f:=B.Zy;have HR:=aH hr;clear hr;go_upto_region 10 with fail
 clear X f u0 u1 V;generalize hw:World.setCell (World.setCell _ _ _) _ _=w5;obtain⟨B,Q,J,on⟩:=sV B Q J (F z hzl _) on (by omega) (by omega) 10 [.slice A1 n1 c1,.slice A2 n2 c2] hw (vs':=aE ⟨{ v.x with b:=ap.1 },A1,n1,c1,A2,n2,c2⟩) rfl (by simp[aE]);have x9:=B.at_ 9 rfl;have f:=B.Zy 9;go_upto_region 11 with fail
 clear x9 f;generalize hw2:World.setCell _ _ _=w6;obtain⟨B,Q,J,on⟩:=sV B Q J (F z hzl _) on (by omega) (by omega) 9 [(v.x.played+1:Int)] hw2 (vs':=aE ⟨{ v.x with played:=v.x.played+1,b:=ap.1 },A1,n1,c1,A2,n2,c2⟩) rfl (by simp[aE]);have X:=B.c12;go_wp2_with (refine rH Q B ?_)
 exact mI results104 rfl rfl rfl Q rfl (u:=⟨{ v.x with played:=v.x.played+1,b:=ap.1 },A1,n1,c1,A2,n2,c2⟩) J (F _ hql _) on (by omega) HR.out (G _)
theorem qL (v:CV)(y:aL)(w:World)(I:v.In w):Calls prog 127 #[.agg (aE v).toArray,.agg (bA y).toArray] w (oZ w (cZ v.x y)):=by
 obtain⟨q,hq⟩:∃q,q=aP v.x:=⟨_,rfl⟩
 obtain⟨r,hr⟩:∃r,r=cZ v.x y:=⟨_,rfl⟩
 rw[←hr];unfold cZ at hr;rw[←hq]at hr;obtain⟨q2,hq2⟩:∃q2,q2=aG y:=⟨_,rfl⟩
 rw[←hq2]at hr;have HQ2:=aH hq2;clear hq2;have HQ:=aH hq;clear hq;unfold aE bA;go_enter func127,ntmps127;go_upto_region 1 with fail
 refine fY (v1:=aE v) (v2:=bA y) (v3:=aE zV) rfl rfl rfl fun w1 on B Y Q=>?_
 generalize hz:w.heap.size=z at B Q Y⊢;have X:=B.c12;have HR:=aH hr;clear hr;go_wp2_with fail;refine Calls.mono (DI v _ (I.oe on)) ?_;rw[←HQ.out];rintro e w2⟨rfl,ob⟩;replace on:=on.to ob;replace B:=B.oe ob;replace Q:=Q.oe ob;replace Y:=Y.oe ob;clear ob X;have hr:=HR.out;clear HR;have X:=B.c12;have Z:=Y.c5;by_cases h0:q≠0
 · rw[if_pos h0]at hr;have HR:=aH hr;have hd:(q !=0)=true:=by simpa using h0
   clear hr h0;go_wp2_with (refine iJ Q ?_)
   exact eI results127 rfl rfl rfl Q rfl on (by omega) HR.out
 rw[if_neg h0]at hr;have hd:(q !=0)=false:=by simpa using h0
 have HRE:=aH hr;clear hr;go_wp2_with fail;refine Calls.mono (dG y.kind y.job y.every y.time y.client _) ?_;rw[show aG ⟨y.kind,y.job,y.every,y.time,y.client⟩=q2 from HQ2.out.symm];rintro e w2b⟨rfl,ob⟩;replace on:=on.to ob;replace B:=B.oe ob;replace Q:=Q.oe ob;replace Y:=Y.oe ob;clear ob X Z;generalize w2b=w2 at *;have X:=B.c12;have Z:=Y.c5;have hr:=HRE.out;clear HRE;by_cases h0:q2≠0
 · rw[if_pos h0]at hr;have HR:=aH hr;have hdq2:(q2 !=0)=true:=by simpa using h0
   clear hr h0;go_wp2_with (refine iJ Q ?_)
   exact eI results127 rfl rfl rfl Q rfl on (by omega) HR.out
 rw[if_neg h0]at hr;have hdq2:(q2 !=0)=false:=by simpa using h0
 by_cases h0:v.x.doing≠2
 · rw[if_pos h0]at hr;have HR:=aH hr;have hd1:(v.x.doing !=2)=true:=by simpa using h0
   clear hr h0;go_wp2_with (refine iJ Q ?_)
   exact eI results127 rfl rfl rfl Q rfl on (by omega) HR.out
 rw[if_neg h0]at hr;have hd1:(v.x.doing !=2)=false:=by simpa using h0
 have hlk:=sH (show aP v.x=0 by have e:=HQ.out;simp_all);have hgb:=fZ (show aP v.x=0 by have e:=HQ.out;simp_all);have hn:v.n≤1000000:=by have h9:=hgb.nj;have:=I.jobs.len;simp only[List.length_map]at this;omega
 have hm:v.m≤1000000:=by have h9:=hgb.nr;have:=I.rung.len;simp only[List.length_map]at this;omega
 have HR:=aH hr;clear hr hgb;have hzl:=B.lt;have hql:=Q.lt;go_upto_region 9 with fail
 go_wp2_with fail;refine Calls.mono (gU v _ (I.oe on) hn hm) ?_;rintro e w3⟨A1,c1,A2,c2,rfl,J,ob,g⟩;have F:∀y,y<w2.heap.size→∀x:eB,CV.off y ⟨x,A1,v.n,c1,A2,v.m,c2⟩:=fun y hy _=>⟨g.a.Zx hy,g.g.Zx hy⟩
 have G:∀x:eB,CV.fresh w.heap.size ⟨x,A1,v.n,c1,A2,v.m,c2⟩:=fun _=>⟨fun a e=>Nat.le_trans on.size (g.a a e),fun a e=>Nat.le_trans on.size (g.g a e)⟩
 replace on:=on.to ob;replace B:=B.oe ob;replace Q:=Q.oe ob;replace Y:=Y.oe ob;clear ob X Z g hn hm;go_upto_region 10 with (refine oK ⟨v.x,A1,v.n,c1,A2,v.m,c2⟩ B ?_)
 replace Y:=Y.off (b:=z) (o:=0) (us:=aE ⟨v.x,A1,v.n,c1,A2,v.m,c2⟩) (by omega);generalize hw:World.setCells _ z 0 _=w4 at Y;obtain⟨B,Q,J,on⟩:=sV B Q J (F z hzl _) on (by omega) (by omega) 0 (aE ⟨v.x,A1,v.n,c1,A2,v.m,c2⟩) hw (vs':=aE ⟨v.x,A1,v.n,c1,A2,v.m,c2⟩) rfl (by simp[aE]);have X:=B.c12;have f:=B.Zy;have Z:=Y.c5;have hr:=HR.out;have hne:=MP y v.x.e;clear HR;by_cases h1:y≠v.x.e∧v.x.e.kind≠0
 · rw[if_pos h1]at hr;have HR:=aH hr;have hk:(v.x.e.kind !=0)=true:=by simpa using h1.2
   rw[decide_eq_true h1.1]at hne;clear hr h1;go_upto_region 12 with fail
   clear f X;generalize hw:World.setCell (World.setCell (World.setCell _ _ _) _ _) _ _=w5;obtain⟨B,Q,J,on⟩:=sV B Q J (F z hzl _) on (by omega) (by omega) 1 ([(1:Int)]) rfl (vs':=aE ⟨{ v.x with doing:=1 },A1,v.n,c1,A2,v.m,c2⟩) rfl (by simp[aE,bA]);obtain⟨B,Q,J,on⟩:=sV B Q J (F z hzl _) on (by omega) (by omega) 7 ([()]) rfl (vs':=aE ⟨{ v.x with doing:=1,at_:=0 },A1,v.n,c1,A2,v.m,c2⟩) rfl (by simp[aE,bA]);obtain⟨B,Q,J,on⟩:=sV B Q J (F z hzl _) on (by omega) (by omega) 8 ([()]) hw (vs':=aE ⟨⟨v.x.epoch,1,v.x.e,0,0,v.x.played,v.x.b⟩,A1,v.n,c1,A2,v.m,c2⟩) rfl (by simp[aE,bA]);have X:=B.c12;go_wp2_with (refine rH Q B ?_)
   exact mI results127 rfl rfl rfl Q rfl (u:=⟨⟨v.x.epoch,1,v.x.e,0,0,v.x.played,v.x.b⟩,A1,v.n,c1,A2,v.m,c2⟩) ⟨J.jobs,J.rung,J.le,J.le'⟩ (F _ hql _) on (by omega) HR.out (G _)
 rw[if_neg h1]at hr
 have hkk:decide (y≠v.x.e)=false∨(decide (y≠v.x.e)=true∧(v.x.e.kind !=0)=false):=by
  by_cases h:y=v.x.e
  · exact .inl (by simp[h])
  exact .inr ⟨by simp[h],by by_cases h':v.x.e.kind=0<;>simp_all⟩
 have hwp:IntKind.i64.wrap (v.x.link+1)=v.x.link+1:=by rw[IntKind.wrap_i64];omega
 have HR:=aH hr;clear hr h1;rcases hkk with hn| ⟨hn,hk⟩
 all_goals
  rw[hn]at hne;go_upto_region 14 with fail
  clear f X;generalize hw:World.setCell _ _ _=w5;obtain⟨B,Q,J,on⟩:=sV B Q J (F z hzl _) on (by omega) (by omega) 2 (bA y) rfl (vs':=aE ⟨{ v.x with e:=y },A1,v.n,c1,A2,v.m,c2⟩) rfl (by simp[aE,bA]);obtain⟨B,Q,J,on⟩:=sV B Q J (F z hzl _) on (by omega) (by omega) 8 ([(v.x.link+1:Int)]) hw (vs':=aE ⟨{ v.x with e:=y,link:=v.x.link+1 },A1,v.n,c1,A2,v.m,c2⟩) rfl (by simp[aE,bA]);have X:=B.c12;have f:=B.Zy;have hr:=HR.out;by_cases h2:v.x.link+1=3
  · rw[if_pos h2]at hr;have HR:=aH hr;have h3:(v.x.link+1 ==3)=true:=by simpa using h2
    clear hr h2;go_upto_region 16 with fail
    clear f X;generalize hw2:World.setCell _ _ _=w6;obtain⟨B,Q,J,on⟩:=sV B Q J (F z hzl _) on (by omega) (by omega) 1 ([()]) rfl (vs':=aE ⟨{ v.x with doing:=0,e:=y,link:=v.x.link+1 },A1,v.n,c1,A2,v.m,c2⟩) rfl (by simp[aE,bA]);obtain⟨B,Q,J,on⟩:=sV B Q J (F z hzl _) on (by omega) (by omega) 2 (bA bP) rfl (vs':=aE ⟨{ v.x with doing:=0,e:=bP,link:=v.x.link+1 },A1,v.n,c1,A2,v.m,c2⟩) rfl (by simp[aE,bA]);obtain⟨B,Q,J,on⟩:=sV B Q J (F z hzl _) on (by omega) (by omega) 7 ([()]) rfl (vs':=aE ⟨{ v.x with doing:=0,e:=bP,at_:=0,link:=v.x.link+1 },A1,v.n,c1,A2,v.m,c2⟩) rfl (by simp[aE,bA]);obtain⟨B,Q,J,on⟩:=sV B Q J (F z hzl _) on (by omega) (by omega) 8 ([()]) hw2 (vs':=aE ⟨⟨v.x.epoch,0,bP,0,0,v.x.played,v.x.b⟩,A1,v.n,c1,A2,v.m,c2⟩) rfl (by simp[aE,bA]);have X:=B.c12;go_wp2_with (refine rH Q B ?_)
    exact mI results127 rfl rfl rfl Q rfl (u:=⟨⟨v.x.epoch,0,bP,0,0,v.x.played,v.x.b⟩,A1,v.n,c1,A2,v.m,c2⟩) ⟨J.jobs,J.rung,J.le,J.le'⟩ (F _ hql _) on (by omega) HR.out (G _)
  rw[if_neg h2]at hr;have HR:=aH hr;have h3:(v.x.link+1 ==3)=false:=by simpa using h2
  clear hr h2 X;have X:=B.c12;go_wp2_with (refine rH Q B ?_)
  exact mI results127 rfl rfl rfl Q rfl (u:=⟨{ v.x with e:=y,link:=v.x.link+1 },A1,v.n,c1,A2,v.m,c2⟩) ⟨J.jobs,J.rung,J.le,J.le'⟩ (F _ hql _) on (by omega) HR.out (G _)
end
end Go.Proofs.YtpfkagghooihfaaGreatDoor
