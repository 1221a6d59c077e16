/- Part 16. -/
import Derived.Test.YtpfkagghooihfaaGreatDoorBa11
import Derived.Test.YtpfkagghooihfaaGreatDoorBa13
namespace Go.Proofs.YtpfkagghooihfaaGreatDoor
set_option linter.unusedSimpArgs false
set_option linter.unusedVariables false
set_option maxHeartbeats 8000000
set_option maxRecDepth 100000
open Go.Proofs.Tryz
open Go.RowKit
section
theorem jG:(prog.info? 68).map (·.size)=some 12:=by kernel_rfl
theorem MP (x y:aL)(w:World):(binOp .neq 27 (.agg #[x.kind,x.job,x.every,x.time,x.client]) (.agg #[y.kind,y.job,y.every,y.time,y.client])).run prog w=.ok (.bool (decide (x≠y))) w:=by
 rw[rM];congr 2;rw[Bool.eq_iff_iff];simp[cD,or_assoc]
abbrev zV:CV:=⟨cS,none,0,0,none,0,0⟩
theorem OM (w:World):zV.In w:=⟨Sl.nil,Sl.nil,Nat.le_refl _,Nat.le_refl _⟩
theorem mD {z:Nat}{A:Option Addr}:bQ 0 z A:=fun h=>absurd h (Nat.lt_irrefl 0)
theorem FP (z:Nat):zV.off z:=⟨mD,mD⟩
theorem Bx.c12 {w:World}{z:Nat}{v:CV}(B:Bx w z (aE v)):w.cell? ⟨z,0,none⟩=some (.int .i64 v.x.epoch)∧w.cell? ⟨z,1,none⟩=some (.int .i64 v.x.doing)∧w.cell? ⟨z,2,none⟩=some (.int .i64 v.x.e.kind)∧w.cell? ⟨z,3,none⟩=some (.int .i64 v.x.e.job)∧w.cell? ⟨z,4,none⟩=some (.int .i64 v.x.e.every)∧w.cell? ⟨z,5,none⟩=some (.int .i64 v.x.e.time)∧w.cell? ⟨z,6,none⟩=some (.int .i64 v.x.e.client)∧w.cell? ⟨z,7,none⟩=some (.int .i64 v.x.at_)∧w.cell? ⟨z,8,none⟩=some (.int .i64 v.x.link)∧w.cell? ⟨z,9,none⟩=some (.int .i64 v.x.played)∧w.cell? ⟨z,10,none⟩=some (.slice v.A v.n v.c)∧w.cell? ⟨z,11,none⟩=some (.slice v.G v.m v.d) :=
 ⟨B.at_ 0 rfl,B.at_ 1 rfl,B.at_ 2 rfl,B.at_ 3 rfl,B.at_ 4 rfl,B.at_ 5 rfl,B.at_ 6 rfl,B.at_ 7 rfl,B.at_ 8 rfl,B.at_ 9 rfl,B.at_ 10 rfl,B.at_ 11 rfl⟩
theorem Bx.c5 {w:World}{z:Nat}{y:aL}(B:Bx w z (bA y)):w.cell? ⟨z,0,none⟩=some (.int .i64 y.kind)∧w.cell? ⟨z,1,none⟩=some (.int .i64 y.job)∧w.cell? ⟨z,2,none⟩=some (.int .i64 y.every)∧w.cell? ⟨z,3,none⟩=some (.int .i64 y.time)∧w.cell? ⟨z,4,none⟩=some (.int .i64 y.client) :=
 ⟨B.at_ 0 rfl,B.at_ 1 rfl,B.at_ 2 rfl,B.at_ 3 rfl,B.at_ 4 rfl⟩
section
variable {w:World}{z:Nat}{vs:List Value}{ops:Array Oper}{rest:List Oper}{op:Oper}{a:Act}{Q:Exit→Act→World→Prop}{x y:Operand}{u:CV}
theorem oK (u : CV)(hB : Bx w z vs)(h : wpList prog ops Q rest (a.put op.dst undef) (w.setCells z 0 (aE u)))(hl : vs.length = 12 := by rfl) (hgd : op.guard = none := by rfl) (ho : op.op = .store 68 x y := by rfl)
    (hx:a.eval x=.pointer (some ⟨z,0,none⟩):=by rfl) (hy:a.eval y=.agg (aE u).toArray:=by rfl):wpList prog ops Q (op ::rest) a w :=
 nU hB (aE u) 68 x y hgd ho hx hy (by rw[hl];rfl) (by rw[jG,hl]) (by rfl) h
theorem rH {z' : Nat}(hB : Bx w z vs)(_ : Bx w z' (aE u))(h : wpList prog ops Q rest (a.put op.dst undef) (w.setCells z 0 (aE u)))(hl : vs.length = 12 := by rfl) (hgd : op.guard = none := by rfl) (ho : op.op = .store 68 x y := by rfl)
    (hx:a.eval x=.pointer (some ⟨z,0,none⟩):=by rfl) (hy:a.eval y=.agg (aE u).toArray:=by rfl):wpList prog ops Q (op ::rest) a w:=oK u hB h hl hgd ho hx hy
theorem iJ (hB : Bx w z vs)(h : wpList prog ops Q rest (a.put op.dst undef) (w.setCells z 0 (aE zV)))(hl : vs.length = 12 := by rfl) (hgd : op.guard = none := by rfl) (ho : op.op = .store 68 x y := by rfl)
    (hx:a.eval x=.pointer (some ⟨z,0,none⟩):=by rfl) (hy:a.eval y=.agg (aE zV).toArray:=by rfl):wpList prog ops Q (op ::rest) a w:=oK zV hB h hl hgd ho hx hy
end
theorem sV {w w2 w3 : World}{z q : Nat}{vs qs vs' : List Value}{v : CV}(B : Bx w2 z vs)(Q : Bx w2 q qs)(I : v.In w2)(f : v.off z)(on : aA w w2)(hz : w.heap.size ≤ z)(hq : z < q)(o : Nat)(us : List Value)(e : w2.setCells z o us = w3)(hv : gV vs o us = vs')(hj : o + us.length ≤ vs.length) :
    Bx w3 z vs'∧Bx w3 q qs∧v.In w3∧aA w w3:=by
 subst e hv;exact⟨B.putM hj,Q.off (by omega),I.Zw f,cJ hz on⟩
theorem OW {w w2 w3 : World}{z q : Nat}{vs qs vs' : List Value}{v : CV}(B : Bx w2 z vs)(Q : Bx w2 q qs)(I : v.In w2)(f : v.off z)(on : aA w w2)(hz : w.heap.size ≤ z)(hq : z < q)(o : Nat)(us : List Value)(e : (w2.setCells z o us).drew = w3)(hv : gV vs o us = vs')(hj : o + us.length ≤ vs.length) :
    Bx w3 z vs'∧Bx w3 q qs∧v.In w3∧aA w w3:=by
 subst e;obtain⟨a,b,c,d⟩:=sV B Q I f on hz hq o us rfl hv hj;exact⟨a.draw,b.draw,c.oe ((aA.Zz _).draw),d.draw⟩
theorem LE {fn : Func}{ts : Array Value}{w : World}{z i j : Nat}{v : Value}{u : CV}(hr : fn.results = #[.cell i 68, .tmp j])
    (h1:ts[i]?=some (.pointer (some ⟨z,0,none⟩)))(h2:ts[j]?=some v)(B:Bx w z (aE u)):(results fn ts).run prog w=.ok (.tuple #[.agg (aE u).toArray,v]) w:=by
 have X:=B.c12;simp[results,hr,h1,h2,go_sem,X,aE]
def oZ (w:World)(q:eB×Int)(e:Ending)(w':World):Prop :=
 ∃u:CV,u.x=q.1∧e=.returned (.tuple #[.agg (aE u).toArray,q.2])∧u.In w'∧aA w w'∧u.fresh w.heap.size
def OV (w:World)(c:eB)(err:Int)(e:Ending)(w':World):Prop :=
 ∃A n k A' m d,e=.returned (.tuple #[.agg #[c.epoch,c.doing,c.e.kind,c.e.job,c.e.every,c.e.time,c.e.client,c.at_,c.link,c.played,.slice A n k,.slice A' m d],err]) ∧
  S w' 3 A n (c.b.jobs.map bX)∧S w' 3 A' m (c.b.rung.map dN)∧aA w w'∧n≤k∧m≤d∧aR w.heap.size A∧aR w.heap.size A'
theorem oZ.cl {w w':World}{q:eB×Int}{e:Ending}(h:oZ w q e w'):OV w q.1 q.2 e w':=by
 obtain⟨u,hx,he,I,on,f⟩:=h;rw[←hx];exact⟨_,_,_,_,_,_,he,I.1,I.2,on,I.3,I.4,f.1,f.2⟩
section
variable {fn:Func}{a:Act}{w w1:World}{q:eB×Int}{zq i j:Nat}{vs:List Value}{e:Int}
theorem mI {u : CV}(hr : fn.results = #[.cell i 68, .tmp j])(h1 : a.tmps[i]? = some (.pointer (some ⟨zq, 0, none⟩)))(h2 : a.tmps[j]? = some (.int .i64 e))(hd : a.defers = [])
    (Q:Bx w1 zq vs)(hl:vs.length=12)(I:u.In w1)(f:u.off zq)(on:aA w w1)(hz:w.heap.size≤zq)(hq:q=(u.x,e))(g:u.fresh w.heap.size):bodyPost prog fn (oZ w q) .ret a (w1.setCells zq 0 (aE u)):=by
 subst hq;exact bodyPost_ret (LE hr h1 h2 (Q.put (us:=aE u) (by rw[hl];rfl))) hd ⟨u,rfl,rfl,I.Zw f,cJ hz on,g⟩
theorem eI (hr : fn.results = #[.cell i 68, .tmp j])(h1 : a.tmps[i]? = some (.pointer (some ⟨zq, 0, none⟩)))(h2 : a.tmps[j]? = some (.int .i64 e))(hd : a.defers = [])
    (Q:Bx w1 zq vs)(hl:vs.length=12)(on:aA w w1)(hz:w.heap.size≤zq)(hq:q=(cS,e)):bodyPost prog fn (oZ w q) .ret a (w1.setCells zq 0 (aE zV)) :=
 mI (u:=zV) hr h1 h2 hd Q hl (OM _) (FP _) on hz hq ⟨aR.Zp _,aR.Zp _⟩
end
end
section
def uW (w:World)(r:dI×aL×Int)(e:Ending)(w':World):Prop:=e=.returned (.tuple #[.agg #[r.1.kind,r.1.at_,r.1.epoch,r.1.e.kind,r.1.e.job,r.1.e.every,r.1.e.time,r.1.e.client],.agg #[r.2.1.kind,r.2.1.job,r.2.1.every,r.2.1.time,r.2.1.client],r.2.2])∧aA w w'
theorem PI:(prog.info? 90).map (·.size)=some 8:=by kernel_rfl
theorem LQ:(prog.info? 27).map (·.size)=some 5:=by kernel_rfl
abbrev cR (k a e kd j v t c:Int):List Value:=[k,a,e,kd,j,v,t,c]
abbrev cE (kd j v t c:Int):List Value:=[kd,j,v,t,c]
abbrev z8:List Value:=cR 0 0 0 0 0 0 0 0
abbrev z5:List Value:=cE 0 0 0 0 0
theorem eE {ops : Array Oper}{rest : List Oper}{op op' : Oper}{a : Act}{Q : Exit → Act → World → Prop}{w : World}{z z' : Nat}{x y x' y' : Operand}(R : Bx w z z8)(Y : Bx w z' z5)(ne : z ≠ z')(hgd : op.guard = none)(ho : op.op = .store 90 x y)(hx : a.eval x = .pointer (some ⟨z, 0, none⟩))(hy : a.eval y = .agg z8.toArray)
    (hgd':op'.guard=none)(ho':op'.op=.store 27 x' y')(hx':(a.put op.dst undef).eval x'=.pointer (some ⟨z',0,none⟩))(hy':(a.put op.dst undef).eval y'=.agg z5.toArray)
    (h:wpList prog ops Q rest ((a.put op.dst undef).put op'.dst undef) ((w.setCells z 0 z8).setCells z' 0 z5)):wpList prog ops Q (op ::op' ::rest) a w :=
 nU R z8 90 x y hgd ho hx hy rfl PI rfl (nU (Y.off (Ne.symm ne)) z5 27 x' y' hgd' ho' hx' hy' rfl LQ rfl h)
theorem EY {ts : Array Value}{w : World}{p q : Nat}{err : Int}{k a e kd j v t c kd' j' v' t' c' : Int}(h1 : ts[10]? = some (.pointer (some ⟨p, 0, none⟩)))(h2 : ts[11]? = some (.pointer (some ⟨q, 0, none⟩)))(h3 : ts[12]? = some (.int .i64 err))(B : Bx w p (cR k a e kd j v t c))(B' : Bx w q (cE kd' j' v' t' c')) :
    (results Tryz.f125 ts).run prog w=.ok (.tuple #[.agg (cR k a e kd j v t c).toArray,.agg (cE kd' j' v' t' c').toArray,err]) w:=by
 obtain⟨z0,z1,z2,z3,z4,z5,z6,z7⟩:=B.p8;obtain⟨y0,y1,y2,y3,y4⟩:=B'.p5;simp[results,results125,h1,h2,h3,go_sem,z0,z1,z2,z3,z4,z5,z6,z7,y0,y1,y2,y3,y4]
theorem kO {w w4 W : World}{p q : Nat}{r : dI×aL×Int}{ts : Array Value}{k a e kd j v t c kd' j' v' t' c' err : Int}{o1 o2 : List Value}(hW : W = (w4.setCells p 0 (cR k a e kd j v t c)).setCells q 0 (cE kd' j' v' t' c'))(R : Bx w4 p o1)(Y : Bx w4 q o2)(l1 : o1.length = 8)(l2 : o2.length = 5)(ne : p ≠ q)
    (on:aA w w4)(hp:w.heap.size≤p)(hq:w.heap.size≤q)(hr:r=(⟨k,a,e,⟨kd,j,v,t,c⟩⟩,⟨kd',j',v',t',c'⟩,err))(h1:ts[10]?=some (.pointer (some ⟨p,0,none⟩)))(h2:ts[11]?=some (.pointer (some ⟨q,0,none⟩)))(h3:ts[12]?=some (.int .i64 err)):bodyPost prog Tryz.f125 (uW w r) .ret ⟨ts,[]⟩ W:=by
 subst hW hr;exact bodyPost_ret (EY h1 h2 h3 ((R.put (by rw[l1];rfl)).off ne) ((Y.off (Ne.symm ne)).put (by rw[l2];rfl))) rfl ⟨rfl,cJ hq (cJ hp on)⟩
theorem pY {w w4 W : World}{p q : Nat}{r : dI×aL×Int}{ts : Array Value}{k a e kd j v t c kd' j' v' t' c' err : Int}{o1 o2 : List Value}(hW : W = ((w4.setCells p 0 (cR k a e kd j v t c)).setCells q 0 (cE kd' j' v' t' c')).drew)(R : Bx w4 p o1)(Y : Bx w4 q o2)(l1 : o1.length = 8)(l2 : o2.length = 5)(ne : p ≠ q)
    (on:aA w w4)(hp:w.heap.size≤p)(hq:w.heap.size≤q)(hr:r=(⟨k,a,e,⟨kd,j,v,t,c⟩⟩,⟨kd',j',v',t',c'⟩,err))(h1:ts[10]?=some (.pointer (some ⟨p,0,none⟩)))(h2:ts[11]?=some (.pointer (some ⟨q,0,none⟩)))(h3:ts[12]?=some (.int .i64 err)):bodyPost prog Tryz.f125 (uW w r) .ret ⟨ts,[]⟩ W:=by
 subst hW hr;exact bodyPost_ret (EY h1 h2 h3 ((R.put (by rw[l1];rfl)).off ne).draw ((Y.off (Ne.symm ne)).put (by rw[l2];rfl)).draw) rfl ⟨rfl,(cJ hq (cJ hp on)).draw⟩
theorem GZ (A : Option Addr)(n c : Nat)(l : List UV)(k a : Int)(x : aL)(ep : Int)(w : World)(h : Us w A n l) :
    Calls prog 125 #[.slice A n c,k,a,.agg #[x.kind,x.job,x.every,x.time,x.client],ep] w (uW w (lW (jW l) k a x ep)):=by
 obtain⟨q,hq⟩:∃q,q=gR (jW l):=⟨_,rfl⟩
 obtain⟨q2,hq2⟩:∃q2,q2=aG x:=⟨_,rfl⟩
 obtain⟨r,hr⟩:∃r,r=lW (jW l) k a x ep:=⟨_,rfl⟩
 rw[←hr];unfold lW at hr;rw[←hq,←hq2]at hr;have HQ:=aH hq;have HQ2:=aH hq2;have HR0:=aH hr;clear hq hq2 hr;go_enter func125,ntmps125;go_upto_region 1 with fail
 refine fY (v1:=cE x.kind x.job x.every x.time x.client) (v2:=z8) (v3:=z5) rfl rfl rfl fun w0 on X R Y=>?_
 replace h:=h.oe on;generalize hz:w.heap.size=z at X R Y⊢;have hne:=rM;go_wp2_with fail;refine Calls.mono (rQ A n c l _ h) ?_;rw[←HQ.out];rintro e w1⟨rfl,b1⟩;replace on:=on.to b1;replace X:=X.oe b1;replace R:=R.oe b1;replace Y:=Y.oe b1;replace h:=h.oe b1;clear b1;by_cases h0:q=0
 · have hg:=lB.1 (HQ.out.symm.trans h0);have hn:n=3:=by rw[←h.len,←List.length_map (f:=UV.u)];exact hg.len
   subst h0;subst hn;have HG:=aH hg;have hr:=HR0.out;rw[if_neg (by simp)]at hr;by_cases hbad:k<0∨3≤k∨a<0∨60≤a
   · rw[if_pos hbad]at hr;have HR:=aH hr;clear hr HR0 hg;by_cases hb1:k<0
     · clear hbad;go_wp2_with (refine eE R Y (by omega) (by rfl) (by rfl) (by rfl) (by rfl) (by rfl) (by rfl) (by rfl) (by rfl) ?_)
       exact kO rfl R Y rfl rfl (by omega) on (by omega) (by omega) HR.out rfl rfl rfl
     by_cases hb2:3≤k
     · clear hbad;go_wp2_with (refine eE R Y (by omega) (by rfl) (by rfl) (by rfl) (by rfl) (by rfl) (by rfl) (by rfl) (by rfl) ?_)
       exact kO rfl R Y rfl rfl (by omega) on (by omega) (by omega) HR.out rfl rfl rfl
     by_cases hb3:a<0
     · clear hbad;go_wp2_with (refine eE R Y (by omega) (by rfl) (by rfl) (by rfl) (by rfl) (by rfl) (by rfl) (by rfl) (by rfl) ?_)
       exact kO rfl R Y rfl rfl (by omega) on (by omega) (by omega) HR.out rfl rfl rfl
     have hb4:60≤a:=by omega
     clear hbad;go_wp2_with (refine eE R Y (by omega) (by rfl) (by rfl) (by rfl) (by rfl) (by rfl) (by rfl) (by rfl) (by rfl) ?_)
     exact kO rfl R Y rfl rfl (by omega) on (by omega) (by omega) HR.out rfl rfl rfl
   rw[if_neg hbad]at hr;obtain⟨j,rfl⟩:∃j:Nat,a=j:=⟨a.toNat,by omega⟩
   obtain⟨i,rfl⟩:∃i:Nat,k=i:=⟨k.toNat,by omega⟩
   have hi3:i<3:=by omega
   have hj60:j<60:=by omega
   have hn1:¬ (i:Int)<0:=by omega
   have hn2:¬ (3:Int)≤(i:Int):=by omega
   have hn3:¬ (j:Int)<0:=by omega
   have hn4:¬ (60:Int)≤(j:Int):=by omega
   have HR1:=aH hr;clear hr hbad HR0 hg;obtain⟨x0,x1,x2,x3,x4⟩:=X.p5;go_wp2_with fail;refine Calls.mono (dG x.kind x.job x.every x.time x.client _) ?_;rw[show aG ⟨x.kind,x.job,x.every,x.time,x.client⟩=q2 from HQ2.out.symm];rintro e w2⟨rfl,b2⟩;clear x0 x1 x2 x3 x4;replace b2:aA w1 w2:=b2;replace on:=on.to b2;replace X:=X.oe b2;replace R:=R.oe b2;replace Y:=Y.oe b2;replace h:=h.oe b2;clear b2;have hr:=HR1.out;by_cases h20:q2=0
   · subst h20;rw[if_neg (by simp)]at hr;obtain⟨b,off,u,rfl,hbz,hu,e0,e1,hs,hul⟩:=h.atU hi3;have hgu:=HG.out.ok u.u (List.mem_map.2 ⟨u,List.mem_of_getElem? hu,rfl⟩);have hun:u.n=60:=by rw[←hul];exact hgu.len
     rw[Int.toNat_natCast,Int.toNat_natCast,mT (kB hu)]at hr;simp only[show u.u.ep=u.ep from rfl,show u.u.cells=u.cells from rfl]at hr;rw[hun]at hs e1;by_cases hep:ep≠u.ep
     · rw[if_pos hep]at hr;have HR:=aH hr;have hd:(ep !=u.ep)=true:=by simpa using hep
       clear hr HR1 hep hs hgu e1;go_wp2_with (refine eE R Y (by omega) (by rfl) (by rfl) (by rfl) (by rfl) (by rfl) (by rfl) (by rfl) (by rfl) ?_)
       exact kO rfl R Y rfl rfl (by omega) on (by omega) (by omega) HR.out rfl rfl rfl
     rw[if_neg hep]at hr;have hep':ep=u.ep:=by omega
     subst hep';have HR1:=aH hr;clear hr hep hgu;obtain⟨b1,off1,y,hA1,hyz,hy,d0,d1,d2,d3,d4⟩:=hs.atE hj60;rw[hA1]at e1;have hj60':(j:Int)<60:=by omega
     have hi3':(i:Int)<3:=by omega
     have hr:=HR1.out;rw[dH hy]at hr;clear hy HR1 hu;rcases Nat.eq_zero_or_pos i with rfl|hpos
     · rw[if_neg (by omega)]at hr;have HR1:=aH hr;clear hr;simp only[Nat.zero_mul,Nat.add_zero]at e0 e1;obtain⟨x0,x1,x2,x3,x4⟩:=X.p5;go_wp2_with fail;go_quiet (fail);obtain⟨w3,hw3⟩:∃w3,w3=w2.drewN nq:=⟨_,rfl⟩
       rw[←hw3];have b3:aA w2 w3:=hw3▸aA.Zv (Below.refl _ _) nq;clear hw3;replace e0:=aB b3 e0;replace e1:=aB b3 e1;replace d0:=aB b3 d0;replace d1:=aB b3 d1;replace d2:=aB b3 d2;replace d3:=aB b3 d3;replace d4:=aB b3 d4;clear x0 x1 x2 x3 x4;clear hs h;replace on:=on.to b3;replace X:=X.oe b3;replace R:=R.oe b3;replace Y:=Y.oe b3;clear b3;go_upto_region 14 with fail
       refine aW (v1:=cE y.kind y.job y.every y.time y.client) rfl fun w4 ob V=>?_
       generalize hv:w3.heap.size=zv at V⊢;have hxl:=X.lt;have hrl:=R.lt;have hyl:=Y.lt;clear e0 e1 d0 d1 d2 d3 d4;replace on:=on.to ob;replace X:=X.oe ob;replace R:=R.oe ob;replace Y:=Y.oe ob;clear ob;obtain⟨v0,v1,v2,v3,v4⟩:=V.p5;have HR2:=HR1.out;clear HR1;by_cases h4:y.kind≠4
       · rw[if_pos h4]at HR2;have HR:=aH HR2;have hd:(y.kind !=4)=true:=by simpa using h4
         clear HR2 h4;have r0:=R.at_ 0 rfl;have s0:=R.Zy 0;have r1:=R.at_ 1 rfl;have s1:=R.Zy 1;have r2:=R.at_ 2 rfl;have s2:=R.Zy 2;have r3:=R.at_ 3 rfl;have s3:=R.Zy 3;have r4:=R.at_ 4 rfl;have s4:=R.Zy 4;have r5:=R.at_ 5 rfl;have s5:=R.Zy 5;have r6:=R.at_ 6 rfl;have s6:=R.Zy 6;have r7:=R.at_ 7 rfl;have s7:=R.Zy 7;have y0:=Y.at_ 0 rfl;have t0:=Y.Zy 0;have y1:=Y.at_ 1 rfl;have t1:=Y.Zy 1;have y2:=Y.at_ 2 rfl;have t2:=Y.Zy 2;have y3:=Y.at_ 3 rfl;have t3:=Y.Zy 3;have y4:=Y.at_ 4 rfl;have t4:=Y.Zy 4;go_upto_region 15 with fail
         go_region
         all_goals
          go_wp2_with fail;exact pY (k:=0) (a:=0) (e:=0) (kd:=0) (j:=0) (v:=0) (t:=0) (c:=0) (kd':=y.kind) (j':=y.job) (v':=y.every) (t':=y.time) (c':=y.client) (w4:=w4) rfl R Y rfl rfl (by omega) on (by omega) (by omega) HR.out rfl rfl rfl
       rw[if_neg h4]at HR2;have HR:=aH HR2;have hd:(y.kind !=4)=false:=by simpa using h4
       clear HR2 h4;have r0:=R.at_ 0 rfl;have s0:=R.Zy 0;have r1:=R.at_ 1 rfl;have s1:=R.Zy 1;have r2:=R.at_ 2 rfl;have s2:=R.Zy 2;have r3:=R.at_ 3 rfl;have s3:=R.Zy 3;have r4:=R.at_ 4 rfl;have s4:=R.Zy 4;have r5:=R.at_ 5 rfl;have s5:=R.Zy 5;have r6:=R.at_ 6 rfl;have s6:=R.Zy 6;have r7:=R.at_ 7 rfl;have s7:=R.Zy 7;have y0:=Y.at_ 0 rfl;have t0:=Y.Zy 0;have y1:=Y.at_ 1 rfl;have t1:=Y.Zy 1;have y2:=Y.at_ 2 rfl;have t2:=Y.Zy 2;have y3:=Y.at_ 3 rfl;have t3:=Y.Zy 3;have y4:=Y.at_ 4 rfl;have t4:=Y.Zy 4;obtain⟨x0,x1,x2,x3,x4⟩:=X.p5;go_upto_region 16 with fail
       go_region
       all_goals
        go_wp2_with fail;exact pY (k:=1) (a:=j) (e:=0) (kd:=x.kind) (j:=x.job) (v:=x.every) (t:=x.time) (c:=x.client) (kd':=x.kind) (j':=x.job) (v':=x.every) (t':=x.time) (c':=x.client) (w4:=w4) rfl R Y rfl rfl (by omega) on (by omega) (by omega) HR.out rfl rfl rfl
     obtain⟨b',off',v,hA',_,hv,g0,g1,hsv,hvl⟩:=h.atU (i:=i-1) (by omega);injection hA' with hA';injection hA' with e1' e2' _;subst e1';subst e2';have hgv:=HG.out.ok v.u (List.mem_map.2 ⟨v,List.mem_of_getElem? hv,rfl⟩);have hvn:v.n=60:=by rw[←hvl];exact hgv.len
     rw[hvn]at hsv g1;obtain⟨b2,off2,y',hA2,hyz',hy',f0,f1,f2,f3,f4⟩:=hsv.atE hj60;rw[hA2]at g1;rw[mT (kB hv),show bF v.u.cells j=y' from dH hy']at hr;have hpos':(0:Int)<(i:Int):=by omega
     clear hsv hv hy' hgv hA1 hA2;by_cases hyx:y'=x
     · have hd2:(!(y'.kind ==x.kind&&y'.job ==x.job&&y'.every ==x.every&&y'.time ==x.time&&y'.client ==x.client))=false:=by simp[hyx]
       rw[if_neg (by simp[hyx])]at hr;have HR1:=aH hr;clear hr hyx;obtain⟨x0,x1,x2,x3,x4⟩:=X.p5;go_wp2_with fail;go_quiet (fail);obtain⟨w3,hw3⟩:∃w3,w3=w2.drewN nq:=⟨_,rfl⟩
       rw[←hw3];have b3:aA w2 w3:=hw3▸aA.Zv (Below.refl _ _) nq;clear hw3;replace e0:=aB b3 e0;replace e1:=aB b3 e1;replace d0:=aB b3 d0;replace d1:=aB b3 d1;replace d2:=aB b3 d2;replace d3:=aB b3 d3;replace d4:=aB b3 d4;clear f0 f1 f2 f3 f4 g0 g1 x0 x1 x2 x3 x4;clear hs h;replace on:=on.to b3;replace X:=X.oe b3;replace R:=R.oe b3;replace Y:=Y.oe b3;clear b3;go_upto_region 14 with fail
       refine aW (v1:=cE y.kind y.job y.every y.time y.client) rfl fun w4 ob V=>?_
       generalize hv:w3.heap.size=zv at V⊢;have hxl:=X.lt;have hrl:=R.lt;have hyl:=Y.lt;clear e0 e1 d0 d1 d2 d3 d4;replace on:=on.to ob;replace X:=X.oe ob;replace R:=R.oe ob;replace Y:=Y.oe ob;clear ob;obtain⟨v0,v1,v2,v3,v4⟩:=V.p5;have HR2:=HR1.out;clear HR1;by_cases h4:y.kind≠4
       · rw[if_pos h4]at HR2;have HR:=aH HR2;have hd:(y.kind !=4)=true:=by simpa using h4
         clear HR2 h4;have r0:=R.at_ 0 rfl;have s0:=R.Zy 0;have r1:=R.at_ 1 rfl;have s1:=R.Zy 1;have r2:=R.at_ 2 rfl;have s2:=R.Zy 2;have r3:=R.at_ 3 rfl;have s3:=R.Zy 3;have r4:=R.at_ 4 rfl;have s4:=R.Zy 4;have r5:=R.at_ 5 rfl;have s5:=R.Zy 5;have r6:=R.at_ 6 rfl;have s6:=R.Zy 6;have r7:=R.at_ 7 rfl;have s7:=R.Zy 7;have y0:=Y.at_ 0 rfl;have t0:=Y.Zy 0;have y1:=Y.at_ 1 rfl;have t1:=Y.Zy 1;have y2:=Y.at_ 2 rfl;have t2:=Y.Zy 2;have y3:=Y.at_ 3 rfl;have t3:=Y.Zy 3;have y4:=Y.at_ 4 rfl;have t4:=Y.Zy 4;go_upto_region 15 with fail
         go_region
         all_goals
          go_wp2_with fail;exact pY (k:=0) (a:=0) (e:=0) (kd:=0) (j:=0) (v:=0) (t:=0) (c:=0) (kd':=y.kind) (j':=y.job) (v':=y.every) (t':=y.time) (c':=y.client) (w4:=w4) rfl R Y rfl rfl (by omega) on (by omega) (by omega) HR.out rfl rfl rfl
       rw[if_neg h4]at HR2;have HR:=aH HR2;have hd:(y.kind !=4)=false:=by simpa using h4
       clear HR2 h4;have r0:=R.at_ 0 rfl;have s0:=R.Zy 0;have r1:=R.at_ 1 rfl;have s1:=R.Zy 1;have r2:=R.at_ 2 rfl;have s2:=R.Zy 2;have r3:=R.at_ 3 rfl;have s3:=R.Zy 3;have r4:=R.at_ 4 rfl;have s4:=R.Zy 4;have r5:=R.at_ 5 rfl;have s5:=R.Zy 5;have r6:=R.at_ 6 rfl;have s6:=R.Zy 6;have r7:=R.at_ 7 rfl;have s7:=R.Zy 7;have y0:=Y.at_ 0 rfl;have t0:=Y.Zy 0;have y1:=Y.at_ 1 rfl;have t1:=Y.Zy 1;have y2:=Y.at_ 2 rfl;have t2:=Y.Zy 2;have y3:=Y.at_ 3 rfl;have t3:=Y.Zy 3;have y4:=Y.at_ 4 rfl;have t4:=Y.Zy 4;obtain⟨x0,x1,x2,x3,x4⟩:=X.p5;go_upto_region 16 with fail
       go_region
       all_goals
        go_wp2_with fail;exact pY (k:=1) (a:=j) (e:=0) (kd:=x.kind) (j:=x.job) (v:=x.every) (t:=x.time) (c:=x.client) (kd':=x.kind) (j':=x.job) (v':=x.every) (t':=x.time) (c':=x.client) (w4:=w4) rfl R Y rfl rfl (by omega) on (by omega) (by omega) HR.out rfl rfl rfl
     have hd2:(!(y'.kind ==x.kind&&y'.job ==x.job&&y'.every ==x.every&&y'.time ==x.time&&y'.client ==x.client))=true:=by
      rw[cD]at hyx;simp only[Bool.not_eq_true',Bool.and_eq_false_iff,beq_eq_false_iff_ne];omega
     rw[if_pos ⟨by omega,hyx⟩]at hr;have HR:=aH hr;clear hr hyx;obtain⟨x0,x1,x2,x3,x4⟩:=X.p5;go_wp2_with fail;go_quiet (fail);obtain⟨w3,hw3⟩:∃w3,w3=w2.drewN nq:=⟨_,rfl⟩
     rw[←hw3];have b3:aA w2 w3:=hw3▸aA.Zv (Below.refl _ _) nq;clear hw3;replace e0:=aB b3 e0;replace e1:=aB b3 e1;replace d0:=aB b3 d0;replace d1:=aB b3 d1;replace d2:=aB b3 d2;replace d3:=aB b3 d3;replace d4:=aB b3 d4;clear d0 d1 d2 d3 d4 f0 f1 f2 f3 f4 g0 g1 e0 e1 x0 x1 x2 x3 x4 hs h;replace on:=on.to b3;replace X:=X.oe b3;replace R:=R.oe b3;replace Y:=Y.oe b3;clear b3;go_wp2_with (refine eE R Y (by omega) (by rfl) (by rfl) (by rfl) (by rfl) (by rfl) (by rfl) (by rfl) (by rfl) ?_)
     exact kO rfl R Y rfl rfl (by omega) on (by omega) (by omega) HR.out rfl rfl rfl
   rw[if_pos h20]at hr;have HR:=aH hr;have hd:(q2 !=0)=true:=by simpa using h20
   clear hr HR1 h20;go_wp2_with (refine eE R Y (by omega) (by rfl) (by rfl) (by rfl) (by rfl) (by rfl) (by rfl) (by rfl) (by rfl) ?_)
   exact kO rfl R Y rfl rfl (by omega) on (by omega) (by omega) HR.out rfl rfl rfl
 have hr:=HR0.out;rw[if_pos h0]at hr;have HR:=aH hr;have hd:(q !=0)=true:=by simpa using h0
 clear hr HR0 h0;go_wp2_with (refine eE R Y (by omega) (by rfl) (by rfl) (by rfl) (by rfl) (by rfl) (by rfl) (by rfl) (by rfl) ?_)
 exact kO rfl R Y rfl rfl (by omega) on (by omega) (by omega) HR.out rfl rfl rfl
end
end Go.Proofs.YtpfkagghooihfaaGreatDoor
