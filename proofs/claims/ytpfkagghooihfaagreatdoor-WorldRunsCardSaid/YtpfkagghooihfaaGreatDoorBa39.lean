/- Part 39. -/
import Derived.Test.YtpfkagghooihfaaGreatDoorBa34
import Derived.Test.YtpfkagghooihfaaGreatDoorBa32
import Derived.Test.YtpfkagghooihfaaGreatDoorBa38
import Derived.Test.YtpfkagghooihfaaGreatDoorBa35
import Derived.Test.YtpfkagghooihfaaGreatDoorBa37
import Derived.Test.YtpfkagghooihfaaGreatDoorBa25
import Derived.Test.YtpfkagghooihfaaGreatDoorBa29
namespace Go.Proofs.YtpfkagghooihfaaGreatDoor
set_option linter.unusedSimpArgs false
set_option linter.unusedVariables false
set_option maxHeartbeats 16000000
set_option maxRecDepth 100000
open Go.Proofs.Tryz
open Go.RowKit
section
attribute [local go_sem ↓] Go.wp_at_zero Go.wp_at_succ
theorem zD {ns:List NV}{tip:Int}{cs:List CV}{time:Int}(h:cQ (aY ns tip cs time)):∀v∈cs,aP v.x=0:=fun v hv=>by
 obtain⟨i,hi,rfl⟩:=List.getElem_of_mem hv;have hc:cs.length=3:=by have:=h.c3;simpa[aY,bL]using this
 have:=(h.cli i (by omega)).1;rwa[show(aY ns tip cs time).c=bL cs from rfl,cU (List.getElem?_eq_getElem hi)]at this
theorem cY (K w0 : World)(z nb cN cb cC : Nat)(ns : List NV)(tip : Int)(cs : List CV)(time : Int)(kd cl nn jb ep : Int)(y : aL)(w : World)(E0 : fR w0)(H : WM K w0 w z nb cN cb cC ns tip cs time)(hg : cQ (aY ns tip cs time))
    (hk:kd=1∨kd=2∨kd=3∨kd=4∨kd=5∨kd=6∨kd=7∨kd=14∨kd=15) :
    Calls prog 67 #[.pointer (some ⟨z,0,none⟩),.agg #[kd,cl,nn,jb,ep,y.kind,y.job,y.every,y.time,y.client]] w (bR K w0 z nb cN cb cC (aZ (aY ns tip cs time) ⟨kd,cl,nn,jb,ep,y⟩)):=by
 by_cases hn:cl<0∨3≤cl
 · have hq:aZ (aY ns tip cs time) ⟨kd,cl,nn,jb,ep,y⟩=(aY ns tip cs time,5):=by unfold aZ;rw[if_pos hn]
   rw[hq];clear hq hk hg;have z2:=H.bx.at_ 2 rfl;have hz:=H.lts;rcases Decidable.em (cl<0)with h1|h1
   · clear hn;go_enter func67,ntmps67;go_upto_region 1 with fail
     go_quiet (fail);go_wp2_with fail;go_ret;exact bR.bad' rfl (by simp) ((H.aw.new _).Zv _)
   have h2:3≤cl:=by omega
   clear hn;go_enter func67,ntmps67;go_upto_region 1 with fail
   go_quiet (fail);go_wp2_with fail;go_ret;exact bR.bad' rfl (by simp) ((H.aw.new _).Zv _)
 obtain⟨m,rfl⟩:∃m:Nat,cl=(m:Int):=⟨cl.toNat,by omega⟩
 have hm:m<3:=by omega
 have hok:=zD hg;rcases hk with h|h|h|h|h|h|h|h|h
 · exact sW K w0 z nb cN cb cC ns tip cs time kd nn jb ep m y w E0 H hok hm h
 · exact tN K w0 z nb cN cb cC ns tip cs time kd nn jb ep m y w E0 H hok hm h
 · exact tL K w0 z nb cN cb cC ns tip cs time kd nn jb ep m y w E0 H hok hm hg.tip0 hg.tip1 h
 · exact jR K w0 z nb cN cb cC ns tip cs time kd nn jb ep m y w E0 H hok hm (.inl h)
 · exact jR K w0 z nb cN cb cC ns tip cs time kd nn jb ep m y w E0 H hok hm (.inr (.inl h))
 · exact tH K w0 z nb cN cb cC ns tip cs time kd nn jb ep m y w E0 H hok hm h
 · exact tO K w0 z nb cN cb cC ns tip cs time kd nn jb ep m y w E0 H hok hm h
 · exact tA K w0 z nb cN cb cC ns tip cs time kd nn jb ep m y w E0 H hok hm h
 exact jR K w0 z nb cN cb cC ns tip cs time kd nn jb ep m y w E0 H hok hm (.inr (.inr h))
theorem qK (K w0 : World)(z nb cN cb cC : Nat)(ns : List NV)(tip : Int)(cs : List CV)(time : Int)(kd cl nn jb ep : Int)(y : aL)(w : World)(E0 : fR w0)(H : WM K w0 w z nb cN cb cC ns tip cs time)(hg : cQ (aY ns tip cs time)) :
    Calls prog 17 #[.pointer (some ⟨z,0,none⟩),.agg #[kd,cl,nn,jb,ep,y.kind,y.job,y.every,y.time,y.client]] w (bR K w0 z nb cN cb cC (aI (aY ns tip cs time) ⟨kd,cl,nn,jb,ep,y⟩)):=by
 obtain⟨q,hq⟩:∃q,q=aI (aY ns tip cs time) ⟨kd,cl,nn,jb,ep,y⟩:=⟨_,rfl⟩
 rw[←hq];have ht0:=hg.t0;have ht1:=hg.t1;have HG:=aH hg;unfold aI at hq;dsimp only at hq;clear hg;have hzl:=H.lts;by_cases hr:kd<1∨15<kd
 · rw[if_pos hr]at hq;have HQ:=aH hq;clear hq ht0 ht1;rcases Decidable.em (kd<1)with h1|h1
   · clear hr;go_enter func17,ntmps17;go_wp2_with fail;go_ret;exact bR.bad' (by rw[HQ.out]) (by rw[HQ.out];simp) (H.aw.new _)
   have h2:15<kd:=by omega
   clear hr;go_enter func17,ntmps17;go_wp2_with fail;go_ret;exact bR.bad' (by rw[HQ.out]) (by rw[HQ.out];simp) (H.aw.new _)
 have hc:kd=1∨kd=2∨kd=3∨kd=4∨kd=5∨kd=6∨kd=7∨kd=8∨kd=9∨kd=10∨kd=11∨kd=12∨kd=13∨kd=14∨kd=15:=by omega
 rw[if_neg hr]at hq;clear hr;rcases hc with h|h|h|h|h|h|h|h|h|h|h|h|h|h|h
 · subst h;rw[if_neg (by decide),if_neg (by decide),if_neg (by decide)]at hq;have HQ:=aH hq;clear hq ht0 ht1;go_enter func17,ntmps17;go_wp2_with fail;refine Calls.mono (cY K w0 z nb cN cb cC ns tip cs time 1 cl nn jb ep y _ E0 (H.oe ((aA.Zz w).new _)) HG.out (by simp)) ?_;rw[←HQ.out];rintro e w3⟨rfl,h1,h2⟩;go_wp2_with fail;go_ret;exact⟨rfl,h1,h2⟩
 · subst h;rw[if_neg (by decide),if_neg (by decide),if_neg (by decide)]at hq;have HQ:=aH hq;clear hq ht0 ht1;go_enter func17,ntmps17;go_wp2_with fail;refine Calls.mono (cY K w0 z nb cN cb cC ns tip cs time 2 cl nn jb ep y _ E0 (H.oe ((aA.Zz w).new _)) HG.out (by simp)) ?_;rw[←HQ.out];rintro e w3⟨rfl,h1,h2⟩;go_wp2_with fail;go_ret;exact⟨rfl,h1,h2⟩
 · subst h;rw[if_neg (by decide),if_neg (by decide),if_neg (by decide)]at hq;have HQ:=aH hq;clear hq ht0 ht1;go_enter func17,ntmps17;go_wp2_with fail;refine Calls.mono (cY K w0 z nb cN cb cC ns tip cs time 3 cl nn jb ep y _ E0 (H.oe ((aA.Zz w).new _)) HG.out (by simp)) ?_;rw[←HQ.out];rintro e w3⟨rfl,h1,h2⟩;go_wp2_with fail;go_ret;exact⟨rfl,h1,h2⟩
 · subst h;rw[if_neg (by decide),if_neg (by decide),if_neg (by decide)]at hq;have HQ:=aH hq;clear hq ht0 ht1;go_enter func17,ntmps17;go_wp2_with fail;refine Calls.mono (cY K w0 z nb cN cb cC ns tip cs time 4 cl nn jb ep y _ E0 (H.oe ((aA.Zz w).new _)) HG.out (by simp)) ?_;rw[←HQ.out];rintro e w3⟨rfl,h1,h2⟩;go_wp2_with fail;go_ret;exact⟨rfl,h1,h2⟩
 · subst h;rw[if_neg (by decide),if_neg (by decide),if_neg (by decide)]at hq;have HQ:=aH hq;clear hq ht0 ht1;go_enter func17,ntmps17;go_wp2_with fail;refine Calls.mono (cY K w0 z nb cN cb cC ns tip cs time 5 cl nn jb ep y _ E0 (H.oe ((aA.Zz w).new _)) HG.out (by simp)) ?_;rw[←HQ.out];rintro e w3⟨rfl,h1,h2⟩;go_wp2_with fail;go_ret;exact⟨rfl,h1,h2⟩
 · subst h;rw[if_neg (by decide),if_neg (by decide),if_neg (by decide)]at hq;have HQ:=aH hq;clear hq ht0 ht1;go_enter func17,ntmps17;go_wp2_with fail;refine Calls.mono (cY K w0 z nb cN cb cC ns tip cs time 6 cl nn jb ep y _ E0 (H.oe ((aA.Zz w).new _)) HG.out (by simp)) ?_;rw[←HQ.out];rintro e w3⟨rfl,h1,h2⟩;go_wp2_with fail;go_ret;exact⟨rfl,h1,h2⟩
 · subst h;rw[if_neg (by decide),if_neg (by decide),if_neg (by decide)]at hq;have HQ:=aH hq;clear hq ht0 ht1;go_enter func17,ntmps17;go_wp2_with fail;refine Calls.mono (cY K w0 z nb cN cb cC ns tip cs time 7 cl nn jb ep y _ E0 (H.oe ((aA.Zz w).new _)) HG.out (by simp)) ?_;rw[←HQ.out];rintro e w3⟨rfl,h1,h2⟩;go_wp2_with fail;go_ret;exact⟨rfl,h1,h2⟩
 · subst h;rw[if_pos (by decide)]at hq;have HQ:=aH hq;clear hq ht0 ht1;go_enter func17,ntmps17;go_wp2_with fail;refine Calls.mono (kE K w0 z nb cN cb cC ns tip cs time 8 cl nn jb ep y _ (E0.oe (H.Zm.new _)) (H.oe ((aA.Zz w).new _)) (by simp)) ?_;rw[←HQ.out];rintro e w3⟨rfl,h1,h2⟩;go_wp2_with fail;go_ret;exact⟨rfl,h1,h2⟩
 · subst h;rw[if_pos (by decide)]at hq;have HQ:=aH hq;clear hq ht0 ht1;go_enter func17,ntmps17;go_wp2_with fail;refine Calls.mono (kE K w0 z nb cN cb cC ns tip cs time 9 cl nn jb ep y _ (E0.oe (H.Zm.new _)) (H.oe ((aA.Zz w).new _)) (by simp)) ?_;rw[←HQ.out];rintro e w3⟨rfl,h1,h2⟩;go_wp2_with fail;go_ret;exact⟨rfl,h1,h2⟩
 · subst h;rw[if_neg (by decide),if_pos rfl]at hq;by_cases hn:nn<0∨60<nn
   · rw[if_pos hn]at hq;have HQ:=aH hq;clear hq ht0 ht1;rcases Decidable.em (nn<0)with h1|h1
     · clear hn;go_enter func17,ntmps17;go_wp2_with fail;go_ret;exact bR.bad' (by rw[HQ.out]) (by rw[HQ.out];simp) (H.aw.new _)
     have h2:60<nn:=by omega
     clear hn;go_enter func17,ntmps17;go_wp2_with fail;go_ret;exact bR.bad' (by rw[HQ.out]) (by rw[HQ.out];simp) (H.aw.new _)
   rw[if_neg hn]at hq;have HQ:=aH hq;have h1:¬nn<0:=by omega
   have h2:¬60<nn:=by omega
   clear hq ht0 ht1 hn;have z1:=H.bx.at_ 1 rfl;have fz1:=H.bx.Zy 1;go_enter func17,ntmps17;go_wp2_with fail;refine bodyPost_ret (v:=.int .i64 0) (by simp[results,results17,go_sem]) rfl ?_;have H1:=H.setZ (tip':=nn) (time':=time) ((aK.Zz w z).put (p:=⟨z,1,none⟩) rfl (.int .i64 nn)) (H.bx.Zq (j:=1) (by simp) (.int .i64 nn));exact bR.ok (H1.oe ((aA.Zz _).new _)) (HQ.out.trans rfl)
 · subst h;rw[if_neg (by decide),if_neg (by decide),if_pos rfl]at hq;have z3:=H.bx.at_ 3 rfl;have fz3:=H.bx.Zy 3;have ht0':0≤time:=ht0;have ht1':time≤100000:=ht1;have hwt:IntKind.i64.wrap (100000-time)=100000-time:=IntWalk.i64_in _ (by omega);by_cases hn:nn<1∨100000-time<nn
   · rw[if_pos hn]at hq;have HQ:=aH hq;clear hq ht0 ht1;rcases Decidable.em (nn<1)with h1|h1
     · clear hn;go_enter func17,ntmps17;go_upto_region 23 with fail
       go_quiet (fail);go_wp2_with fail;go_ret;exact bR.bad' (by rw[HQ.out]) (by rw[HQ.out];simp) ((H.aw.new _).Zv _)
     have h2:100000-time<nn:=by omega
     clear hn;go_enter func17,ntmps17;go_upto_region 23 with fail
     go_quiet (fail);go_wp2_with fail;go_ret;exact bR.bad' (by rw[HQ.out]) (by rw[HQ.out];simp) ((H.aw.new _).Zv _)
   rw[if_neg hn]at hq;have HQ:=aH hq;have h1:¬nn<1:=by omega
   have h2:¬100000-time<nn:=by omega
   have hwa:IntKind.i64.wrap (time+nn)=time+nn:=IntWalk.i64_in _ (by omega);clear hq ht0 ht1 hn;go_enter func17,ntmps17;go_upto_region 23 with fail
   go_quiet (fail);go_upto_region 25 with fail
   have H1:=(H.oe ((aA.Zz w).new (Obj.cells #[(11:Int),cl,nn,jb,ep,y.kind,y.job,y.every,y.time,y.client] 29)))
   generalize hd:World.drewN _ _=w2;have H2:WM K w0 w2 z nb cN cb cC ns tip cs time:=by rw[←hd];exact H1.oe ((aA.Zz _).Zv _)
   have X2:Bx w2 w.heap.size [(11:Int),cl,nn,jb,ep,y.kind,y.job,y.every,y.time,y.client]:=by rw[←hd];exact(Bx.Zt _ _ _).Zv _
   clear hd H H1 z3 fz3;generalize w.heap.size=zx at *;have z3:=H2.bx.at_ 3 rfl;have fz3:=H2.bx.Zy 3;have x2:=X2.at_ 2 rfl;go_region;go_wp2_with fail;refine bodyPost_ret (v:=.int .i64 0) (by simp[results,results17,go_sem]) rfl ?_;have H3:=H2.oe ((aA.Zz w2).draw);exact bR.ok (H3.setZ ((aK.Zz _ z).put rfl _) (H3.bx.Zq (j:=3) (by simp) (.int .i64 (time+nn)))) (HQ.out.trans rfl)
 · subst h;rw[if_pos (by decide)]at hq;have HQ:=aH hq;clear hq ht0 ht1;go_enter func17,ntmps17;go_wp2_with fail;refine Calls.mono (kE K w0 z nb cN cb cC ns tip cs time 12 cl nn jb ep y _ (E0.oe (H.Zm.new _)) (H.oe ((aA.Zz w).new _)) (by simp)) ?_;rw[←HQ.out];rintro e w3⟨rfl,h1,h2⟩;go_wp2_with fail;go_ret;exact⟨rfl,h1,h2⟩
 · subst h;rw[if_pos (by decide)]at hq;have HQ:=aH hq;clear hq ht0 ht1;go_enter func17,ntmps17;go_wp2_with fail;refine Calls.mono (kE K w0 z nb cN cb cC ns tip cs time 13 cl nn jb ep y _ (E0.oe (H.Zm.new _)) (H.oe ((aA.Zz w).new _)) (by simp)) ?_;rw[←HQ.out];rintro e w3⟨rfl,h1,h2⟩;go_wp2_with fail;go_ret;exact⟨rfl,h1,h2⟩
 · subst h;rw[if_neg (by decide),if_neg (by decide),if_neg (by decide)]at hq;have HQ:=aH hq;clear hq ht0 ht1;go_enter func17,ntmps17;go_wp2_with fail;refine Calls.mono (cY K w0 z nb cN cb cC ns tip cs time 14 cl nn jb ep y _ E0 (H.oe ((aA.Zz w).new _)) HG.out (by simp)) ?_;rw[←HQ.out];rintro e w3⟨rfl,h1,h2⟩;go_wp2_with fail;go_ret;exact⟨rfl,h1,h2⟩
 subst h;rw[if_neg (by decide),if_neg (by decide),if_neg (by decide)]at hq;have HQ:=aH hq;clear hq ht0 ht1;go_enter func17,ntmps17;go_wp2_with fail;refine Calls.mono (cY K w0 z nb cN cb cC ns tip cs time 15 cl nn jb ep y _ E0 (H.oe ((aA.Zz w).new _)) HG.out (by simp)) ?_;rw[←HQ.out];rintro e w3⟨rfl,h1,h2⟩;go_wp2_with fail;go_ret;exact⟨rfl,h1,h2⟩
end
section
theorem iF {w:World}{A C:Option Addr}{n m:Nat}{ns:List NV}{cs:List CV}{tip time:Int}(R:WR w A n C m ns cs)(hg:cQ (aY ns tip cs time)):n=3∧m=3∧OP ns cs:=by
 have h1:=R.nlen;have h2:=R.clen;have h3:ns.length=3:=by have:=hg.n3;simpa[aY,bC]using this
 have h4:cs.length=3:=by have:=hg.c3;simpa[aY,bL]using this
 refine⟨by omega,by omega,fun v hv=>?_,fun v hv=>?_⟩
 · obtain⟨i,hi,rfl⟩:=List.getElem_of_mem hv;have hn:=hg.node i (by omega);rw[show(aY ns tip cs time).n=bC ns from rfl,eW (List.getElem?_eq_getElem hi)]at hn;obtain⟨l,k,hd⟩:=fX hn;have I:=R.ni _ (List.getElem_mem hi);have e1:ns[i].x.u.cells.length=ns[i].n:=by have:=I.cells.len;simpa using this
   have e2:=I.disk.n_eq;have e3:=I.disk.m_eq;have e4:=(jM.1 hd.chk).1;have e5:=hd.good.1.len;exact⟨by omega,by omega,by omega⟩
 have hc:=zD hg v hv;have I:=R.ci v hv;have e1:v.x.b.jobs.length=v.n:=by have:=I.jobs.len;simpa using this
 have e2:v.x.b.rung.length=v.m:=by have:=I.rung.len;simpa using this
 obtain⟨_,_,_,_,_,hb⟩:=bK.1 hc;have hj:=hb.nj;have hr:=hb.nr;exact⟨by omega,by omega⟩
theorem WF.base {w0 w1 w:World}{nb cN cb cC:Nat}{ns:List NV}{cs:List CV}(h:WF w1 w nb cN cb cC ns cs)(b:aA w0 w1):WF w0 w nb cN cb cC ns cs :=
 ⟨h.nr,h.cr,h.nl,h.cl,h.ni,h.ci,Nat.le_trans b.size h.hn,Nat.le_trans b.size h.hc,h.nc,h.kN,h.kC,b.to h.on⟩
end
section
attribute [local go_sem ↓] Go.wp_at_zero Go.wp_at_succ
theorem Bx.kp {K w:World}{e z nb cb:Nat}{vs:List Value}(h:Bx K e vs)(k:Kp K w z nb cb)(h1:e≠z)(h2:e≠nb)(h3:e≠cb):Bx w e vs:=by
 have hb:=k.block e h.unf.lt h1 h2 h3
 exact⟨fun j v hv=>(World.cell?_of_block (a:=⟨e,j,none⟩) hb).trans (h.cells j v hv),by
  obtain⟨cs,t,hu⟩:=h.unf
  exact⟨cs,t,hb.trans hu⟩⟩
theorem eK.kp {K w:World}{e z nb cb:Nat}(h:eK K e)(k:Kp K w z nb cb)(h1:e≠z)(h2:e≠nb)(h3:e≠cb):eK w e:=by
 obtain⟨A,n,c,t0,C,m,d,s,T,fr,h⟩:=h;exact⟨A,n,c,t0,C,m,d,s,T,fr,(k.block e (Array.getElem?_eq_some_iff.1 h).1 h1 h2 h3).trans h⟩
def kZ (w:World)(q:iA×Int)(e:Ending)(w':World):Prop :=
 ∃A n c C m d ns cs,e=.returned (.tuple #[.agg #[.slice A n c,q.1.tip,.slice C m d,q.1.time],q.2])∧WR w' A n C m ns cs∧bC ns=q.1.n∧bL cs=q.1.c∧aA w w'
theorem kZ.bad {w w':World}{e:Int}{v:Value}(h:v=.tuple #[.agg #[Nat,(),Nat,()],e])(on:aA w w'):kZ w (fQ,e) (.returned v) w' :=
 ⟨none,0,0,none,0,0,[],[],by rw[h];rfl,⟨Sl.nil,Sl.nil,fun v hv=>absurd hv (by simp),fun v hv=>absurd hv (by simp)⟩,rfl,rfl,on⟩
theorem KH (A : Option Addr)(n c : Nat)(tip : Int)(C : Option Addr)(m d : Nat)(time : Int)(ns : List NV)(cs : List CV)(kd cl nn jb ep : Int)(y : aL)(w : World)(E : fR w)(R : WR w A n C m ns cs) :
    Calls prog 5 #[.agg #[.slice A n c,tip,.slice C m d,time],.agg #[kd,cl,nn,jb,ep,y.kind,y.job,y.every,y.time,y.client]] w (kZ w (mN (aY ns tip cs time) ⟨kd,cl,nn,jb,ep,y⟩)):=by
 obtain⟨g,hg⟩:∃g,g=dL (aY ns tip cs time):=⟨_,rfl⟩
 obtain⟨r,hr⟩:∃r,r=aI (aY ns tip cs time) ⟨kd,cl,nn,jb,ep,y⟩:=⟨_,rfl⟩
 obtain⟨q,hq⟩:∃q,q=mN (aY ns tip cs time) ⟨kd,cl,nn,jb,ep,y⟩:=⟨_,rfl⟩
 rw[←hq];unfold mN at hq;rw[←hg,←hr]at hq;have HG:=aH hg;have HR:=aH hr;have HQ:=aH hq;clear hg hr hq;go_enter func5,ntmps5;go_upto_region 1 with fail
 have on:=(((aA.Zz w).new (Obj.cells #[.slice A n c,tip,.slice C m d,time] 25)).new (Obj.cells #[kd,cl,nn,jb,ep,y.kind,y.job,y.every,y.time,y.client] 29)).new (Obj.cells #[Nat,(),Nat,()] 25);have Z:Bx (((w.alloc (Obj.cells #[.slice A n c,tip,.slice C m d,time] 25)).alloc (Obj.cells #[kd,cl,nn,jb,ep,y.kind,y.job,y.every,y.time,y.client] 29)).alloc (Obj.cells #[Nat,(),Nat,()] 25)) w.heap.size [.slice A n c,tip,.slice C m d,time]:=((Bx.Zt _ _ _).new _).new _;have X:Bx (((w.alloc (Obj.cells #[.slice A n c,tip,.slice C m d,time] 25)).alloc (Obj.cells #[kd,cl,nn,jb,ep,y.kind,y.job,y.every,y.time,y.client] 29)).alloc (Obj.cells #[Nat,(),Nat,()] 25)) (w.heap.size+1) [kd,cl,nn,jb,ep,y.kind,y.job,y.every,y.time,y.client]:=(iT w _ #[kd,cl,nn,jb,ep,y.kind,y.job,y.every,y.time,y.client] _).new _
 have Q:Bx (((w.alloc (Obj.cells #[.slice A n c,tip,.slice C m d,time] 25)).alloc (Obj.cells #[kd,cl,nn,jb,ep,y.kind,y.job,y.every,y.time,y.client] 29)).alloc (Obj.cells #[Nat,(),Nat,()] 25)) (w.heap.size+2) [Nat,(),Nat,()]:=by
  have:=iT (w.alloc (Obj.cells #[.slice A n c,tip,.slice C m d,time] 25)) (Obj.cells #[kd,cl,nn,jb,ep,y.kind,y.job,y.every,y.time,y.client] 29) #[Nat,(),Nat,()] 25;simpa using this
 have WB:eK (((w.alloc (Obj.cells #[.slice A n c,tip,.slice C m d,time] 25)).alloc (Obj.cells #[kd,cl,nn,jb,ep,y.kind,y.job,y.every,y.time,y.client] 29)).alloc (Obj.cells #[Nat,(),Nat,()] 25)) (w.heap.size+2):=by
  have:=eK.Zt ((w.alloc (Obj.cells #[.slice A n c,tip,.slice C m d,time] 25)).alloc (Obj.cells #[kd,cl,nn,jb,ep,y.kind,y.job,y.every,y.time,y.client] 29)) none none 0 0 0 0 0 0 25;simpa using this
 replace R:=R.oe on;change Code.wp _ _ _ _ (((w.alloc (Obj.cells #[.slice A n c,tip,.slice C m d,time] 25)).alloc (Obj.cells #[kd,cl,nn,jb,ep,y.kind,y.job,y.every,y.time,y.client] 29)).alloc (Obj.cells #[Nat,(),Nat,()] 25));generalize(((w.alloc (Obj.cells #[.slice A n c,tip,.slice C m d,time] 25)).alloc (Obj.cells #[kd,cl,nn,jb,ep,y.kind,y.job,y.every,y.time,y.client] 29)).alloc (Obj.cells #[Nat,(),Nat,()] 25))=w1 at *;obtain⟨z,hz⟩:∃z,z=w.heap.size:=⟨_,rfl⟩
 obtain⟨zx,hzx⟩:∃z,z=w.heap.size+1:=⟨_,rfl⟩
 obtain⟨zr,hzr⟩:∃z,z=w.heap.size+2:=⟨_,rfl⟩
 rw[←hz]at Z;rw[←hzx]at X;rw[←hzr]at Q WB;have h1:w.heap.size≤z:=by omega
 have h2:w.heap.size≤zr:=by omega
 have h3:z≠zr:=by omega
 have h4:zx≠zr:=by omega
 have h5:z≠zx:=by omega
 rw[←hzr,←hzx,←hz];clear hz hzx hzr;have hql:=Q.lt;have hzl:=Z.lt;obtain⟨z0,z1,z2,z3⟩:=Z.p4;go_wp2_with fail;refine Calls.mono (nA A n c tip C m d time ns cs _ (E.oe on) R) ?_;rw[←HG.out];rintro e w2⟨rfl,b⟩;replace on:=on.to b;replace R:=R.oe b;replace Z:=Z.oe b;replace X:=X.oe b;replace Q:=Q.oe b;replace WB:=WB.oe b;clear z0 z1 z2 z3 b;by_cases hg0:g=0
 · subst hg0;have hgood:=bZ.1 HG.out.symm;obtain⟨rfl,rfl,hsm⟩:=iF R hgood;have HGD:=aH hgood;have hq:=HQ.out;rw[if_neg (by simp)]at hq;replace HQ:=aH hq;clear hq hgood;go_upto_region 4 with fail
   obtain⟨z0,z1,z2,z3⟩:=Z.p4;go_wp2_with fail;refine Calls.mono (pO A c tip C d time ns cs _ R hsm) ?_;rintro e w3⟨nb,cN,cb,cC,ns2,cs2,rfl,e1,e2,F,f1,f2⟩;have b:=F.on;have hzl2:=Z.lt;have hnb:=F.hn;have hcb:=F.hc;have hrl2:=Q.lt;have hw2:=on.size;replace F:=F.base on;replace on:=on.to b;replace Z:=Z.oe b;replace X:=X.oe b;replace Q:=Q.oe b;replace WB:=WB.oe b;clear R z0 z1 z2 z3 b hsm;have f0:=Z.Zy 0;have f1':=Z.Zy 1;have f2':=Z.Zy 2;have f3:=Z.Zy 3;obtain⟨z0,z1,z2,z3⟩:=Z.p4;have t:aK w3 ((((w3.setCell ⟨z,0,none⟩ (.slice (some ⟨nb,0,none⟩) 3 cN)).setCell ⟨z,1,none⟩ (.int .i64 tip)).setCell ⟨z,2,none⟩ (.slice (some ⟨cb,0,none⟩) 3 cC)).setCell ⟨z,3,none⟩ (.int .i64 time)) z:=((((aK.Zz w3 z).put (p:=⟨z,0,none⟩) rfl (.slice (some ⟨nb,0,none⟩) 3 cN)).put (p:=⟨z,1,none⟩) rfl (.int .i64 tip)).put (p:=⟨z,2,none⟩) rfl (.slice (some ⟨cb,0,none⟩) 3 cC)).put (p:=⟨z,3,none⟩) rfl (.int .i64 time);have F4:=F.turn t h1 (by omega) (by omega) (fun v hv=>(f1 v hv).off hzl2) (fun v hv=>(f2 v hv).off hzl2);have Z4:Bx ((((w3.setCell ⟨z,0,none⟩ (.slice (some ⟨nb,0,none⟩) 3 cN)).setCell ⟨z,1,none⟩ (.int .i64 tip)).setCell ⟨z,2,none⟩ (.slice (some ⟨cb,0,none⟩) 3 cC)).setCell ⟨z,3,none⟩ (.int .i64 time)) z [.slice (some ⟨nb,0,none⟩) 3 cN,tip,.slice (some ⟨cb,0,none⟩) 3 cC,time]:=(((Z.Zq (j:=0) (by simp) (.slice (some ⟨nb,0,none⟩) 3 cN)).Zq (j:=1) (by simp) (.int .i64 tip)).Zq (j:=2) (by simp) (.slice (some ⟨cb,0,none⟩) 3 cC)).Zq (j:=3) (by simp) (.int .i64 time)
   have X4:=X.grown t (by intro e;injection e with e;exact h5 e.symm);have Q4:=Q.grown t (by intro e;injection e with e;exact h3 e.symm);have WB4:=WB.turn t (Ne.symm h3)
   have hgd:cQ (aY ns2 tip cs2 time):=by
    have h:=HGD.out;rwa[show aY ns tip cs time=aY ns2 tip cs2 time by simp[aY,e1,e2]]at h
   have hr3:aI (aY ns2 tip cs2 time) ⟨kd,cl,nn,jb,ep,y⟩=r:=by
    rw[HR.out,show aY ns tip cs time=aY ns2 tip cs2 time by simp[aY,e1,e2]]
   have HGD2:=aH hgd;have HR3:=aH hr3
   have HN:WM ((((w3.setCell ⟨z,0,none⟩ (.slice (some ⟨nb,0,none⟩) 3 cN)).setCell ⟨z,1,none⟩ (.int .i64 tip)).setCell ⟨z,2,none⟩ (.slice (some ⟨cb,0,none⟩) 3 cC)).setCell ⟨z,3,none⟩ (.int .i64 time)) w ((((w3.setCell ⟨z,0,none⟩ (.slice (some ⟨nb,0,none⟩) 3 cN)).setCell ⟨z,1,none⟩ (.int .i64 tip)).setCell ⟨z,2,none⟩ (.slice (some ⟨cb,0,none⟩) 3 cC)).setCell ⟨z,3,none⟩ (.int .i64 time)) z nb cN cb cC ns2 tip cs2 time :=
    ⟨Z4,F4,fun v hv=>(f1 v hv).off hzl2,fun v hv=>(f2 v hv).off hzl2,h1,by omega,by omega,Kp.Zz _ _ _ _,fun v hv b hb=>(f1 v hv).off (by omega),fun v hv b hb=>(f2 v hv).off (by omega)⟩
   have hzn:zr≠nb:=by omega
   have hzc:zr≠cb:=by omega
   clear hgd hr3 e1 e2;go_upto_region 5 with fail
   clear z0 z1 z2 z3 f0 f1' f2' f3 t Z F X Q WB on f1 f2 F4 Z4
   try change Code.wp _ _ _ _ ((((w3.setCell ⟨z,0,none⟩ (.slice (some ⟨nb,0,none⟩) 3 cN)).setCell ⟨z,1,none⟩ (.int .i64 tip)).setCell ⟨z,2,none⟩ (.slice (some ⟨cb,0,none⟩) 3 cC)).setCell ⟨z,3,none⟩ (.int .i64 time))
   generalize((((w3.setCell ⟨z,0,none⟩ (.slice (some ⟨nb,0,none⟩) 3 cN)).setCell ⟨z,1,none⟩ (.int .i64 tip)).setCell ⟨z,2,none⟩ (.slice (some ⟨cb,0,none⟩) 3 cC)).setCell ⟨z,3,none⟩ (.int .i64 time))=w4 at *;obtain⟨x0,x1,x2,x3,x4,x5,x6,x7,x8,x9⟩:=X4.p10;go_wp2_with fail;refine Calls.mono (qK w4 w z nb cN cb cC ns2 tip cs2 time kd cl nn jb ep y _ E HN HGD2.out) ?_;rw[HR3.out];rintro e w5⟨rfl,hon,hok⟩;have Q5:=Q4.kp hon.kp (Ne.symm h3) hzn hzc;have WB5:=WB4.kp hon.kp (Ne.symm h3) hzn hzc;have on:=hon.on;clear x0 x1 x2 x3 x4 x5 x6 x7 x8 x9 hon HN X4 Q4 WB4;by_cases h0:r.2=0
   · obtain⟨ns3,cs3,HM,e3,e4⟩:=hok h0;have hq:=HQ.out;rw[if_neg (by simp[h0])]at hq;have HQ2:=aH hq;obtain⟨tip5,ht5⟩:∃t,t=r.1.tip:=⟨_,rfl⟩
     obtain⟨time5,hs5⟩:∃t,t=r.1.time:=⟨_,rfl⟩
     rw[←ht5,←hs5]at HM;have HT5:=aH ht5;have HS5:=aH hs5;have HE3:=aH e3;have HE4:=aH e4;have hd:(r.2 !=0)=false:=by simpa using h0
     obtain⟨z0,z1,z2,z3⟩:=HM.bx.p4;obtain⟨q0,q1,q2,q3⟩:=Q5.p4;have f0:=Q5.Zy 0;have f1:=Q5.Zy 1;have f2:=Q5.Zy 2;have f3:=Q5.Zy 3;clear hok hq HQ ht5 hs5 e3 e4 h0;go_wp2_with fail;refine bodyPost_ret (v:=.tuple #[.agg #[.slice (some ⟨nb,0,none⟩) 3 cN,tip5,.slice (some ⟨cb,0,none⟩) 3 cC,time5],()]) (by simp[results,results5,go_sem,q0,q1,q2,q3,f0,f1,f2,f3]) rfl ?_;have t:=((((aK.Zz w5 zr).put (p:=⟨zr,0,none⟩) rfl (.slice (some ⟨nb,0,none⟩) 3 cN)).put (p:=⟨zr,1,none⟩) rfl (.int .i64 tip5)).put (p:=⟨zr,2,none⟩) rfl (.slice (some ⟨cb,0,none⟩) 3 cC)).put (p:=⟨zr,3,none⟩) rfl (.int .i64 time5);have R9:=WB5.wr HM.f.wr t (Ne.symm hzn) (Ne.symm hzc) (fun v hv=>WB5.node (HM.f.wr.ni v hv)) (fun v hv=>WB5.client (HM.f.wr.ci v hv));rw[HQ2.out];exact⟨_,3,cN,_,3,cC,ns3,cs3,by rw[HT5.out,HS5.out],R9,HE3.out,HE4.out,(((on.put h2 _).put h2 _).put h2 _).put h2 _⟩
   have hq:=HQ.out;rw[if_pos h0]at hq;have HQ2:=aH hq;have hd:(r.2 !=0)=true:=by simpa using h0
   obtain⟨q0,q1,q2,q3⟩:=Q5.p4;have f0:=Q5.Zy 0;have f1:=Q5.Zy 1;have f2:=Q5.Zy 2;have f3:=Q5.Zy 3;clear hok hq HQ h0;go_wp2_with fail;refine bodyPost_ret (v:=.tuple #[.agg #[Nat,(),Nat,()],r.2]) (by simp[results,results5,go_sem,q0,q1,q2,q3,f0,f1,f2,f3]) rfl ?_;rw[HQ2.out];exact kZ.bad rfl ((((on.put h2 _).put h2 _).put h2 _).put h2 _)
 have hq:=HQ.out;rw[if_pos hg0]at hq;have HQ2:=aH hq;have hd:(g !=0)=true:=by simpa using hg0
 obtain⟨q0,q1,q2,q3⟩:=Q.p4;have f0:=Q.Zy 0;have f1:=Q.Zy 1;have f2:=Q.Zy 2;have f3:=Q.Zy 3;clear hq HQ hg0;go_wp2_with fail;refine bodyPost_ret (v:=.tuple #[.agg #[Nat,(),Nat,()],g]) (by simp[results,results5,go_sem,q0,q1,q2,q3,f0,f1,f2,f3]) rfl ?_;rw[HQ2.out];exact kZ.bad rfl ((((on.put h2 _).put h2 _).put h2 _).put h2 _)
end
section
attribute [local go_sem ↓] Go.wp_at_zero Go.wp_at_succ
def rV (w:World)(q:iA×List Int×Int)(e:Ending)(w':World):Prop :=
 ∃A n c C m d ns cs B b y,e=.returned (.tuple #[.agg #[.slice A n c,q.1.tip,.slice C m d,q.1.time],.slice B b y,q.2.2])∧WR w' A n C m ns cs∧bC ns=q.1.n∧bL cs=q.1.c∧S w' 1 B b (q.2.1.map iW)∧b≤y∧y≤maxLen∧aA w w'∧aR w.heap.size B
theorem rV.bad {w w':World}{e:Int}{v:Value}(h:v=.tuple #[.agg #[Nat,(),Nat,()],Nat,e])(on:aA w w'):rV w (fQ,[],e) (.returned v) w' :=
 ⟨none,0,0,none,0,0,[],[],none,0,0,by rw[h];rfl,⟨Sl.nil,Sl.nil,fun v hv=>absurd hv (by simp),fun v hv=>absurd hv (by simp)⟩,rfl,rfl,Sl.nil,by omega,by simp[maxLen],on,aR.Zp _⟩
theorem GW (A : Option Addr)(n c : Nat)(tip : Int)(C : Option Addr)(m d : Nat)(time : Int)(ns : List NV)(cs : List CV)(P : Option Addr)(k i : Nat)(l : List qY)(w : World)(E : fR w)(R : WR w A n C m ns cs)(SL : S w 10 P k (l.map dY)) :
    Calls prog 14 #[.agg #[.slice A n c,tip,.slice C m d,time],.slice P k i] w (rV w (tS (aY ns tip cs time) l)):=by
 obtain⟨g,hg⟩:∃g,g=dL (aY ns tip cs time):=⟨_,rfl⟩
 obtain⟨q,hq⟩:∃q,q=tS (aY ns tip cs time) l:=⟨_,rfl⟩
 have hl:l.length=k:=by have:=SL.len;simpa using this
 rw[←hq];unfold tS at hq;rw[←hg,hl]at hq;have HG:=aH hg;have HQ:=aH hq;have HL:=aH hl;clear hg hq hl;have oP:bQ k w.heap.size P:=SL.Zx (Nat.le_refl _);have HOP:Hid (∀b,w.heap.size≤b→bQ k b P):=aH fun b hb=>SL.Zx hb
 go_enter func14,ntmps14;go_upto_region 1 with fail
 have on:=((aA.Zz w).new (Obj.cells #[.slice A n c,tip,.slice C m d,time] 25)).new (Obj.cells #[Nat,(),Nat,()] 25);have Z:Bx ((w.alloc (Obj.cells #[.slice A n c,tip,.slice C m d,time] 25)).alloc (Obj.cells #[Nat,(),Nat,()] 25)) w.heap.size [.slice A n c,tip,.slice C m d,time]:=(Bx.Zt _ _ _).new _;have Q:Bx ((w.alloc (Obj.cells #[.slice A n c,tip,.slice C m d,time] 25)).alloc (Obj.cells #[Nat,(),Nat,()] 25)) (w.heap.size+1) [Nat,(),Nat,()]:=iT w _ #[Nat,(),Nat,()] _;have WZ:eK ((w.alloc (Obj.cells #[.slice A n c,tip,.slice C m d,time] 25)).alloc (Obj.cells #[Nat,(),Nat,()] 25)) w.heap.size:=(eK.Zt w A C n c m d tip time 25).oe ((aA.Zz _).new _)
 have WB:eK ((w.alloc (Obj.cells #[.slice A n c,tip,.slice C m d,time] 25)).alloc (Obj.cells #[Nat,(),Nat,()] 25)) (w.heap.size+1):=by
  have:=eK.Zt (w.alloc (Obj.cells #[.slice A n c,tip,.slice C m d,time] 25)) none none 0 0 0 0 0 0 25;simpa using this
 replace R:=R.oe on;replace SL:=SL.oe on;change Code.wp _ _ _ _ ((w.alloc (Obj.cells #[.slice A n c,tip,.slice C m d,time] 25)).alloc (Obj.cells #[Nat,(),Nat,()] 25));generalize((w.alloc (Obj.cells #[.slice A n c,tip,.slice C m d,time] 25)).alloc (Obj.cells #[Nat,(),Nat,()] 25))=w1 at *;obtain⟨z,hz⟩:∃z,z=w.heap.size:=⟨_,rfl⟩
 obtain⟨zr,hzr⟩:∃z,z=w.heap.size+1:=⟨_,rfl⟩
 rw[←hz]at Z WZ oP;rw[←hzr]at Q WB;have h1:w.heap.size≤z:=by omega
 have h2:w.heap.size≤zr:=by omega
 have h3:z≠zr:=by omega
 rw[←hzr,←hz];clear hz hzr;obtain⟨z0,z1,z2,z3⟩:=Z.p4;go_wp2_with fail;refine Calls.mono (nA A n c tip C m d time ns cs _ (E.oe on) R) ?_;rw[←HG.out];rintro e w2⟨rfl,b⟩;replace on:=on.to b;replace R:=R.oe b;replace SL:=SL.oe b;replace Z:=Z.oe b;replace Q:=Q.oe b;replace WB:=WB.oe b;replace WZ:=WZ.oe b;clear z0 z1 z2 z3 b;by_cases hg0:g=0
 · subst hg0;have hgood:=bZ.1 HG.out.symm;obtain⟨rfl,rfl,hsm⟩:=iF R hgood;have HGD:=aH hgood;have hq:=HQ.out;rw[if_neg (by simp)]at hq;replace HQ:=aH hq;clear hq hgood;by_cases hk:150<k
   · have hq:=HQ.out;rw[if_pos hk]at hq;have HQ2:=aH hq;have hk1:(150:Int)<(k:Int):=by omega
     obtain⟨q0,q1,q2,q3⟩:=Q.p4;have f0:=Q.Zy 0;have f1:=Q.Zy 1;have f2:=Q.Zy 2;have f3:=Q.Zy 3;clear hq HQ hk hsm;go_wp2_with fail;refine bodyPost_ret (v:=.tuple #[.agg #[Nat,(),Nat,()],Nat,(2:Int)]) (by simp[results,results14,go_sem,q0,q1,q2,q3,f0,f1,f2,f3]) rfl ?_;rw[HQ2.out];exact rV.bad rfl ((((on.put h2 _).put h2 _).put h2 _).put h2 _)
   have hq:=HQ.out;rw[if_neg hk]at hq;replace HQ:=aH hq;have hk1:¬ (150:Int)<(k:Int):=by omega
   clear hq;go_upto_region 6 with fail
   obtain⟨z0,z1,z2,z3⟩:=Z.p4;go_wp2_with fail;refine Calls.mono (pO A c tip C d time ns cs _ R hsm) ?_;rintro e w3⟨nb,cN,cb,cC,ns2,cs2,rfl,e1,e2,F,f1,f2⟩;have hzl2:=Z.lt;have hql2:=Q.lt;have b:=F.on;have hnb:=F.hn;have hcb:=F.hc;have hw2:=on.size;have F3:=F.base on;replace on:=on.to b;replace SL:=SL.oe b;replace Z:=Z.oe b;replace Q:=Q.oe b;replace WB:=WB.oe b;replace WZ:=WZ.oe b;clear R z0 z1 z2 z3 b hsm F;obtain⟨z0,z1,z2,z3⟩:=Z.p4;have g0:=Z.Zy 0;have g1:=Z.Zy 1;have g2:=Z.Zy 2;have g3:=Z.Zy 3;have t:aK w3 ((((w3.setCell ⟨z,0,none⟩ (.slice (some ⟨nb,0,none⟩) 3 cN)).setCell ⟨z,1,none⟩ (.int .i64 tip)).setCell ⟨z,2,none⟩ (.slice (some ⟨cb,0,none⟩) 3 cC)).setCell ⟨z,3,none⟩ (.int .i64 time)) z:=((((aK.Zz w3 z).put (p:=⟨z,0,none⟩) rfl (.slice (some ⟨nb,0,none⟩) 3 cN)).put (p:=⟨z,1,none⟩) rfl (.int .i64 tip)).put (p:=⟨z,2,none⟩) rfl (.slice (some ⟨cb,0,none⟩) 3 cC)).put (p:=⟨z,3,none⟩) rfl (.int .i64 time);have F4:=F3.turn t h1 (by omega) (by omega) (fun v hv=>(f1 v hv).off hzl2) (fun v hv=>(f2 v hv).off hzl2);have Z4:Bx ((((w3.setCell ⟨z,0,none⟩ (.slice (some ⟨nb,0,none⟩) 3 cN)).setCell ⟨z,1,none⟩ (.int .i64 tip)).setCell ⟨z,2,none⟩ (.slice (some ⟨cb,0,none⟩) 3 cC)).setCell ⟨z,3,none⟩ (.int .i64 time)) z [.slice (some ⟨nb,0,none⟩) 3 cN,tip,.slice (some ⟨cb,0,none⟩) 3 cC,time]:=(((Z.Zq (j:=0) (by simp) (.slice (some ⟨nb,0,none⟩) 3 cN)).Zq (j:=1) (by simp) (.int .i64 tip)).Zq (j:=2) (by simp) (.slice (some ⟨cb,0,none⟩) 3 cC)).Zq (j:=3) (by simp) (.int .i64 time)
   have Q4:=Q.grown t (by intro e;injection e with e;exact h3 e.symm);have WB4:=WB.turn t (Ne.symm h3);have WZ4:=WZ.store (some ⟨nb,0,none⟩) (some ⟨cb,0,none⟩) 3 cN 3 cC tip time;have SL4:=SL.grown t (fun b' e=>by injection e with e;subst e;exact oP)
   have hgd:cQ (aY ns2 tip cs2 time):=by
    have h:=HGD.out;rwa[show aY ns tip cs time=aY ns2 tip cs2 time by simp[aY,e1,e2]]at h
   have hW0:aY ns tip cs time=aY ns2 tip cs2 time:=by simp[aY,e1,e2]
   have HGD2:=aH hgd;have HW0:=aH hW0;clear hgd hW0 e1 e2;go_upto_region 8 with fail
   clear z0 z1 z2 z3 g0 g1 g2 g3 t F3 Z Q WB WZ SL on f1 f2;have R4:=F4.wr;have on:=F4.on;clear F4
   try change Code.wp _ _ _ _ ((((w3.setCell ⟨z,0,none⟩ (.slice (some ⟨nb,0,none⟩) 3 cN)).setCell ⟨z,1,none⟩ (.int .i64 tip)).setCell ⟨z,2,none⟩ (.slice (some ⟨cb,0,none⟩) 3 cC)).setCell ⟨z,3,none⟩ (.int .i64 time))
   generalize((((w3.setCell ⟨z,0,none⟩ (.slice (some ⟨nb,0,none⟩) 3 cN)).setCell ⟨z,1,none⟩ (.int .i64 tip)).setCell ⟨z,2,none⟩ (.slice (some ⟨cb,0,none⟩) 3 cC)).setCell ⟨z,3,none⟩ (.int .i64 time))=w4 at *;go_wp2_with fail;have HK:=aH hk;have hq4:zr<w4.heap.size:=Q4.lt;have hz4:z<w4.heap.size:=Z4.lt;have hw04:=on.size
   go_loopg [8,27] k (fun g s8 s27 wr=>∃ (j yc:Nat) (B:Option Addr) (ns1:List NV) (cs1:List CV) (tip1 time1:Int) (nb cN cb cC:Nat) (sd:List Int),j≤k∧k-j≤g∧s27=.int .i64 j∧s8=.slice B j yc∧Hid (cH wr w4.heap.size 30 1 (.slice B j yc) j (sd.map iW))∧w4.heap.size≤wr.heap.size∧nb≠z∧nb≠zr∧cb≠z∧cb≠zr∧Bx wr z [.slice (some ⟨nb,0,none⟩) 3 cN,tip1,.slice (some ⟨cb,0,none⟩) 3 cC,time1]∧eK wr z∧Bx wr zr [Nat,(),Nat,()]∧eK wr zr∧WR wr (some ⟨nb,0,none⟩) 3 (some ⟨cb,0,none⟩) 3 ns1 cs1∧Hid (cQ (aY ns1 tip1 cs1 time1))∧Hid (kM (aY ns tip cs time) l=((kM (aY ns1 tip1 cs1 time1) (l.drop j)).1,sd ++(kM (aY ns1 tip1 cs1 time1) (l.drop j)).2))∧S wr 10 P k (l.map dY)∧aA w wr∧Hid (∀b,(Value.slice B j yc).ownBlock=some b→JW b nb cb ns1 cs1))
   case atStart=>exact⟨0,0,none,ns2,cs2,tip,time,nb,cN,cb,cC,[],Nat.zero_le _,Nat.le_refl _,rfl,rfl,cH.nil _ _ _ _,Nat.le_refl _,by omega,by omega,by omega,by omega,Z4,WZ4,Q4,WB4,R4,HGD2,aH (by rw[HW0.out];simp),SL4,on,aH fun b hb=>by cases hb⟩
   case round =>
    clear Z4 WZ4 Q4 WB4 R4 SL4 on HGD2;obtain⟨j,yc,B,ns1,cs1,tip1,time1,nb,cN,cb,cC,sd,hj,hg,rfl,rfl,HO,hw4,nz,nzr,cz,czr,Z,WZ,Q,WB,R,HGD2,HRG,SL,on,HB⟩:=hrel;by_cases hlt:j<k
    · obtain⟨b0,off0,x,rfl,hb0,hx,hcx⟩:=SL.at_ hlt;have d0:wr.cell? ⟨b0,off0+j*10,none⟩=some (.int .i64 x.kind):=hcx 0 _ rfl;have d1:=hcx 1 _ rfl;have d2:=hcx 2 _ rfl;have d3:=hcx 3 _ rfl;have d4:=hcx 4 _ rfl;have d5:=hcx 5 _ rfl;have d6:=hcx 6 _ rfl;have d7:=hcx 7 _ rfl;have d8:=hcx 8 _ rfl;have d9:=hcx 9 _ rfl;have HX:=aH hx;obtain⟨_,_,hsm⟩:=iF R HGD2.out;clear hcx hx;go_upto_region 11 with fail
      refine aW (v1:=[x.kind,x.client,x.n,x.job,x.epoch,x.e.kind,x.e.job,x.e.every,x.e.time,x.e.client]) rfl fun w5 b X=>?_
      replace Z:=Z.oe b;replace WZ:=WZ.oe b;replace Q:=Q.oe b;replace WB:=WB.oe b;replace R:=R.oe b;replace SL:=SL.oe b;replace HO:=aH (HO.out.below b);replace on:=on.to b;replace hw4:=Nat.le_trans hw4 b.size;clear b d0 d1 d2 d3 d4 d5 d6 d7 d8 d9 hb0;generalize wr.heap.size=zx at *;have HB5:Hid (∀b,(Value.slice B j yc).ownBlock=some b→b<w5.heap.size):=aH fun b hb=>(HO.out.lt b hb).2
      have hz5l:=Z.lt;have hzr5l:=Q.lt;obtain⟨z0,z1,z2,z3⟩:=Z.p4;go_wp2_with fail;refine Calls.mono (pO (some ⟨nb,0,none⟩) cN tip1 (some ⟨cb,0,none⟩) cC time1 ns1 cs1 _ R hsm) ?_;rintro e w6⟨nb2,cN2,cb2,cC2,ns3,cs3,rfl,e1,e2,F,f1,f2⟩;have hx6:=X.oe F.on;clear z0 z1 z2 z3;go_upto_region 12 with fail
      have b:=(aA.Zz w6).new (Obj.cells #[.slice (some ⟨nb2,0,none⟩) 3 cN2,tip1,.slice (some ⟨cb2,0,none⟩) 3 cC2,time1] 25);have ZN:Bx (w6.alloc (Obj.cells #[.slice (some ⟨nb2,0,none⟩) 3 cN2,tip1,.slice (some ⟨cb2,0,none⟩) 3 cC2,time1] 25)) w6.heap.size [.slice (some ⟨nb2,0,none⟩) 3 cN2,tip1,.slice (some ⟨cb2,0,none⟩) 3 cC2,time1]:=Bx.Zt _ _ _;have hn6:=Bx.lt F.nr;have hc6:=Bx.lt F.cr
      have HN:WM (w6.alloc (Obj.cells #[.slice (some ⟨nb2,0,none⟩) 3 cN2,tip1,.slice (some ⟨cb2,0,none⟩) 3 cC2,time1] 25)) w5 (w6.alloc (Obj.cells #[.slice (some ⟨nb2,0,none⟩) 3 cN2,tip1,.slice (some ⟨cb2,0,none⟩) 3 cC2,time1] 25)) w6.heap.size nb2 cN2 cb2 cC2 ns3 tip1 cs3 time1 :=
       ⟨ZN,F.oe b,fun v hv=>(F.ni v hv).1.Zn (Nat.le_refl _),fun v hv=>(F.ci v hv).1.Zn (Nat.le_refl _),F.on.size,by omega,by omega,Kp.Zz _ _ _ _,fun v hv b hb=>(f1 v hv).off hb,fun v hv b hb=>(f2 v hv).off hb⟩
      replace hx6:=hx6.oe b;clear ZN b hn6 hc6 F
      try change Code.wp _ _ _ _ (w6.alloc (Obj.cells #[.slice (some ⟨nb2,0,none⟩) 3 cN2,tip1,.slice (some ⟨cb2,0,none⟩) 3 cC2,time1] 25))
      generalize(w6.alloc (Obj.cells #[.slice (some ⟨nb2,0,none⟩) 3 cN2,tip1,.slice (some ⟨cb2,0,none⟩) 3 cC2,time1] 25))=w7 at *;generalize w6.heap.size=zn at *
      have hgd3:cQ (aY ns3 tip1 cs3 time1):=by
       have h:=HGD2.out;rwa[show aY ns1 tip1 cs1 time1=aY ns3 tip1 cs3 time1 by simp[aY,e1,e2]]at h
      obtain⟨x0,x1,x2,x3,x4,x5,x6,x7,x8,x9⟩:=hx6.p10;go_wp2_with fail;obtain⟨r,hr⟩:∃r,r=aI (aY ns1 tip1 cs1 time1) x:=⟨_,rfl⟩
      have hr3:aI (aY ns3 tip1 cs3 time1) ⟨x.kind,x.client,x.n,x.job,x.epoch,x.e⟩=r:=by rw[hr,show aY ns1 tip1 cs1 time1=aY ns3 tip1 cs3 time1 by simp[aY,e1,e2]]
      have HR:=aH hr;clear hr;refine Calls.mono (qK w7 w5 zn nb2 cN2 cb2 cC2 ns3 tip1 cs3 time1 x.kind x.client x.n x.job x.epoch x.e _ (E.oe on) HN hgd3) ?_;rw[hr3];rintro e w8⟨rfl,hon,hok⟩;have b:=hon.on;have hn5:=HN.f.hn;have hc5:=HN.f.hc;replace Z:=Z.oe b;replace WZ:=WZ.oe b;replace Q:=Q.oe b;replace WB:=WB.oe b;replace R:=R.oe b;replace SL:=SL.oe b;replace HO:=aH (HO.out.below b);replace on:=on.to b;replace hw4:=Nat.le_trans hw4 b.size;clear x0 x1 x2 x3 x4 x5 x6 x7 x8 x9 hx6 hon HN b hr3 hgd3 e1 e2 hsm X f1 f2;by_cases h0:r.2=0
      · obtain⟨ns4,cs4,HM,e3,e4⟩:=hok h0;have hw4':aY ns4 r.1.tip cs4 r.1.time=r.1:=by unfold aY;rw[e3,e4]
        have hst:uH (aY ns1 tip1 cs1 time1) x=r.1:=by unfold uH;rw[←HR.out,if_pos h0]
        have hgd4:cQ (aY ns4 r.1.tip cs4 r.1.time):=by
         rw[hw4',HR.out];exact HGD2.out.happen (by rw[←HR.out];exact h0)
        have hrg:=HRG.out;rw[List.drop_eq_getElem_cons (by have:=HL.out;omega),show l[j]'(by have:=HL.out;omega)=x from(List.getElem?_eq_some_iff.1 HX.out).2,kM,hst,←HR.out,←hw4']at hrg;have hrg2:kM (aY ns tip cs time) l=((kM (aY ns4 r.1.tip cs4 r.1.time) (l.drop (j+1))).1,(sd ++[0]) ++(kM (aY ns4 r.1.tip cs4 r.1.time) (l.drop (j+1))).2):=by rw[hrg,h0];simp
        have HRG5:=aH hrg2;clear hrg2;have HGD5:=aH hgd4;obtain⟨tip5,ht5⟩:∃t,t=r.1.tip:=⟨_,rfl⟩
        obtain⟨time5,hs5⟩:∃t,t=r.1.time:=⟨_,rfl⟩
        rw[←ht5,←hs5]at HM;rw[←ht5,←hs5]at HRG5 HGD5;have nz5:nb2≠z:=by omega
        have nzr5:nb2≠zr:=by omega
        have cz5:cb2≠z:=by omega
        have czr5:cb2≠zr:=by omega
        obtain⟨n0,n1,n2,n3⟩:=HM.bx.p4;obtain⟨z0,z1,z2,z3⟩:=Z.p4;have g0:=Z.Zy 0;have g1:=Z.Zy 1;have g2:=Z.Zy 2;have g3:=Z.Zy 3;have t:=((((aK.Zz w8 z).put (p:=⟨z,0,none⟩) rfl (.slice (some ⟨nb2,0,none⟩) 3 cN2)).put (p:=⟨z,1,none⟩) rfl (.int .i64 tip5)).put (p:=⟨z,2,none⟩) rfl (.slice (some ⟨cb2,0,none⟩) 3 cC2)).put (p:=⟨z,3,none⟩) rfl (.int .i64 time5);have R9:=WZ.wr HM.f.wr t nz5 cz5 (fun v hv=>WZ.node (HM.f.wr.ni v hv)) (fun v hv=>WZ.client (HM.f.wr.ci v hv));have Z9:Bx ((((w8.setCell ⟨z,0,none⟩ (.slice (some ⟨nb2,0,none⟩) 3 cN2)).setCell ⟨z,1,none⟩ (.int .i64 tip5)).setCell ⟨z,2,none⟩ (.slice (some ⟨cb2,0,none⟩) 3 cC2)).setCell ⟨z,3,none⟩ (.int .i64 time5)) z [.slice (some ⟨nb2,0,none⟩) 3 cN2,tip5,.slice (some ⟨cb2,0,none⟩) 3 cC2,time5]:=(((Z.Zq (j:=0) (by simp) (.slice (some ⟨nb2,0,none⟩) 3 cN2)).Zq (j:=1) (by simp) (.int .i64 tip5)).Zq (j:=2) (by simp) (.slice (some ⟨cb2,0,none⟩) 3 cC2)).Zq (j:=3) (by simp) (.int .i64 time5);have WZ9:=WZ.store (some ⟨nb2,0,none⟩) (some ⟨cb2,0,none⟩) 3 cN2 3 cC2 tip5 time5;have Q9:=Q.grown t (by intro e;injection e with e;exact h3 e.symm);have WB9:=WB.turn t (Ne.symm h3);have SL9:=SL.grown t (fun b' e=>by injection e with e;subst e;exact oP);have HO9:=aH (HO.out.kept t (.inr (Ne.symm (HO.out.Zo hz4))));have HB9:Hid (∀b,(Value.slice B j yc).ownBlock=some b→JW b nb2 cb2 ns4 cs4):=aH fun b hb=>⟨by have:=HB5.out b hb;omega,by have:=HB5.out b hb;omega,fun v hv=>HM.fN v hv b (HB5.out b hb),fun v hv=>HM.fC v hv b (HB5.out b hb)⟩
        have on9:=(((on.put h1 (p:=⟨z,0,none⟩) (.slice (some ⟨nb2,0,none⟩) 3 cN2)).put h1 (p:=⟨z,1,none⟩) (.int .i64 tip5)).put h1 (p:=⟨z,2,none⟩) (.slice (some ⟨cb2,0,none⟩) 3 cC2)).put h1 (p:=⟨z,3,none⟩) (.int .i64 time5);have hw9':=Nat.le_trans hw4 t.size;clear hok e3 e4 hw4' hst hgd4 hrg ht5 hs5 HM;go_upto_region 15 with fail
        clear n0 n1 n2 n3 z0 z1 z2 z3 g0 g1 g2 g3 t Z WZ Q WB SL HO on R hw4 HGD2 HRG HB
        try change Code.wp _ _ _ _ ((((w8.setCell ⟨z,0,none⟩ (.slice (some ⟨nb2,0,none⟩) 3 cN2)).setCell ⟨z,1,none⟩ (.int .i64 tip5)).setCell ⟨z,2,none⟩ (.slice (some ⟨cb2,0,none⟩) 3 cC2)).setCell ⟨z,3,none⟩ (.int .i64 time5))
        generalize((((w8.setCell ⟨z,0,none⟩ (.slice (some ⟨nb2,0,none⟩) 3 cN2)).setCell ⟨z,1,none⟩ (.int .i64 tip5)).setCell ⟨z,2,none⟩ (.slice (some ⟨cb2,0,none⟩) 3 cC2)).setCell ⟨z,3,none⟩ (.int .i64 time5))=w9 at *;have on:=on9;have HO:=HO9;have hw4:=hw9';clear on9 HO9 hw9' h0;obtain⟨i0,hi0,hzz0,hzz1,hzz2⟩:=info_parts MG;have HI0:=aH hi0;have HZ0:=aH hzz0;have HZ1:=aH hzz1;have HZ2:=aH hzz2;clear hi0 hzz0 hzz1 hzz2
        have hnew:Sl (w9.alloc (Obj.cells #[()] 30)) (w9.heap.size+1) 1 (some ⟨w9.heap.size,0,none⟩) 1 [iW 0]:=by
         have:=Sl.block (w:=w9.alloc (Obj.cells #[()] 30)) (k:=1) [iW 0] (heap_alloc_new w9 _) (by simp[iW]) rfl;simpa using this
        have HNEW:=aH hnew;have hw9:=hw4;have hjk:j≤150:=by omega
        clear hnew;go_wp2_with (at_builtin;refine aQ _ rfl _ _ 39 rfl w4.heap.size 30 i0 _ 1 8 underlying39 HI0.out HZ0.out HZ1.out HZ2.out rfl (by decide) (.slice B j yc) j (sd.map iW) (by rfl) (HO.out.alloc _) (w9.heap.size+1) (some ⟨w9.heap.size,0,none⟩) 1 1 [iW 0] (by rfl) HNEW.out (by simp[iW,Value.oneCell']) (by unfold maxLen;omega) (by omega) (by simp;omega) ?_)
        intro v8 wa own8 grow8 hv8;obtain⟨A8,c8,rfl,_,_⟩:=own8.slice;have hlo:∀b,b<w4.heap.size→some b≠Value.ownBlock (.slice B j yc):=fun b hb=>HO.out.Zo hb
        have ona:=(aA.Zz w9).new (Obj.cells #[()] 30);replace on:aA w wa:=aT (on.to ona) (on.to ona).size grow8 (fun g hg=>by have:=(HO.out.1.lt g hg).1;omega);have hwa:=Nat.le_trans hw4 (Nat.le_trans ona.size grow8.size);have nlo:∀b,b<w4.heap.size→(some b:Option Nat)≠Value.ownBlock (.slice B j yc):=hlo;have Za:=(Z9.oe ona).grown grow8 (hlo z hz4);have Qa:=(Q9.oe ona).grown grow8 (hlo zr hq4);have WZa:=eK.gr (WZ9.oe ona) grow8 (hlo z hz4);have WBa:=eK.gr (WB9.oe ona) grow8 (hlo zr hq4);have SLa:=(SL9.oe ona).grown grow8 (fun b hb=>HOP.out b (Nat.le_trans hw04 (HO.out.lt b hb).1));have Ra:=WR.gr (R9.oe ona) grow8 HB9.out
        have HBa:Hid (∀b,(Value.slice A8 (j+1) c8).ownBlock=some b→JW b nb2 cb2 ns4 cs4):=aH fun b hb=>by
         rcases hv8 with h|h
         · exact HB9.out b (h.symm.trans hb)
         rw[h]at hb;injection hb with hb;subst hb;exact(R9.oe ona).far (by simp)
        have HOa:=aH own8;clear own8 grow8 hv8 HO HB9 HNEW HI0 HZ0 HZ1 HZ2 ona hlo nlo Z9 Q9 WZ9 WB9 SL9 R9;go_wp2_with fail;go_roundg (k-(j+1))
        case measure=>omega
        case rel=>exact⟨j+1,c8,A8,ns4,cs4,tip5,time5,nb2,cN2,cb2,cC2,sd ++[0],by omega,Nat.le_refl _,by go_num,rfl,by simpa using HOa,hwa,nz5,nzr5,cz5,czr5,Za,WZa,Qa,WBa,Ra,HGD5,HRG5,SLa,on,HBa⟩
      have hst:uH (aY ns1 tip1 cs1 time1) x=aY ns1 tip1 cs1 time1:=by unfold uH;rw[←HR.out,if_neg h0]
      have hrg:=HRG.out;rw[List.drop_eq_getElem_cons (by have:=HL.out;omega),show l[j]'(by have:=HL.out;omega)=x from(List.getElem?_eq_some_iff.1 HX.out).2,kM,hst,←HR.out]at hrg;have hrg2:kM (aY ns tip cs time) l=((kM (aY ns1 tip1 cs1 time1) (l.drop (j+1))).1,(sd ++[r.2]) ++(kM (aY ns1 tip1 cs1 time1) (l.drop (j+1))).2):=by rw[hrg];simp
      have HRG5:=aH hrg2;clear hrg2;have hd:(r.2 ==0)=false:=by simpa using h0
      clear hok hst hrg HRG;obtain⟨i0,hi0,hzz0,hzz1,hzz2⟩:=info_parts MG;have HI0:=aH hi0;have HZ0:=aH hzz0;have HZ1:=aH hzz1;have HZ2:=aH hzz2;clear hi0 hzz0 hzz1 hzz2
      have hnew:Sl (w8.alloc (Obj.cells #[r.2] 30)) (w8.heap.size+1) 1 (some ⟨w8.heap.size,0,none⟩) 1 [iW r.2]:=by
       have:=Sl.block (w:=w8.alloc (Obj.cells #[r.2] 30)) (k:=1) [iW r.2] (heap_alloc_new w8 _) (by simp[iW]) rfl;simpa using this
      have HNEW:=aH hnew;have hw9:=hw4;have hjk:j≤150:=by omega
      clear hnew;go_wp2_with (at_builtin;refine aQ _ rfl _ _ 39 rfl w4.heap.size 30 i0 _ 1 8 underlying39 HI0.out HZ0.out HZ1.out HZ2.out rfl (by decide) (.slice B j yc) j (sd.map iW) (by rfl) (HO.out.alloc _) (w8.heap.size+1) (some ⟨w8.heap.size,0,none⟩) 1 1 [iW r.2] (by rfl) HNEW.out (by simp[iW,Value.oneCell']) (by unfold maxLen;omega) (by omega) (by simp;omega) ?_)
      intro v8 wa own8 grow8 hv8;obtain⟨A8,c8,rfl,_,_⟩:=own8.slice;have hlo:∀b,b<w4.heap.size→some b≠Value.ownBlock (.slice B j yc):=fun b hb=>HO.out.Zo hb
      have ona:=(aA.Zz w8).new (Obj.cells #[r.2] 30);replace on:aA w wa:=aT (on.to ona) (on.to ona).size grow8 (fun g hg=>by have:=(HO.out.1.lt g hg).1;omega);have hwa:=Nat.le_trans hw4 (Nat.le_trans ona.size grow8.size);have Za:=(Z.oe ona).grown grow8 (hlo z hz4);have Qa:=(Q.oe ona).grown grow8 (hlo zr hq4);have WZa:=eK.gr (WZ.oe ona) grow8 (hlo z hz4);have WBa:=eK.gr (WB.oe ona) grow8 (hlo zr hq4);have SLa:=(SL.oe ona).grown grow8 (fun b hb=>HOP.out b (Nat.le_trans hw04 (HO.out.lt b hb).1));have Ra:=WR.gr (R.oe ona) grow8 HB.out
      have HBa:Hid (∀b,(Value.slice A8 (j+1) c8).ownBlock=some b→JW b nb cb ns1 cs1):=aH fun b hb=>by
       rcases hv8 with h|h
       · exact HB.out b (h.symm.trans hb)
       rw[h]at hb;injection hb with hb;subst hb;exact(R.oe ona).far (by simp)
      have HOa:=aH own8;clear own8 grow8 hv8 HO HB HNEW HI0 HZ0 HZ1 HZ2 ona hlo Z Q WZ WB SL R h0;go_wp2_with fail;go_roundg (k-(j+1))
      case measure=>omega
      case rel=>exact⟨j+1,c8,A8,ns1,cs1,tip1,time1,nb,cN,cb,cC,sd ++[r.2],by omega,Nat.le_refl _,by go_num,rfl,by simpa using HOa,hwa,nz,nzr,cz,czr,Za,WZa,Qa,WBa,Ra,HGD2,HRG5,SLa,on,HBa⟩
    obtain rfl:j=k:=by omega
    have hrg:=HRG.out;rw[List.drop_eq_nil_of_le (by have:=HL.out;omega)]at hrg;have HQ2:Hid (q=(aY ns1 tip1 cs1 time1,sd,0)):=aH (by rw[HQ.out,hrg];simp[kM]);obtain⟨z0,z1,z2,z3⟩:=Z.p4;obtain⟨q0,q1,q2,q3⟩:=Q.p4;have f0:=Q.Zy 0;have f1:=Q.Zy 1;have f2:=Q.Zy 2;have f3:=Q.Zy 3;clear hrg HRG HQ;go_wp2_with fail;refine bodyPost_ret (v:=.tuple #[.agg #[.slice (some ⟨nb,0,none⟩) 3 cN,tip1,.slice (some ⟨cb,0,none⟩) 3 cC,time1],.slice B j yc,()]) (by simp[results,results14,go_sem,q0,q1,q2,q3,f0,f1,f2,f3]) rfl ?_;have t:=((((aK.Zz wr zr).put (p:=⟨zr,0,none⟩) rfl (.slice (some ⟨nb,0,none⟩) 3 cN)).put (p:=⟨zr,1,none⟩) rfl (.int .i64 tip1)).put (p:=⟨zr,2,none⟩) rfl (.slice (some ⟨cb,0,none⟩) 3 cC)).put (p:=⟨zr,3,none⟩) rfl (.int .i64 time1);have R9:=WB.wr R t nzr czr (fun v hv=>WB.node (R.ni v hv)) (fun v hv=>WB.client (R.ci v hv))
    have o9:bQ j zr B:=by
     have:=HO.out.fresh (Nat.le_refl _);exact this.Zx hq4
    have s9:=S.grown HO.out.sl t (fun b' e=>by injection e with e;subst e;exact o9);rw[HQ2.out];exact⟨_,3,cN,_,3,cC,ns1,cs1,B,j,yc,rfl,R9,rfl,rfl,s9,HO.out.Zs,HO.out.cap_max,(((on.put h2 _).put h2 _).put h2 _).put h2 _,fun a e=>Nat.le_trans hw04 (HO.out.fresh (Nat.le_refl _) a e)⟩
 have hq:=HQ.out;rw[if_pos hg0]at hq;have HQ2:=aH hq;have hd:(g !=0)=true:=by simpa using hg0
 obtain⟨q0,q1,q2,q3⟩:=Q.p4;have f0:=Q.Zy 0;have f1:=Q.Zy 1;have f2:=Q.Zy 2;have f3:=Q.Zy 3;clear hq HQ hg0;go_wp2_with fail;refine bodyPost_ret (v:=.tuple #[.agg #[Nat,(),Nat,()],Nat,g]) (by simp[results,results14,go_sem,q0,q1,q2,q3,f0,f1,f2,f3]) rfl ?_;rw[HQ2.out];exact rV.bad rfl ((((on.put h2 _).put h2 _).put h2 _).put h2 _)
end
section
theorem OY {w:iA}{x:qY}(h:(mN w x).2=0):cQ w∧(aI w x).2=0∧(mN w x).1=(aI w x).1∧cQ (mN w x).1:=by
 unfold mN at h⊢;by_cases h1:dL w≠0
 · rw[if_pos h1]at h;exact absurd h h1
 rw[if_neg h1]at h⊢;have hg:=bZ.1 (Decidable.not_not.1 h1);by_cases h2:(aI w x).2≠0
 · rw[if_pos h2]at h;exact absurd h h2
 rw[if_neg h2];have h0:=Decidable.not_not.1 h2;exact⟨hg,h0,rfl,hg.happen h0⟩
theorem RD {w:iA}{x:qY}(hg:cQ w)(h:(aI w x).2=0):mN w x=((aI w x).1,0):=by
 unfold mN;rw[if_neg (by simp[bZ.2 hg]),if_neg (by simp[h])]
theorem RA {w:iA}{x:qY}(hg:cQ w):(mN w x).2=(aI w x).2:=by
 unfold mN;rw[if_neg (by simp[bZ.2 hg])];by_cases h2:(aI w x).2≠0
 · rw[if_pos h2]
 rw[if_neg h2];exact(Decidable.not_not.1 h2).symm
theorem PL {ns:List NV}{cs:List CV}{q:iA}(h1:bC ns=q.n)(h2:bL cs=q.c):aY ns q.tip cs q.time=q:=by unfold aY;rw[h1,h2]
theorem eK.rowN {w:World}{e n:Nat}{A:Option Addr}{ns:List NV}(h:eK w e)(hs:S w 5 A n (ns.map bW)):bQ n e A:=fun hn a ea hb=>by
 obtain⟨b,off,e',_,hc⟩:=hs.2.2 hn;rw[ea]at e';injection e' with e';subst e';simp only at hb;subst hb;have hl:ns.length=n:=by have:=hs.1;simpa using this
 have h0:0<ns.length:=by omega
 have hr:(ns.map bW)[0]?=some (bW ns[0]):=by rw[List.getElem?_map,List.getElem?_eq_getElem h0];rfl
 have g1:=hc 0 0 _ _ hr rfl;have g3:=hc 0 3 _ _ hr rfl;simp only[Nat.zero_mul,Nat.add_zero]at g1 g3;obtain⟨A,n,c,t,C,m,d,s,T,fr,h⟩:=h;rw[cell_of_row _ _ _ _ _ _ h]at g1 g3
 match off with
 |0=>simp at g1
 |1=>simp at g3
 |2=>simp at g1
 |3=>simp at g3
 |o+4=>simp at g1
theorem eK.all {w w':World}{e n m:Nat}{A C:Option Addr}{ns:List NV}{cs:List CV}(h:eK w e)(R:WR w A n C m ns cs)(t:aK w w' e):WR w' A n C m ns cs :=
 ⟨R.nr.grown t (fun g e'=>by injection e' with e';subst e';exact h.rowN R.nr),R.cr.grown t (fun g e'=>by injection e' with e';subst e';exact h.off2 R.cr (fun r hr=>by obtain⟨x,_,rfl⟩:=List.mem_map.1 hr;exact⟨_,_,rfl,rfl⟩)),fun v hv=>(R.ni v hv).grown t (h.node (R.ni v hv)),fun v hv=>(R.ci v hv).grown t (h.client (R.ci v hv))⟩
theorem aK.four {w:World}{z:Nat}(a b c d:Value):aK w ((((w.setCell ⟨z,0,none⟩ a).setCell ⟨z,1,none⟩ b).setCell ⟨z,2,none⟩ c).setCell ⟨z,3,none⟩ d) z :=
 ((((aK.Zz w z).put (p:=⟨z,0,none⟩) rfl a).put (p:=⟨z,1,none⟩) rfl b).put (p:=⟨z,2,none⟩) rfl c).put (p:=⟨z,3,none⟩) rfl d
theorem Bx.four {w:World}{z:Nat}{x0 x1 x2 x3:Value}(h:Bx w z [x0,x1,x2,x3])(a b c d:Value):Bx ((((w.setCell ⟨z,0,none⟩ a).setCell ⟨z,1,none⟩ b).setCell ⟨z,2,none⟩ c).setCell ⟨z,3,none⟩ d) z [a,b,c,d] :=
 (((h.Zq (j:=0) (by simp) a).Zq (j:=1) (by simp) b).Zq (j:=2) (by simp) c).Zq (j:=3) (by simp) d
theorem aA.four {w w':World}{z:Nat}(h:aA w w')(hz:w.heap.size≤z)(a b c d:Value):aA w ((((w'.setCell ⟨z,0,none⟩ a).setCell ⟨z,1,none⟩ b).setCell ⟨z,2,none⟩ c).setCell ⟨z,3,none⟩ d) :=
 (((h.put (p:=⟨z,0,none⟩) hz a).put (p:=⟨z,1,none⟩) hz b).put (p:=⟨z,2,none⟩) hz c).put (p:=⟨z,3,none⟩) hz d
end
section
attribute [local go_sem ↓] Go.wp_at_zero Go.wp_at_succ
theorem yU {w:World}{A C:Option Addr}{n m:Nat}{ns:List NV}{cs:List CV}{q:iA}(R:WR w A n C m ns cs)(h1:bC ns=q.n)(h2:bL cs=q.c)(hg:cQ q∨q=fQ):n≤9223372036854775807∧m≤9223372036854775807∧∀v∈cs,v.n≤9223372036854775807∧v.m≤9223372036854775807:=by
 rcases hg with hg|rfl
 · obtain⟨rfl,rfl,hs⟩:=iF (tip:=q.tip) (time:=q.time) R (by rw[PL h1 h2];exact hg);exact⟨by omega,by omega,fun v hv=>by have:=hs.c v hv;omega⟩
 have e1:ns=[]:=by simpa[bC,fQ]using h1
 have e2:cs=[]:=by simpa[bL,fQ]using h2
 subst e1;subst e2;have a:=R.nlen;have b:=R.clen;simp at a b;exact⟨by omega,by omega,fun v hv=>absurd hv (by simp)⟩
theorem MY (w:iA)(x:qY):cQ (mN w x).1∨(mN w x).1=fQ:=by
 by_cases h:(mN w x).2=0
 · exact .inl (OY h).2.2.2
 refine .inr ?_;unfold mN at h⊢
 split
 · rfl
 split
 · rfl
 simp_all
theorem JQ {w:World}{A C:Option Addr}{n m:Nat}{ns:List NV}{cs:List CV}{W:iA}{x:qY}{q:iA×Int}(hq:q=mN W x)(R:WR w A n C m ns cs)(h1:bC ns=q.1.n)(h2:bL cs=q.1.c):n≤9223372036854775807∧m≤9223372036854775807∧∀v∈cs,v.n≤9223372036854775807∧v.m≤9223372036854775807:=by
 subst hq;exact yU R h1 h2 (MY W x)
theorem JY {w:World}{A C:Option Addr}{n m:Nat}{ns:List NV}{cs:List CV}(h:aY ns 0 cs 0=qV)(R:WR w A n C m ns cs):∀v∈cs,v.n≤9223372036854775807∧v.m≤9223372036854775807 :=
 (yU (q:=aY ns 0 cs 0) R rfl rfl (.inl (by rw[h];exact cQ.new))).2.2
end
end Go.Proofs.YtpfkagghooihfaaGreatDoor
