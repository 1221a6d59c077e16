/- Part 41. -/
import Derived.Test.YtpfkagghooihfaaGreatDoorBa40
import Derived.Test.YtpfkagghooihfaaGreatDoorBa39
import Derived.Laws.EntriesVeiled
namespace Go.Proofs.YtpfkagghooihfaaGreatDoor
set_option linter.unusedSimpArgs false
set_option linter.unusedVariables false
set_option maxHeartbeats 8000000
set_option maxRecDepth 100000
open Go.Proofs.Tryz
open Go.RowKit
section
attribute [local go_sem ↓] Go.wp_at_zero Go.wp_at_succ
abbrev z4:List Value:=[Nat,(),Nat,()]
theorem bJ:(prog.info? 25).map (·.size)=some 4:=by kernel_rfl
theorem aU (er:Int)(w:World):Calls prog 48 #[er] w fun e w'=>e=.returned (.tuple #[.agg #[Nat,(),Nat,()],er])∧aA w w':=by
 go_enter func48,ntmps48;go_wp2;refine bodyPost_ret (v:=.tuple #[.agg #[Nat,(),Nat,()],er]) (by simp[results,results48,go_sem]) rfl ⟨rfl,?_⟩
 repeat(first|exact Below.refl _ _|refine Below.alloc ?_ (by simp<;>omega) _|refine Below.setCell ?_ (by simp) _)
theorem cO (er : Int)(zb z : Nat)(A C : Option Addr)(n c m d : Nat)(tip time : Int)(w : World)(G : Bx w zb [.func (.func 48) #[] #[]])(Z : Bx w z [.slice A n c, .int .i64 tip, .slice C m d, .int .i64 time]) :
    Calls prog 49 #[er,.pointer (some ⟨zb,0,none⟩),.pointer (some ⟨z,0,none⟩)] w fun e w'=>e=.returned (.tuple #[if er=0 then .agg #[.slice A n c,tip,.slice C m d,time]else .agg z4.toArray,er])∧aA w w':=by
 go_enter func49,ntmps49;go_upto_region 1 with fail
 refine aW (v1:=z4) rfl fun w1 on Q=>?_
 replace G:=G.oe on;replace Z:=Z.oe on;have hz:w.heap.size≤w.heap.size:=Nat.le_refl _;generalize hzq:w.heap.size=zq at Q hz⊢;by_cases h:er=0
 · subst h;obtain⟨x0,x1,x2,x3⟩:=Z.p4;go_wp2_with (refine pU Q [.slice A n c,tip,.slice C m d,time] 25 bJ ?_)
   have B:=Q.put (us:=[.slice A n c,tip,.slice C m d,time]) rfl;obtain⟨b0,b1,b2,b3⟩:=B.p4;exact bodyPost_ret (v:=.tuple #[.agg #[.slice A n c,tip,.slice C m d,time],()]) (by simp[results,results49,go_sem,b0,b1,b2,b3]) rfl ⟨rfl,cJ (by omega) on⟩
 have hd:(er !=0)=true:=by simpa using h
 have g0:=G.at_ 0 rfl;have HH:=aH h;clear h;go_wp2_with fail;refine Calls.mono (aU _ _) ?_;rintro e w2⟨rfl,ob⟩;replace Q:=Q.oe ob;go_wp2_with (refine pU Q z4 25 bJ ?_)
 have B:=Q.put (us:=z4) rfl;obtain⟨b0,b1,b2,b3⟩:=B.p4;exact bodyPost_ret (v:=.tuple #[.agg z4.toArray,er]) (by simp[results,results49,go_sem,b0,b1,b2,b3]) rfl ⟨by first|rfl|rw[if_neg HH.out],cJ (by omega) (on.to ob)⟩
theorem MM {x:iC}(hc:bE x.d=0):rG x=if(cI (hH x.d)).2≠0 then(x,(cI (hH x.d)).2)else(⟨(cI (hH x.d)).1,iK x.d,true⟩,0):=by
 have e0:bN x.d=(iK x.d,hH x.d,0):=by unfold bN;rw[if_neg (by simp[hc])]
 unfold rG;rw[e0];simp
theorem cQ.chkN {ns:List NV}{tip:Int}{cs:List CV}{time:Int}(h:cQ (aY ns tip cs time)){k:Nat}{v:NV}(hv:ns[k]?=some v):bE v.x.d=0:=by
 have hk:k<3:=by have:=(List.getElem?_eq_some_iff.1 hv).1;have h3:=h.n3;simp[aY,bC]at h3;omega
 have hn:=h.node k hk;rw[show(aY ns tip cs time).n=bC ns from rfl,eW hv]at hn;obtain⟨l,m,hd⟩:=fX hn;exact hd.chk
section
variable {w0 w w':World}{Y:Nat→Prop}{e z nb cN cb cC k:Nat}{ns:List NV}{cs:List CV}{tip time tip' time':Int}
theorem HM.tipTo (h:HM w0 w Y e z nb cN cb cC ns tip cs time)(t:aK w w' z)(hb:Bx w' z [.slice (some ⟨nb,0,none⟩) 3 cN,tip',.slice (some ⟨cb,0,none⟩) 3 cC,time']):HM w0 w' Y e z nb cN cb cC ns tip' cs time' :=
 ⟨h.m.setZ t hb,h.hz,h.hn,h.hc,⟨h.he.1,Nat.lt_of_lt_of_le h.he.2.1 t.size,h.he.2.2⟩,h.eN,h.eC,h.yl⟩
theorem HM.node (h:HM w0 w Y e z nb cN cb cC ns tip cs time){v:NV}(t:aK w w' nb)(hr:Rx w' nb ((ns.map bW).set k (bW v)))(hi:v.In w')(h1:v.off nb)(h2:v.off cb)(h3:v.off z)(h4:v.os Y e):HM w0 w' Y e z nb cN cb cC (ns.set k v) tip cs time :=
 ⟨h.m.nextN t hr hi h1 h2 h3 fun b hb=>absurd hb (Nat.not_lt_zero _),h.hz,h.hn,h.hc,⟨h.he.1,Nat.lt_of_lt_of_le h.he.2.1 t.size,h.he.2.2⟩,fun u hu=>(List.mem_or_eq_of_mem_set hu).elim (h.eN u) fun e=>e▸h4,h.eC,h.yl⟩
theorem HM.client (h:HM w0 w Y e z nb cN cb cC ns tip cs time){v:CV}(t:aK w w' cb)(hr:Rx w' cb ((cs.map aE).set k (aE v)))(hi:v.In w')(h1:v.off nb)(h2:v.off cb)(h3:v.off z)(h4:v.os Y e):HM w0 w' Y e z nb cN cb cC ns tip (cs.set k v) time :=
 ⟨h.m.nextC t hr hi h1 h2 h3 fun b hb=>absurd hb (Nat.not_lt_zero _),h.hz,h.hn,h.hc,⟨h.he.1,Nat.lt_of_lt_of_le h.he.2.1 t.size,h.he.2.2⟩,h.eN,fun u hu=>(List.mem_or_eq_of_mem_set hu).elim (h.eC u) fun e=>e▸h4,h.yl⟩
theorem HM.far (h:HM w0 w Y e z nb cN cb cC ns tip cs time){y:Nat}(t:aK w w' y)(hy:w0.heap.size≤y)(h1:y≠z)(h2:y≠nb)(h3:y≠cb)(hn:∀v∈ns,v.off y)(hc:∀v∈cs,v.off y):HM w0 w' Y e z nb cN cb cC ns tip cs time :=
 ⟨⟨h.m.bx.grown t (by intro e;injection e with e;exact h1 e.symm),h.m.f.turn t (Nat.zero_le _) h2 h3 hn hc,h.m.nz,h.m.cz,h.m.hz,h.m.zn,h.m.zc,h.m.kp.far t hy,h.m.fN,h.m.fC⟩,h.hz,h.hn,h.hc,⟨h.he.1,Nat.lt_of_lt_of_le h.he.2.1 t.size,h.he.2.2⟩,h.eN,h.eC,h.yl⟩
theorem HM.at_' (h:HM w0 w Y e z nb cN cb cC ns tip cs time){v:NV}(hv:ns[k]?=some v):v.In w:=(h.m.f.ni v (List.mem_of_getElem? hv)).1
theorem Rx.cellOf {w:World}{z k i j:Nat}{rows:List (List Value)}{r:List Value}(h:Rx w z rows)(hk:∀x∈rows,x.length=k)(hr:rows[i]?=some r)(hj:j<k)(u:Value):Rx (w.setCell ⟨z,i*k+j,none⟩ u) z (rows.set i (r.set j u)) :=
 Rx.cell1 (r:=r) (by rw[mU hr];exact h) hk (List.getElem?_eq_some_iff.1 hr).1 (hk r (List.mem_of_getElem? hr)) hj u
end
structure YH (Y:Nat→Prop)(w:World)(ns:List NV)(cs:List CV):Prop where
 l:∀b,Y b→b<w.heap.size
 n:∀v∈ns,∀b,Y b→v.off b
 c:∀v∈cs,∀b,Y b→v.off b
structure QX (y:Nat)(A:Option Addr)(n:Nat)(C:Option Addr)(m:Nat)(ns:List NV)(cs:List CV):Prop where
 a:bQ n y A
 c:bQ m y C
 n:∀v∈ns,v.off y
 k:∀v∈cs,v.off y
def QT (Y:Nat→Prop)(w:World)(q:iA×Int)(e:Ending)(w':World):Prop :=
 ∃A n c C m d ns cs,e=.returned (.tuple #[.agg #[.slice A n c,q.1.tip,.slice C m d,q.1.time],q.2])∧WR w' A n C m ns cs∧bC ns=q.1.n∧bL cs=q.1.c∧aA w w'∧∀b,Y b→QX b A n C m ns cs
theorem HM.of_live {w w1 wc : World}{Y : Nat → Prop}{A C A1 C1 : Option Addr}{z c1 d1 e TW TN TC : Nat}{ns : List NV}{cs : List CV}{tip time : Int}(on : aA w w1)(R : WR w A 3 C 3 ns cs)(he : w.heap.size ≤ e ∧ e < w1.heap.size)(H : YH Y w ns cs)
    (LV:aF w1 wc [some ⟨.slice (some ⟨z,0,none⟩) 1 1,TW,4,1,[[.slice A1 3 c1,tip,.slice C1 3 d1,time]]⟩,some ⟨.slice A1 3 c1,TN,5,3,ns.map bW⟩,some ⟨.slice C1 3 d1,TC,12,3,cs.map aE⟩]) :
    ∃nb cb,A1=some ⟨nb,0,none⟩∧C1=some ⟨cb,0,none⟩∧w1.heap.size≤z∧w1.heap.size≤nb∧w1.heap.size≤cb∧HM w wc Y e z nb c1 cb d1 ns tip cs time:=by
 have hw:=on.to LV.on;have ON:=LV.own 1 _ rfl;have OC:=LV.own 2 _ rfl;obtain⟨nb,rfl,hnb,BN⟩:=ON.bx (by omega);obtain⟨cb,rfl,hcb,BC⟩:=OC.bx (by omega);have hz:=(LV.lt (i:=0) rfl (b:=z) rfl).1;have a1:=LV.apart 0 1 _ _ z (by decide) rfl rfl rfl;have a2:=LV.apart 0 2 _ _ z (by decide) rfl rfl rfl;have a3:=LV.apart 1 2 _ _ nb (by decide) rfl rfl rfl;have hs:=on.size;have hw2:=LV.on.size;have ne:∀ {x y:Nat} {n c:Nat},(Value.slice (some ⟨y,0,none⟩) n c).ownBlock≠some x→x≠y:=fun h e=>h (by rw[e];rfl)
 refine⟨nb,cb,rfl,rfl,hz,hnb,hcb,⟨LV.zb rfl,⟨BN,BC,R.nlen,R.clen,fun v hv=>⟨(R.ni v hv).oe hw,(R.ni v hv).Zn (by omega),(R.ni v hv).Zn (by omega)⟩,fun v hv=>⟨(R.ci v hv).oe hw,(R.ci v hv).Zn (by omega),(R.ci v hv).Zn (by omega)⟩,Nat.zero_le _,Nat.zero_le _,ne a3,⟨ON.Zs,ON.cap_max⟩,⟨OC.Zs,OC.cap_max⟩,⟨hw.os,hw.tape,hw.output,Nat.zero_le _,fun k hk=>absurd hk (Nat.not_lt_zero _)⟩⟩,fun v hv=>(R.ni v hv).Zn (by omega),fun v hv=>(R.ci v hv).Zn (by omega),Nat.zero_le _,ne a1,ne a2,⟨hw.size,fun b hb _ _ _=>hw.block b hb⟩,fun v _ b hb=>absurd hb (Nat.not_lt_zero _),fun v _ b hb=>absurd hb (Nat.not_lt_zero _)⟩,by omega,by omega,by omega,⟨he.1,by omega,by omega,by omega,by omega⟩,fun v hv=>⟨(R.ni v hv).Zn he.1,H.n v hv⟩,fun v hv=>⟨(R.ci v hv).Zn he.1,H.c v hv⟩,H.l⟩
section
variable {w w1:World}{Y:Nat→Prop}{a:Act}{e z nb cN cb cC:Nat}{ns:List NV}{cs:List CV}{tip time:Int}{vs:List Value}{q:iA×Int}
theorem kR (h1 : a.tmps[4]? = some (.pointer (some ⟨e, 0, none⟩)))(h2 : a.tmps[5]? = some (.int .i64 0))(hd : a.defers = [])(Q : Bx w1 e vs)(hl : vs.length = 4)(H : HM w w1 Y e z nb cN cb cC ns tip cs time)(hq : q = (aY ns tip cs time, 0)) :
    bodyPost prog Tryz.f13 (QT Y w q) .ret a (w1.setCells e 0 [.slice (some ⟨nb,0,none⟩) 3 cN,tip,.slice (some ⟨cb,0,none⟩) 3 cC,time]):=by
 subst hq;have B:=Q.put (us:=[.slice (some ⟨nb,0,none⟩) 3 cN,tip,.slice (some ⟨cb,0,none⟩) 3 cC,time]) (by rw[hl];rfl);obtain⟨b0,b1,b2,b3⟩:=B.p4;have W:=H.m.f.wr;have on1:∀a',some (⟨nb,0,none⟩:Addr)=some a'→a'.block≠e:=fun a' h=>by injection h with h;subst h;exact H.he.2.2.2.1
 have on2:∀a',some (⟨cb,0,none⟩:Addr)=some a'→a'.block≠e:=fun a' h=>by injection h with h;subst h;exact H.he.2.2.2.2
 exact bodyPost_ret (v:=.tuple #[.agg #[.slice (some ⟨nb,0,none⟩) 3 cN,tip,.slice (some ⟨cb,0,none⟩) 3 cC,time],()]) (by simp[results,results13,h1,h2,go_sem,b0,b1,b2,b3]) hd ⟨_,_,_,_,_,_,ns,cs,rfl,⟨dM (w:=w1) (fun _=>on1) W.nr,dM (w:=w1) (fun _=>on2) W.cr,fun v hv=>(W.ni v hv).Zw (H.eN v hv).e,fun v hv=>(W.ci v hv).Zw (H.eC v hv).e⟩,rfl,rfl,cJ H.he.1 H.on,fun b hb=>⟨fun _ a' h=>by injection h with h;subst h;have:=H.yl b hb;have:=H.hn;show nb≠b;omega,fun _ a' h=>by injection h with h;subst h;have:=H.yl b hb;have:=H.hc;show cb≠b;omega,fun v hv=>(H.eN v hv).y b hb,fun v hv=>(H.eC v hv).y b hb⟩⟩
theorem cL {er:Int}(h1:a.tmps[4]?=some (.pointer (some ⟨e,0,none⟩)))(h2:a.tmps[5]?=some (.int .i64 er))(hd:a.defers=[])(Q:Bx w1 e vs)(hl:vs.length=4)(on:aA w w1)(he:w.heap.size≤e)(hq:q=(fQ,er)):bodyPost prog Tryz.f13 (QT Y w q) .ret a (w1.setCells e 0 z4):=by
 subst hq;have B:=Q.put (us:=z4) (by rw[hl];rfl);obtain⟨b0,b1,b2,b3⟩:=B.p4;exact bodyPost_ret (v:=.tuple #[.agg z4.toArray,er]) (by simp[results,results13,h1,h2,go_sem,b0,b1,b2,b3]) hd ⟨none,0,0,none,0,0,[],[],rfl,⟨Sl.nil,Sl.nil,fun v hv=>absurd hv (by simp),fun v hv=>absurd hv (by simp)⟩,rfl,rfl,cJ he on,fun b hb=>⟨mD,mD,fun v hv=>absurd hv (by simp),fun v hv=>absurd hv (by simp)⟩⟩
end
end
end Go.Proofs.YtpfkagghooihfaaGreatDoor
