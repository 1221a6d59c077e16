/- Part 4. -/
import Derived.Test.YtpfkagghooihfaaGreatDoorBa01
import Derived.Test.YtpfkagghooihfaaGreatDoorRows
import Derived.ProofKit
import Derived.OpenShut
import Derived.ShutString
import Derived.ChangeOld
import Derived.Carry
import Derived.Deep.Slices
import Derived.Deep.Fields
import Derived.ChangeSame
import Derived.Lib.SmallJoins
import Derived.Lib.AppendZerosOnto
import Derived.Lib.SliceRun
import Derived.Test.YtpfkagghooihfaaGreatDoorShelf
import Derived.Stop.LaidErr
import Derived.Stop.Joined
import Derived.Handed
import Derived.Lay
import Derived.SizedLaws
namespace Go.Proofs.YtpfkagghooihfaaGreatDoor
set_option linter.unusedSimpArgs false
set_option linter.unusedVariables false
set_option maxHeartbeats 4000000
set_option maxRecDepth 100000
open Go.Proofs.Tryz
section
open Go.RowKit
theorem IU:(prog.info? 27).map (fun i=>(i.zero,i.size,i.bytes))=some (some (.agg #[(),(),(),(),()]),5,40):=by kernel_rfl
set_option maxHeartbeats 1000000 in
theorem zP (w : World)(A : Option Addr)(n c B : Nat)(hB : B ≤ w.heap.size)(rows : List (List Value))(h : Sl w B 5 A n rows)(h1 : ∀r ∈ rows, ∀u ∈ r, u.oneCell' = true)(hn : n * 40 ≤ 140737488355328) :
    Calls prog 95 #[.slice A n c] w fun e w'=>∃A' c',e=.returned (.slice A' n c')∧cH w' w.heap.size 27 5 (.slice A' n c') n rows∧Below w.heap.size w w':=by
 obtain⟨i0,hi0,hz0,hz1,hz2⟩:=info_parts IU;have hnm:n≤maxLen:=by unfold maxLen;omega
 cases A with
 |none =>
   have h0:n=0:=by
    rcases Nat.eq_zero_or_pos n with h0|h0
    · exact h0
    obtain⟨b,off,e,_⟩:=h.2.2 h0
    cases e
   subst h0;have hr:rows=[]:=List.eq_nil_of_length_eq_zero h.1;subst hr;clear h h1 hi0 hz0 hz1 hz2 hnm hn;have hs:∀w,(binOp .eql 48 (.slice none 0 c) (.slice none 0 0)).run prog w=.ok (.bool true) w:=fun w=>by kernel_rfl
   go_enter func95,ntmps95;go_wp2;go_ret;exact⟨none,0,rfl,cH.nil _ _ _ _,Below.refl _ _⟩
 |some a =>
   have hs:∀w,(binOp .eql 48 (.slice (some a) n c) (.slice none 0 0)).run prog w=.ok (.bool false) w:=fun w=>by kernel_rfl
   have HN:=aH hn;have HM:=aH hnm;have H1:=aH h1;have H:=aH h;clear hn hnm h1 h;have HI:=aH hi0;have HZ0:=aH hz0;have HZ1:=aH hz1;have HZ2:=aH hz2;clear hi0 hz0 hz1 hz2;go_enter func95,ntmps95;go_wp2_with (at_builtin;refine aQ _ rfl _ _ 48 rfl w.heap.size 27 i0 _ 5 40 underlying48 HI.out HZ0.out HZ1.out HZ2.out rfl (by decide) _ 0 [] rfl ?c1 B (some a) n c rows rfl ?c2 H1.out ?c3 ?c4 ?c5 ?_)
   case c1=>exact⟨World.ownsRow_made _ _ _ (Nat.le_refl _) (by simp[maxLen]) (by simp),rfl,by simp⟩
   case c2=>exact H.out.keep fun p hp=>World.cell?_alloc_lt w _ p (by omega)
   case c3=>rw[Nat.zero_add];exact HM.out
   case c4=>rw[Nat.zero_add];exact HN.out
   case c5=>simp
   intro v' w' hown hgrow hblk;obtain⟨A',c',rfl,_,_⟩:=hown.slice;go_wp2;go_ret;refine⟨A',c',rfl,hown,?_⟩;exact((Below.refl _ _).alloc (Nat.le_refl _) _).grown hgrow (by simp) (by simp[Value.ownBlock])
end
section
open Go.ChangeShapes Go.WideShapes Go.ChangeAt Go.RowKit
theorem own:ownKnob prog.godebug=none:=by kernel_rfl
theorem NU:laidOutB prog=true:=by kernel_rfl
theorem qS {H : Type}{enc : TypeId×Value → H}{P : Program}(hl : laidOutB P = true){W W' : World}(hb : Below W.heap.size W W') : ∀ {ts : List TypeId}{vs : List Value}{ds : List (DataW H)}{ps : List MemPlace},
    (∀t∈ts,P.readableRec t=true∧t<P.types.size)→DataW.TrodAll enc P W 0 (fun _=>true) true ts vs ds ps →
    DataW.TrodAll enc P W' 0 (fun b=>decide (b<W.heap.size)) true ts vs ds ps
 | [],vs,ds,ps,_,h=>by
   obtain⟨rfl,rfl,rfl⟩:=trodAll_nil h;exact trodAll_mk0
 |t ::ts,vs,ds,ps,hts,h=>by
   obtain⟨v,vs',d,ds',p,q,rfl,rfl,rfl,h0,hr⟩:=trodAll_cons h;have ht:=hts t (by simp);have lt:∀x∈p,x.block<W.heap.size:=by obtain⟨m,hm⟩:=h0;exact DataW.trod_lt m _ _ _ hm
   exact trodAll_cons_mk (Below.trod hl ht.1 ht.2 h0 hb lt) (qS hl hb (fun t' h'=>hts t' (by simp[h'])) hr)
end
section
open Go.ChangeShapes Go.WideShapes Go.ChangeAt Go.RowKit Go.Deep Go.Joins
theorem uU {α:Type}{p:Nat→α→Prop}:∀ (n:Nat),(∀i,i<n→∃x,p i x)→∃l:List α,l.length=n∧∀i x,l[i]?=some x→p i x
 |0,_=>⟨[],rfl,by simp⟩
 |n+1,h=>by
   obtain⟨l,hl,hp⟩:=uU n (fun i hi=>h i (by omega));obtain⟨x,hx⟩:=h n (by omega);refine⟨l ++[x],by simp[hl],fun i y hy=>?_⟩;rcases Nat.lt_or_ge i n with h1|h1
   · rw[List.getElem?_append_left (by omega)]at hy;exact hp i y hy
   rw[List.getElem?_append_right (by omega)]at hy
   have:i-l.length=0:=by
    rcases Nat.eq_zero_or_pos (i-l.length)with h2|h2
    · exact h2
    rw[List.getElem?_eq_none (by simp;omega)]at hy;cases hy
   rw[this]at hy;simp at hy;subst hy;rw[show i=n by omega];exact hx
section
variable {H:Type}{enc:TypeId×Value→H}{P:Program}{w:World}{spare:Nat→Bool}{held:Bool}
end
end
section
open Go.ChangeShapes Go.WideShapes Go.ChangeAt Go.RowKit Go.Deep Go.Joins
def iG (w:World)(t:TypeId)(cs:List Value):Prop :=
 ∃ (H:Type) (enc:TypeId×Value→H) (spare:Nat→Bool) (held:Bool) (fuel:Nat) (y:DataW H×List MemPlace),DataW.trod enc prog w 0 spare held fuel t cs=some y
def pH (z:Int):Prop:=-9223372036854775808≤z∧z≤9223372036854775807
theorem cB {w:World}{cs:List Value}(h:iG w 3 cs):∃z,cs=[.int .i64 z]∧pH z:=by
 obtain⟨H,enc,spare,held,fuel,y,h⟩:=h;obtain⟨k,e,_,hw⟩:=DataW.trod_int underlying3 h;refine⟨k,e,?_⟩;simp[Lit.wf,IntKind.min,IntKind.max,IntKind.signed,IntKind.bits]at hw;unfold pH;omega
def sZ (p:Field→Prop):List Field→Prop
 | []=>True
 |f ::l=>p f∧sZ p l
theorem IO {p:Field→Prop}:∀ {l:List Field},(∀ (i:Nat)(f:Field),l[i]?=some f→p f)→sZ p l
 | [],_=>trivial
 |f ::l,h=>⟨h 0 f rfl,IO fun i g hg=>h (i+1) g (by simpa using hg)⟩
theorem dQ {w : World}{t : TypeId}{fs : List Field}{cs : List Value}(ht : prog.underlying t = some (.struct fs.toArray))(h : iG w t cs) :
    cs.length=prog.cellsOf t∧sZ (fun f=>iG w f.type ((cs.drop f.offset).take (prog.cellsOf f.type))) fs:=by
 obtain⟨H,enc,spare,held,fuel,y,h⟩:=h;obtain⟨xs,n,rfl,hx,hl,hlen,hf⟩:=DataW.trod_struct ht h;refine⟨hl,IO fun i f hi=>?_⟩;have hi':fs.toArray[i]?=some f:=by simpa using hi
 have hlt:i<xs.length:=by rw[hlen];exact(Array.getElem?_eq_some_iff.1 hi').1
 exact⟨H,enc,spare,held,n,xs[i],(hf i f hi').trans (List.getElem?_eq_getElem hlt)⟩
theorem jP {w : World}{t e k : Nat}{α : Type}(en : α → List Value)(R : α → Prop)(ht : prog.underlying t = some (.slice e))(hC : prog.cellsOf e = k)(hk0 : 0 < k)(hen : ∀x, (en x).length = k)
    (hdec:∀cs,cs.length=k→iG w e cs→∃x:α,cs=en x∧R x){cs:List Value}(h:iG w t cs) :
    ∃ (A:Option Addr)(n c:Nat)(l:List α),cs=[.slice A n c]∧n≤c∧c≤maxLen∧(∀x∈l,R x)∧Sl w w.heap.size k A n (l.map en):=by
 obtain⟨H,enc,spare,held,fuel,y,hf⟩:=h;rcases open_slice ht hf with ⟨hcs,_⟩| ⟨a,len,cap,m,n,D,Pl,hcs,_,hl,hm,hmm,_,hi⟩
 · exact⟨none,0,0,[],hcs,Nat.le_refl _,by unfold maxLen;omega,by simp,Sl.nil⟩
 have hml:len≤m:=by rw[hmm];split<;>omega
 have hrow:∀i,i<len→∃x:α,R x∧∀j u,(en x)[j]?=some u→w.cell? (a.add (i*k+j))=some u:=by
  intro i hil;obtain⟨cs',hc,ht'⟩:=hi i (by omega);rw[hC]at hc;obtain⟨_,hcl,hat⟩:=World.cells?_some hc;obtain⟨x,rfl,hR⟩:=hdec cs' hcl ⟨H,enc,spare,held,n,_,ht'⟩;refine⟨x,hR,fun j u hu=>?_⟩;have hjl:j<k:=by rw[←hen x];exact(List.getElem?_eq_some_iff.1 hu).1
  have hcell:=hat j hjl;rw[←Go.Deep.add_add,hcell,hu]
 obtain⟨l,hll,hlp⟩:=uU len hrow
 refine⟨some a,len,cap,l,hcs,hl,hm,fun x hx=>?_,by simpa using hll,by
  intro r hr;obtain⟨y,_,rfl⟩:=List.mem_map.1 hr
  exact hen y,fun hpos=>?_⟩
 · obtain⟨i,hi'⟩:=List.mem_iff_getElem?.1 hx;exact(hlp i x hi').1
 have hx0:=(hlp 0 _ (List.getElem?_eq_getElem (by omega))).2 0 _ (List.getElem?_eq_getElem (by rw[hen];omega));obtain⟨b,off,spot⟩:=a;have hspot:spot=none:=by simpa[Addr.add]using World.cell?_spot hx0
 subst hspot;refine⟨b,off,rfl,by simpa[Addr.add]using World.block_lt_of_cell? w _ hx0,fun i j r u hr hu=>?_⟩;rw[List.getElem?_map]at hr
 cases hy:l[i]? with
 |none=>rw[hy]at hr;simp at hr
 |some y =>
   rw[hy]at hr;simp at hr;subst hr;have:=(hlp i y hy).2 j u hu;rw[Addr.add_lit,←Nat.add_assoc]at this;exact this
theorem jQ:prog.cellsOf 3=1:=by kernel_rfl
theorem lS:prog.cellsOf 27=5:=by kernel_rfl
theorem pD {w:World}{cs:List Value}(h:iG w 27 cs):∃x,cs=bA x∧(pH x.kind∧pH x.job∧pH x.every∧pH x.time∧pH x.client):=by
 obtain⟨hl,hf⟩:=dQ underlying27 h;rw[lS]at hl
 match cs,hl with
 | [c0,c1,c2,c3,c4],_ =>
   simp only[sZ,jQ]at hf;obtain⟨h0,h1,h2,h3,h4,_⟩:=hf;obtain⟨z0,e0,i0⟩:=cB h0;obtain⟨z1,e1,i1⟩:=cB h1;obtain⟨z2,e2,i2⟩:=cB h2;obtain⟨z3,e3,i3⟩:=cB h3;obtain⟨z4,e4,i4⟩:=cB h4;simp at e0 e1 e2 e3 e4;exact⟨⟨z0,z1,z2,z3,z4⟩,by simp[bA,e0,e1,e2,e3,e4],i0,i1,i2,i3,i4⟩
theorem xY {w:World}{cs:List Value}(h:iG w 48 cs):∃ (A:Option Addr)(n c:Nat)(l:List aL),cs=[.slice A n c]∧n≤c∧c≤maxLen∧(∀x∈l,pH x.kind∧pH x.job∧pH x.every∧pH x.time∧pH x.client)∧Sl w w.heap.size 5 A n (l.map bA) :=
 jP bA _ underlying48 lS (by omega) (fun _=>rfl) (fun _ _ h=>pD h) h
theorem xM {H:Type}{enc:TypeId×Value→H}{w:World}{t:TypeId}{spare:Nat→Bool}{held:Bool}{v:Value}{d:DataW H}{p:List MemPlace}(h:DataW.Trod enc prog w 0 spare held t v d p):iG w t v.cells.toList:=by
 obtain⟨fuel,hf⟩:=h;exact⟨H,enc,spare,held,fuel,_,hf⟩
end
section
def cM (u:eM):List dI→eM×Int
 | []=>(u,0)
 |r ::l=>if(bU u r).2≠0 then(⟨0,[]⟩,(bU u r).2)else cM (bU u r).1 l
def cI (l:List dI):eM×Int:=if 160<l.length then(⟨0,[]⟩,2)else cM jI l
theorem yR {u:eM}{l:List dI}{k:Nat}{x:dI}(hx:l[k]?=some x):cM u (l.drop k)=if(bU u x).2≠0 then(⟨0,[]⟩,(bU u x).2)else cM (bU u x).1 (l.drop (k+1)):=by
 obtain⟨hk,rfl⟩:=List.getElem?_eq_some_iff.1 hx;rw[List.drop_eq_getElem_cons hk];rfl
theorem tY {u:eM}{r:dI}{l:List dI}(h:(bU u r).2=0):cM u (r ::l)=cM (bU u r).1 l:=by
 rw[cM,if_neg (by simp[h])]
theorem mE:∀ {l m:List dI}{u v:eM},cM u l=(v,0)→cM u (l ++m)=cM v m
 | [],m,u,v,h=>by simp only[cM,Prod.mk.injEq,and_true]at h;rw[h];rfl
 |r ::l,m,u,v,h=>by
   rw[cM]at h
   split at h
   · rename_i hb;simp only[Prod.mk.injEq]at h;exact absurd h.2 hb
   rename_i hb;rw[List.cons_append,tY (Decidable.not_not.1 hb)];exact mE h
structure lA (u v:eM):Prop where
 ep:u.ep≤v.ep
 len:v.cells.length=u.cells.length
 cell:∀k,(bF u.cells k).kind≠4→bF v.cells k=bF u.cells k
theorem lA.Zz (u:eM):lA u u:=⟨Int.le_refl _,rfl,fun _ _=>rfl⟩
theorem lA.trans {u v x:eM}(h:lA u v)(h':lA v x):lA u x :=
 ⟨Int.le_trans h.ep h'.ep,h'.len.trans h.len,fun k hk=>(h'.cell k (by rw[h.cell k hk];exact hk)).trans (h.cell k hk)⟩
theorem FR {cs:List aL}{a k:Nat}{x:aL}:bF (cs.set a x) k=if a=k∧a<cs.length then x else bF cs k:=by
 unfold bF;rw[List.getElem?_set];by_cases h:a=k
 · subst h;by_cases h2:a<cs.length
   · simp[h2]
   simp[h2]
 simp[h]
theorem uM {u:eM}{r:dI}(h:(bU u r).2=0)(hk:r.kind≠2):bU u r=(⟨u.ep,u.cells.set r.at_.toNat r.e⟩,0)∧(bF u.cells r.at_.toNat).kind=4∧r.at_.toNat<60∧0≤r.at_∧r.kind=1∧aG r.e=0:=by
 obtain⟨hg,hr,_⟩:=iN h;have h1:=dE.2 hg;obtain⟨e1,e2,e3,_,e4⟩:=kW hr hk;unfold bU at h⊢;rw[if_neg (by simp[h1]),if_neg (by simp[hr]),if_neg hk]at h⊢
 split at h
 · cases h
 rename_i hc;rw[if_neg hc];exact⟨rfl,Decidable.not_not.1 hc,by omega,e2,e1,e4⟩
theorem rD {u:eM}{r:dI}(h:(bU u r).2=0)(hk:r.kind=2):bU u r=(⟨r.epoch,u.cells⟩,0)∧u.ep<r.epoch∧r.epoch≤20:=by
 obtain⟨hg,hr,_⟩:=iN h;have h1:=dE.2 hg;obtain⟨e1,e2,_,_⟩:=uV hr hk;unfold bU at h⊢;rw[if_neg (by simp[h1]),if_neg (by simp[hr]),if_pos hk]at h⊢
 split at h
 · cases h
 rename_i hc;rw[if_neg hc];exact⟨rfl,by omega,e2⟩
theorem wG {u:eM}{r:dI}(h:(bU u r).2=0):lA u (bU u r).1:=by
 by_cases hk:r.kind=2
 · obtain⟨e,h1,_⟩:=rD h hk;rw[e];exact⟨by dsimp only;omega,rfl,fun _ _=>rfl⟩
 obtain⟨e,h1,h2,h3,_⟩:=uM h hk;rw[e];refine⟨Int.le_refl _,by simp,fun k hc=>?_⟩;dsimp only;rw[FR,if_neg];rintro⟨rfl,_⟩;exact hc h1
theorem uB:∀ {l:List dI}{u v:eM},cM u l=(v,0)→lA u v
 | [],u,v,h=>by simp only[cM,Prod.mk.injEq,and_true]at h;subst h;exact lA.Zz _
 |r ::l,u,v,h=>by
   rw[cM]at h
   split at h
   · rename_i hb;simp only[Prod.mk.injEq]at h;exact absurd h.2 hb
   rename_i hb;exact(wG (Decidable.not_not.1 hb)).trans (uB h)
theorem pI:∀ {l:List dI}{u v:eM},lF u.ep u.cells→cM u l=(v,0)→lF v.ep v.cells
 | [],u,v,hu,h=>by simp only[cM,Prod.mk.injEq,and_true]at h;subst h;exact hu
 |r ::l,u,v,hu,h=>by
   rw[cM]at h
   split at h
   · rename_i hb;simp only[Prod.mk.injEq]at h;exact absurd h.2 hb
   rename_i hb;exact pI (iN (Decidable.not_not.1 hb)).2.2 h
def BW (cs:List aL):Nat:=cs.countP (fun c=>decide (c.kind=4))
theorem xU {α:Type}{p:α→Bool}:∀ {l:List α}{k:Nat}{x y:α},l[k]?=some y→p y=true→p x=false→(l.set k x).countP p+1=l.countP p
 | [],k,x,y,h,_,_=>by simp at h
 |a ::l,0,x,y,h,h1,h2=>by
   simp at h;subst h;rw[List.set_cons_zero,List.countP_cons_of_neg (by simp[h2]),List.countP_cons_of_pos h1]
 |a ::l,k+1,x,y,h,h1,h2=>by
   have ih:=xU (l:=l) (k:=k) (x:=x) (y:=y) (by simpa using h) h1 h2;rw[List.set_cons_succ];by_cases ha:p a=true
   · rw[List.countP_cons_of_pos ha,List.countP_cons_of_pos ha];omega
   rw[List.countP_cons_of_neg ha,List.countP_cons_of_neg ha];omega
theorem xG:∀ {l:List dI}{u v:eM},cM u l=(v,0)→(l.length:Int)+BW v.cells+u.ep≤BW u.cells+v.ep
 | [],u,v,h=>by simp only[cM,Prod.mk.injEq,and_true]at h;subst h;simp
 |r ::l,u,v,h=>by
   rw[cM]at h
   split at h
   · rename_i hb;simp only[Prod.mk.injEq]at h;exact absurd h.2 hb
   rename_i hb;have hb:=Decidable.not_not.1 hb;have ih:=xG h;rw[List.length_cons];by_cases hk:r.kind=2
   · obtain⟨e,h1,_⟩:=rD hb hk;rw[e]at ih;dsimp only at ih;omega
   obtain⟨e,h1,h2,h3,_,h4⟩:=uM hb hk;have hl:=(iN hb).1.len;rw[e]at ih;dsimp only at ih;have hx:u.cells[r.at_.toNat]?=some u.cells[r.at_.toNat]:=List.getElem?_eq_getElem (by omega);have hc:=dH hx;rw[hc]at h1;have:=qA h4;have:=xU (p:=fun c=>decide (c.kind=4)) (x:=r.e) hx (by simpa using h1) (by simp;omega);unfold BW at ih⊢;omega
theorem lK {l:List dI}{v:eM}(h:cI l=(v,0)):cM jI l=(v,0):=by
 unfold cI at h
 split at h
 · simp at h
 exact h
theorem pE {l:List dI}{v:eM}(h:cM jI l=(v,0)):l.length≤79:=by
 have h1:=xG h;have h2:=(pI lF.new h).e2;have h3:BW jI.cells=60:=by decide
 rw[h3]at h1;simp only[jI]at h1;omega
theorem LZ {l:List dI}{v:eM}(h:cM jI l=(v,0)):cI l=(v,0):=by
 have:=pE h;unfold cI;rw[if_neg (by omega),h]
theorem wK {l:List dI}{v:eM}(h:cI l=(v,0)):lF v.ep v.cells:=pI lF.new (lK h)
theorem pV {l:List dI}{v:eM}(h:cI l=(v,0)):l.length≤79:=pE (lK h)
theorem oY:∀ {l:List dI}{u v:eM},cM u l=(v,0)→∀r∈l,bI r=0
 | [],u,v,h,r,hr=>by simp at hr
 |r ::l,u,v,h,x,hx=>by
   rw[cM]at h
   split at h
   · rename_i hb;simp only[Prod.mk.injEq]at h;exact absurd h.2 hb
   rename_i hb;rcases List.mem_cons.1 hx with rfl|hx
   · exact(iN (Decidable.not_not.1 hb)).2.1
   exact oY h x hx
theorem vQ {l:List dI}{u:eM}{r:dI}(h:cI l=(u,0))(hr:(bU u r).2=0):cI (l ++[r])=((bU u r).1,0):=by
 refine LZ ?_;rw[mE (lK h),tY hr];rfl
end
section
open Go.ChangeShapes Go.WideShapes Go.ChangeAt Go.RowKit Go.Deep Go.Joins
def eO (r:dI):List Value:=[r.kind,r.at_,r.epoch,r.e.kind,r.e.job,r.e.every,r.e.time,r.e.client]
theorem S.atQ {w : World}{A : Option Addr}{n : Nat}{l : List dI}(h : S w 8 A n (l.map eO)){i : Nat}(hi : i < n) : ∃b off x, A = some ⟨b, off, none⟩ ∧ b < w.heap.size ∧ l[i]? = some x ∧
    w.cell? ⟨b,off+i*8,none⟩=some (.int .i64 x.kind)∧w.cell? ⟨b,off+i*8+1,none⟩=some (.int .i64 x.at_)∧w.cell? ⟨b,off+i*8+2,none⟩=some (.int .i64 x.epoch) ∧
    w.cell? ⟨b,off+i*8+3,none⟩=some (.int .i64 x.e.kind)∧w.cell? ⟨b,off+i*8+4,none⟩=some (.int .i64 x.e.job)∧w.cell? ⟨b,off+i*8+5,none⟩=some (.int .i64 x.e.every)∧w.cell? ⟨b,off+i*8+6,none⟩=some (.int .i64 x.e.time)∧w.cell? ⟨b,off+i*8+7,none⟩=some (.int .i64 x.e.client):=by
 obtain⟨b,off,x,e,hb,hx,hc⟩:=Sl.at_ h hi;exact⟨b,off,x,e,hb,hx,by simpa using hc 0 _ rfl,hc 1 _ rfl,hc 2 _ rfl,hc 3 _ rfl,hc 4 _ rfl,hc 5 _ rfl,hc 6 _ rfl,hc 7 _ rfl⟩
end
section
open Go.RowKit
theorem wS:(prog.info? 5).map (fun i=>(i.zero,i.size,i.bytes))=some (some (.int .u8 0),1,1):=by kernel_rfl
theorem nP (w : World)(A : Option Addr)(n c B : Nat)(hB : B ≤ w.heap.size)(rows : List (List Value))(h : Sl w B 1 A n rows)(h1 : ∀r ∈ rows, ∀u ∈ r, u.oneCell' = true)(hn : n * 1 ≤ 140737488355328) :
    Calls prog 65 #[.slice A n c] w fun e w'=>∃A' c',e=.returned (.slice A' n c')∧cH w' w.heap.size 5 1 (.slice A' n c') n rows∧aA w w':=by
 obtain⟨i0,hi0,hz0,hz1,hz2⟩:=info_parts wS;have hnm:n≤maxLen:=by unfold maxLen;omega
 cases A with
 |none =>
   have h0:n=0:=by
    rcases Nat.eq_zero_or_pos n with h0|h0
    · exact h0
    obtain⟨b,off,e,_⟩:=h.2.2 h0
    cases e
   subst h0;have hr:rows=[]:=List.eq_nil_of_length_eq_zero h.1;subst hr;clear h h1 hi0 hz0 hz1 hz2 hnm hn;have hs:∀w,(binOp .eql 51 (.slice none 0 c) (.slice none 0 0)).run prog w=.ok (.bool true) w:=fun w=>by kernel_rfl
   go_enter func65,ntmps65;go_wp2;go_ret;exact⟨none,0,rfl,cH.nil _ _ _ _,Below.refl _ _⟩
 |some a =>
   have hs:∀w,(binOp .eql 51 (.slice (some a) n c) (.slice none 0 0)).run prog w=.ok (.bool false) w:=fun w=>by kernel_rfl
   have HN:=aH hn;have HM:=aH hnm;have H1:=aH h1;have H:=aH h;clear hn hnm h1 h;have HI:=aH hi0;have HZ0:=aH hz0;have HZ1:=aH hz1;have HZ2:=aH hz2;clear hi0 hz0 hz1 hz2;go_enter func65,ntmps65;go_wp2_with (at_builtin;refine aQ _ rfl _ _ 51 rfl w.heap.size 5 i0 _ 1 1 underlying51 HI.out HZ0.out HZ1.out HZ2.out rfl (by decide) _ 0 [] rfl ?c1 B (some a) n c rows rfl ?c2 H1.out ?c3 ?c4 ?c5 ?_)
   case c1=>exact⟨World.ownsRow_made _ _ _ (Nat.le_refl _) (by simp[maxLen]) (by simp),rfl,by simp⟩
   case c2=>exact H.out.keep fun p hp=>World.cell?_alloc_lt w _ p (by omega)
   case c3=>rw[Nat.zero_add];exact HM.out
   case c4=>rw[Nat.zero_add];exact HN.out
   case c5=>simp
   intro v' w' hown hgrow hblk;obtain⟨A',c',rfl,_,_⟩:=hown.slice;go_wp2;go_ret;refine⟨A',c',rfl,hown,?_⟩;exact((Below.refl _ _).alloc (Nat.le_refl _) _).grown hgrow (by simp) (by simp[Value.ownBlock])
theorem OR (n:Nat):(Builtin.zeroCells ((.int .u8 0:Value)).cells n).size=n*1:=by simp[Builtin.zeroCells,Value.cells]
theorem EF (w : World)(n : Nat)(hn : n * 1 ≤ 140737488355328) :
    Calls prog 111 #[Nat,n] w fun e w'=>∃A' c',e=.returned (.slice A' 0 c')∧cH w' w.heap.size 5 1 (.slice A' 0 c') 0 []∧aA w w':=by
 obtain⟨i0,hi0,hz0,hz1,hz2⟩:=info_parts wS;have h1:¬ ((n:Int)<0):=by omega
 have h3:wrap64 ((n:Int)-0)=(n:Int):=by unfold wrap64;omega
 rcases Nat.eq_zero_or_pos n with hn0|hn0
 · subst hn0;clear hi0 hz0 hz1 hz2 hn;go_enter func111,ntmps111;go_wp2;go_ret;exact⟨none,0,rfl,cH.nil _ _ _ _,Below.refl _ _⟩
 have hd:(0:Int)<(n:Int):=by omega
 have hgc:n≤grownCap w n 0 5:=grownCap_ge w _ _ _;have hgm:grownCap w n 0 5≤maxLen:=grownCap_le_maxLen w n 0 5 (by unfold maxLen;omega)
 have hrz : ∀ty, (Builtin.append_ #[51, 3] ty #[Nat, .int .i64 (n : Int)]).run prog w =
     .ok (.slice (some ⟨w.heap.size,0,none⟩) n (grownCap w n 0 5)) (w.drew.alloc (.cells (#[] ++Builtin.zeroCells ((.int .u8 0:Value)).cells n ++Builtin.zeroCells ((.int .u8 0:Value)).cells (grownCap w n 0 5-n)) 5)):=fun ty=>by
  have h:=Lib.run_append_grow_zeros w 51 3 ty 5 i0 _ .i64 .i64 underlying51 underlying3 hi0 hz0 none 0 0 [] (run_firstCells_none w.drew i0.size 0 0 0) n hn0 (by omega) (by omega) (by omega)
   (by rw[hz2];omega) (by rw[Nat.zero_add,hz2];exact growslice_fits (by omega) (by omega))
  rw[Nat.zero_add]at h;exact h
 have hown:(w.drew.alloc (.cells (#[] ++Builtin.zeroCells ((.int .u8 0:Value)).cells n ++Builtin.zeroCells ((.int .u8 0:Value)).cells (grownCap w n 0 5-n)) 5)).ownsRow w.heap.size 5 1 (.slice (some ⟨w.drew.heap.size,0,none⟩) 0 (grownCap w n 0 5)) 0 []:=World.ownsRow_made w.drew _ _ (Nat.le_refl _) hgm (by
  simp only[Array.size_append,OR];simp
  omega)
 have HOWN:=aH hown;have hon:aA w (w.drew.alloc (.cells (#[] ++Builtin.zeroCells ((.int .u8 0:Value)).cells n ++Builtin.zeroCells ((.int .u8 0:Value)).cells (grownCap w n 0 5-n)) 5)):=(aA.draw (aA.Zz w)).new _;have HON:=aH hon;unfold maxLen at hgm;clear hi0 hz0 hz1 hz2 hn hown hon;generalize(w.drew.alloc (.cells (#[] ++Builtin.zeroCells ((.int .u8 0:Value)).cells n ++Builtin.zeroCells ((.int .u8 0:Value)).cells (grownCap w n 0 5-n)) 5))=w1 at *;generalize grownCap w n 0 5=G at *;go_enter func111,ntmps111;go_wp2_with (at_builtin;refine Lib.wpList_append_run _ rfl _ _ _ _ rfl _ _ rfl rfl _ _ (hrz _) ?_)
 all_goals (go_ret;exact⟨some ⟨w.heap.size,0,none⟩,G,rfl,⟨HOWN.out,rfl,by simp⟩,HON.out⟩)
theorem iI (w : World)(A A' : Option Addr)(n c m d Z y : Nat)(rows rows' : List (List Value))(hz0 : w.cell? ⟨Z, 0, none⟩ = some (.slice A n c))(hz1 : w.cell? ⟨Z, 1, none⟩ = some (.slice A' m d))
    (h:Sl w w.heap.size 1 A n rows)(h':Sl w w.heap.size 1 A' m rows')(h1:∀r∈rows,∀u∈r,u.oneCell'=true)(h1':∀r∈rows',∀u∈r,u.oneCell'=true)(hn:(n+m)*1≤140737488355328) :
    Calls prog 70 #[.slice (some ⟨Z,0,none⟩) 2 y] w fun e w'=>∃A1 c1,e=.returned (.slice A1 (n+m) c1)∧cH w' w.heap.size 5 1 (.slice A1 (n+m) c1) (n+m) (rows ++rows')∧aA w w':=by
 have HH:=aH h;have HH':=aH h';have H1:=aH h1;have H1':=aH h1';have HN:=aH hn;have hZ:Z<w.heap.size:=World.block_lt_of_cell? w _ hz0;have hn0:n≤140737488355328:=by omega
 have hm0:m≤140737488355328:=by omega
 have hnm:n+m≤maxLen:=by unfold maxLen;omega
 have HNM:=aH hnm;clear h h' h1 h1' hn hnm;obtain⟨i0,hi0,hq0,hq1,hq2⟩:=info_parts wS;have HI:=aH hi0;have HQ0:=aH hq0;have HQ1:=aH hq1;have HQ2:=aH hq2;clear hi0 hq0 hq1 hq2;go_enter func70,ntmps70;go_wp2_with fail
 go_loopg [3,11] 2 (fun g s3 s11 wr=>w=wr∧((s11=.int .i64 0∧s3=.int .i64 0∧2≤g)∨(s11=.int .i64 1∧s3=.int .i64 n∧1≤g)∨(s11=.int .i64 2∧s3=.int .i64 ((n+m:Nat):Int))))
 case atStart=>exact⟨rfl,.inl ⟨rfl,rfl,by omega⟩⟩
 case round =>
  obtain⟨rfl,⟨rfl,rfl,hg⟩| ⟨rfl,rfl,hg⟩| ⟨rfl,rfl⟩⟩:=hrel
  · go_wp2_with fail;go_roundg 1
    case measure=>omega
    case rel=>exact⟨rfl,.inr (.inl ⟨by go_num,by go_num,by omega⟩)⟩
  · have hlt:¬ ((n:Int)+(m:Int)<0):=by omega
    go_wp2_with fail;go_roundg 0
    case measure=>omega
    case rel=>exact⟨rfl,.inr (.inr ⟨by go_num,by go_num⟩)⟩
  go_wp2_with fail;refine Calls.mono (EF _ (n+m) HN.out) ?_;rintro e w1⟨A1,c1,rfl,ow,on⟩;have y0:w1.cell? ⟨Z,0,none⟩=some (.slice A n c):=by rw[on.cell hZ];exact hz0
  have y1:w1.cell? ⟨Z,1,none⟩=some (.slice A' m d):=by rw[on.cell hZ];exact hz1
  clear hz0 hz1;have HOW:=aH ow;clear ow;go_wp2_with fail
  go_loopg [6,27] 2 (fun g s6 s27 wr=>aA w wr∧((s27=.int .i64 0∧2≤g∧∃A2 c2,s6=.slice A2 0 c2∧Hid (cH wr w.heap.size 5 1 (.slice A2 0 c2) 0 []))∨(s27=.int .i64 1∧1≤g∧∃A2 c2,s6=.slice A2 n c2∧Hid (cH wr w.heap.size 5 1 (.slice A2 n c2) n rows))∨(s27=.int .i64 2∧∃A2 c2,s6=.slice A2 (n+m) c2∧Hid (cH wr w.heap.size 5 1 (.slice A2 (n+m) c2) (n+m) (rows ++rows')))))
  case atStart=>exact⟨on,.inl ⟨rfl,by omega,A1,c1,rfl,HOW⟩⟩
  case round =>
   obtain⟨on2,⟨rfl,hg,A2,c2,rfl,HO⟩| ⟨rfl,hg,A2,c2,rfl,HO⟩| ⟨rfl,A2,c2,rfl,HO⟩⟩:=hrel
   · have u0:wr.cell? ⟨Z,0,none⟩=some (.slice A n c):=by rw[on2.cell hZ,←on.cell hZ];exact y0
     go_wp2_with (at_builtin;refine aQ _ rfl _ _ 51 rfl w.heap.size 5 i0 _ 1 1 underlying51 HI.out HQ0.out HQ1.out HQ2.out rfl (by decide) _ 0 [] rfl HO.out w.heap.size A n c rows rfl (Sl.under HH.out (Nat.le_refl _) on2) H1.out (by have:=HNM.out;omega) (by have:=HN.out;omega) on2.size ?_)
     intro v8 w8 own8 grow8 hv8;obtain⟨A8,c8,rfl,_,_⟩:=own8.slice;have hB8:aA w w8:=aT on2 on2.size grow8 (fun g hg=>by have:=(HO.out.1.lt g hg).1;omega);have HO8:=aH own8;clear grow8 hv8 own8 HO u0 on2 y0 y1;go_wp2_with fail;go_roundg 1
     case measure=>omega
     case rel=>exact⟨hB8,.inr (.inl ⟨by go_num,by omega,A8,c8,rfl,HO8⟩)⟩
   · have u0:wr.cell? ⟨Z,1,none⟩=some (.slice A' m d):=by rw[on2.cell hZ,←on.cell hZ];exact y1
     go_wp2_with (at_builtin;refine aQ _ rfl _ _ 51 rfl w.heap.size 5 i0 _ 1 1 underlying51 HI.out HQ0.out HQ1.out HQ2.out rfl (by decide) _ n rows rfl HO.out w.heap.size A' m d rows' rfl (Sl.under HH'.out (Nat.le_refl _) on2) H1'.out (by have:=HNM.out;omega) (by have:=HN.out;omega) on2.size ?_)
     intro v8 w8 own8 grow8 hv8;obtain⟨A8,c8,rfl,_,_⟩:=own8.slice;have hB8:aA w w8:=aT on2 on2.size grow8 (fun g hg=>by have:=(HO.out.1.lt g hg).1;omega);have HO8:=aH own8;clear grow8 hv8 own8 HO u0 on2 y0 y1;go_wp2_with fail;go_roundg 0
     case measure=>omega
     case rel=>exact⟨hB8,.inr (.inr ⟨by go_num,A8,c8,rfl,HO8⟩)⟩
   have HB2:=aH on2;clear on2 y0 y1;go_wp2_with fail;go_ret;exact⟨A2,c2,rfl,HO.out,HB2.out⟩
end
section
structure iM where
 safe:List UInt8
 wait:List UInt8
 deriving DecidableEq,Inhabited
def GL:iM:=⟨[],[]⟩
def bS (s:List UInt8)(most:Nat):List dI×Nat×Int:=eS dF most [] 0 (bO 10 s)
def bE (d:iM):Int:=if 30000<d.safe.length∨30000<d.safe.length+d.wait.length then 2 else(bS d.safe 160).2.2
def fH (d:iM)(r:dI):iM×Int :=
 if bE d≠0 then(GL,bE d)else if(dS r).2≠0 then(GL,(dS r).2)
 else if 30000<d.safe.length+d.wait.length+((dS r).1.length+1)then(GL,2)else(⟨d.safe,d.wait ++(dS r).1 ++[10]⟩,0)
def lL (d:iM):iM×Int :=
 if bE d≠0 then(GL,bE d)else if bE ⟨d.safe ++d.wait,[]⟩≠0 then(GL,bE ⟨d.safe ++d.wait,[]⟩)else(⟨d.safe ++d.wait,[]⟩,0)
def kQ (d:iM)(n:Int):iM×Int :=
 if bE d≠0 then(GL,bE d)else if n<0∨(d.wait.length:Int)<n then(GL,3)else(⟨d.safe,d.wait.take n.toNat⟩,0)
def hH (d:iM):List dI:=(bS d.safe 160).1 ++(bS d.wait (160-(bS d.safe 160).1.length)).1
def iK (d:iM):iM:=⟨d.safe ++d.wait.take (bS d.wait (160-(bS d.safe 160).1.length)).2.1,[]⟩
def bN (d:iM):iM×List dI×Int:=if bE d≠0 then(GL,[],bE d)else(iK d,hH d,0)
def iE (l:List dI):Prop:=∀x∈l,bI x=0
theorem iE.app {l m:List dI}(h:iE l)(h':iE m):iE (l ++m):=fun x hx=>by
 rcases List.mem_append.1 hx with hx|hx
 · exact h x hx
 exact h' x hx
theorem iE.one {r:dI}(h:bI r=0):iE [r]:=fun x hx=>by rw[List.mem_singleton.1 hx];exact h
abbrev fL (l:List dI):List UInt8:=eQ fT l
theorem AI {l:List dI}(h:iE l):(fL l).length≤101*l.length:=IA h
theorem NE (l m:List dI):fL (l ++m)=fL l ++fL m:=nL _ _ _
theorem DC {l:List dI}{most:Nat}(s:List UInt8)(h:iE l)(hm:l.length≤most):bS (fL l ++s) most=eS dF most l (fL l).length (bO 10 s):=by
 unfold bS;rw[sY s (fun x hx=>xO (h x hx)),vA (jZ _ _) (fun x hx=>EL (h x hx)) (by simpa using hm)];simp
theorem uL {l:List dI}{most:Nat}{s:List UInt8}(h:iE l)(hm:l.length≤most)(hs:(10:UInt8)∉s):bS (fL l ++s) most=(l,(fL l).length,if s=[]then 0 else 9):=by
 rw[DC s h hm,mK hs,nM]
theorem nD {l:List dI}{most:Nat}(h:iE l)(hm:l.length≤most):bS (fL l) most=(l,(fL l).length,0):=by
 have:=uL (s:=[]) h hm (by simp);simpa using this
theorem fW (s:List UInt8)(most:Nat):iE (bS s most).1∧(bS s most).1.length≤most∧(bS s most).2.1=(fL (bS s most).1).length∧s.take (bS s most).2.1=fL (bS s most).1∧((bS s most).2.2=0→s=fL (bS s most).1):=by
 obtain⟨l',t,h1,h2,h3,h4,h5,h6⟩:=uJ (ok:=fun x=>bI x=0) (text:=fT) (fun t x hx=>JL hx) (jZ 10 s) (Prod.ext rfl (Prod.ext rfl rfl):eS dF most [] 0 (bO 10 s)=((eS dF most [] 0 (bO 10 s)).1,(eS dF most [] 0 (bO 10 s)).2.1,(eS dF most [] 0 (bO 10 s)).2.2)) (by simp);rw[List.nil_append]at h1;rw[jO]at h5;rw[Nat.zero_add]at h4;have e:(bS s most).1=l':=h1;have e2:(bS s most).2.1=(fL l').length:=h4;refine⟨by rw[e];exact h3,h2,by rw[e];exact e2,?_,fun h=>?_⟩
 · rw[e,e2,h5];simp
 rw[e];rw[h5,h6 h];simp
theorem jM {d:iM}:bE d=0↔d.safe.length+d.wait.length≤30000∧∃l,iE l∧l.length≤160∧d.safe=fL l:=by
 unfold bE;constructor
 · intro h
   split at h
   · cases h
   obtain⟨h1,h2,_,_,h3⟩:=fW d.safe 160;exact⟨by omega,_,h1,h2,h3 h⟩
 rintro⟨h,l,h1,h2,h3⟩;rw[if_neg (by omega),h3,nD h1 h2]
theorem BK {d:iM}(h:bE d=0):∃l m,iE l∧iE m∧d.safe=fL l∧d.wait.take (fL m).length=fL m∧(l ++m).length≤160∧bN d=(⟨fL (l ++m),[]⟩,l ++m,0)∧(bS d.safe 160).1=l:=by
 obtain⟨h0,l,h1,h2,h3⟩:=jM.1 h;have e:=nD h1 h2;obtain⟨g1,g2,g3,g4,_⟩:=fW d.wait (160-l.length);refine⟨l,(bS d.wait (160-l.length)).1,h1,g1,h3,by rw[←g3];exact g4,by rw[List.length_append];omega,?_,by rw[h3,e]⟩;unfold bN iK hH;rw[if_neg (by simp[h]),h3,e];simp only;rw[g4,NE]
theorem rK {l:List dI}(h:iE l)(hl:l.length≤160)(hs:(fL l).length≤30000):bN ⟨fL l,[]⟩=(⟨fL l,[]⟩,l,0):=by
 have hc:bE ⟨fL l,[]⟩=0:=jM.2 ⟨by simpa using hs,l,h,hl,rfl⟩;unfold bN iK hH;rw[if_neg (by simp[hc])];dsimp only;rw[nD h hl];simp[bS,bO,eS]
theorem zJ {r:dI}(h:bI r=0):dS r=(fT r,0):=by unfold dS;rw[if_neg (by simp[h])]
theorem IF (r:dI):(dS r).2=bI r:=by unfold dS;split<;>simp_all
end
section
theorem JC {d:iM}{r:dI}(h:bE d=0)(hr:bI r=0)(hs:d.safe.length+d.wait.length+(fT r).length+1≤30000):fH d r=(⟨d.safe,d.wait ++fT r ++[10]⟩,0):=by
 unfold fH;rw[if_neg (by simp[h]),zJ hr,if_neg (by simp),if_neg (by dsimp only;omega)]
theorem LX {d:iM}{r:dI}(h:(fH d r).2=0):bE d=0∧bI r=0∧d.safe.length+d.wait.length+(fT r).length+1≤30000∧fH d r=(⟨d.safe,d.wait ++fT r ++[10]⟩,0):=by
 unfold fH at h
 split at h
 · rename_i h1;exact absurd h h1
 rename_i h1;have h1:=Decidable.not_not.1 h1
 split at h
 · rename_i h2;exact absurd h h2
 rename_i h2;have h2:=Decidable.not_not.1 h2;rw[IF]at h2;rw[zJ h2]at h
 split at h
 · cases h
 rename_i h3;dsimp only at h3;exact⟨h1,h2,by omega,JC h1 h2 (by omega)⟩
theorem jS {l:List dI}{t:List UInt8}(h:iE l)(hl:l.length≤160)(hs:(fL l).length+t.length≤30000):bE ⟨fL l,t⟩=0:=jM.2 ⟨hs,l,h,hl,rfl⟩
theorem KZ {l m:List dI}(h:iE l)(h':iE m)(hl:(l ++m).length≤160)(hs:(fL l).length+(fL m).length≤30000):lL ⟨fL l,fL m⟩=(⟨fL (l ++m),[]⟩,0):=by
 have h1:bE ⟨fL l,fL m⟩=0:=jS h (by rw[List.length_append]at hl;omega) hs;have e:fL l ++fL m=fL (l ++m):=(nL _ _ _).symm;have h2:bE ⟨fL (l ++m),[]⟩=0:=jS (h.app h') hl (by rw[←e,List.length_append];simpa using hs);unfold lL;rw[if_neg (by simp[h1])];dsimp only;rw[e,if_neg (by simp[h2])]
theorem AM {l m : List dI}{k : Nat}(h : iE l)(h' : iE m)(hl : (l++m).length ≤ 160)(hs : (fL l).length + (fL m).length ≤ 30000)(hk : k ≤ (fL m).length) :
    ∃j,j≤m.length∧bN ⟨fL l,(fL m).take k⟩=(⟨fL (l ++m.take j),[]⟩,l ++m.take j,0)∧(k=(fL m).length→j=m.length):=by
 have hl1:l.length≤160:=by rw[List.length_append]at hl;omega
 have hc:bE ⟨fL l,(fL m).take k⟩=0:=jS h hl1 (by rw[List.length_take];omega);obtain⟨j,s,h1,h2,h3,h4⟩:=xI (fun x hx=>xO (h' x hx)) hk;have hj:iE (m.take j):=fun x hx=>h' x (List.mem_of_mem_take hx)
 have hjl:(m.take j).length=j:=by rw[List.length_take];omega
 have e:bS ((fL m).take k) (160-l.length)=(m.take j,(fL (m.take j)).length,if s=[]then 0 else 9):=by
  rw[←h3];exact uL hj (by rw[hjl];rw[List.length_append]at hl;omega) h4
 refine⟨j,h1,?_,fun hkm=>?_⟩
 · unfold bN iK hH;rw[if_neg (by simp[hc])];dsimp only;rw[nD h hl1];dsimp only;rw[e];dsimp only;have:((fL m).take k).take (fL (m.take j)).length=fL (m.take j):=by rw[←h3];simp
   rw[this,←nL]
 subst hkm;rw[List.take_length]at h2;have h5:=sY [] (fun x hx=>xO (h' x hx)) (text:=fT);rw[List.append_nil]at h5;have h6:=congrArg List.length (h5.symm.trans h2);simp[bO]at h6;omega
/-! ### A unit,and its disk -/
structure fM (u:eM)(d:iM)(l:List dI):Prop where
 unit:cI l=(u,0)
 disk:d=⟨fL l,[]⟩
theorem fM.ok {u:eM}{d:iM}{l:List dI}(h:fM u d l):iE l:=oY (lK h.unit)
theorem fM.few {u:eM}{d:iM}{l:List dI}(h:fM u d l):l.length≤79:=pV h.unit
theorem fM.size {u:eM}{d:iM}{l:List dI}(h:fM u d l):(fL l).length≤7979:=by
 have:=AI h.ok;have:=h.few;omega
theorem fM.new:fM jI GL []:=⟨rfl,rfl⟩
theorem fM.put {u:eM}{d:iM}{l:List dI}{r:dI}(h:fM u d l)(hr:bI r=0):fH d r=(⟨fL l,fL [r]⟩,0):=by
 have h1:=h.size;have h2:=mR hr;obtain⟨h0,rfl⟩:=h;rw[JC (jS (oY (lK h0)) (by have:=pV h0;omega) (by simp;omega)) hr (by simp;omega)];simp[eQ]
theorem fM.next {u:eM}{d:iM}{l:List dI}{r:dI}(h:fM u d l)(hr:(bU u r).2=0):∃d1,fH d r=(d1,0)∧lL d1=(⟨fL (l ++[r]),[]⟩,0)∧fM (bU u r).1 ⟨fL (l ++[r]),[]⟩ (l ++[r]):=by
 have hc:=(iN hr).2.1;refine⟨_,h.put hc,?_,vQ h.unit hr,rfl⟩;have h1:=h.size;have h2:=mR hc;have h3:=h.few;have h4:=AI (iE.one hc);rw[List.length_singleton]at h4;exact KZ h.ok (iE.one hc) (by simp;omega) (by omega)
theorem fM.back {u:eM}{d:iM}{l:List dI}(h:fM u d l):bN d=(d,l,0):=by
 have h1:=h.size;have h2:=h.few;have h3:=h.ok;rw[h.disk];exact rK h3 (by omega) (by omega)
end
section
def eX (x:dB):Prop:=x.id<0∨6≤x.id∨x.every<1∨100<x.every∨x.next<0∨100100<x.next
instance (x : dB) : Decidable (eX x) := by unfold eX;infer_instance
def oE (r:iO):Prop:=r.job<0∨6≤r.job∨r.time<0∨100000<r.time∨r.client<0∨3≤r.client
theorem wB {l:List iO}{k:Nat}{x:iO}(hx:l[k]?=some x):dW (l.drop k)=if(x.job<0∨6≤x.job∨x.time<0∨100000<x.time∨x.client<0∨3≤x.client)then 3 else dW (l.drop (k+1)):=by
 obtain⟨hk,rfl⟩:=List.getElem?_eq_some_iff.1 hx;rw[List.drop_eq_getElem_cons hk];rfl
theorem kI {l:List iO}{k:Nat}{x:iO}(hx:l[k]?=some x)(hb:oE x):dW (l.drop k)=3:=by rw[wB hx];exact if_pos hb
theorem nS {l:List iO}{k:Nat}{x:iO}(hx:l[k]?=some x)(hb:¬oE x):dW (l.drop k)=dW (l.drop (k+1)):=by rw[wB hx];exact if_neg hb
theorem eH {last : Int}{l : List dB}{k : Nat}{x : dB}(hx : l[k]? = some x) : dA last (l.drop k) =
    if eX x then 3 else if x.id≤last then 6 else dA x.id (l.drop (k+1)):=by
 obtain⟨hk,rfl⟩:=List.getElem?_eq_some_iff.1 hx;rw[List.drop_eq_getElem_cons hk];simp only[dA,eX]
def qW (l:List dB)(k:Nat):Int:=match k with|0=>-1|k+1=>((l[k]?).map (·.id)).getD 0
theorem qF {b:cW}{id:Int}:dZ b id=lM (fun j=>decide (j.id=id)) b.jobs:=rfl
theorem qT {α:Type}{p:α→Bool}{l:List α}(h:0≤lM p l):∃ (i:Nat)(x:α),lM p l=i∧l[i]?=some x∧p x=true:=by
 unfold lM at h⊢
 cases hf:l.findIdx? p with
 |none=>rw[hf]at h;simp at h
 |some i =>
   obtain⟨hi,hp,_⟩:=List.findIdx?_eq_some_iff_getElem.1 hf;exact⟨i,l[i],by simp,List.getElem?_eq_getElem hi,hp⟩
theorem uG {x:dB}:∀ {l:List dB}{last:Int},dA last l=0→x∈l→¬eX x
 | [],_,_,h=>by simp at h
 |y ::l,last,hc,h=>by
   have e:dA last (y ::l)=if eX y then 3 else if y.id≤last then 6 else dA y.id l:=eH (l:=y ::l) (k:=0) rfl
   rw[e]at hc
   split at hc
   · cases hc
   rename_i hb
   split at hc
   · cases hc
   rcases List.mem_cons.1 h with rfl|h
   · exact hb
   exact uG hc h
theorem sK {b:cW}(h:cF b=0):b.jobs.length≤6∧b.rung.length≤60∧dA (-1) b.jobs=0∧dW b.rung=0:=by
 unfold cF at h
 split at h
 · cases h
 split at h
 · refine⟨by omega,by omega,by assumption,h⟩
 contradiction
theorem NK {l:List dB}{id:Int}{a:Nat}(h:∀b y,b<a→l[b]?=some y→y.id<id)(hx:∀x,l[a]?=some x→¬x.id<id)(ha:a≤l.length):mH l id=a:=by
 induction l generalizing a with
 |nil=>simp at ha;subst ha;rfl
 |cons x l ih =>
   cases a with
   |zero =>
     have:=hx x rfl;simp[mH,List.takeWhile,this]
   |succ a =>
     have h0:=h 0 x (by omega) rfl;have:=ih (a:=a) (fun b y hb hy=>h (b+1) y (by omega) (by simpa using hy)) (fun y hy=>hx y (by simpa using hy)) (by simpa using ha);simp only[mH,List.takeWhile_cons,h0,decide_true]at this⊢;simp[this]
theorem AK {x:dB}{l:List dB}{last:Int}:dA last (x ::l)=if eX x then 3 else if x.id≤last then 6 else dA x.id l:=eH (l:=x ::l) (k:=0) rfl
theorem uY {l:List dB}:∀ {last:Int},dA last l=0↔(∀x∈l,¬eX x)∧(∀x∈l,last<x.id)∧l.Pairwise (fun a b=>a.id<b.id):=by
 induction l with
 |nil=>simp[dA]
 |cons y l ih =>
   intro last;rw[AK];by_cases hb:eX y
   · rw[if_pos hb];simp[hb]
   rw[if_neg hb];by_cases hl:y.id≤last
   · rw[if_pos hl];constructor
     · intro h;cases h
     intro h;have:=h.2.1 y (by simp);omega
   rw[if_neg hl,ih,List.pairwise_cons];constructor
   · rintro⟨h1,h2,h3⟩
     exact⟨by simpa[hb]using h1,by
      intro x hx;rcases List.mem_cons.1 hx with rfl|hx
      · omega
      have:=h2 x hx;omega,h2,h3⟩
   rintro⟨h1,h2,h3,h4⟩;exact⟨fun x hx=>h1 x (by simp[hx]),h3,h4⟩
theorem uI {l:List iO}:dW l=0↔∀x∈l,¬oE x:=by
 induction l with
 |nil=>simp[dW]
 |cons y l ih =>
   by_cases hb:oE y
   · rw[show dW (y ::l)=3 from kI (l:=y ::l) (k:=0) rfl hb];simp[hb]
   rw[show dW (y ::l)=dW l from nS (l:=y ::l) (k:=0) rfl hb,ih];simp[hb]
structure nZ (b:cW):Prop where
 nj:b.jobs.length≤6
 nr:b.rung.length≤60
 ok:∀x∈b.jobs,¬eX x
 ord:b.jobs.Pairwise (fun a c=>a.id<c.id)
 rok:∀x∈b.rung,¬oE x
theorem fE {b:cW}:cF b=0↔nZ b:=by
 constructor
 · intro h;obtain⟨h1,h2,h3,h4⟩:=sK h;obtain⟨h5,_,h7⟩:=uY.1 h3;exact⟨h1,h2,h5,h7,uI.1 h4⟩
 rintro⟨h1,h2,h3,h4,h5⟩;have e:dA (-1) b.jobs=0:=uY.2 ⟨h3,fun x hx=>by have:=h3 x hx;unfold eX at this;omega,h4⟩;unfold cF;rw[if_neg (by omega),if_pos e];exact uI.2 h5
theorem few {l:List dB}:∀ {lo hi:Int},lo≤hi→(∀x∈l,lo≤x.id∧x.id<hi)→l.Pairwise (fun a c=>a.id<c.id)→(l.length:Int)≤hi-lo:=by
 induction l with
 |nil=>intro lo hi h _ _;simp;omega
 |cons y l ih =>
   intro lo hi h hr hp;obtain⟨h1,h2⟩:=List.pairwise_cons.1 hp;have hy:=hr y (by simp);have:=ih (lo:=y.id+1) (hi:=hi) (by omega) (fun x hx=>⟨by have:=h1 x hx;omega,(hr x (by simp[hx])).2⟩) h2;simp only[List.length_cons];omega
theorem xN (l:List dB)(id:Int):l.take (mH l id)=l.takeWhile (fun j=>decide (j.id<id))∧l.drop (mH l id)=l.dropWhile (fun j=>decide (j.id<id)):=by
 have h:=List.takeWhile_append_dropWhile (p:=fun j:dB=>decide (j.id<id)) (l:=l);unfold mH;constructor
 · conv=>lhs;arg 2;rw[←h]
   rw[List.take_left]
 conv=>lhs;arg 2;rw[←h]
 rw[List.drop_left]
theorem tD {l:List dB}{id:Int}:∀ {x:dB},x∈l.takeWhile (fun j=>decide (j.id<id))→x.id<id:=by
 induction l with
 |nil=>simp
 |cons y l ih =>
   intro x hx;rw[List.takeWhile_cons]at hx
   split at hx
   · rename_i h;rcases List.mem_cons.1 hx with rfl|hx
     · simpa using h
     exact ih hx
   simp at hx
theorem tJ {l:List dB}{id:Int}(hp:l.Pairwise (fun a c=>a.id<c.id)):∀ {x:dB},x∈l.dropWhile (fun j=>decide (j.id<id))→id≤x.id:=by
 induction l with
 |nil=>simp
 |cons y l ih =>
   intro x hx;obtain⟨h1,h2⟩:=List.pairwise_cons.1 hp;rw[List.dropWhile_cons]at hx
   split at hx
   · exact ih h2 hx
   rename_i h;have hy:id≤y.id:=by simpa using h
   rcases List.mem_cons.1 hx with rfl|hx
   · exact hy
   have:=h1 x hx;omega
theorem qB {b:cW}{id:Int}(h:¬0≤dZ b id):∀x∈b.jobs,x.id≠id:=by
 intro x hx e;unfold dZ lM at h
 cases hf:b.jobs.findIdx? (fun j=>decide (j.id=id))with
 |none =>
   rw[List.findIdx?_eq_none_iff]at hf;have:=hf x hx;simp[e]at this
 |some i=>rw[hf]at h;simp at h
theorem tQ {b:cW}{id:Int}(h:0≤dZ b id):∃ (i:Nat)(x:dB),dZ b id=i∧b.jobs[i]?=some x∧x.id=id:=by
 obtain⟨i,x,h1,h2,h3⟩:=qT (by rw[←qF];exact h);exact⟨i,x,h1,h2,by simpa using h3⟩
theorem FS {b:cW}{id:Int}(h:∀x∈b.jobs,x.id≠id):dZ b id=-1:=by
 rw[qF];exact pS (fun j y hy=>by have:=h y (List.mem_of_getElem? hy);simpa using this)
theorem GR {e:aL}(h:aG e=0)(hk:e.kind=1):0≤e.job∧e.job<6∧1≤e.every∧e.every≤100∧0≤e.time∧e.time≤100000:=by
 unfold aG at h
 (repeat' split at h)<;>omega
theorem uF {e:aL}(h:aG e=0)(hk:e.kind=3):0≤e.job∧e.job<6∧0≤e.time∧e.time≤100000∧0≤e.client∧e.client<3:=by
 unfold aG at h
 (repeat' split at h)<;>omega
theorem QI {l:List dB}(ok:∀x∈l,¬eX x)(ord:l.Pairwise (fun a c=>a.id<c.id)):l.length≤6:=by
 have:=few (lo:=0) (hi:=6) (by omega) (fun x hx=>by have:=ok x hx;unfold eX at this;omega) ord;omega
theorem KE {l : List dB}{e : dB}(ok : ∀x ∈ l, ¬eX x)(ord : l.Pairwise (fun a c => a.id < c.id))(he : ¬eX e)(hn : ∀x ∈ l, x.id ≠ e.id) :
    (∀x∈l.take (mH l e.id) ++[e] ++l.drop (mH l e.id),¬eX x)∧(l.take (mH l e.id) ++[e] ++l.drop (mH l e.id)).Pairwise (fun a c=>a.id<c.id):=by
 constructor
 · intro x hx;simp only[List.mem_append,List.mem_singleton]at hx;rcases hx with (hx|rfl)|hx
   · exact ok x (List.mem_of_mem_take hx)
   · exact he
   exact ok x (List.mem_of_mem_drop hx)
 have h1:∀x∈l.take (mH l e.id),x.id<e.id:=fun x hx=>by rw[(xN l e.id).1]at hx;exact tD hx
 have h2:∀x∈l.drop (mH l e.id),e.id<x.id:=fun x hx=>by
  have h3:=hn x (List.mem_of_mem_drop hx);rw[(xN l e.id).2]at hx;have:=tJ ord hx;omega
 rw[List.append_assoc,List.pairwise_append];refine⟨ord.sublist (List.take_sublist _ _),?_,?_⟩
 · rw[List.singleton_append,List.pairwise_cons];exact⟨h2,ord.sublist (List.drop_sublist _ _)⟩
 intro x hx y hy;have hx':=h1 x hx;rcases List.mem_append.1 hy with hy|hy
 · simp at hy;subst hy;exact hx'
 have:=h2 y hy;omega
theorem vV {b:cW}{e:aL}(hb:nZ b)(he:aG e=0):nZ (hD b e):=by
 unfold hD
 split
 · rename_i hk
   split
   · exact hb
   rename_i hf;have hp:=GR he hk;obtain⟨h1,h2⟩:=KE (e:=⟨e.job,e.every,e.time⟩) hb.ok hb.ord (by unfold eX;simp only;omega) (qB hf);exact⟨QI h1 h2,hb.nr,h1,h2,hb.rok⟩
 split
 · split
   · have h1:∀x∈b.jobs.take (dZ b e.job).toNat ++b.jobs.drop ((dZ b e.job).toNat+1),¬eX x:=fun x hx=>by
      rcases List.mem_append.1 hx with hx|hx
      · exact hb.ok x (List.mem_of_mem_take hx)
      exact hb.ok x (List.mem_of_mem_drop hx)
     have h2:(b.jobs.take (dZ b e.job).toNat ++b.jobs.drop ((dZ b e.job).toNat+1)).Pairwise (fun a c=>a.id<c.id):=by
      rw[←List.eraseIdx_eq_take_drop_succ];exact hb.ord.sublist (List.eraseIdx_sublist _ _)
     exact⟨QI h1 h2,hb.nr,h1,h2,hb.rok⟩
   exact hb
 split
 · rename_i hk;have hr:=uF he hk
   split
   · rename_i j hj
     split
     · rename_i hc;have hjb:=hb.ok j (List.mem_of_getElem? hj)
       have h1:∀x∈b.jobs.set (dZ b e.job).toNat ⟨j.id,j.every,j.next+j.every⟩,¬eX x:=fun x hx=>by
        rcases List.mem_or_eq_of_mem_set hx with hx|rfl
        · exact hb.ok x hx
        unfold eX at hjb⊢;simp only;omega
       have h2:(b.jobs.set (dZ b e.job).toNat ⟨j.id,j.every,j.next+j.every⟩).Pairwise (fun a c=>a.id<c.id):=by
        have hm:(b.jobs.set (dZ b e.job).toNat ⟨j.id,j.every,j.next+j.every⟩).map (·.id)=b.jobs.map (·.id):=by
         rw[List.map_set];apply List.ext_getElem?;intro i;rw[List.getElem?_set]
         split
         · rename_i hi;subst hi;rw[List.getElem?_map,hj];simp only[List.length_map,Option.map_some];rw[if_pos (List.getElem?_eq_some_iff.1 hj).1]
         rfl
        have:=hb.ord;rw[←List.pairwise_map (f:=dB.id) (R:=fun a c=>a<c)]at this⊢;rw[hm];exact this
       exact⟨QI h1 h2,by simp;omega,h1,h2,fun x hx=>by
        rcases List.mem_append.1 hx with hx|hx
        · exact hb.rok x hx
        simp at hx;subst hx;unfold oE;simp only;omega⟩
     exact hb
   exact hb
 exact hb
end
section
open Go.RowKit
theorem QF (a0 a1 a2 b0 b1 b2:Int)(w:World):(binOp .neq 136 (.agg #[a0,a1,a2]) (.agg #[b0,b1,b2])).run prog w=.ok (.bool (!((a0 ==b0)&&(a1 ==b1)&&(a2 ==b2)))) w:=by
 have u3:=underlying3;have a3:=isAgg3;have z3:=sizeOf3;have hS:prog.underlying 136=some (.struct (prog.fieldsOf 136)):=by kernel_rfl
 have hp:prog.stoodInHeld 136=false:=by kernel_rfl
 rw[run_neq_struct,show(10000:Nat)=9999+1 from rfl,run_equalIn_agg w 9999 136 _ _ hS hp];simp only[Program.fieldsOf,underlying136];go_simp;by_cases h0:a0=b0<;>by_cases h1:a1=b1<;>by_cases h2:a2=b2<;>simp[h0,h1,h2]
theorem rW (A A' : Option Addr)(n m c d B : Nat)(l l' : List dB)(w : World)(h : Sl w B 3 A n (l.map bX))(h' : Sl w B 3 A' m (l'.map bX))(hn : n ≤ 9223372036854775807) :
    Calls prog 117 #[.slice A n c,.slice A' m d] w fun e w'=>e=.returned (.bool (decide (l=l')))∧∃q,w'=w.drewN q:=by
 by_cases hnm:n=m
 · subst hnm;go_enter func117,ntmps117;go_wp2
   go_loopg [13] n (fun g s13 wr=>∃kk q:Nat,kk≤n∧n-kk≤g∧s13=.int .i64 kk∧wr=w.drewN q∧Hid (∀j,j<kk→l[j]?=l'[j]?))
   case atStart=>exact⟨0,0,Nat.zero_le _,by omega,rfl,rfl,fun j hj=>absurd hj (Nat.not_lt_zero _)⟩
   case round =>
    obtain⟨kk,q,hkk,hg,rfl,rfl,H⟩:=hrel;by_cases hlt:kk<n
    · obtain⟨b,off,x,rfl,hb,hx,c0,c1,c2⟩:=h.atJ hlt;obtain⟨b',off',x',rfl,hb',hx',d0,d1,d2⟩:=h'.atJ hlt;have HX:=aH hx;have HX':=aH hx';clear hx hx';clear h h';have hne:=QF;go_wp2_with fail;go_quiet (fail);go_wp2
      · go_ret;refine⟨?_,q+nq,by simp⟩
        have hd:l≠l':=by
         rintro rfl;have:=HX.out.symm.trans HX'.out;simp at this;subst this;simp_all
        simp[hd]
      go_roundg (n-(kk+1))
      case measure=>omega
      case rel =>
       refine⟨kk+1,q+nq,by omega,by omega,by go_num,by simp,?_⟩;intro j hj;by_cases e:j=kk
       · subst e;rw[HX.out,HX'.out];congr 1;rw[GC];simp_all
       exact H.out j (by omega)
    have:kk=n:=by omega
    subst this;have hl:=h.len;have hl':=h'.len;simp at hl hl';have he:l=l':=jX (by omega) (fun j hj=>H.out j (by omega));clear h h' hl hl';go_wp2;go_ret;refine⟨by simp[he],q,rfl⟩
 have hnm':¬ (n:Int)=(m:Int):=by omega
 have hd:l≠l':=by
  rintro rfl;exact hnm (h.len.symm.trans h'.len)
 clear h h';go_enter func117,ntmps117;go_wp2;go_ret;exact⟨by simp[hd],0,rfl⟩
theorem QN (a0 a1 a2 b0 b1 b2:Int)(w:World):(binOp .neq 77 (.agg #[a0,a1,a2]) (.agg #[b0,b1,b2])).run prog w=.ok (.bool (!((a0 ==b0)&&(a1 ==b1)&&(a2 ==b2)))) w:=by
 have u3:=underlying3;have a3:=isAgg3;have z3:=sizeOf3;have hS:prog.underlying 77=some (.struct (prog.fieldsOf 77)):=by kernel_rfl
 have hp:prog.stoodInHeld 77=false:=by kernel_rfl
 rw[run_neq_struct,show(10000:Nat)=9999+1 from rfl,run_equalIn_agg w 9999 77 _ _ hS hp];simp only[Program.fieldsOf,underlying77];go_simp;by_cases h0:a0=b0<;>by_cases h1:a1=b1<;>by_cases h2:a2=b2<;>simp[h0,h1,h2]
theorem QK (a0 a1 a2 b0 b1 b2:Int)(w:World):(binOp .eql 77 (.agg #[a0,a1,a2]) (.agg #[b0,b1,b2])).run prog w=.ok (.bool (((a0 ==b0)&&(a1 ==b1)&&(a2 ==b2)))) w:=by
 have u3:=underlying3;have a3:=isAgg3;have z3:=sizeOf3;have hS:prog.underlying 77=some (.struct (prog.fieldsOf 77)):=by kernel_rfl
 have hp:prog.stoodInHeld 77=false:=by kernel_rfl
 rw[run_eql_struct,show(10000:Nat)=9999+1 from rfl,run_equalIn_agg w 9999 77 _ _ hS hp];simp only[Program.fieldsOf,underlying77];go_simp;by_cases h0:a0=b0<;>by_cases h1:a1=b1<;>by_cases h2:a2=b2<;>simp[h0,h1,h2]
theorem sO (A A' : Option Addr)(n m c d B : Nat)(l l' : List iO)(w : World)(h : Sl w B 3 A n (l.map dN))(h' : Sl w B 3 A' m (l'.map dN))(hn : n ≤ 9223372036854775807) :
    Calls prog 118 #[.slice A n c,.slice A' m d] w fun e w'=>e=.returned (.bool (decide (l=l')))∧∃q,w'=w.drewN q:=by
 by_cases hnm:n=m
 · subst hnm;go_enter func118,ntmps118;go_wp2
   go_loopg [13] n (fun g s13 wr=>∃kk q:Nat,kk≤n∧n-kk≤g∧s13=.int .i64 kk∧wr=w.drewN q∧Hid (∀j,j<kk→l[j]?=l'[j]?))
   case atStart=>exact⟨0,0,Nat.zero_le _,by omega,rfl,rfl,fun j hj=>absurd hj (Nat.not_lt_zero _)⟩
   case round =>
    obtain⟨kk,q,hkk,hg,rfl,rfl,H⟩:=hrel;by_cases hlt:kk<n
    · obtain⟨b,off,x,rfl,hb,hx,c0,c1,c2⟩:=h.atR hlt;obtain⟨b',off',x',rfl,hb',hx',d0,d1,d2⟩:=h'.atR hlt;have HX:=aH hx;have HX':=aH hx';clear hx hx';clear h h';have hne:=QN;go_wp2_with fail;go_quiet (fail);go_wp2
      · go_ret;refine⟨?_,q+nq,by simp⟩
        have hd:l≠l':=by
         rintro rfl;have:=HX.out.symm.trans HX'.out;simp at this;subst this;simp_all
        simp[hd]
      go_roundg (n-(kk+1))
      case measure=>omega
      case rel =>
       refine⟨kk+1,q+nq,by omega,by omega,by go_num,by simp,?_⟩;intro j hj;by_cases e:j=kk
       · subst e;rw[HX.out,HX'.out];congr 1;rw[EZ];simp_all
       exact H.out j (by omega)
    have:kk=n:=by omega
    subst this;have hl:=h.len;have hl':=h'.len;simp at hl hl';have he:l=l':=jX (by omega) (fun j hj=>H.out j (by omega));clear h h' hl hl';go_wp2;go_ret;refine⟨by simp[he],q,rfl⟩
 have hnm':¬ (n:Int)=(m:Int):=by omega
 have hd:l≠l':=by
  rintro rfl;exact hnm (h.len.symm.trans h'.len)
 clear h h';go_enter func118,ntmps118;go_wp2;go_ret;exact⟨by simp[hd],0,rfl⟩
end
section
open Go.RowKit
theorem IQ:(prog.info? 136).map (fun i=>(i.zero,i.size,i.bytes))=some (some (.agg #[(),(),()]),3,24):=by kernel_rfl
theorem rU (w : World)(A : Option Addr)(n c B : Nat)(hB : B ≤ w.heap.size)(rows : List (List Value))(h : Sl w B 3 A n rows)(h1 : ∀r ∈ rows, ∀u ∈ r, u.oneCell' = true)(hn : n * 24 ≤ 140737488355328) :
    Calls prog 123 #[.slice A n c] w fun e w'=>∃A' c',e=.returned (.slice A' n c')∧cH w' w.heap.size 136 3 (.slice A' n c') n rows∧Below w.heap.size w w':=by
 obtain⟨i0,hi0,hz0,hz1,hz2⟩:=info_parts IQ;have hnm:n≤maxLen:=by unfold maxLen;omega
 cases A with
 |none =>
   have h0:n=0:=by
    rcases Nat.eq_zero_or_pos n with h0|h0
    · exact h0
    obtain⟨b,off,e,_⟩:=h.2.2 h0
    cases e
   subst h0;have hr:rows=[]:=List.eq_nil_of_length_eq_zero h.1;subst hr;clear h h1 hi0 hz0 hz1 hz2 hnm hn;have hs:∀w,(binOp .eql 63 (.slice none 0 c) (.slice none 0 0)).run prog w=.ok (.bool true) w:=fun w=>by kernel_rfl
   go_enter func123,ntmps123;go_wp2;go_ret;exact⟨none,0,rfl,cH.nil _ _ _ _,Below.refl _ _⟩
 |some a =>
   have hs:∀w,(binOp .eql 63 (.slice (some a) n c) (.slice none 0 0)).run prog w=.ok (.bool false) w:=fun w=>by kernel_rfl
   have HN:=aH hn;have HM:=aH hnm;have H1:=aH h1;have H:=aH h;clear hn hnm h1 h;have HI:=aH hi0;have HZ0:=aH hz0;have HZ1:=aH hz1;have HZ2:=aH hz2;clear hi0 hz0 hz1 hz2;go_enter func123,ntmps123;go_wp2_with (at_builtin;refine aQ _ rfl _ _ 63 rfl w.heap.size 136 i0 _ 3 24 underlying63 HI.out HZ0.out HZ1.out HZ2.out rfl (by decide) _ 0 [] rfl ?c1 B (some a) n c rows rfl ?c2 H1.out ?c3 ?c4 ?c5 ?_)
   case c1=>exact⟨World.ownsRow_made _ _ _ (Nat.le_refl _) (by simp[maxLen]) (by simp),rfl,by simp⟩
   case c2=>exact H.out.keep fun p hp=>World.cell?_alloc_lt w _ p (by omega)
   case c3=>rw[Nat.zero_add];exact HM.out
   case c4=>rw[Nat.zero_add];exact HN.out
   case c5=>simp
   intro v' w' hown hgrow hblk;obtain⟨A',c',rfl,_,_⟩:=hown.slice;go_wp2;go_ret;refine⟨A',c',rfl,hown,?_⟩;exact((Below.refl _ _).alloc (Nat.le_refl _) _).grown hgrow (by simp) (by simp[Value.ownBlock])
theorem IS:(prog.info? 77).map (fun i=>(i.zero,i.size,i.bytes))=some (some (.agg #[(),(),()]),3,24):=by kernel_rfl
theorem AX (w : World)(A : Option Addr)(n c B : Nat)(hB : B ≤ w.heap.size)(rows : List (List Value))(h : Sl w B 3 A n rows)(h1 : ∀r ∈ rows, ∀u ∈ r, u.oneCell' = true)(hn : n * 24 ≤ 140737488355328) :
    Calls prog 124 #[.slice A n c] w fun e w'=>∃A' c',e=.returned (.slice A' n c')∧cH w' w.heap.size 77 3 (.slice A' n c') n rows∧Below w.heap.size w w':=by
 obtain⟨i0,hi0,hz0,hz1,hz2⟩:=info_parts IS;have hnm:n≤maxLen:=by unfold maxLen;omega
 cases A with
 |none =>
   have h0:n=0:=by
    rcases Nat.eq_zero_or_pos n with h0|h0
    · exact h0
    obtain⟨b,off,e,_⟩:=h.2.2 h0
    cases e
   subst h0;have hr:rows=[]:=List.eq_nil_of_length_eq_zero h.1;subst hr;clear h h1 hi0 hz0 hz1 hz2 hnm hn;have hs:∀w,(binOp .eql 64 (.slice none 0 c) (.slice none 0 0)).run prog w=.ok (.bool true) w:=fun w=>by kernel_rfl
   go_enter func124,ntmps124;go_wp2;go_ret;exact⟨none,0,rfl,cH.nil _ _ _ _,Below.refl _ _⟩
 |some a =>
   have hs:∀w,(binOp .eql 64 (.slice (some a) n c) (.slice none 0 0)).run prog w=.ok (.bool false) w:=fun w=>by kernel_rfl
   have HN:=aH hn;have HM:=aH hnm;have H1:=aH h1;have H:=aH h;clear hn hnm h1 h;have HI:=aH hi0;have HZ0:=aH hz0;have HZ1:=aH hz1;have HZ2:=aH hz2;clear hi0 hz0 hz1 hz2;go_enter func124,ntmps124;go_wp2_with (at_builtin;refine aQ _ rfl _ _ 64 rfl w.heap.size 77 i0 _ 3 24 underlying64 HI.out HZ0.out HZ1.out HZ2.out rfl (by decide) _ 0 [] rfl ?c1 B (some a) n c rows rfl ?c2 H1.out ?c3 ?c4 ?c5 ?_)
   case c1=>exact⟨World.ownsRow_made _ _ _ (Nat.le_refl _) (by simp[maxLen]) (by simp),rfl,by simp⟩
   case c2=>exact H.out.keep fun p hp=>World.cell?_alloc_lt w _ p (by omega)
   case c3=>rw[Nat.zero_add];exact HM.out
   case c4=>rw[Nat.zero_add];exact HN.out
   case c5=>simp
   intro v' w' hown hgrow hblk;obtain⟨A',c',rfl,_,_⟩:=hown.slice;go_wp2;go_ret;refine⟨A',c',rfl,hown,?_⟩;exact((Below.refl _ _).alloc (Nat.le_refl _) _).grown hgrow (by simp) (by simp[Value.ownBlock])
end
section
open Go.ChangeShapes Go.WideShapes Go.ChangeAt Go.RowKit Go.Deep Go.Joins
theorem zI:prog.cellsOf 136=3:=by kernel_rfl
theorem wC:prog.cellsOf 77=3:=by kernel_rfl
theorem GV:prog.cellsOf 63=1:=by kernel_rfl
theorem DY:prog.cellsOf 64=1:=by kernel_rfl
theorem vU:prog.cellsOf 66=2:=by kernel_rfl
theorem JH {w:World}{cs:List Value}(h:iG w 136 cs):∃x,cs=bX x∧(pH x.id∧pH x.every∧pH x.next):=by
 obtain⟨hl,hf⟩:=dQ underlying136 h;rw[zI]at hl
 match cs,hl with
 | [c0,c1,c2],_ =>
   simp only[sZ,jQ]at hf;obtain⟨h0,h1,h2,_⟩:=hf;obtain⟨z0,e0,i0⟩:=cB h0;obtain⟨z1,e1,i1⟩:=cB h1;obtain⟨z2,e2,i2⟩:=cB h2;simp at e0 e1 e2;exact⟨⟨z0,z1,z2⟩,by simp[bX,e0,e1,e2],i0,i1,i2⟩
theorem GF {w:World}{cs:List Value}(h:iG w 77 cs):∃x,cs=dN x∧(pH x.job∧pH x.time∧pH x.client):=by
 obtain⟨hl,hf⟩:=dQ underlying77 h;rw[wC]at hl
 match cs,hl with
 | [c0,c1,c2],_ =>
   simp only[sZ,jQ]at hf;obtain⟨h0,h1,h2,_⟩:=hf;obtain⟨z0,e0,i0⟩:=cB h0;obtain⟨z1,e1,i1⟩:=cB h1;obtain⟨z2,e2,i2⟩:=cB h2;simp at e0 e1 e2;exact⟨⟨z0,z1,z2⟩,by simp[dN,e0,e1,e2],i0,i1,i2⟩
theorem GU {w : World}{cs : List Value}(h : iG w 66 cs) : ∃ (A : Option Addr)(n c : Nat)(A' : Option Addr)(m d : Nat)(b : cW), cs = [.slice A n c, .slice A' m d] ∧ n ≤ c ∧ c ≤ maxLen ∧ m ≤ d ∧ d ≤ maxLen ∧
    (∀x∈b.jobs,pH x.id∧pH x.every∧pH x.next)∧(∀x∈b.rung,pH x.job∧pH x.time∧pH x.client)∧Sl w w.heap.size 3 A n (b.jobs.map bX)∧Sl w w.heap.size 3 A' m (b.rung.map dN):=by
 obtain⟨hl,hf⟩:=dQ underlying66 h;rw[vU]at hl
 match cs,hl with
 | [c0,c1],_ =>
   simp only[sZ,GV,DY]at hf;obtain⟨h0,h1,_⟩:=hf;obtain⟨A,n,c,l,e0,hnc,hc,hR,hs⟩:=jP bX _ underlying63 zI (by omega) (fun _=>rfl) (fun _ _ h=>JH h) h0;obtain⟨A',m,d,l',e1,hmd,hd,hR',hs'⟩:=jP dN _ underlying64 wC (by omega) (fun _=>rfl) (fun _ _ h=>GF h) h1;simp at e0 e1;exact⟨A,n,c,A',m,d,⟨l,l'⟩,by simp[e0,e1],hnc,hc,hmd,hd,hR,hR',hs,hs'⟩
end
section
open Go.ChangeShapes Go.WideShapes Go.ChangeAt Go.RowKit
theorem yL {H : Type}{enc : TypeId×Value → H}{a : Assume}{C : Checked}{os : Os}{f : FuncId}{fn : Func}{s : ChangeSpec}{conds : List PathCond}{apart fresh handsOn again : Bool}{X : World → Array Value → Prop}
    (hX:∀ (w w':World)(args:Array Value),w.heap=w'.heap→X w args→X w' args)
    (own:ownKnob C.prog.godebug=none)(started:os.Started)(noInit:C.prog.inits.idxOf? f=none)(hfn:C.prog.funcs[f]?=some fn)
    (witness:∃ (w:World)(tape:Tape)(i:Input),w.os=os∧(w.forCall tape i).Shaped C.prog∧i.vars=[]∧Input.okWide C.prog (w.forCall tape i) .any w.heap.size f i ∧
     ((s.pre enc C.prog fn conds apart (w.forCall tape i).memory i.args∧X (w.forCall tape i).memory i.args)∧sizedMet enc C.prog fn (OpenSpec.ofChange s) apart (w.forCall tape i).memory i.args)∧a.holds C.prog (lone (Frame.enter C.prog f i.args .normal) [] (w.forCall tape i)))
    (contract:∀ (W:World)(base:Nat)(args:Array Value)(ds gs:List (DataW H))(before:List MemPlace),
     (∀ (j:Nat) t v,fn.params[j]?=some t→args[j]?=some v→Value.okWide C.prog W .any base t v) →
     DataW.Whole enc C.prog fn.params.toList s.vars apart W args.toList ds gs before →
     (DataW.weightsEach C.prog (fn.params.toList ++s.plain.varTypes C.prog) (ds ++gs)).all (·≤reachBytes)=true→X W args→W.ShapedOpen C.prog →
     Calls C.prog f args W fun e W'=>∃v,e=.returned v∧s.post enc C.prog fn apart fresh handsOn again W args v W') :
    ReturnsInHanded a C os f .any (fun w args=>(s.pre enc C.prog fn conds apart w args∧X w args)∧sizedMet enc C.prog fn (OpenSpec.ofChange s) apart w args) (s.post enc C.prog fn apart fresh handsOn again):=by
 refine returnsInHanded_of_calls own started noInit witness ?_;intro w tape i _ hsh _ hok hpre hholds;obtain⟨_,_,_,fn',hfn',_,_,_,_,hval⟩:=hok;have e:fn'=fn:=Option.some.inj (hfn'.symm.trans hfn);subst e;obtain⟨⟨⟨ds,gs,before,hw,hc⟩,hx⟩,hz⟩:=hpre;have hw':=DataW.Whole.of_heap (w':=w.forCall tape i) (by rfl) hw;refine(contract (w.forCall tape i) w.heap.size i.args ds gs before hval hw' (hz.weights hw) (hX _ _ _ (by rfl) hx) hsh).mono fun e W' ⟨v,he,hp⟩=>?_
 subst he;exact ChangeSpec.post_blind hp
def wE:List (String×DataW Unit):=Rows.worldDoesRow.laid
theorem IG:(Rows.laid_internal_strconv_uint64pow10:DataW Unit)=Lib.tabData .u64 Lib.pow10Tab:=by kernel_rfl
theorem yY : "*" ++ "errors.errorString" = "*errors.errorString":=by decide
theorem IT (u:TypeId)(h:prog.typeName? 3 u=some "*errors.errorString"):u=245 :=
 typeName_ptr_named (nm := "errors.errorString") (by rw[yY];kernel_rfl) (by kernel_rfl) (by decide) u (by rw[yY];exact h)
theorem PJ {W:World}(hL:laidMet prog wE W)(hS:W.ShapedOpen prog):fR W:=by
 have h3:laidMet prog (("internal/strconv.uint64pow10",Lib.tabData .u64 Lib.pow10Tab) ::wE.drop 3) W:=by
  have:laidMet prog (wE.drop 2) W:=hL.tail.tail
  have e:wE.drop 2=("internal/strconv.uint64pow10",Lib.tabData .u64 Lib.pow10Tab) ::wE.drop 3:=by rw[←IG];rfl
  rw[←e];exact this
 have h5:laidMet prog (wE.drop 4) W:=h3.tail.tail;have h6:laidMet prog (wE.drop 5) W:=h5.tail
 obtain⟨a0,s0,hv0,-,-,-⟩:=laid_sentinel (n := "strconv.ErrRange") h5 (by kernel_rfl:prog.globalNamed "strconv.ErrRange"=some 5) (by kernel_rfl) underlying191 IT underlying245 underlying247 rfl rfl underlying9 (by kernel_rfl) (by kernel_rfl)
 obtain⟨a1,s1,hv1,-,-,-⟩:=laid_sentinel (n := "strconv.ErrSyntax") h6 (by kernel_rfl:prog.globalNamed "strconv.ErrSyntax"=some 4) (by kernel_rfl) underlying191 IT underlying245 underlying247 rfl rfl underlying9 (by kernel_rfl) (by kernel_rfl)
 refine⟨Lib.tabIs_of_head (g:=1) (t:=228) (e:=161) (n:=20) (by kernel_rfl) (by kernel_rfl) underlying228 underlying161 (by kernel_rfl) (by kernel_rfl) h3,?_,?_,?_⟩
 · exact laysM143.s1_3 W hS
 · have:=World.var?_cell (by kernel_rfl:prog.globalNamed "strconv.ErrSyntax"=some 4) hv1 0
   exact⟨_,_,by simpa using this⟩
 have:=World.var?_cell (by kernel_rfl:prog.globalNamed "strconv.ErrRange"=some 5) hv0 0
 exact⟨_,_,by simpa using this⟩
end
end Go.Proofs.YtpfkagghooihfaaGreatDoor
