/- Part 10. -/
import Derived.Test.YtpfkagghooihfaaGreatDoorBa04
import Derived.Test.YtpfkagghooihfaaGreatDoorBa05
import Derived.Test.YtpfkagghooihfaaGreatDoorBa03
import Derived.Deep.RegionLaw
namespace Go.Proofs.YtpfkagghooihfaaGreatDoor
set_option linter.unusedSimpArgs false
set_option linter.unusedVariables false
set_option maxHeartbeats 4000000
set_option maxRecDepth 100000
open Go.Proofs.Tryz
section
structure iC where
 u:eM
 d:iM
 up:Bool
 deriving DecidableEq,Inhabited
structure iA where
 n:List iC
 tip:Int
 c:List eB
 time:Int
 deriving DecidableEq
structure qY where
 kind:Int
 client:Int
 n:Int
 job:Int
 epoch:Int
 e:aL
 deriving DecidableEq,Inhabited
def qM:eM:=⟨0,[]⟩
def PZ:iC:=⟨qM,GL,false⟩
def fQ:iA:=⟨[],0,[],0⟩
def iD:eB:=⟨1,0,bP,0,0,0,cW.none⟩
def lH:iC:=⟨jI,GL,true⟩
def qV:iA:=⟨[lH,lH,lH],0,[iD,iD,iD],0⟩
def aV (l:List iC)(k:Nat):iC:=(l[k]?).getD PZ
def cG (l:List eB)(k:Nat):eB:=(l[k]?).getD cS
theorem wZ {l:List iC}{k:Nat}{x:iC}(h:l[k]?=some x):aV l k=x:=by unfold aV;rw[h];rfl
theorem LS {l:List eB}{k:Nat}{x:eB}(h:l[k]?=some x):cG l k=x:=by unfold cG;rw[h];rfl
def iB (l:List iC):List eM:=l.map (·.u)
def bH (n:iC):eM×Int :=
 if bE n.d≠0 then(qM,bE n.d)
 else if n.up=true∧0<n.d.wait.length then(qM,4)
 else if(cI (bN ⟨n.d.safe,[]⟩).2.1).2≠0 then(qM,(cI (bN ⟨n.d.safe,[]⟩).2.1).2)
 else if(cI (bN ⟨n.d.safe,[]⟩).2.1).1≠n.u then(qM,4)
 else cI (bN n.d).2.1
def cK:Option eM→List iC→Int
 |_,[]=>0
 |o,n ::l=>if(bH n).2≠0 then(bH n).2 else
   match o with
   |none=>cK (some n.u) l
   |some p=>if fO p.cells (bH n).1.cells then cK (some n.u) l else 4
def cX (ns:List iC):List eB→Int
 | []=>0
 |c ::l=>if aP c≠0 then aP c
   else if c.doing=2∧0<c.link∧bF (aV ns (c.link.toNat-1)).u.cells c.at_.toNat≠c.e then 4 else cX ns l
def dL (w:iA):Int :=
 if w.n.length≠3∨w.c.length≠3 then 4 else if w.tip<0∨60<w.tip∨w.time<0∨100000<w.time then 3
 else if cK none w.n≠0 then cK none w.n else cX w.n w.c
def setN (w:iA)(k:Nat)(n:iC):iA:=⟨w.n.set k n,w.tip,w.c,w.time⟩
def setC (w:iA)(k:Nat)(c:eB):iA:=⟨w.n,w.tip,w.c.set k c,w.time⟩
def cT (n:iC)(r:dI):iC×Int :=
 if(bU n.u r).2≠0 then(n,(bU n.u r).2)
 else if(fH n.d r).2≠0 then(n,(fH n.d r).2)
 else if(lL (fH n.d r).1).2≠0 then(n,(lL (fH n.d r).1).2)
 else(⟨(bU n.u r).1,(lL (fH n.d r).1).1,n.up⟩,0)
def kL (d:iM)(k:Int):Int:=max 0 (min k d.wait.length)
def iH (n:iC)(r:dI)(k:Int):iC×Int :=
 if r.kind=0 then(n,6)
 else if(fH n.d r).2≠0 then(n,(fH n.d r).2)
 else if(kQ (fH n.d r).1 (kL (fH n.d r).1 k)).2≠0 then(n,(kQ (fH n.d r).1 (kL (fH n.d r).1 k)).2)
 else(⟨n.u,(kQ (fH n.d r).1 (kL (fH n.d r).1 k)).1,false⟩,0)
def pL (w:iA)(x:qY)(c:eB)(n:iC)(q:dI×aL×Int):iA×Int :=
 if q.2.2≠0 then(w,q.2.2)
 else if x.kind=15 then(setN w c.link.toNat (iH n q.1 x.n).1,(iH n q.1 x.n).2)
 else if q.1.kind≠0∧(cT n q.1).2≠0 then(w,(cT n q.1).2)
 else if x.kind=5 then(if q.1.kind≠0 then setN w c.link.toNat (cT n q.1).1 else w,0)
 else if(cZ c q.2.1).2≠0 then(w,(cZ c q.2.1).2)
 else(setC (if q.1.kind≠0 then setN w c.link.toNat (cT n q.1).1 else w) x.client.toNat (cZ c q.2.1).1,0)
def kP (w:iA)(x:qY):iA×Int :=
 if(cG w.c x.client.toNat).doing≠2 then(w,7)
 else if(aV w.n (cG w.c x.client.toNat).link.toNat).up=false then(w,7)
 else pL w x (cG w.c x.client.toNat) (aV w.n (cG w.c x.client.toNat).link.toNat)
  (lW (iB w.n) (cG w.c x.client.toNat).link (cG w.c x.client.toNat).at_ (cG w.c x.client.toNat).e (cG w.c x.client.toNat).epoch)
def rG (n:iC):iC×Int :=
 if(bN n.d).2.2≠0 then(n,(bN n.d).2.2)
 else if(cI (bN n.d).2.1).2≠0 then(n,(cI (bN n.d).2.1).2)
 else(⟨(cI (bN n.d).2.1).1,(bN n.d).1,true⟩,0)
def lG (w:iA)(x:qY):iA×Int :=
 if(aV w.n x.n.toNat).up=decide (x.kind=13)then(w,7)
 else if x.kind=12 then(setN w x.n.toNat ⟨(aV w.n x.n.toNat).u,(aV w.n x.n.toNat).d,false⟩,0)
 else(setN w x.n.toNat (rG (aV w.n x.n.toNat)).1,(rG (aV w.n x.n.toNat)).2)
def gK (w:iA)(k:Nat)(r:eB×Int):iA×Int:=if r.2≠0 then(w,r.2)else(setC w k r.1,0)
def dV (w:iA)(x:qY):iA×Int :=
 if x.n<0∨3≤x.n then(w,5)
 else if x.kind=12∨x.kind=13 then lG w x
 else if(aV w.n x.n.toNat).up=false then(w,7)
 else if x.kind=8 then(setN w x.n.toNat (cT (aV w.n x.n.toNat) ⟨2,0,x.epoch,bP⟩).1,(cT (aV w.n x.n.toNat) ⟨2,0,x.epoch,bP⟩).2)
 else if x.client<0∨3≤x.client then(w,5)
 else gK w x.client.toNat (fP (cG w.c x.client.toNat) (aV w.n x.n.toNat).u.ep)
def pA (w:iA)(c:eB):eB×Int :=
 if c.played=60 then(c,2)
 else if(aV w.n 2).up=false then(c,7)
 else if(nY (iB w.n) c.played).2≠0 then(c,(nY (iB w.n) c.played).2)
 else iP c (nY (iB w.n) c.played).1
def aZ (w:iA)(x:qY):iA×Int :=
 if x.client<0∨3≤x.client then(w,5)
 else if x.kind=4∨x.kind=5∨x.kind=15 then kP w x
 else if x.kind=1 then(if x.e.kind=3 then(w,4)else gK w x.client.toNat (fI (cG w.c x.client.toNat) x.e))
 else if x.kind=2 then gK w x.client.toNat (iQ (cG w.c x.client.toNat) x.client x.job w.time)
 else if x.kind=3 then(if w.tip=60 then(w,2)else if(eU (cG w.c x.client.toNat) w.tip).2≠0 then(w,(eU (cG w.c x.client.toNat) w.tip).2)
  else(⟨w.n,w.tip+1,w.c.set x.client.toNat (eU (cG w.c x.client.toNat) w.tip).1,w.time⟩,0))
 else if x.kind=6 then gK w x.client.toNat (jC (cG w.c x.client.toNat) x.n)
 else if x.kind=7 then gK w x.client.toNat (pA w (cG w.c x.client.toNat))
 else(setC w x.client.toNat iD,0)
def aI (w:iA)(x:qY):iA×Int :=
 if x.kind<1∨15<x.kind then(w,4)
 else if x.kind=8∨x.kind=9∨x.kind=12∨x.kind=13 then dV w x
 else if x.kind=10 then(if x.n<0∨60<x.n then(w,3)else(⟨w.n,x.n,w.c,w.time⟩,0))
 else if x.kind=11 then(if x.n<1∨100000-w.time<x.n then(w,3)else(⟨w.n,w.tip,w.c,w.time+x.n⟩,0))
 else aZ w x
def mN (w:iA)(x:qY):iA×Int :=
 if dL w≠0 then(fQ,dL w)else if(aI w x).2≠0 then(fQ,(aI w x).2)else((aI w x).1,0)
def uH (w:iA)(x:qY):iA:=if(aI w x).2=0 then(aI w x).1 else w
def kM (w:iA):List qY→iA×List Int
 | []=>(w,[])
 |x ::l=>((kM (uH w x) l).1,(aI w x).2 ::(kM (uH w x) l).2)
def tS (w:iA)(l:List qY):iA×List Int×Int :=
 if dL w≠0 then(fQ,[],dL w)else if 150<l.length then(fQ,[],2)else((kM w l).1,(kM w l).2,0)
end
section
open Go.RowKit
theorem nN {α:Type}{k:Nat}:∀ {rows:List (List α)}(i:Nat),(∀r∈rows,r.length=k)→(rows.take i).flatten=rows.flatten.take (i*k)
 | [],i,_=>by simp
 |r ::rows,0,_=>by simp
 |r ::rows,i+1,h=>by
   have hr:r.length=k:=h r (by simp);have ih:=nN (rows:=rows) i (fun r' h'=>h r' (by simp[h']));rw[List.take_succ_cons,List.flatten_cons,ih,List.flatten_cons];rw[show(i+1)*k=r.length+i*k by rw[hr,Nat.add_mul];omega,List.take_length_add_append]
theorem nH {α:Type}{k:Nat}:∀ {rows:List (List α)}(i:Nat),(∀r∈rows,r.length=k)→(rows.drop i).flatten=rows.flatten.drop (i*k)
 | [],i,_=>by simp
 |r ::rows,0,_=>by simp
 |r ::rows,i+1,h=>by
   have hr:r.length=k:=h r (by simp);have ih:=nH (rows:=rows) i (fun r' h'=>h r' (by simp[h']));rw[List.drop_succ_cons,ih,List.flatten_cons];rw[show(i+1)*k=r.length+i*k by rw[hr,Nat.add_mul];omega,List.drop_length_add_append]
theorem sF (base : Nat)(A : Option Addr)(n c i vb : Nat)(rows : List (List Value))(x0 x1 x2 : Value)(w : World)(hown : cH w base 136 3 (.slice A n c) n rows)
    (h1:∀r∈rows,∀u∈r,u.oneCell'=true)(h1x:∀u∈[x0,x1,x2],u.oneCell'=true)(hi:i≤n)(hn:n≤1000)(hbase:base≤w.heap.size)
    (hvb:w.heap[vb]?=some (.cells #[x0,x1,x2] 136 (0,0)))(hne:(Value.slice A n c).ownBlock≠some vb) :
    Calls prog 152 #[.slice A n c,i,.slice (some ⟨vb,0,none⟩) 1 1] w fun e w'=>∃A' c',e=.returned (.slice A' (n+1) c') ∧
     cH w' base 136 3 (.slice A' (n+1) c') (n+1) (rows.take i ++[[x0,x1,x2]] ++rows.drop i)∧w.grownBy w' (Value.slice A n c).ownBlock:=by
 obtain⟨i0,hi0,hz0,hz1,hz2⟩:=info_parts IQ;have HI:=aH hi0;have HZ0:=aH hz0;have HZ1:=aH hz1;have HZ2:=aH hz2;clear hi0 hz0 hz1 hz2;have hvl:vb<w.heap.size:=(Array.getElem?_eq_some_iff.1 hvb).1
 have hvc:∀j u,[x0,x1,x2][j]?=some u→w.cell? ⟨vb,j,none⟩=some u:=by
  intro j u hu;rw[cell_of_row w vb j _ _ _ hvb];simpa using hu
 have HV:=aH hvc;have H1:=aH h1;have H1x:=aH h1x;clear hvc h1 h1x
 have hsl:Sl w w.heap.size 3 (some ⟨vb,0,none⟩) 1 [[x0,x1,x2]]:=by
  refine⟨rfl,by simp,fun _=>⟨vb,0,rfl,hvl,fun i j r u hr hu=>?_⟩⟩
  match i,hr with
  |0,hr =>
    simp at hr;subst hr;simpa using HV.out j u hu
 obtain⟨_,_,e,hnc,hcm⟩:=hown.slice;injection e with e1 e2 e3;subst e1;subst e3;clear e2;by_cases hin:i=n
 · subst hin;have HO:=aH hown;have hz:¬ ((1:Int)=0):=by omega
   have HS:=aH hsl;have HVB:=aH hvb;have HNE:=aH hne;have HCM:=aH hcm;clear hown hsl hvb hne hcm;go_enter func152,ntmps152;go_wp2_with (at_builtin;refine aQ _ rfl (.tmp 23) (.tmp 24) 63 rfl base 136 i0 _ 3 24 underlying63 HI.out HZ0.out HZ1.out HZ2.out rfl (by decide) _ i rows rfl HO.out w.heap.size (some ⟨vb,0,none⟩) 1 1 [[x0,x1,x2]] rfl HS.out (by simpa using H1x.out) (by unfold maxLen;omega) (by omega) hbase ?_)
   all_goals
    intro v' w' hown hgrow hblk;obtain⟨A',c',rfl,_,_⟩:=hown.slice;go_wp2;go_ret;refine⟨A',c',rfl,?_,by cases A<;>exact hgrow⟩;have hl:rows.length=i:=HO.out.2.1;rw[List.take_of_length_le (by omega),List.drop_eq_nil_of_le (by omega),List.append_nil];exact hown
 have hlt:i<n:=by omega
 obtain⟨g,cur,rfl,hbg,hgl,hh,_,_,hcs,htk⟩:=hown.open_ (by omega);have hrl:=hown.2.1;have hr3:=hown.2.2;have hgv:g≠vb:=by simpa[Value.ownBlock]using hne
 obtain⟨P,S,Z,hP,hS,hZ,hcur⟩:∃P S Z:List Value,P.length=i*3∧S.length=(n-i)*3∧Z.length=(c-n)*3∧cur.toList=P ++S ++Z:=by
  refine⟨cur.toList.take (i*3),(cur.toList.drop (i*3)).take ((n-i)*3),cur.toList.drop (n*3),?_,?_,?_,?_⟩
  · simp;omega
  · simp;omega
  · simp;omega
  rw[List.append_assoc]
  conv=>lhs;rw[←List.take_append_drop (i*3) cur.toList]
  congr 1
  conv=>lhs;rw[←List.take_append_drop ((n-i)*3) (cur.toList.drop (i*3))]
  congr 1;rw[List.drop_drop];congr 1;omega
 have hPr:P=(rows.take i).flatten:=by
  rw[nN i hr3,←htk,hcur,List.take_take,Nat.min_eq_left (by omega),List.append_assoc,←hP,List.take_left]
 have hSr:S=(rows.drop i).flatten:=by
  have:(P ++S ++Z).take (n*3)=P ++S:=by
   rw[show n*3=(P ++S).length by simp;omega,List.take_left]
  rw[nH i hr3,←htk,hcur,this,←hP,List.drop_left]
 have h1S:∀u∈S,u.oneCell'=true:=by
  intro u hu;rw[hSr]at hu;obtain⟨r,hr,hu⟩:=List.mem_flatten.1 hu;exact H1.out r (List.mem_of_mem_drop hr) u hu
 have hfin:(rows.take i ++[[x0,x1,x2]] ++rows.drop i).flatten=P ++[x0,x1,x2] ++S:=by simp[hPr,hSr]
 have hlen:(rows.take i ++[[x0,x1,x2]] ++rows.drop i).length=n+1:=by simp;omega
 have hr3':∀r∈rows.take i ++[[x0,x1,x2]] ++rows.drop i,r.length=3:=by
  intro r hr;simp only[List.mem_append,List.mem_singleton]at hr;rcases hr with (hr|rfl)|hr
  · exact hr3 r (List.mem_of_mem_take hr)
  · rfl
  exact hr3 r (List.mem_of_mem_drop hr)
 by_cases hroom:n+1≤c
 · have hcp1:∀ (W:World),W.heap[g]?=some (.cells cur 136 (0,0))→∀ty dc sc,(Builtin.copy_ #[63,63] ty #[.slice (some ⟨g,(i+1)*3,none⟩) (n-i) dc,.slice (some ⟨g,i*3,none⟩) (n+1-i) sc]).run prog W=.ok (goInt ((n-i:Nat):Int)) (W.setRow g (bG cur ((i+1)*3) S)):=by
    intro W hW ty dc sc;have hmin:Nat.min (n+1-i) (n-i)=n-i:=by simp only[Nat.min_def];split<;>omega
    have:=gE (P:=prog) W 63 63 ty 136 g ((i+1)*3) (n-i) dc ⟨g,i*3,none⟩ (n+1-i) sc cur 136 i0 S underlying63 HI.out hW
     (by rw[hmin,HZ1.out,hS]) (fun j v hj=>by
      rw[Addr.add_lit,cell_of_row W g _ _ _ _ hW,←Array.getElem?_toList,hcur,List.append_assoc,List.getElem?_append_right (by omega),hP,Nat.add_sub_cancel_left,List.getElem?_append_left (List.getElem?_eq_some_iff.1 hj).1]
      exact hj) (by omega) h1S
    rw[hmin]at this;exact this
   have hsz1:(bG cur ((i+1)*3) S).size=cur.size:=eZ (by omega)
   have hcp2:∀ (W:World),W.heap[g]?=some (.cells (bG cur ((i+1)*3) S) 136 (0,0))→W.heap[vb]?=some (.cells #[x0,x1,x2] 136 (0,0))→∀ty dc,(Builtin.copy_ #[63,63] ty #[.slice (some ⟨g,i*3,none⟩) (n+1-i) dc,.slice (some ⟨vb,0,none⟩) 1 1]).run prog W=.ok (goInt 1) (W.setRow g (bG (bG cur ((i+1)*3) S) (i*3) [x0,x1,x2])):=by
    intro W hW hV ty dc;have hmin:Nat.min 1 (n+1-i)=1:=by simp only[Nat.min_def];split<;>omega
    have:=gE (P:=prog) W 63 63 ty 136 g (i*3) (n+1-i) dc ⟨vb,0,none⟩ 1 1 (bG cur ((i+1)*3) S) 136 i0 [x0,x1,x2] underlying63 HI.out hW
     (by rw[hmin,HZ1.out];rfl) (fun j v hj=>by
      rw[Addr.add_lit,cell_of_row W vb _ _ _ _ hV]
      simpa using hj) (by rw[hsz1];simp;omega) H1x.out
    rw[hmin]at this;exact this
   have hlast:(bG (bG cur ((i+1)*3) S) (i*3) [x0,x1,x2]).toList=P ++[x0,x1,x2] ++S ++Z.drop 3:=by
    have:=CD P [x0,x1,x2] S Z (by simp;omega);simp only[bG,hcur];rw[←hP,show(i+1)*3=P.length+[x0,x1,x2].length by simp;omega];exact this
   have HC1:=aH hcp1;have HC2:=aH hcp2
   have hov:∀ (lb cb:Nat) (W:World),W.heap[g]?=some (.cells cur 136 (0,0))→W.heap[vb]?=some (.cells #[x0,x1,x2] 136 (0,0))→(callFunc 170 #[.slice (some ⟨vb,0,none⟩) 1 1,.slice (some ⟨g,(i+1)*3,none⟩) lb cb]).run prog W=.ok (.value (.bool false)) W:=by
    intro lb cb W hg hv
    rw[run_callFunc_extern (P:=prog) func170 (by kernel_rfl) (by kernel_rfl) (by kernel_rfl) (e:=Extern.SlicesOverlaps.overlaps #[63,63] #[4]) (by kernel_rfl),
     Lib.run_overlaps_apart W 63 4 136 underlying63 3 sizeOf136 ⟨vb,0,none⟩ ⟨g,(i+1)*3,none⟩ 1 1 lb cb (Ne.symm hgv) 136 136 3 cur.size
      (by simp[World.shape?,hv]) (by simp[World.shape?,hg]) (by omega) (by simp[World.frozen?,hv]) (by simp[World.frozen?,hv])]
    rfl
   have hov':=fun lb cb=>hov lb cb w hh hvb
   have HB:=aH hvb;have HH:=aH hh;have HL:=aH hlast;have HF:=aH hfin;have HLn:=aH hlen;have HR3:=aH hr3';have HCS:=aH hcs;have HCM:=aH hcm;have HS1:=aH hsz1;have HPl:=aH hP;have HSl:=aH hS;have hz1:¬ ((1:Int)=0):=by omega
   have hz2:¬ ((i:Int)=(n:Int)):=by omega
   have hb2:¬ (c=i+1):=by omega
   have hb4:¬ (c=i):=by omega
   have hb3:(i:Int)≤(n:Int)+1:=by omega
   clear hcp1 hcp2 hov hvb hh hlast hfin hlen hr3' hcs hsz1 hP hS hZ hcur hPr hSr h1S htk hrl hr3 hown hsl hne hin hcm;go_enter func152,ntmps152;go_wp2_with fail;have hw1:IntKind.i64.wrap ((i:Int)+1)=(i:Int)+1:=by rw[IntKind.wrap_i64];omega
   have hb1:(0:Int)≤(i:Int)+1:=by omega
   have htn:((i:Int)+1).toNat=i+1:=by omega
   go_region_law (refine iL _ rfl _ _ 63 63 rfl _ _ (by simp[Act.eval,Act.put];rfl) (by simp[Act.eval,Act.put];rfl) (HC1.out _ (by exact HH.out) _ _ _) ?_)
   clear hw1 hb1 htn;go_wp2_with (with_reducible refine gA _ rfl (.tmp 80) (.tmp 81) _ _ rfl _ _ rfl rfl (HC2.out _ ?h1 ?h2 _ _) ?_)
   case h1=>exact setRow_heap _ g cur _ _ _ HH.out
   case h2=>exact(setRow_other _ g vb _ (Ne.symm hgv)).trans HB.out
   go_wp2;go_ret;refine⟨_,c,rfl,cH.mk_ hbg (setRow_heap _ g (bG cur ((i+1)*3) S) _ _ _ (setRow_heap _ g cur _ _ _ HH.out)) hroom HCM.out ?_ ?_ HLn.out HR3.out,?_⟩
   · rw[eZ (by rw[HS1.out,HCS.out];simp;omega),HS1.out,HCS.out]
   · rw[HL.out,HF.out,show(n+1)*3=(P ++[x0,x1,x2] ++S).length by simp[HPl.out,HSl.out];omega,List.take_left]
   exact⟨rfl,rfl,rfl,by simp,fun k _ hk=>by
    have hk':k≠g:=fun e=>hk (by simp[Value.ownBlock,e])
    rw[setRow_other _ g k _ hk',setRow_other _ g k _ hk']
    rfl⟩
 have hgc:c<n+1:=by omega
 have hPg:(Builtin.firstCells i0.size i (.slice (some ⟨g,0,none⟩) i c)).run prog w.drew=.ok P.toArray w.drew:=by
  rw[HZ1.out]
  exact run_firstCells_some w.drew 3 i ⟨g,0,none⟩ i c P hP (fun j v hj=>by
   rw[Addr.add_lit,cell_of_row w.drew g _ _ _ _ hh,←Array.getElem?_toList,hcur,List.append_assoc,Nat.zero_add,List.getElem?_append_left (List.getElem?_eq_some_iff.1 hj).1]
   exact hj)
 have hrz : ∀ty, (Builtin.append_ #[63, 3] ty #[.slice (some ⟨g, 0, none⟩) i c, .int .i64 ((n : Int) + 1-(i : Int))]).run prog w =
     .ok (.slice (some ⟨w.heap.size,0,none⟩) (n+1) (grownCap w (n+1) c 136)) (w.drew.alloc (.cells (P.toArray ++Builtin.zeroCells (Value.agg #[(),(),()]).cells (n+1-i) ++Builtin.zeroCells (Value.agg #[(),(),()]).cells (grownCap w (n+1) c 136-(n+1))) 136)):=fun ty=>by
  have h:=Lib.run_append_grow_zeros w 63 3 ty 136 i0 _ .i64 .i64 underlying63 underlying3 HI.out HZ0.out (some ⟨g,0,none⟩) i c P hPg (n+1-i) (by omega) (by rw[HZ1.out];omega) (by omega) (by omega) (by rw[HZ2.out];omega)
   (by rw[HZ2.out,show i+(n+1-i)=n+1 by omega];exact growslice_fits hgc (by omega))
  rw[show i+(n+1-i)=n+1 by omega]at h;rw[show(n:Int)+1-(i:Int)=((n+1-i:Nat):Int) by omega];exact h
 have hGn:n+1≤grownCap w (n+1) c 136:=grownCap_ge w _ _ _;have hGm:grownCap w (n+1) c 136≤maxLen:=grownCap_le_maxLen w (n+1) c 136 (by unfold maxLen;omega);obtain⟨G,hG⟩:∃G,G=grownCap w (n+1) c 136:=⟨_,rfl⟩
 obtain⟨ROW,hROW⟩:∃ROW:Array Value,ROW=P.toArray ++Builtin.zeroCells (Value.agg #[(),(),()]).cells (n+1-i) ++Builtin.zeroCells (Value.agg #[(),(),()]).cells (G-(n+1)):=⟨_,rfl⟩
 rw[←hG]at hrz hGn hGm;rw[←hROW]at hrz
 obtain⟨Z1,hZ1,hRl⟩:∃Z1:List Value,Z1.length=(G-i)*3∧ROW.toList=P ++Z1:=by
  refine⟨(Builtin.zeroCells (Value.agg #[(),(),()]).cells (n+1-i)).toList ++(Builtin.zeroCells (Value.agg #[(),(),()]).cells (G-(n+1))).toList,?_,?_⟩
  · simp only[List.length_append,Array.length_toList,size_zeroCells,Value.cells,List.size_toArray,List.length_cons,List.length_nil];omega
  rw[hROW];simp
 have hRs:ROW.size=G*3:=by
  rw[←Array.length_toList,hRl,List.length_append,hP,hZ1];omega
 have hcpA:∀ (W:World),W.heap[w.heap.size]?=some (.cells ROW 136 (0,0))→W.heap[vb]?=some (.cells #[x0,x1,x2] 136 (0,0))→∀ty dc,(Builtin.copy_ #[63,63] ty #[.slice (some ⟨w.heap.size,i*3,none⟩) (n+1-i) dc,.slice (some ⟨vb,0,none⟩) 1 1]).run prog W=.ok (goInt 1) (W.setRow w.heap.size (bG ROW (i*3) [x0,x1,x2])):=by
  intro W hW hV ty dc;have hmin:Nat.min 1 (n+1-i)=1:=by simp only[Nat.min_def];split<;>omega
  have:=gE (P:=prog) W 63 63 ty 136 w.heap.size (i*3) (n+1-i) dc ⟨vb,0,none⟩ 1 1 ROW 136 i0 [x0,x1,x2] underlying63 HI.out hW
   (by rw[hmin,HZ1.out];rfl) (fun j v hj=>by
    rw[Addr.add_lit,cell_of_row W vb _ _ _ _ hV]
    simpa using hj) (by rw[hRs];simp;omega) H1x.out
  rw[hmin]at this;exact this
 have hsA:(bG ROW (i*3) [x0,x1,x2]).size=ROW.size:=eZ (by rw[hRs];simp;omega)
 have hcpB:∀ (W:World),W.heap[w.heap.size]?=some (.cells (bG ROW (i*3) [x0,x1,x2]) 136 (0,0))→W.heap[g]?=some (.cells cur 136 (0,0))→∀ty dc sc,(Builtin.copy_ #[63,63] ty #[.slice (some ⟨w.heap.size,(i+1)*3,none⟩) (n-i) dc,.slice (some ⟨g,i*3,none⟩) (n-i) sc]).run prog W=.ok (goInt ((n-i:Nat):Int)) (W.setRow w.heap.size (bG (bG ROW (i*3) [x0,x1,x2]) ((i+1)*3) S)):=by
  intro W hW hV ty dc sc;have hmin:Nat.min (n-i) (n-i)=n-i:=by simp only[Nat.min_def];split<;>omega
  have:=gE (P:=prog) W 63 63 ty 136 w.heap.size ((i+1)*3) (n-i) dc ⟨g,i*3,none⟩ (n-i) sc (bG ROW (i*3) [x0,x1,x2]) 136 i0 S underlying63 HI.out hW
   (by rw[hmin,HZ1.out,hS]) (fun j v hj=>by
    rw[Addr.add_lit,cell_of_row W g _ _ _ _ hV,←Array.getElem?_toList,hcur,List.append_assoc,List.getElem?_append_right (by omega),hP,Nat.add_sub_cancel_left,List.getElem?_append_left (List.getElem?_eq_some_iff.1 hj).1]
    exact hj) (by rw[hsA,hRs];omega) h1S
  rw[hmin]at this;exact this
 have hlast:∃Z2,(bG (bG ROW (i*3) [x0,x1,x2]) ((i+1)*3) S).toList=P ++[x0,x1,x2] ++S ++Z2:=by
  have eA:(bG ROW (i*3) [x0,x1,x2]).toList=P ++[x0,x1,x2] ++Z1.drop 3:=by
   simp only[bG,hRl];rw[←hP,List.take_left,List.drop_length_add_append];simp
  refine⟨(Z1.drop 3).drop S.length,?_⟩;have e3:(i+1)*3=(P ++[x0,x1,x2]).length:=by simp;omega
  rw[show(bG (bG ROW (i*3) [x0,x1,x2]) ((i+1)*3) S).toList=(bG ROW (i*3) [x0,x1,x2]).toList.take ((i+1)*3) ++S ++(bG ROW (i*3) [x0,x1,x2]).toList.drop ((i+1)*3+S.length)from rfl,eA,e3,List.take_left,List.drop_length_add_append]
 have hwg:g≠w.heap.size:=by omega
 have hwv:vb≠w.heap.size:=by omega
 have HA:=aH hcpA;have HBc:=aH hcpB;have HL:=aH hlast;have HF:=aH hfin;have HLn:=aH hlen;have HR3:=aH hr3';have HB:=aH hvb;have HH:=aH hh;have HRs:=aH hRs;have HsA:=aH hsA;have HPl:=aH hP;have HSl:=aH hS;have HGm:=aH hGm;have hz1:¬ ((1:Int)=0):=by omega
 have hz2:¬ ((i:Int)=(n:Int)):=by omega
 have hz3:(c:Int)<(n:Int)+1:=by omega
 have hGi:¬ (G=i):=by omega
 have hGi1:¬ (G=i+1):=by omega
 have hb4:¬ (c=i):=by omega
 have hGle:G≤9223372036854775807:=by unfold maxLen at hGm;omega
 clear hcpA hcpB hlast hfin hlen hr3' hvb hh hRs hsA hP hS hZ hcur hPr hSr h1S htk hrl hr3 hown hsl hne hin hcm hPg hG hROW hZ1 hRl hGm hcs;go_enter func152,ntmps152
 go_wp2_with (first
  | (at_builtin;refine Lib.wpList_append_run _ rfl _ _ _ _ rfl _ _ rfl rfl _ _ (hrz _) ?_)
  | (with_reducible refine gA _ rfl (.tmp 43) (.tmp 44) _ _ rfl _ _ rfl rfl (HA.out _ ?h1 ?h2 _ _) ?_))
 case h1=>exact mM (by simp)
 case h2=>exact LA HB.out
 have hw1:IntKind.i64.wrap ((i:Int)+1)=(i:Int)+1:=by rw[IntKind.wrap_i64];omega
 have hb1:(0:Int)≤(i:Int)+1:=by omega
 have htn:((i:Int)+1).toNat=i+1:=by omega
 have hb3:(i:Int)+1≤(n:Int)+1:=by omega
 have hb5:(i:Int)≤(n:Int):=by omega
 go_region_law (refine iL _ rfl _ _ 63 63 rfl _ _ (by simp[Act.eval,Act.put];rfl) (by simp[Act.eval,Act.put];rfl) (HBc.out _ (by exact setRow_heap _ _ _ _ _ _ (mM (by simp))) (by exact(setRow_other _ _ g _ hwg).trans (LA HH.out)) _ _ _) ?_)
 clear hw1 hb1 htn;go_wp2;go_ret;obtain⟨Z2,hZ2⟩:=HL.out;refine⟨_,G,rfl,cH.mk_ hbase (setRow_heap _ w.heap.size (bG ROW (i*3) [x0,x1,x2]) _ _ _ (setRow_heap _ w.heap.size ROW _ _ _ (mM (by simp)))) hGn HGm.out ?_ ?_ HLn.out HR3.out,?_⟩
 · rw[eZ (by rw[HsA.out,HRs.out,HSl.out];omega),HsA.out,HRs.out]
 · rw[hZ2,HF.out,show(n+1)*3=(P ++[x0,x1,x2] ++S).length by simp[HPl.out,HSl.out];omega,List.take_left]
 exact⟨rfl,rfl,rfl,by simp,fun k hk _=>by
  have hk':k≠w.heap.size:=by omega
  rw[setRow_other _ _ k _ hk'];refine(setRow_other _ _ k _ hk').trans ?_
  exact Below.heap_alloc w _ k hk⟩
end
section
open Go.RowKit
theorem BA (base : Nat)(A : Option Addr)(n c i : Nat)(rows : List (List Value))(w : World)(hown : cH w base 136 3 (.slice A n c) n rows)
    (h1:∀r∈rows,∀u∈r,u.oneCell'=true)(hi:i<n)(hn:n≤1000) :
    Calls prog 153 #[.slice A n c,i,(i+1:Int)] w fun e w'=>e=.returned (.slice A (n-1) c) ∧
     cH w' base 136 3 (.slice A (n-1) c) (n-1) (rows.take i ++rows.drop (i+1))∧w.grownBy w' (Value.slice A n c).ownBlock:=by
 obtain⟨i0,hi0,hz0,hz1,hz2⟩:=info_parts IQ;obtain⟨g,cur,rfl,hbg,hgl,hh,hnc,hcm,hcs,htk⟩:=hown.open_ (by omega);have hrl:=hown.2.1;have hr3:=hown.2.2
 obtain⟨P,S,Z,hP,hS,hcur⟩:∃P S Z:List Value,P.length=i*3∧S.length=(n-(i+1))*3∧cur.toList.take (i*3)=P∧(cur.toList.drop ((i+1)*3)).take ((n-(i+1))*3)=S∧P=(rows.take i).flatten∧S=(rows.drop (i+1)).flatten:=by
  refine⟨cur.toList.take (i*3),(cur.toList.drop ((i+1)*3)).take ((n-(i+1))*3),[],?_,?_,rfl,rfl,?_,?_⟩
  · simp;omega
  · simp;omega
  · rw[nN i hr3,←htk,List.take_take,Nat.min_eq_left (by omega)]
  rw[nH (i+1) hr3,←htk,List.drop_take];congr 1;omega
 obtain⟨hPc,hSc,hPr,hSr⟩:=hcur
 have h1S:∀u∈S,u.oneCell'=true:=by
  intro u hu;rw[hSr]at hu;obtain⟨r,hr,hu⟩:=List.mem_flatten.1 hu;exact h1 r (List.mem_of_mem_drop hr) u hu
 have hnews:∀ (W:World),W.heap[g]?=some (.cells cur 136 (0,0))→∀j u,S[j]?=some u→W.cell? ((⟨g,(i+1)*3,none⟩:Addr).add j)=some u:=by
  intro W hW j u hu;rw[Addr.add_lit,cell_of_row W g _ _ _ _ hW,←Array.getElem?_toList];rw[←hSc,List.getElem?_take]at hu
  split at hu
  · rw[List.getElem?_drop]at hu;exact hu
  cases hu
 -- the append,whatever address the cut has
 have hap:∀ (W:World),W.heap[g]?=some (.cells cur 136 (0,0))→∀ty dc,(Builtin.append_ #[63,63] ty #[.slice (some ⟨g,0,none⟩) i c,.slice (if c=i+1 then some ⟨g,0,none⟩else some ⟨g,(i+1)*3,none⟩) (n-(i+1)) dc]).run prog W=.ok (.slice (some ⟨g,0,none⟩) (n-1) c) (W.setRow g (bG cur (i*3) S)):=by
  intro W hW ty dc
  have hgen:∀ad:Addr,(∀j u,S[j]?=some u→W.cell? (ad.add j)=some u)→(Builtin.append_ #[63,63] ty #[.slice (some ⟨g,0,none⟩) i c,.slice (some ad) (n-(i+1)) dc]).run prog W=.ok (.slice (some ⟨g,0,none⟩) (n-1) c) (W.setRow g (bG cur (i*3) S)):=by
   intro ad had;have:=run_append_room (P:=prog) W 63 ty 136 i0 underlying63 hi0 g i c cur hW ad (n-(i+1)) dc S (by rw[hz1,hS]) had h1S (by omega) (by rw[hz1,hS,hcs];omega);rw[hz1,show i+(n-(i+1))=n-1 by omega]at this;exact this
  split
  · refine hgen _ (fun j u hu=>?_);have:S.length=0:=by rw[hS];omega
    rw[List.length_eq_zero_iff.1 this]at hu;simp at hu
  exact hgen _ (hnews W hW)
 have hs1:(bG cur (i*3) S).size=cur.size:=eZ (by rw[hS,hcs];omega)
 have hcl:∀ (W:World),W.heap[g]?=some (.cells (bG cur (i*3) S) 136 (0,0))→∀ty dc,(Builtin.clear_ #[63] ty #[.slice (some ⟨g,(n-1)*3,none⟩) (n-(n-1)) dc]).run prog W=.ok (.tuple #[]) (W.setRow g (bG (bG cur (i*3) S) ((n-1)*3) (Builtin.zeroCells (Value.agg #[(),(),()]).cells 1).toList)):=by
  intro W hW ty dc;rw[show n-(n-1)=1 by omega];exact pC (P:=prog) W 63 ty 136 g ((n-1)*3) 1 dc _ _ (Value.agg #[(),(),()]) underlying63 (by kernel_rfl) (by simp[Value.cells,Value.oneCell']) hW (by omega) (by rw[hs1,hcs];simp[Value.cells];omega)
 have hfin:(bG (bG cur (i*3) S) ((n-1)*3) (Builtin.zeroCells (Value.agg #[(),(),()]).cells 1).toList).toList.take ((n-1)*3)=(rows.take i ++rows.drop (i+1)).flatten:=by
  have e1:(bG cur (i*3) S).toList=P ++S ++cur.toList.drop (i*3+S.length):=by
   show cur.toList.take (i*3) ++S ++_=_
   rw[hPc]
  have e2:(n-1)*3=(P ++S).length:=by simp;omega
  show List.take _ ((bG cur (i*3) S).toList.take ((n-1)*3) ++_ ++_)=_
  rw[e1,e2,List.take_left,List.append_assoc,List.take_left,hPr,hSr,List.flatten_append]
 have hsz2:(bG (bG cur (i*3) S) ((n-1)*3) (Builtin.zeroCells (Value.agg #[(),(),()]).cells 1).toList).size=c*3:=by
  rw[eZ (by rw[hs1,hcs];simp[size_zeroCells,Value.cells];omega),hs1,hcs]
 have hlen:(rows.take i ++rows.drop (i+1)).length=n-1:=by simp;omega
 have hr3':∀r∈rows.take i ++rows.drop (i+1),r.length=3:=by
  intro r hr;rcases List.mem_append.1 hr with hr|hr
  · exact hr3 r (List.mem_of_mem_take hr)
  exact hr3 r (List.mem_of_mem_drop hr)
 have HAp:=aH hap;have HCl:=aH hcl;have HF:=aH hfin;have HSz:=aH hsz2;have HLn:=aH hlen;have HR3:=aH hr3';have HH:=aH hh;have HCM:=aH hcm;clear hap hcl hfin hsz2 hlen hr3' hh hcm hs1 hnews h1S hPc hSc hPr hSr hP hS hr3 hrl htk hcs hown h1 hi0 hz0 hz1 hz2;have hz:¬ ((i:Int)=(i:Int)+1):=by omega
 have hb1:(i:Int)+1≤(n:Int):=by omega
 have hcn:¬ (c=n-1):=by omega
 go_enter func153,ntmps153;go_wp2_with fail;have hb0:(0:Int)≤(i:Int)+1:=by omega
 have htn:((i:Int)+1).toNat=i+1:=by omega
 have hic:(i:Int)≤(c:Int):=by omega
 go_region_law (refine vG _ rfl _ _ 63 63 rfl _ _ (by simp[Act.eval,Act.put]) (by simp[Act.eval,Act.put];rfl) (HAp.out _ (by exact HH.out) _ _) ?_)
 clear hb0 htn hic;go_wp2_with (with_reducible refine mW _ rfl (.tmp 31) _ rfl _ rfl (HCl.out _ ?h1 _ _) ?_)
 all_goals
  first
   |exact setRow_heap _ _ _ _ _ _ HH.out
   | (go_wp2
      go_ret;refine⟨rfl,cH.mk_ hbg (setRow_heap _ g (bG cur (i*3) S) _ _ _ (setRow_heap _ g cur _ _ _ HH.out)) (by omega) (by have:=HCM.out;omega) (by have e:=HSz.out;simp only[Value.cells]at e;omega) HF.out HLn.out HR3.out,?_⟩
      exact⟨rfl,rfl,rfl,by simp,fun k _ hk=>by
       have hk':k≠g:=fun e=>hk (by simp[Value.ownBlock,e])
       rw[setRow_other _ g k _ hk',setRow_other _ g k _ hk']
       rfl⟩)
end
section
theorem fZ {c:eB}(h:aP c=0):nZ c.b:=by
 unfold aP at h
 split at h
 · cases h
 split at h
 · exact absurd h (by assumption)
 split at h
 · cases h
 exact fE.1 h
theorem AE {c:eB}(h:dP c=0):nZ c.b:=by
 unfold dP at h
 split at h
 · exact absurd h (by assumption)
 exact fZ (Decidable.byContradiction (by assumption))
theorem oN {c:eB}(h:aP c=0):0≤c.played∧c.played≤60:=by
 unfold aP at h
 split at h
 · cases h
 omega
theorem sH {c:eB}(h:aP c=0):0≤c.link∧c.link≤2:=by
 unfold aP at h
 split at h
 · cases h
 omega
theorem bK {c : eB} : aP c = 0 ↔ (1 ≤ c.epoch ∧ c.epoch ≤ 20 ∧ 0 ≤ c.doing ∧ c.doing ≤ 2 ∧ 0 ≤ c.at_ ∧ c.at_ < 60 ∧ 0 ≤ c.link ∧ c.link < 3 ∧ 0 ≤ c.played ∧ c.played ≤ 60) ∧ aG c.e = 0 ∧
    (c.doing≠2→c.at_=0∧c.link=0)∧(c.doing=0→c.e=bP)∧(c.doing=1→c.e.kind≠0)∧nZ c.b:=by
 unfold aP;constructor
 · intro h
   split at h
   · cases h
   rename_i h1
   split at h
   · exact absurd h (by assumption)
   rename_i h2
   split at h
   · cases h
   rename_i h3;refine⟨by omega,by omega,fun h4=>?_,fun h4=>?_,fun h4=>?_,fE.1 h⟩
   · have:¬ (c.at_+c.link≠0):=fun h5=>h3 (Or.inl ⟨h4,h5⟩)
     omega
   · exact Decidable.byContradiction fun h5=>h3 (Or.inr (Or.inl ⟨h4,h5⟩))
   exact fun h5=>h3 (Or.inr (Or.inr ⟨h4,h5⟩))
 rintro⟨h1,h2,h3,h4,h5,h6⟩;rw[if_neg (by omega),if_neg (by simp[h2]),if_neg,fE.2 h6];rintro(⟨h7,h8⟩| ⟨h7,h8⟩| ⟨h7,h8⟩)
 · have:=h3 h7;omega
 · exact h8 (h4 h7)
 exact h5 h7 h8
theorem DB {b:cW}{e:aL}(hb:nZ b)(h:(eR b e).2=0):aG e=0∧nZ (eR b e).1:=by
 unfold eR at h⊢;rw[if_neg (by simp[fE.2 hb])]at h⊢;by_cases he:aG e≠0
 · rw[if_pos he]at h;exact absurd h he
 rw[if_neg he];exact⟨by simpa using he,vV hb (by simpa using he)⟩
theorem AZ {c:eB}{x:aL}(h:(iP c x).2=0):aP c=0∧c.played<60∧aG x=0∧iP c x=(⟨c.epoch,c.doing,c.e,c.at_,c.link,c.played+1,(eR c.b x).1⟩,0)∧aP ⟨c.epoch,c.doing,c.e,c.at_,c.link,c.played+1,(eR c.b x).1⟩=0:=by
 unfold iP at h⊢
 split at h
 · exact absurd h (by assumption)
 rename_i h1;have h1':aP c=0:=by simpa using h1
 have hc:=bK.1 h1'
 split at h
 · cases h
 rename_i h2
 split at h
 · exact absurd h (by assumption)
 rename_i h3;have hg:=DB hc.2.2.2.2.2 (by simpa using h3);rw[if_neg h1,if_neg h2,if_neg h3];refine⟨h1',by omega,hg.1,rfl,bK.2 ⟨by dsimp only;omega,hc.2.1,hc.2.2.1,hc.2.2.2.1,hc.2.2.2.2.1,hg.2⟩⟩
end
section
/-! ### Nodes -/
structure mL (n:iC)(l m:List dI)(g:eM):Prop where
 ok:iE (l ++m)
 unit:cI l=(n.u,0)
 grown:cI (l ++m)=(g,0)
 safe:n.d.safe=fL l
 back:bN n.d=(⟨fL (l ++m),[]⟩,l ++m,0)
 chk:bE n.d=0
 up:n.up=true→n.d.wait=[]
theorem iE.left {l m:List dI}(h:iE (l ++m)):iE l:=fun x hx=>h x (List.mem_append_left _ hx)
theorem tF {l m:List dI}{d:iM}(ho:iE (l ++m))(hs:d.safe=fL l)(hl:l.length≤160)(hc:bE d=0):bN ⟨d.safe,[]⟩=(⟨fL l,[]⟩,l,0):=by
 have hb:=(jM.1 hc).1;rw[hs]at hb⊢;exact rK ho.left hl (by omega)
theorem fX {n:iC}(h:(bH n).2=0):∃l m,mL n l m (bH n).1:=by
 unfold bH at h⊢;by_cases h1:bE n.d≠0
 · rw[if_pos h1]at h;exact absurd h h1
 rw[if_neg h1]at h⊢;have h1:=Decidable.not_not.1 h1;by_cases h2:n.up=true∧0<n.d.wait.length
 · rw[if_pos h2]at h;cases h
 rw[if_neg h2]at h⊢;obtain⟨l,m,hl,hm,hs,hw,hlen,hrec,_⟩:=BK h1;have e1:=tF (hl.app hm) hs (by rw[List.length_append]at hlen;omega) h1;rw[e1,hrec]at h⊢;dsimp only at h⊢;by_cases h3:(cI l).2≠0
 · rw[if_pos h3]at h;exact absurd h h3
 rw[if_neg h3]at h⊢;have h3:=Decidable.not_not.1 h3;by_cases h4:(cI l).1≠n.u
 · rw[if_pos h4]at h;cases h
 rw[if_neg h4]at h⊢;have h4:=Decidable.not_not.1 h4;refine⟨l,m,hl.app hm,Prod.ext h4 h3,Prod.ext rfl h,hs,hrec,h1,fun hu=>?_⟩;apply List.eq_nil_of_length_eq_zero;have:¬0<n.d.wait.length:=fun h=>h2 ⟨hu,h⟩
 omega
section
variable {n:iC}{l m:List dI}{g u:eM}{d:iM}{r:dI}
theorem mL.chkN (h:mL n l m g):bH n=(g,0):=by
 unfold bH;have hf:=pV h.unit;rw[if_neg (by simp[h.chk]),if_neg (by rintro⟨h1,h2⟩;rw[h.up h1]at h2;simp at h2),tF h.ok h.safe (by omega) h.chk,h.back];dsimp only;rw[h.unit,if_neg (by simp),if_neg (by simp),h.grown]
theorem mL.holds (h:mL n l m g)(hu:n.up=true):m=[]∧g=n.u∧fM n.u n.d l:=by
 have hw:=h.up hu;have hf:=pV h.unit;have hd:n.d=⟨fL l,[]⟩:=by rw[←h.safe,←hw]
 have e:=tF h.ok h.safe (by omega) h.chk;rw[←hw]at e;have hb:=h.back;rw[show(⟨n.d.safe,n.d.wait⟩:iM)=n.d from rfl,hb]at e;simp only[Prod.mk.injEq,and_true]at e
 have hm:m=[]:=by
  have:=congrArg List.length e.2;rw[List.length_append]at this;exact List.eq_nil_of_length_eq_zero (by omega)
 subst hm;refine⟨rfl,?_,h.unit,hd⟩;have h1:=h.grown;rw[List.append_nil,h.unit]at h1;exact(Prod.mk.inj h1).1.symm
theorem fM.nodI (h:fM u d l)(up:Bool):mL ⟨u,d,up⟩ l [] u:=by
 have h1:=h.back;have h2:=h.size;have h3:=h.few;have h4:=h.ok;have h5:=h.disk;refine⟨by simpa using h4,h.unit,by simpa using h.unit,by simp[h5],?_,?_,by simp[h5]⟩
 · rw[List.append_nil]
   show bN d=_
   rw[h1,h5]
 show bE d=0
 rw[h5];exact jS h4 (by omega) (by simp;omega)
theorem mL.down (h:mL n l m g):mL ⟨n.u,n.d,false⟩ l m g:=⟨h.ok,h.unit,h.grown,h.safe,h.back,h.chk,by simp⟩
theorem mL.gHolds (h:mL n l m g):fM g ⟨fL (l ++m),[]⟩ (l ++m):=⟨h.grown,rfl⟩
theorem mL.boot (h:mL n l m g):rG n=(⟨g,⟨fL (l ++m),[]⟩,true⟩,0):=by
 unfold rG;rw[h.back];dsimp only;rw[h.grown];simp
theorem mL.good (h:mL n l m g):lF n.u.ep n.u.cells∧lF g.ep g.cells:=⟨wK h.unit,wK h.grown⟩
theorem mL.upon (h:mL n l m g):lA n.u g:=by
 have h1:=lK h.grown;rw[mE (lK h.unit)]at h1;exact uB h1
theorem fM.write (h:fM n.u n.d l)(hr:(bU n.u r).2=0):cT n r=(⟨(bU n.u r).1,⟨fL (l ++[r]),[]⟩,n.up⟩,0)∧fM (bU n.u r).1 ⟨fL (l ++[r]),[]⟩ (l ++[r]):=by
 obtain⟨d1,h1,h2,h3⟩:=h.next hr;refine⟨?_,h3⟩;unfold cT;rw[if_neg (by simp[hr]),h1];dsimp only;rw[h2];simp
theorem fM.tear (h : fM n.u n.d l)(hr : (bU n.u r).2 = 0)(k : Int) : ∃j, iH n r k = (⟨n.u, ⟨fL l, (fL [r]).take j⟩, false⟩, 0) ∧
    (mL ⟨n.u,⟨fL l,(fL [r]).take j⟩,false⟩ l [] n.u∨mL ⟨n.u,⟨fL l,(fL [r]).take j⟩,false⟩ l [r] (bU n.u r).1):=by
 have hc:=(iN hr).2.1
 have hk0:r.kind≠0:=by
  intro e;unfold bI at hc;rw[if_neg (by omega),if_neg (by omega)]at hc
  cases hc
 have h1:=h.put hc;have h2:=h.size;have h3:=h.few;have h4:=h.ok;have h5:=AI (iE.one hc);rw[List.length_singleton]at h5;have hck:bE ⟨fL l,fL [r]⟩=0:=jS h4 (by omega) (by omega)
 have hkeep:0≤kL ⟨fL l,fL [r]⟩ k∧kL ⟨fL l,fL [r]⟩ k≤(fL [r]).length:=by
  unfold kL;dsimp only;omega
 obtain⟨q,hq⟩:∃q,q=kL ⟨fL l,fL [r]⟩ k:=⟨_,rfl⟩
 rw[←hq]at hkeep;refine⟨q.toNat,?_,?_⟩
 · unfold iH;rw[if_neg hk0,h1];dsimp only;rw[if_neg (by simp),←hq]
   have:kQ ⟨fL l,fL [r]⟩ q=(⟨fL l,(fL [r]).take q.toNat⟩,0):=by
    unfold kQ;rw[if_neg (by simp[hck])];dsimp only;rw[if_neg (by omega)]
   rw[this,if_neg (by simp)]
 obtain⟨j,j1,j2,_⟩:=AM (l:=l) (m:=[r]) (k:=q.toNat) h4 (iE.one hc) (by rw[List.length_append];simp;omega) (by omega) (by omega);have hcc:bE ⟨fL l,(fL [r]).take q.toNat⟩=0:=jS h4 (by omega) (by rw[List.length_take];omega);simp only[List.length_singleton]at j1;rcases(by omega:j=0∨j=1)with rfl|rfl
 · left;exact⟨by simpa using h4,h.unit,by simpa using h.unit,rfl,by simpa using j2,hcc,by simp⟩
 right;exact⟨h4.app (iE.one hc),h.unit,vQ h.unit hr,rfl,by simpa using j2,hcc,by simp⟩
end
/-! ### Worlds -/
def gS (ns:List iC)(c:eB):Prop:=aP c=0∧(c.doing=2→0<c.link→bF (aV ns (c.link.toNat-1)).u.cells c.at_.toNat=c.e)
abbrev gr (n:iC):eM:=(bH n).1
structure cQ (w:iA):Prop where
 n3:w.n.length=3
 c3:w.c.length=3
 tip0:0≤w.tip
 tip1:w.tip≤60
 t0:0≤w.time
 t1:w.time≤100000
 node:∀k,k<3→(bH (aV w.n k)).2=0
 fit:∀k,k<2→fO (aV w.n k).u.cells (gr (aV w.n (k+1))).cells
 cli:∀k,k<3→gS w.n (cG w.c k)
theorem FH {a b c:iC}:cK none [a,b,c]=0↔(bH a).2=0∧(bH b).2=0∧(bH c).2=0∧fO a.u.cells (bH b).1.cells∧fO b.u.cells (bH c).1.cells:=by
 by_cases h1:(bH a).2=0
 · by_cases h2:(bH b).2=0
   · by_cases h3:(bH c).2=0
     · by_cases h4:fO a.u.cells (bH b).1.cells
       · by_cases h5:fO b.u.cells (bH c).1.cells<;>simp[cK,h1,h2,h3,h4,h5]
       simp[cK,h1,h2,h3,h4]
     by_cases h4:fO a.u.cells (bH b).1.cells<;>simp[cK,h1,h2,h3,h4]
   simp[cK,h1,h2]
 simp[cK,h1]
theorem nW {ns:List iC}:∀ {l:List eB},cX ns l=0↔∀c∈l,gS ns c
 | []=>by simp[cX]
 |c ::l=>by
   rw[cX,List.forall_mem_cons,←nW];by_cases h1:aP c≠0
   · rw[if_pos h1];exact⟨fun h=>absurd h h1,fun h=>absurd h.1.1 h1⟩
   rw[if_neg h1];have h1:=Decidable.not_not.1 h1;by_cases h2:c.doing=2∧0<c.link∧bF (aV ns (c.link.toNat-1)).u.cells c.at_.toNat≠c.e
   · rw[if_pos h2];exact⟨fun h=>(by cases h),fun h=>absurd (h.1.2 h2.1 h2.2.1) h2.2.2⟩
   rw[if_neg h2];exact⟨fun h=>⟨⟨h1,fun a b=>Decidable.byContradiction fun e=>h2 ⟨a,b,e⟩⟩,h⟩,fun h=>h.2⟩
theorem LC {α:Type}{l:List α}(h:l.length=3):∃a b c,l=[a,b,c]:=by
 match l,h with
 | [a,b,c],_=>exact⟨a,b,c,rfl⟩
theorem QC {k:Nat}(h:k<3):k=0∨k=1∨k=2:=by omega
theorem bZ {w:iA}:dL w=0↔cQ w:=by
 unfold dL;constructor
 · intro h
   split at h
   · cases h
   rename_i h1
   split at h
   · cases h
   rename_i h2
   split at h
   · rename_i h3;exact absurd h h3
   rename_i h3;have h3:=Decidable.not_not.1 h3;have hn:w.n.length=3:=by omega
   have hc:w.c.length=3:=by omega
   obtain⟨a,b,c,e⟩:=LC hn;obtain⟨x,y,z,e'⟩:=LC hc;rw[e]at h3;obtain⟨g1,g2,g3,g4,g5⟩:=FH.1 h3;have hcl:=nW.1 h;refine⟨hn,hc,by omega,by omega,by omega,by omega,?_,?_,?_⟩
   · intro k hk;rw[e];rcases QC hk with rfl|rfl|rfl
     · exact g1
     · exact g2
     exact g3
   · intro k hk;rw[e];rcases(by omega:k=0∨k=1)with rfl|rfl
     · exact g4
     exact g5
   intro k hk;rw[e']at hcl⊢;rcases QC hk with rfl|rfl|rfl
   · exact hcl x (by simp)
   · exact hcl y (by simp)
   exact hcl z (by simp)
 intro h;have h1:=h.n3;have h2:=h.c3;have h3:=h.tip0;have h4:=h.tip1;have h5:=h.t0;have h6:=h.t1;obtain⟨a,b,c,e⟩:=LC h1;obtain⟨x,y,z,e'⟩:=LC h2;have hn:=h.node;have hf:=h.fit;have hcl:=h.cli;rw[if_neg (by omega),if_neg (by omega)]
 have:cK none w.n=0:=by
  rw[e]at hn hf⊢;exact FH.2 ⟨hn 0 (by omega),hn 1 (by omega),hn 2 (by omega),hf 0 (by omega),hf 1 (by omega)⟩
 rw[if_neg (by simp[this])];refine nW.2 fun q hq=>?_
 rw[e']at hq hcl;simp only[List.mem_cons,List.not_mem_nil,or_false]at hq;rcases hq with rfl|rfl|rfl
 · exact hcl 0 (by omega)
 · exact hcl 1 (by omega)
 exact hcl 2 (by omega)
theorem jV {l:List iC}{k j:Nat}{n:iC}(hk:k<l.length):aV (l.set k n) j=if j=k then n else aV l j:=by
 unfold aV;rw[List.getElem?_set];by_cases h:k=j
 · subst h;simp[hk]
 rw[if_neg h,if_neg (Ne.symm h)]
theorem KM {l:List eB}{k j:Nat}{n:eB}(hk:k<l.length):cG (l.set k n) j=if j=k then n else cG l j:=by
 unfold cG;rw[List.getElem?_set];by_cases h:k=j
 · subst h;simp[hk]
 rw[if_neg h,if_neg (Ne.symm h)]
theorem DT {ns:List iC}{k:Nat}:jK (iB ns) k=(aV ns k).u:=by
 unfold jK iB aV;rw[List.getElem?_map]
 cases ns[k]? <;> rfl
theorem fO.upon {p p' u:eM}(h:fO p.cells u.cells)(hp:lA p p'):fO p'.cells u.cells:=fun k hk=>by
 rcases h k hk with e|e
 · exact .inl e
 by_cases h4:(bF u.cells k).kind=4
 · exact .inl h4
 exact .inr ((hp.cell k (by rw[e];exact h4)).trans e)
theorem gS.kind {ns:List iC}{c:eB}(h:gS ns c):0≤c.e.kind∧c.e.kind≤3:=qA (bK.1 h.1).2.1
theorem gS.upon {ns ns':List iC}{c:eB}(h:gS ns c)(hu:∀j,lA (aV ns j).u (aV ns' j).u):gS ns' c :=
 ⟨h.1,fun h1 h2=>by
  have e:=h.2 h1 h2;have hk:=h.kind;rw[(hu _).cell _ (by rw[e];omega)]
  exact e⟩
theorem zH {w:iA}{k:Nat}{n':iC}(hk:k<w.n.length)(h4:lA (aV w.n k).u n'.u):∀j,lA (aV w.n j).u (aV (setN w k n').n j).u:=fun j=>by
 show lA _ (aV (w.n.set k n') j).u
 rw[jV hk]
 split
 · rename_i h;subst h;exact h4
 exact lA.Zz _
theorem cQ.setN {w:iA}(h:cQ w){k:Nat}{n':iC}(hk:k<3)(h1:(bH n').2=0)(h2:0<k→fO (aV w.n (k-1)).u.cells (gr n').cells)(h4:lA (aV w.n k).u n'.u):cQ (setN w k n'):=by
 have hl:=h.n3;have hu:=zH (w:=w) (k:=k) (n':=n') (by omega) h4;refine⟨by simp[Go.Proofs.YtpfkagghooihfaaGreatDoor.setN,hl],h.c3,h.tip0,h.tip1,h.t0,h.t1,fun j hj=>?_,fun j hj=>?_,fun j hj=>(h.cli j hj).upon hu⟩
 · show(bH (aV (w.n.set k n') j)).2=0
   rw[jV (by omega)]
   split
   · exact h1
   exact h.node j hj
 show fO (aV (w.n.set k n') j).u.cells (gr (aV (w.n.set k n') (j+1))).cells
 have hf:=h.fit j hj;by_cases e:j+1=k
 · subst e;rw[jV (by omega),jV (by omega),if_neg (by omega),if_pos rfl];exact h2 (by omega)
 rw[jV (j:=j+1) (by omega),if_neg e];exact hf.upon (hu j)
theorem cQ.setC {w:iA}(h:cQ w){i:Nat}{c':eB}(hc:gS w.n c'):cQ (setC w i c'):=by
 have hl:=h.c3;refine⟨h.n3,by simp[Go.Proofs.YtpfkagghooihfaaGreatDoor.setC,hl],h.tip0,h.tip1,h.t0,h.t1,h.node,h.fit,fun j hj=>?_⟩
 show gS w.n (cG (w.c.set i c') j)
 by_cases hi:i<w.c.length
 · rw[KM hi]
   split
   · exact hc
   exact h.cli j hj
 rw[List.set_eq_of_length_le (by omega)];exact h.cli j hj
theorem cQ.new:cQ qV:=by
 have hn:mL lH [] [] jI:=fM.new.nodI true;have hc:(bH lH).2=0:=by rw[hn.chkN]
 have hg:gr lH=jI:=by unfold gr;rw[hn.chkN]
 refine⟨rfl,rfl,by decide,by decide,by decide,by decide,fun k hk=>?_,fun k hk=>?_,fun k hk=>?_⟩
 · rcases QC hk with rfl|rfl|rfl<;>exact hc
 · have:fO jI.cells jI.cells:=fun _ _=>.inr rfl
   rcases(by omega:k=0∨k=1)with rfl|rfl
   · show fO jI.cells (gr lH).cells;rw[hg];exact this
   show fO jI.cells (gr lH).cells;rw[hg];exact this
 have h1:aP iD=0:=by decide
 have:gS qV.n iD:=⟨h1,fun h=>by simp[iD]at h⟩
 rcases QC hk with rfl|rfl|rfl<;>exact this
end
section
theorem KY {w : iA}{x : qY}(h : cQ w)(hi : x.client.toNat < 3)(hx : (kP w x).2 = 0) :
    ∃ (i k a:Nat)(c:eB)(n:iC)(r:dI),i=x.client.toNat∧c=cG w.c i∧c.doing=2∧c.link=k∧k<3∧n=aV w.n k∧n.up=true∧c.at_=a∧a<60∧aG c.e=0∧c.epoch=n.u.ep ∧
     (0<k→bF (aV w.n (k-1)).u.cells a=c.e)∧r=⟨1,a,0,c.e⟩ ∧
     (((bF n.u.cells a).kind≠4∧x.kind≠15∧((x.kind=5∧(kP w x).1=w)∨(x.kind≠5∧(cZ c (bF n.u.cells a)).2=0∧(kP w x).1=setC w i (cZ c (bF n.u.cells a)).1))) ∨
      ((bF n.u.cells a).kind=4∧bU n.u r=(JJ n.u a c.e,0) ∧
       ((x.kind=15∧(kP w x).1=setN w k (iH n r x.n).1)∨(x.kind=5∧(kP w x).1=setN w k (cT n r).1)∨(x.kind≠15∧x.kind≠5∧(cZ c c.e).2=0∧(kP w x).1=setC (setN w k (cT n r).1) i (cZ c c.e).1)))):=by
 obtain⟨i,hii⟩:∃i,i=x.client.toNat:=⟨_,rfl⟩
 obtain⟨c,hc⟩:∃c,c=cG w.c i:=⟨_,rfl⟩
 have hcl:gS w.n c:=by rw[hc];exact h.cli i (by omega)
 have hci:=bK.1 hcl.1;obtain⟨k,hk⟩:∃k:Nat,c.link=k:=⟨c.link.toNat,by omega⟩
 obtain⟨a,ha⟩:∃a:Nat,c.at_=a:=⟨c.at_.toNat,by omega⟩
 have hk3:k<3:=by omega
 have ha6:a<60:=by omega
 obtain⟨n,hn⟩:∃n,n=aV w.n k:=⟨_,rfl⟩
 unfold kP at hx⊢;rw[←hii,←hc,hk,ha,Int.toNat_natCast,←hn]at hx⊢;by_cases h1:c.doing≠2
 · rw[if_pos h1]at hx;cases hx
 rw[if_neg h1]at hx⊢;by_cases h2:n.up=false
 · rw[if_pos h2]at hx;cases hx
 rw[if_neg h2]at hx⊢;have hup:n.up=true:=by simpa using h2
 obtain⟨q,hq⟩:∃q,q=lW (iB w.n) (k:Int) (a:Int) c.e c.epoch:=⟨_,rfl⟩
 rw[←hq]at hx⊢;unfold pL at hx⊢;rw[hk,Int.toNat_natCast,←hii]at hx⊢;by_cases h3:q.2.2≠0
 · rw[if_pos h3]at hx;exact absurd hx h3
 rw[if_neg h3]at hx⊢;have h3:=Decidable.not_not.1 h3;obtain⟨r,s,e⟩:=q;dsimp only at h3 hx⊢;subst h3;obtain⟨_,_,_,_,_,he,hep,hfr,hcase⟩:=MN hq.symm;simp only[Int.toNat_natCast,DT]at hep hfr hcase;rw[←hn]at hep hcase;obtain⟨l,m,hI⟩:=fX (h.node k hk3);rw[←hn]at hI;refine⟨i,k,a,c,n,⟨1,a,0,c.e⟩,rfl,hc,Decidable.not_not.1 h1,hk,hk3,hn,hup,ha,ha6,he,hep,fun h0=>hfr (by omega),rfl,?_⟩;rcases hcase with ⟨rfl,rfl,h4⟩| ⟨rfl,rfl,h4⟩
 · left;by_cases h5:x.kind=15
   · rw[if_pos h5]at hx;have:(iH n dR x.n).2=6:=by unfold iH;rw[if_pos (show dR.kind=0 from rfl)]
     dsimp only at hx;omega
   have hz:¬dR.kind≠0:=by simp[dR]
   rw[if_neg h5,if_neg (fun h=>hz h.1)]at hx⊢;refine⟨h4,h5,?_⟩;by_cases h6:x.kind=5
   · rw[if_pos h6];exact .inl ⟨h6,by dsimp only;exact if_neg hz⟩
   rw[if_neg h6]at hx⊢;by_cases h7:(cZ c (bF n.u.cells a)).2≠0
   · rw[if_pos h7]at hx;exact absurd hx h7
   rw[if_neg h7,if_neg hz];exact .inr ⟨h6,Decidable.not_not.1 h7,rfl⟩
 right;have hnx:bU n.u ⟨1,a,0,c.e⟩=(JJ n.u a c.e,0):=MC hI.good.1 ha6 he h4;refine⟨h4,hnx,?_⟩;by_cases h5:x.kind=15
 · rw[if_pos h5];exact .inl ⟨h5,rfl⟩
 rw[if_neg h5]at hx⊢;by_cases h8:(1:Int)≠0∧(cT n ⟨1,a,0,c.e⟩).2≠0
 · dsimp only at hx;rw[if_pos h8]at hx;exact absurd hx h8.2
 dsimp only at hx⊢;rw[if_neg h8]at hx⊢;right;by_cases h6:x.kind=5
 · rw[if_pos h6];exact .inl ⟨h6,by dsimp only;exact if_pos (by decide)⟩
 rw[if_neg h6]at hx⊢;by_cases h7:(cZ c c.e).2≠0
 · rw[if_pos h7]at hx;exact absurd hx h7
 rw[if_neg h7,if_pos (by decide)];exact .inr ⟨h5,h6,Decidable.not_not.1 h7,rfl⟩
structure QO (n n':iC):Prop where
 ok:(bH n').2=0
 up:lA n.u n'.u
theorem GX {w : iA}{x : qY}(hx : (aI w x).2 = 0) :
    (x.kind=10∧0≤x.n∧x.n≤60∧(aI w x).1=⟨w.n,x.n,w.c,w.time⟩) ∨
    (x.kind=11∧1≤x.n∧x.n≤100000-w.time∧(aI w x).1=⟨w.n,w.tip,w.c,w.time+x.n⟩) ∨
    (∃k:Nat,k<3∧x.n=k ∧
     ((x.kind=12∧(aV w.n k).up=true∧(aI w x).1=setN w k ⟨(aV w.n k).u,(aV w.n k).d,false⟩) ∨
      (x.kind=13∧(aV w.n k).up=false∧(rG (aV w.n k)).2=0∧(aI w x).1=setN w k (rG (aV w.n k)).1) ∨
      (x.kind=8∧(aV w.n k).up=true∧(cT (aV w.n k) ⟨2,0,x.epoch,bP⟩).2=0∧(aI w x).1=setN w k (cT (aV w.n k) ⟨2,0,x.epoch,bP⟩).1) ∨
      (x.kind=9∧(aV w.n k).up=true∧∃i:Nat,i<3∧x.client=i∧(fP (cG w.c i) (aV w.n k).u.ep).2=0∧(aI w x).1=setC w i (fP (cG w.c i) (aV w.n k).u.ep).1))) ∨
    (∃i:Nat,i<3∧x.client=i ∧
     (((x.kind=4∨x.kind=5∨x.kind=15)∧(kP w x).2=0∧(aI w x).1=(kP w x).1) ∨
      (x.kind=1∧x.e.kind≠3∧(fI (cG w.c i) x.e).2=0∧(aI w x).1=setC w i (fI (cG w.c i) x.e).1) ∨
      (x.kind=2∧(iQ (cG w.c i) i x.job w.time).2=0∧(aI w x).1=setC w i (iQ (cG w.c i) i x.job w.time).1) ∨
      (x.kind=3∧w.tip≠60∧(eU (cG w.c i) w.tip).2=0∧(aI w x).1=⟨w.n,w.tip+1,w.c.set i (eU (cG w.c i) w.tip).1,w.time⟩) ∨
      (x.kind=6∧(jC (cG w.c i) x.n).2=0∧(aI w x).1=setC w i (jC (cG w.c i) x.n).1) ∨
      (x.kind=7∧(pA w (cG w.c i)).2=0∧(aI w x).1=setC w i (pA w (cG w.c i)).1) ∨
      (x.kind=14∧(aI w x).1=setC w i iD))):=by
 have put:∀ {k:Nat} {r:eB×Int},(gK w k r).2=0→r.2=0∧(gK w k r).1=setC w k r.1:=fun {k r} h=>by
  unfold gK at h⊢;by_cases h1:r.2≠0
  · rw[if_pos h1]at h;exact absurd h h1
  rw[if_neg h1];exact⟨Decidable.not_not.1 h1,rfl⟩
 unfold aI at hx⊢;by_cases h1:x.kind<1∨15<x.kind
 · rw[if_pos h1]at hx;cases hx
 rw[if_neg h1]at hx⊢;by_cases h2:x.kind=8∨x.kind=9∨x.kind=12∨x.kind=13
 · rw[if_pos h2]at hx⊢;right;right;left;unfold dV at hx⊢;by_cases h3:x.n<0∨3≤x.n
   · rw[if_pos h3]at hx;cases hx
   rw[if_neg h3]at hx⊢;obtain⟨k,hk⟩:∃k:Nat,x.n=k:=⟨x.n.toNat,by omega⟩
   refine⟨k,by omega,hk,?_⟩;unfold lG at hx⊢;rw[hk,Int.toNat_natCast]at hx⊢;by_cases h4:x.kind=12∨x.kind=13
   · rw[if_pos h4]at hx⊢;by_cases h5:(aV w.n k).up=decide (x.kind=13)
     · rw[if_pos h5]at hx;cases hx
     rw[if_neg h5]at hx⊢;by_cases h6:x.kind=12
     · rw[if_pos h6];exact .inl ⟨h6,by simpa[h6]using h5,rfl⟩
     rw[if_neg h6]at hx⊢;have h7:x.kind=13:=by omega
     exact .inr (.inl ⟨h7,by simpa[h7]using h5,hx,rfl⟩)
   rw[if_neg h4]at hx⊢;right;right;by_cases h5:(aV w.n k).up=false
   · rw[if_pos h5]at hx;cases hx
   rw[if_neg h5]at hx⊢;have hup:(aV w.n k).up=true:=by simpa using h5
   by_cases h6:x.kind=8
   · rw[if_pos h6]at hx⊢;exact .inl ⟨h6,hup,hx,rfl⟩
   rw[if_neg h6]at hx⊢;right;by_cases h7:x.client<0∨3≤x.client
   · rw[if_pos h7]at hx;cases hx
   rw[if_neg h7]at hx⊢;obtain⟨i,hi⟩:∃i:Nat,x.client=i:=⟨x.client.toNat,by omega⟩
   rw[hi,Int.toNat_natCast]at hx⊢;obtain⟨g1,g2⟩:=put hx;exact⟨by omega,hup,i,by omega,rfl,g1,g2⟩
 rw[if_neg h2]at hx⊢;by_cases h3:x.kind=10
 · rw[if_pos h3]at hx⊢;by_cases h4:x.n<0∨60<x.n
   · rw[if_pos h4]at hx;cases hx
   rw[if_neg h4];exact .inl ⟨h3,by omega,by omega,rfl⟩
 rw[if_neg h3]at hx⊢;by_cases h4:x.kind=11
 · rw[if_pos h4]at hx⊢;by_cases h5:x.n<1∨100000-w.time<x.n
   · rw[if_pos h5]at hx;cases hx
   rw[if_neg h5];exact .inr (.inl ⟨h4,by omega,by omega,rfl⟩)
 rw[if_neg h4]at hx⊢;right;right;right;unfold aZ at hx⊢;by_cases h5:x.client<0∨3≤x.client
 · rw[if_pos h5]at hx;cases hx
 rw[if_neg h5]at hx⊢;obtain⟨i,hi⟩:∃i:Nat,x.client=i:=⟨x.client.toNat,by omega⟩
 refine⟨i,by omega,hi,?_⟩;have ht:x.client.toNat=i:=by omega
 rw[ht]at hx⊢;by_cases k4:x.kind=4∨x.kind=5∨x.kind=15
 · rw[if_pos k4]at hx⊢;exact .inl ⟨k4,hx,rfl⟩
 rw[if_neg k4]at hx⊢;right;by_cases k1:x.kind=1
 · rw[if_pos k1]at hx⊢;by_cases h6:x.e.kind=3
   · rw[if_pos h6]at hx;cases hx
   rw[if_neg h6]at hx⊢;obtain⟨g1,g2⟩:=put hx;exact .inl ⟨k1,h6,g1,g2⟩
 rw[if_neg k1]at hx⊢;right;by_cases k2:x.kind=2
 · rw[if_pos k2,hi]at hx⊢;obtain⟨g1,g2⟩:=put hx;exact .inl ⟨k2,g1,g2⟩
 rw[if_neg k2]at hx⊢;right;by_cases k3:x.kind=3
 · rw[if_pos k3]at hx⊢;by_cases h6:w.tip=60
   · rw[if_pos h6]at hx;cases hx
   rw[if_neg h6]at hx⊢;by_cases h7:(eU (cG w.c i) w.tip).2≠0
   · rw[if_pos h7]at hx;exact absurd hx h7
   rw[if_neg h7];exact .inl ⟨k3,h6,Decidable.not_not.1 h7,rfl⟩
 rw[if_neg k3]at hx⊢;right;by_cases k6:x.kind=6
 · rw[if_pos k6]at hx⊢;obtain⟨g1,g2⟩:=put hx;exact .inl ⟨k6,g1,g2⟩
 rw[if_neg k6]at hx⊢;right;by_cases k7:x.kind=7
 · rw[if_pos k7]at hx⊢;obtain⟨g1,g2⟩:=put hx;exact .inl ⟨k7,g1,g2⟩
 rw[if_neg k7];exact .inr ⟨by omega,rfl⟩
end
end Go.Proofs.YtpfkagghooihfaaGreatDoor
