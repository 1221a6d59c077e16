/- Part 5. -/
import Derived.Test.YtpfkagghooihfaaGreatDoorBa01
import Derived.Lib.Strings
import Derived.Lib.Slices
import Derived.Lib.Walk
import Derived.Lib.Bytealg
import Derived.Lib.AppendZerosOnto
import Derived.Lib.SliceRun
namespace Go.Proofs.YtpfkagghooihfaaGreatDoor
set_option linter.unusedSimpArgs false
set_option linter.unusedVariables false
set_option maxHeartbeats 2000000
set_option maxRecDepth 100000
open Go.Proofs.Tryz
section
theorem qI (s : ByteArray)(c : Int)(w : World) :
    Calls prog 178 #[.string s,.int .u8 c] w fun e w'=>e=.returned (.int .i64 (Lib.indexByte s.data.toList c.toNat.toUInt8))∧w'=w:=by
 go_enter func178,ntmps178;go_wp2;rw[run_callFunc_extern func197 (by kernel_rfl) (by kernel_rfl) (by kernel_rfl) (e:=Extern.BytealgIndexByte.indexByte) (by kernel_rfl),Lib.run_indexByteString];simp only[Result.andThen];rw[Oper.upon_value];go_wp2;go_ret;exact⟨rfl,rfl⟩
theorem vD (s : ByteArray)(c : UInt8)(w : World) :
    Calls prog 160 #[.string s,.string ⟨#[c]⟩] w fun e w'=>e=.returned (.int .i64 (Lib.indexByte s.data.toList c))∧w'=w:=by
 go_enter func160,ntmps160;go_wp2_with (go_at_call 178;refine(qI _ _ _).mono ?_;rintro e w'⟨rfl,rfl⟩)
 · have h:([c] ==s.toList)=true:=by assumption
   go_ret;refine⟨?_,rfl⟩;have e:s.data.toList=[c]:=by rw[←Lib.toList_data];exact(beq_iff_eq.1 h).symm
   rw[e];simp[Lib.indexByte]
 go_ret;exact⟨rfl,rfl⟩
theorem wP (s : ByteArray)(c : UInt8)(w : World) :
    Calls prog 138 #[.string s,.string ⟨#[c]⟩] w fun e w'=>e=.returned (.int .i64 (Lib.indexByte s.data.toList c))∧w'=w:=by
 go_enter func138,ntmps138;go_wp2_with (go_at_call 160;refine(vD _ _ _).mono ?_;rintro e w'⟨rfl,rfl⟩)
 go_ret;exact⟨rfl,rfl⟩
theorem sC (s : ByteArray)(c : UInt8)(w : World) :
    Calls prog 114 #[.string s,.string ⟨#[c]⟩] w fun e w'=>e=.returned (.bool (decide (0≤Lib.indexByte s.data.toList c)))∧w'=w:=by
 go_enter func114,ntmps114;go_wp2_with (go_at_call 138;refine(wP _ _ _).mono ?_;rintro e w'⟨rfl,rfl⟩)
 go_ret;exact⟨rfl,rfl⟩
end
section
def fO (p u:List aL):Prop:=∀k,k<60→(bF u k).kind=4∨bF p k=bF u k
instance (p u : List aL) : Decidable (fO p u) := by unfold fO;infer_instance
def mF:Option eM→List eM→Int
 |_,[]=>0
 |o,u ::l=>if eJ u.ep u.cells≠0 then eJ u.ep u.cells else
   match o with
   |none=>mF (some u) l
   |some p=>if fO p.cells u.cells then mF (some u) l else 4
def gR (l:List eM):Int:=if l.length≠3 then 4 else mF none l
def oQ (l:List eM)(k:Nat):Option eM:=match k with|0=>none|k+1=>l[k]?
theorem yP {o : Option eM}{l : List eM}{k : Nat}{u : eM}(hx : l[k]? = some u) : mF o (l.drop k) = if eJ u.ep u.cells ≠ 0 then eJ u.ep u.cells else
    match o with
    |none=>mF (some u) (l.drop (k+1))
    |some p=>if fO p.cells u.cells then mF (some u) (l.drop (k+1))else 4:=by
  obtain⟨hk,rfl⟩:=List.getElem?_eq_some_iff.1 hx;rw[List.drop_eq_getElem_cons hk];rfl
def zz:dI×aL×Int→Int→dI×aL×Int:=fun _ e=>(dR,bP,e)
def jK (l:List eM)(k:Nat):eM:=(l[k]?).getD ⟨0,[]⟩
theorem mT {l:List eM}{k:Nat}{x:eM}(h:l[k]?=some x):jK l k=x:=by unfold jK;rw[h];rfl
def lW (l:List eM)(k at_:Int)(x:aL)(epoch:Int):dI×aL×Int :=
 if gR l≠0 then(dR,bP,gR l)
 else if k<0∨3≤k∨at_<0∨60≤at_ then(dR,bP,5)
 else if aG x≠0 then(dR,bP,aG x)
 else if epoch≠(jK l k.toNat).ep then(dR,bP,8)
 else if 0<k∧bF (jK l (k.toNat-1)).cells at_.toNat≠x then(dR,bP,7)
 else if(bF (jK l k.toNat).cells at_.toNat).kind≠4 then(dR,bF (jK l k.toNat).cells at_.toNat,0)
 else(⟨1,at_,0,x⟩,x,0)
def nY (l:List eM)(at_:Int):aL×Int :=
 if gR l≠0 then(bP,gR l)
 else if at_<0∨60≤at_ then(bP,5)
 else if(bF (jK l 2).cells at_.toNat).kind=4 then(bP,7)
 else(bF (jK l 2).cells at_.toNat,0)
structure OO (l:List eM):Prop where
 len:l.length=3
 ok:∀u∈l,lF u.ep u.cells
 fit:∀ (k:Nat) u v,l[k]?=some u→l[k+1]?=some v→fO u.cells v.cells
theorem lB {l:List eM}:gR l=0↔OO l:=by
 unfold gR;constructor
 · intro h
   split at h
   · cases h
   rename_i hl
   match l,(by omega:l.length=3)with
   | [a,b,c],_ =>
     simp only[mF]at h;by_cases ha:eJ a.ep a.cells=0
     · rw[if_neg (by simp[ha])]at h;by_cases hb:eJ b.ep b.cells=0
       · rw[if_neg (by simp[hb])]at h;by_cases hab:fO a.cells b.cells
         · rw[if_pos hab]at h;by_cases hc:eJ c.ep c.cells=0
           · rw[if_neg (by simp[hc])]at h;by_cases hbc:fO b.cells c.cells
             · refine⟨rfl,?_,?_⟩
               · intro u hu;simp at hu;rcases hu with rfl|rfl|rfl
                 · exact dE.1 ha
                 · exact dE.1 hb
                 exact dE.1 hc
               intro k u v hu hv
               match k,hu,hv with
               |0,hu,hv=>simp at hu hv;subst hu;subst hv;exact hab
               |1,hu,hv=>simp at hu hv;subst hu;subst hv;exact hbc
               |k+2,hu,hv=>simp at hv
             rw[if_neg hbc]at h;cases h
           rw[if_pos hc]at h;exact absurd h hc
         rw[if_neg hab]at h;cases h
       rw[if_pos hb]at h;exact absurd h hb
     rw[if_pos ha]at h;exact absurd h ha
 intro h;have hl:=h.len;rw[if_neg (by omega)]
 match l,hl with
 | [a,b,c],_ =>
   have ha:=dE.2 (h.ok a (by simp));have hb:=dE.2 (h.ok b (by simp));have hc:=dE.2 (h.ok c (by simp));have hab:=h.fit 0 a b rfl rfl;have hbc:=h.fit 1 b c rfl rfl;simp[mF,ha,hb,hc,hab,hbc]
end
section
open Go.RowKit
theorem BM:(prog.info? 55).map (fun i=>(i.zero,i.size,i.bytes))=some (some (.agg #[(),Nat,Nat,Nat,.bool false]),5,88):=by kernel_rfl
theorem zT (w : World)(A : Option Addr)(n c B : Nat)(hB : B ≤ w.heap.size)(rows : List (List Value))(h : Sl w B 5 A n rows)(h1 : ∀r ∈ rows, ∀u ∈ r, u.oneCell' = true)(hn : n * 88 ≤ 140737488355328) :
    Calls prog 62 #[.slice A n c] w fun e w'=>∃A' c',e=.returned (.slice A' n c')∧cH w' w.heap.size 55 5 (.slice A' n c') n rows∧aA w w':=by
 obtain⟨i0,hi0,hz0,hz1,hz2⟩:=info_parts BM;have hnm:n≤maxLen:=by unfold maxLen;omega
 cases A with
 |none =>
   have h0:n=0:=by
    rcases Nat.eq_zero_or_pos n with h0|h0
    · exact h0
    obtain⟨b,off,e,_⟩:=h.2.2 h0
    cases e
   subst h0;have hr:rows=[]:=List.eq_nil_of_length_eq_zero h.1;subst hr;clear h h1 hi0 hz0 hz1 hz2 hnm hn;have hs:∀w,(binOp .eql 22 (.slice none 0 c) (.slice none 0 0)).run prog w=.ok (.bool true) w:=fun w=>by kernel_rfl
   go_enter func62,ntmps62;go_wp2;go_ret;exact⟨none,0,rfl,cH.nil _ _ _ _,Below.refl _ _⟩
 |some a =>
   have hs:∀w,(binOp .eql 22 (.slice (some a) n c) (.slice none 0 0)).run prog w=.ok (.bool false) w:=fun w=>by kernel_rfl
   have HN:=aH hn;have HM:=aH hnm;have H1:=aH h1;have H:=aH h;clear hn hnm h1 h;have HI:=aH hi0;have HZ0:=aH hz0;have HZ1:=aH hz1;have HZ2:=aH hz2;clear hi0 hz0 hz1 hz2;go_enter func62,ntmps62;go_wp2_with (at_builtin;refine aQ _ rfl _ _ 22 rfl w.heap.size 55 i0 _ 5 88 underlying22 HI.out HZ0.out HZ1.out HZ2.out rfl (by decide) _ 0 [] rfl ?c1 B (some a) n c rows rfl ?c2 H1.out ?c3 ?c4 ?c5 ?_)
   case c1=>exact⟨World.ownsRow_made _ _ _ (Nat.le_refl _) (by simp[maxLen]) (by simp),rfl,by simp⟩
   case c2=>exact H.out.keep fun p hp=>World.cell?_alloc_lt w _ p (by omega)
   case c3=>rw[Nat.zero_add];exact HM.out
   case c4=>rw[Nat.zero_add];exact HN.out
   case c5=>simp
   intro v' w' hown hgrow hblk;obtain⟨A',c',rfl,_,_⟩:=hown.slice;go_wp2;go_ret;refine⟨A',c',rfl,hown,?_⟩;exact((Below.refl _ _).alloc (Nat.le_refl _) _).grown hgrow (by simp) (by simp[Value.ownBlock])
theorem AS:(prog.info? 68).map (fun i=>(i.zero,i.size,i.bytes))=some (some (.agg #[(),(),(),(),(),(),(),(),(),(),Nat,Nat]),12,128):=by kernel_rfl
theorem AQ (w : World)(A : Option Addr)(n c B : Nat)(hB : B ≤ w.heap.size)(rows : List (List Value))(h : Sl w B 12 A n rows)(h1 : ∀r ∈ rows, ∀u ∈ r, u.oneCell' = true)(hn : n * 128 ≤ 140737488355328) :
    Calls prog 63 #[.slice A n c] w fun e w'=>∃A' c',e=.returned (.slice A' n c')∧cH w' w.heap.size 68 12 (.slice A' n c') n rows∧aA w w':=by
 obtain⟨i0,hi0,hz0,hz1,hz2⟩:=info_parts AS;have hnm:n≤maxLen:=by unfold maxLen;omega
 cases A with
 |none =>
   have h0:n=0:=by
    rcases Nat.eq_zero_or_pos n with h0|h0
    · exact h0
    obtain⟨b,off,e,_⟩:=h.2.2 h0
    cases e
   subst h0;have hr:rows=[]:=List.eq_nil_of_length_eq_zero h.1;subst hr;clear h h1 hi0 hz0 hz1 hz2 hnm hn;have hs:∀w,(binOp .eql 23 (.slice none 0 c) (.slice none 0 0)).run prog w=.ok (.bool true) w:=fun w=>by kernel_rfl
   go_enter func63,ntmps63;go_wp2;go_ret;exact⟨none,0,rfl,cH.nil _ _ _ _,Below.refl _ _⟩
 |some a =>
   have hs:∀w,(binOp .eql 23 (.slice (some a) n c) (.slice none 0 0)).run prog w=.ok (.bool false) w:=fun w=>by kernel_rfl
   have HN:=aH hn;have HM:=aH hnm;have H1:=aH h1;have H:=aH h;clear hn hnm h1 h;have HI:=aH hi0;have HZ0:=aH hz0;have HZ1:=aH hz1;have HZ2:=aH hz2;clear hi0 hz0 hz1 hz2;go_enter func63,ntmps63;go_wp2_with (at_builtin;refine aQ _ rfl _ _ 23 rfl w.heap.size 68 i0 _ 12 128 underlying23 HI.out HZ0.out HZ1.out HZ2.out rfl (by decide) _ 0 [] rfl ?c1 B (some a) n c rows rfl ?c2 H1.out ?c3 ?c4 ?c5 ?_)
   case c1=>exact⟨World.ownsRow_made _ _ _ (Nat.le_refl _) (by simp[maxLen]) (by simp),rfl,by simp⟩
   case c2=>exact H.out.keep fun p hp=>World.cell?_alloc_lt w _ p (by omega)
   case c3=>rw[Nat.zero_add];exact HM.out
   case c4=>rw[Nat.zero_add];exact HN.out
   case c5=>simp
   intro v' w' hown hgrow hblk;obtain⟨A',c',rfl,_,_⟩:=hown.slice;go_wp2;go_ret;refine⟨A',c',rfl,hown,?_⟩;exact((Below.refl _ _).alloc (Nat.le_refl _) _).grown hgrow (by simp) (by simp[Value.ownBlock])
end
section
structure eB where
 epoch:Int
 doing:Int
 e:aL
 at_:Int
 link:Int
 played:Int
 b:cW
 deriving DecidableEq
def aP (c:eB):Int :=
 if c.epoch<1∨20<c.epoch∨c.doing<0∨2<c.doing∨c.at_<0∨60≤c.at_∨c.link<0∨3≤c.link∨c.played<0∨60<c.played then 3
 else if aG c.e≠0 then aG c.e
 else if(c.doing≠2∧c.at_+c.link≠0)∨(c.doing=0∧c.e≠bP)∨(c.doing=1∧c.e.kind=0)then 4
 else cF c.b
def dP (c:eB):Int:=if aP c≠0 then aP c else if c.doing≠0 then 7 else 0
def cS:eB:=⟨0,0,bP,0,0,0,cW.none⟩
def fP (c:eB)(v:Int):eB×Int :=
 if aP c≠0 then(cS,aP c)else if v<1∨20<v then(cS,3)else if v≤c.epoch then(cS,8)else(⟨v,c.doing,c.e,c.at_,c.link,c.played,c.b⟩,0)
def eU (c:eB)(v:Int):eB×Int :=
 if aP c≠0 then(cS,aP c)else if c.doing≠1 then(cS,7)else if v<0∨60≤v then(cS,5)else(⟨c.epoch,2,c.e,v,c.link,c.played,c.b⟩,0)
def jC (c:eB)(v:Int):eB×Int :=
 if dP c≠0 then(cS,dP c)else if v<0∨60≤v then(cS,5)else(⟨c.epoch,2,c.e,v,c.link,c.played,c.b⟩,0)
def iP (c:eB)(y:aL):eB×Int :=
 if aP c≠0 then(cS,aP c)else if c.played=60 then(cS,2)else if(eR c.b y).2≠0 then(cS,(eR c.b y).2)
 else(⟨c.epoch,c.doing,c.e,c.at_,c.link,c.played+1,(eR c.b y).1⟩,0)
def fI (c:eB)(y:aL):eB×Int :=
 if dP c≠0 then(cS,dP c)else if aG y≠0 then(cS,aG y)else if y.kind=0 then(cS,4)else(⟨c.epoch,1,y,c.at_,c.link,c.played,c.b⟩,0)
def cZ (c:eB)(y:aL):eB×Int :=
 if aP c≠0 then(cS,aP c)else if aG y≠0 then(cS,aG y)else if c.doing≠2 then(cS,7)
 else if y≠c.e∧c.e.kind≠0 then(⟨c.epoch,1,c.e,0,0,c.played,c.b⟩,0)
 else if c.link+1=3 then(⟨c.epoch,0,bP,0,0,c.played,c.b⟩,0)
 else(⟨c.epoch,c.doing,y,c.at_,c.link+1,c.played,c.b⟩,0)
def nX (c:eB)(me job t:Int):eB×Int :=
 match c.b.jobs.find? (fun j=>decide (j.id=job))with
 |some j=>if j.next≤t then fI c ⟨3,job,0,j.next,me⟩else(cS,5)
 |none=>(cS,5)
def iQ (c:eB)(me job t:Int):eB×Int :=
 if aP c≠0 then(cS,aP c)else if c.doing≠0 then(cS,7)else if t<0∨100000<t then(cS,3)else nX c me job t
end
section
theorem MN {l : List eM}{k a : Int}{x : aL}{ep : Int}{r : dI}{s : aL}(h : lW l k a x ep = (r, s, 0)) :
    OO l∧0≤k∧k<3∧0≤a∧a<60∧aG x=0∧ep=(jK l k.toNat).ep∧(0<k→bF (jK l (k.toNat-1)).cells a.toNat=x) ∧
     ((r=dR∧s=bF (jK l k.toNat).cells a.toNat∧s.kind≠4)∨(r=⟨1,a,0,x⟩∧s=x∧(bF (jK l k.toNat).cells a.toNat).kind=4)):=by
 unfold lW at h;by_cases h1:gR l≠0
 · rw[if_pos h1]at h;injection h with _ h;injection h with _ h;exact absurd h h1
 rw[if_neg h1]at h;by_cases h2:k<0∨3≤k∨a<0∨60≤a
 · rw[if_pos h2]at h;injection h with _ h;injection h with _ h;cases h
 rw[if_neg h2]at h;by_cases h3:aG x≠0
 · rw[if_pos h3]at h;injection h with _ h;injection h with _ h;exact absurd h h3
 rw[if_neg h3]at h;by_cases h4:ep≠(jK l k.toNat).ep
 · rw[if_pos h4]at h;injection h with _ h;injection h with _ h;cases h
 rw[if_neg h4]at h;by_cases h5:0<k∧bF (jK l (k.toNat-1)).cells a.toNat≠x
 · rw[if_pos h5]at h;injection h with _ h;injection h with _ h;cases h
 rw[if_neg h5]at h;refine⟨lB.1 (Decidable.byContradiction h1),by omega,by omega,by omega,by omega,Decidable.byContradiction h3,by omega,fun hk=>Decidable.byContradiction fun h=>h5 ⟨hk,h⟩,?_⟩;by_cases h6:(bF (jK l k.toNat).cells a.toNat).kind≠4
 · rw[if_pos h6]at h;injection h with e1 h;injection h with e2 _;exact .inl ⟨e1.symm,e2.symm,e2▸h6⟩
 rw[if_neg h6]at h;injection h with e1 h;injection h with e2 _;exact .inr ⟨e1.symm,e2.symm,by omega⟩
theorem xF {cs:List aL}{j k:Nat}{x:aL}(hj:j<cs.length):bF (cs.set j x) k=if k=j then x else bF cs k:=by
 unfold bF;rw[List.getElem?_set];by_cases h:k=j
 · subst h;simp[hj]
 rw[if_neg (Ne.symm h),if_neg h]
def JJ (u:eM)(j:Nat)(x:aL):eM:=⟨u.ep,u.cells.set j x⟩
theorem MC {u:eM}{j:Nat}{x:aL}(h:lF u.ep u.cells)(hj:j<60)(hx:aG x=0)(hb:(bF u.cells j).kind=4):bU u ⟨1,j,0,x⟩=(JJ u j x,0):=by
 unfold bU;rw[if_neg (by simp[dE.2 h])]
 have hr:bI ⟨1,j,0,x⟩=0:=by
  unfold bI;dsimp only;rw[if_pos rfl,if_neg (by omega),if_neg (by simp)];exact hx
 rw[if_neg (by simp[hr])];dsimp only;rw[if_neg (by omega),Int.toNat_natCast,if_neg (by simp[hb])];rfl
end
end Go.Proofs.YtpfkagghooihfaaGreatDoor
