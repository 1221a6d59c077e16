/- Part 3. -/
import Derived.Test.YtpfkagghooihfaaGreatDoorBa01
import Derived.Laws.CopyRow
import Derived.Lib.AppendZerosOnto
import Derived.Lib.AppendZeros
import Derived.Lib.Overlaps
import Derived.Laws.Externs
import Derived.Laws.IdiomCopy
import Derived.Deep.MidRow
import Derived.Test.YtpfkagghooihfaaGreatDoorShelf
import Derived.Lib.ParseIntBTie
import Derived.Deep.DeepCutAuto
import Derived.Deep.CutBlock
import Derived.Laws.BytesArg
import Derived.Lib.AppendStr
namespace Go.Proofs.YtpfkagghooihfaaGreatDoor
set_option linter.unusedSimpArgs false
set_option linter.unusedVariables false
set_option maxHeartbeats 2000000
set_option maxRecDepth 100000
open Go.Proofs.Tryz
open Go.RowKit
section
def bG (cur:Array Value)(o:Nat)(cs:List Value):Array Value:=(cur.toList.take o ++cs ++cur.toList.drop (o+cs.length)).toArray
theorem eZ {cur:Array Value}{o:Nat}{cs:List Value}(h:o+cs.length≤cur.size):(bG cur o cs).size=cur.size:=by
 simp[bG];omega
section
variable {P:Program}(w:World)
theorem gE (dT sT ty elem : TypeId)(g o dLen dCap : Nat)(a : Addr)(sLen sCap : Nat)(cur : Array Value)(t : TypeId)(i : TypeInfo)(cs : List Value)
    (hu:P.underlying dT=some (.slice elem))(hi:P.info? elem=some i)(hg:w.heap[g]?=some (.cells cur t (0,0)))(hn:cs.length=Nat.min sLen dLen*i.size)
    (hsrc:∀j v,cs[j]?=some v→w.cell? (a.add j)=some v)(hfit:o+cs.length≤cur.size)(h1:∀v∈cs,v.oneCell'=true) :
    (Builtin.copy_ #[dT,sT] ty #[.slice (some ⟨g,o,none⟩) dLen dCap,.slice (some a) sLen sCap]).run P w=.ok (goInt (Nat.min sLen dLen)) (w.setRow g (bG cur o cs)):=by
 have hl:=run_loadCells_list (P:=P) w a cs hsrc;have hst:=run_storeCells_at P g o t cs 0 cur w hg (by simpa using hfit) h1;simp only[Nat.add_zero]at hst;simp[Builtin.copy_,run_underlying hu,Builtin.lenOf,Builtin.firstCells,sizeOf,typeInfo,hi,←hn,hl,hst,bG]
theorem tW {o : Oper}{a : Act}{K : Act → World → Prop}{Q : Exit → Act → World → Prop}(d s : Operand)(t t' : TypeId)
    (ho:o.op=.call { callee:=.builtin .copy,args:=#[d,s],argTypes:=#[t,t'] }) (v u:Value) (hd:a.eval d=v) (hs:a.eval s=u) {v':Value} {w':World}
    (hr:(Builtin.copy_ #[t,t'] o.type #[v,u]).run P w=.ok v' w') (h:K (a.put o.dst v') w'):o.wp P a w K Q:=by
 unfold Oper.wp execOp;simp only[ho,resolve,invoke,builtin,Sem.run_bind,Sem.run_pure,Result.andThen_ok,List.map_toArray,List.map_cons,List.map_nil,hd,hs,hr];exact h
theorem gA {ops : Array Oper}{rest : List Oper}{o : Oper}{a : Act}{Q : Exit → Act → World → Prop}(hgd : o.guard = none)(d s : Operand)(t t' : TypeId)
    (ho:o.op=.call { callee:=.builtin .copy,args:=#[d,s],argTypes:=#[t,t'] }) (v u:Value) (hd:a.eval d=v) (hs:a.eval s=u) {v':Value} {w':World}
    (hr:(Builtin.copy_ #[t,t'] o.type #[v,u]).run P w=.ok v' w') (h:wpList P ops Q rest (a.put o.dst v') w'):wpList P ops Q (o ::rest) a w :=
 wpList_plain hgd fun _ hK=>tW w d s t t' ho v u hd hs hr (hK _ _ h)
theorem iL {ops : Array Oper}{o : Oper}{a : Act}{K : Act → World → Prop}{Q : Exit → Act → World → Prop}{E : Prop}
    (hg:o.guard=none)(d x:Operand)(dT sT:TypeId)(hop:o.op=Op.call { callee:=Callee.builtin Builtin.copy,args:=#[d,x],argTypes:=#[dT,sT] })
    (v u:Value) (hd:a.eval d=v) (hx:a.eval x=u) {v':Value} {w':World} (hr:(Builtin.copy_ #[dT,sT] o.type #[v,u]).run P w=.ok v' w') (hK:K (a.put o.dst v') w') :
    if Region.wanted o (yielded ops a.tmps)=true then Oper.wp P o a w K Q else E:=by
 have hw:Region.wanted o (yielded ops a.tmps)=true:=by simp[Region.wanted,hg]
 rw[if_pos hw];exact tW w d x dT sT hop v u hd hx hr hK
end
section
variable {P:Program}(w:World)
theorem vG {ops : Array Oper}{o : Oper}{a : Act}{K : Act → World → Prop}{Q : Exit → Act → World → Prop}{E : Prop}
    (hg:o.guard=none)(d x:Operand)(dT sT:TypeId)(hop:o.op=Op.call { callee:=Callee.builtin Builtin.append,args:=#[d,x],argTypes:=#[dT,sT] })
    (v u:Value) (hd:a.eval d=v) (hx:a.eval x=u) {v':Value} {w':World} (hr:(Builtin.append_ #[dT,sT] o.type #[v,u]).run P w=.ok v' w') (hK:K (a.put o.dst v') w') :
    if Region.wanted o (yielded ops a.tmps)=true then Oper.wp P o a w K Q else E:=by
 have hw:Region.wanted o (yielded ops a.tmps)=true:=by simp[Region.wanted,hg]
 rw[if_pos hw];unfold Oper.wp execOp;simp only[hop,resolve,invoke,builtin,Sem.run_bind,Sem.run_pure,Result.andThen_ok,List.map_toArray,List.map_cons,List.map_nil,hd,hx,hr];exact hK
theorem mW {ops : Array Oper}{rest : List Oper}{o : Oper}{a : Act}{Q : Exit → Act → World → Prop}(hgd : o.guard = none)(d : Operand)(t : TypeId)
    (ho:o.op=.call { callee:=.builtin .clear,args:=#[d],argTypes:=#[t] }) (v:Value) (hd:a.eval d=v) {v':Value} {w':World}
    (hr:(Builtin.clear_ #[t] o.type #[v]).run P w=.ok v' w') (h:wpList P ops Q rest (a.put o.dst v') w'):wpList P ops Q (o ::rest) a w :=
 wpList_plain hgd fun _ hK=>by
  unfold Oper.wp execOp;simp only[ho,resolve,invoke,builtin,Sem.run_bind,Sem.run_pure,Result.andThen_ok,List.map_toArray,List.map_cons,List.map_nil,hd,hr];exact hK _ _ h
theorem pC (t ty elem : TypeId)(g o n c : Nat)(cur : Array Value)(E : TypeId)(z : Value)(hu : P.underlying t = some (.slice elem))(hz : (zeroValue elem).run P w = .ok z w)(hz1 : ∀u ∈ z.cells, u.oneCell' = true)
    (hg:w.heap[g]?=some (.cells cur E (0,0)))(hn:0<n)(hfit:o+n*z.cells.size≤cur.size) :
    (Builtin.clear_ #[t] ty #[.slice (some ⟨g,o,none⟩) n c]).run P w=.ok (.tuple #[]) (w.setRow g (bG cur o (Builtin.zeroCells z.cells n).toList)):=by
 have hst:=run_storeCells_at P g o E (Builtin.zeroCells z.cells n).toList 0 cur w hg (by simpa[size_zeroCells]using hfit) (by
  intro v hv;rw[Array.mem_toList_iff,Builtin.zeroCells,Array.mem_map]at hv;obtain⟨i,hi,rfl⟩:=hv;rw[Array.mem_range]at hi
  have hpos:0<z.cells.size:=by
   rcases Nat.eq_zero_or_pos z.cells.size with h|h
   · rw[h]at hi;omega
   exact h
  have hlt:=Nat.mod_lt i hpos;rw[getElem!_pos z.cells _ hlt]
  exact hz1 _ (Array.getElem_mem hlt))
 simp only[Nat.add_zero]at hst
 cases n with
 |zero=>omega
 |succ n=>simp[Builtin.clear_,run_underlying hu,hz,hst,bG]
end
theorem cH.open_ {w : World}{base E k n c : Nat}{A : Option Addr}{rows : List (List Value)}(h : cH w base E k (.slice A n c) n rows)(hn : 0 < n) :
    ∃g cur,A=some ⟨g,0,none⟩∧base≤g∧g<w.heap.size∧w.heap[g]?=some (.cells cur E (0,0))∧n≤c∧c≤maxLen∧cur.size=c*k∧cur.toList.take (n*k)=rows.flatten:=by
 rcases h.1.2 with ⟨e,h0⟩| ⟨g,cap,cur,e,hb,hh,h1,h2,h3,h4⟩
 · omega
 injection e with e1 e2 e3;subst e1;subst e3;exact⟨g,cur,rfl,hb,(Array.getElem?_eq_some_iff.1 hh).1,hh,h1,h2,h3,h4⟩
theorem cH.mk_ {w : World}{base E k n c g : Nat}{cur : Array Value}{rows : List (List Value)}(hb : base ≤ g)(hh : w.heap[g]? = some (.cells cur E (0, 0)))(h1 : n ≤ c)(h2 : c ≤ maxLen)(h3 : cur.size = c * k)
    (h4:cur.toList.take (n*k)=rows.flatten)(hl:rows.length=n)(hr:∀r∈rows,r.length=k):cH w base E k (.slice (some ⟨g,0,none⟩) n c) n rows :=
 ⟨⟨by rw[aN hr,hl],.inr ⟨g,c,cur,rfl,hb,hh,h1,h2,h3,h4⟩⟩,hl,hr⟩
theorem eL (w:World)(g:Nat)(cs:Array Value):w.grownBy (w.setRow g cs) (some g) :=
 ⟨rfl,rfl,rfl,by simp,fun k _ hk=>setRow_other w g k _ (fun e=>hk (by rw[e]))⟩
theorem CD {α : Type}(P X S Z : List α)(hX : X.length ≤ Z.length) :
    let c1:=(P ++S ++Z).take (P.length+X.length) ++S ++(P ++S ++Z).drop (P.length+X.length+S.length)
    c1.take P.length ++X ++c1.drop (P.length+X.length)=P ++X ++S ++Z.drop X.length:=by
 have e1:(P ++S ++Z).take (P.length+X.length)=P ++(S ++Z).take X.length:=by rw[List.append_assoc,List.take_length_add_append]
 have e2:(P ++S ++Z).drop (P.length+X.length+S.length)=Z.drop X.length:=by
  rw[show P.length+X.length+S.length=(P ++S).length+X.length by simp;omega,List.drop_length_add_append]
 have e3:((S ++Z).take X.length).length=X.length:=by simp;omega
 simp only[e1,e2];have t1:(P ++(S ++Z).take X.length ++S ++Z.drop X.length).take P.length=P:=by simp[List.append_assoc]
 have t2:(P ++(S ++Z).take X.length ++S ++Z.drop X.length).drop (P.length+X.length)=S ++Z.drop X.length:=by
  rw[show P.length+X.length=(P ++(S ++Z).take X.length).length by simp;omega];rw[List.append_assoc (P ++_),List.drop_left]
 rw[t1,t2];simp[List.append_assoc]
end
section
def rE (w:World)(b:Nat):Prop:=∃cs t,w.heap[b]?=some (.cells cs t (0,0))
section
variable {w w':World}{b:Nat}
theorem rE.frozen (h:rE w b)(o:Nat):w.frozen? ⟨b,o,none⟩=false:=by
 obtain⟨cs,t,h⟩:=h;simp[World.frozen?,h]
theorem rE.put (h:rE w b)(p:Addr)(u:Value):rE (w.setCell p u) b:=by
 obtain⟨cs,t,h⟩:=h;by_cases e:b=p.block
 · subst e;unfold rE World.setCell;simp only[Array.getElem?_modify,if_true,h,Option.map_some]
   split<;>first|exact⟨_,_,rfl⟩| (rename_i e;injection e with e;exact⟨_,_,rfl⟩)|simp_all
 exact⟨cs,t,(Below.heap_setCell w p u b e).trans h⟩
theorem rE.new (h:rE w b)(o:Obj):rE (w.alloc o) b:=by
 obtain⟨cs,t,h⟩:=h;exact⟨cs,t,(Below.heap_alloc w o b (Array.getElem?_eq_some_iff.1 h).1).trans h⟩
theorem rE.lt (h:rE w b):b<w.heap.size:=by
 obtain⟨cs,t,h⟩:=h;exact(Array.getElem?_eq_some_iff.1 h).1
theorem rE.below {B:Nat}(h:rE w b)(hb:Below B w w')(hB:b<B):rE w' b:=by
 obtain⟨cs,t,h⟩:=h;exact⟨cs,t,(hb.block b hB).trans h⟩
theorem rE.oe (h:rE w b)(hb:aA w w'):rE w' b:=h.below hb h.lt
theorem rE.grown {row:Option Nat}(h:rE w b)(hb:w.grownBy w' row)(hB:some b≠row):rE w' b:=by
 have hl:=h.lt;obtain⟨cs,t,h⟩:=h;exact⟨cs,t,(hb.block b hl hB).trans h⟩
end
def M (w:World)(base k:Nat)(A:Option Addr)(n:Nat)(rows:List (List Value)):Prop:=S w k A n rows∧(0<n→∃b off,A=some ⟨b,off,none⟩∧base≤b∧rE w b)
section
variable {w w':World}{base k n b off i j:Nat}{A:Option Addr}{rows:List (List Value)}{r:List Value}{u:Value}
theorem M.sl (h:M w base k A n rows):S w k A n rows:=h.1
theorem M.oe (h:M w base k A n rows)(hb:aA w w'):M w' base k A n rows :=
 ⟨h.1.oe hb,fun hn=>by obtain⟨b,off,e,h1,h2⟩:=h.2 hn;exact⟨b,off,e,h1,h2.oe hb⟩⟩
theorem M.lower {base':Nat}(h:M w base k A n rows)(hb:base'≤base):M w base' k A n rows :=
 ⟨h.1,fun hn=>by obtain⟨b,off,e,h1,h2⟩:=h.2 hn;exact⟨b,off,e,by omega,h2⟩⟩
theorem M.nil (w:World)(base k:Nat)(A:Option Addr):M w base k A 0 []:=⟨Sl.nil,fun h=>absurd h (by omega)⟩
theorem cH.cap_max {E c:Nat}(h:cH w base E k (.slice A n c) n rows):c≤maxLen:=by
 obtain⟨A',c',e,_,h2⟩:=h.slice;injection e with _ _ e;omega
theorem cH.m {E c:Nat}(h:cH w base E k (.slice A n c) n rows):M w base k A n rows :=
 ⟨h.sl,fun hn=>by
  obtain⟨g,cur,rfl,h1,h2,h3,_⟩:=h.open_ hn
  exact⟨g,0,rfl,h1,cur,E,h3⟩⟩
theorem Sl.put {B : Nat}(h : Sl w B k (some ⟨b, off, none⟩) n rows)(hr : rows[i]? = some r)(hj : j < r.length)(u : Value) :
    Sl (w.setCell ⟨b,off+i*k+j,none⟩ u) B k (some ⟨b,off,none⟩) n (rows.set i (r.set j u)):=by
 have hi:i<rows.length:=(List.getElem?_eq_some_iff.1 hr).1;have hrk:r.length=k:=h.2.1 r (List.mem_of_getElem? hr);refine⟨by simpa using h.1,fun x hx=>?_,fun hn=>?_⟩
 · rcases List.mem_or_eq_of_mem_set hx with hx|rfl
   · exact h.2.1 x hx
   simpa using hrk
 obtain⟨b',off',e,hb,hc⟩:=h.2.2 hn;injection e with e;injection e with e1 e2 _;subst e1;subst e2;refine⟨b,off,rfl,hb,fun i0 j0 x v hx hv=>?_⟩;rw[List.getElem?_set]at hx;by_cases e:i=i0
 · subst e;rw[if_pos rfl,if_pos hi]at hx;injection hx with hx;subst hx;rw[List.getElem?_set]at hv;by_cases e:j=j0
   · subst e;rw[if_pos rfl,if_pos hj]at hv;injection hv with hv;subst hv;exact World.cell?_setCell_same w _ _ (hc i j r r[j] hr (List.getElem?_eq_getElem hj))
   rw[if_neg e]at hv;rw[World.cell?_setCell_other w _ _ _ (by intro h;injection h with _ h _;omega)];exact hc i j0 r v hr hv
 rw[if_neg e]at hx;have hxk:x.length=k:=h.2.1 x (List.mem_of_getElem? hx);have hj0:j0<k:=by rw[←hxk];exact(List.getElem?_eq_some_iff.1 hv).1
 rw[World.cell?_setCell_other w _ _ _ (by
  intro h;injection h with _ h _;rcases Nat.lt_or_gt_of_ne e with e|e
  · have:(i+1)*k≤i0*k:=Nat.mul_le_mul_right k e;rw[Nat.add_mul]at this;omega
  have:(i0+1)*k≤i*k:=Nat.mul_le_mul_right k e
  rw[Nat.add_mul]at this;omega)]
 exact hc i0 j0 x v hx hv
theorem M.put (h : M w base k (some ⟨b, off, none⟩) n rows)(hr : rows[i]? = some r)(hj : j < r.length)(u : Value) :
    M (w.setCell ⟨b,off+i*k+j,none⟩ u) base k (some ⟨b,off,none⟩) n (rows.set i (r.set j u)) :=
 ⟨by have:=Sl.put h.1 hr hj u;simpa[S]using this,fun hn=>by
  obtain⟨b',off',e,h1,h2⟩:=h.2 hn
  exact⟨b',off',e,h1,h2.put _ _⟩⟩
theorem M.putJ {l : List dB}(h : M w base 3 (some ⟨b, off, none⟩) n (l.map bX))(hi : i < n)(x : dB) :
    M (((w.setCell ⟨b,off+i*3,none⟩ (.int .i64 x.id)).setCell ⟨b,off+i*3+1,none⟩ (.int .i64 x.every)).setCell ⟨b,off+i*3+2,none⟩ (.int .i64 x.next)) base 3 (some ⟨b,off,none⟩) n ((l.set i x).map bX):=by
 have hl:l.length=n:=by have:=h.1.len;simpa using this
 have hli:(l.map bX)[i]?=some (bX l[i]):=by simp[List.getElem?_eq_getElem (show i<l.length by omega)]
 have h1:=h.put (j:=0) hli (by simp[bX]) (.int .i64 x.id);have h2:=h1.put (i:=i) (j:=1) (r:=(bX l[i]).set 0 (.int .i64 x.id)) (by rw[List.getElem?_set];simp;omega) (by simp[bX]) (.int .i64 x.every);have h3:=h2.put (i:=i) (j:=2) (r:=((bX l[i]).set 0 (.int .i64 x.id)).set 1 (.int .i64 x.every)) (by rw[List.getElem?_set];simp;omega) (by simp[bX]) (.int .i64 x.next);simpa[bX,List.map_set]using h3
end
/-! ### Only one row has turned -/
section
variable {a w w':World}{row:Option Nat}{b:Nat}
theorem kU (h:a.grownBy w row)(hb:aA w w'):a.grownBy w' row :=
 ⟨hb.os.trans h.os,hb.tape.trans h.tape,hb.output.trans h.output,Nat.le_trans h.size hb.size,fun i hi hn=>(hb.block i (Nat.lt_of_lt_of_le hi h.size)).trans (h.block i hi hn)⟩
theorem lD (h:a.grownBy w (some b)){p:Addr}(hp:p.block=b)(u:Value):a.grownBy (w.setCell p u) (some b) :=
 ⟨h.os,h.tape,h.output,by simpa[World.setCell]using h.size,fun i hi hne=>(Below.heap_setCell w p u i (by rintro rfl;exact hne (by rw[hp]))).trans (h.block i hi hne)⟩
theorem MB (h:a.grownBy w row)(n:Nat):a.grownBy (w.drewN n) row:=⟨h.os,h.tape,h.output,h.size,h.block⟩
theorem ND (h:a.grownBy w row):a.grownBy w.drew row:=⟨h.os,h.tape,h.output,h.size,h.block⟩
theorem xQ {c:World}(h:a.grownBy w row)(k:w.grownBy c row):a.grownBy c row :=
 ⟨k.os.trans h.os,k.tape.trans h.tape,k.output.trans h.output,Nat.le_trans h.size k.size,fun i hi hn=>(k.block i (Nat.lt_of_lt_of_le hi h.size) hn).trans (h.block i hi hn)⟩
theorem IN (h:aA a w)(row:Option Nat):a.grownBy w row:=mO h row
theorem M.draw {base k n:Nat}{A:Option Addr}{rows:List (List Value)}(h:M w base k A n rows):M w.drew base k A n rows:=h
theorem M.Zv {base k n:Nat}{A:Option Addr}{rows:List (List Value)}(h:M w base k A n rows)(q:Nat):M (w.drewN q) base k A n rows:=h
end
/-! ### Insertion,from the right -/
section
variable {α:Type}
def BS (p:α→Bool)(S:List α):Nat:=S.length-(S.reverse.takeWhile p).length
theorem AF {p:α→Bool}{S:List α}{j:Nat}(hj:j≤S.length)(h1:∀y∈S.drop j,p y=true)(h2:∀y,0<j→S[j-1]?=some y→p y=false):BS p S=j:=by
 have e:S.reverse=(S.drop j).reverse ++(S.take j).reverse:=by rw[←List.reverse_append,List.take_append_drop]
 have h3:((S.take j).reverse).takeWhile p=[]:=by
  rcases Nat.eq_zero_or_pos j with rfl|h0
  · simp
  obtain⟨y,hy⟩:∃y,S[j-1]?=some y:=⟨_,List.getElem?_eq_getElem (show j-1<S.length by omega)⟩
  have hp:=h2 y h0 hy
  have e2:S.take j=S.take (j-1) ++[y]:=by
   have:=List.take_succ_eq_append_getElem (l:=S) (i:=j-1) (by omega);rw[show j-1+1=j by omega]at this;rw[this];have:=(List.getElem?_eq_some_iff.1 hy).2;rw[this]
  rw[e2];simp[hp]
 unfold BS;rw[e,List.takeWhile_append_of_pos (by intro y hy;exact h1 y (List.mem_reverse.1 hy)),h3];simp;omega
def mZ (lt:α→α→Bool)(S:List α)(x:α):List α:=S.take (BS (lt x) S) ++[x] ++S.drop (BS (lt x) S)
def gM (lt:α→α→Bool)(l:List α):List α:=l.foldl (mZ lt) []
theorem EG (lt:α→α→Bool)(S:List α)(x:α):(mZ lt S x).length=S.length+1:=by
 simp[mZ];omega
theorem GK (lt:α→α→Bool)(l:List α)(x:α):gM lt (l ++[x])=mZ lt (gM lt l) x:=by simp[gM]
theorem lU (lt:α→α→Bool):∀ (l S:List α),(l.foldl (mZ lt) S).length=S.length+l.length
 | [],S=>by simp
 |x ::l,S=>by
   rw[List.foldl_cons,lU lt l,EG];simp;omega
theorem rX (lt:α→α→Bool)(l:List α):(gM lt l).length=l.length:=by
 unfold gM;rw[lU];simp
theorem JM (lt:α→α→Bool)(S:List α)(x:α):(mZ lt S x).Perm (x ::S):=by
 unfold mZ;have h:=List.perm_middle (a:=x) (l₁:=S.take (BS (lt x) S)) (l₂:=S.drop (BS (lt x) S));rw[List.take_append_drop]at h;rw[List.append_assoc];exact h
theorem oC (lt:α→α→Bool):∀ (l S:List α),(l.foldl (mZ lt) S).Perm (l ++S)
 | [],S=>List.Perm.refl _
 |x ::l,S=>by
   rw[List.foldl_cons];refine(oC lt l _).trans ?_;refine(List.Perm.append_left l (JM lt S x)).trans ?_;exact List.perm_middle
theorem wI (lt:α→α→Bool)(l:List α):(gM lt l).Perm l:=by simpa[gM]using oC lt l []
theorem wA {lt:α→α→Bool}{l:List α}{i:Nat}{x:α}(hx:l[i]?=some x):gM lt (l.take (i+1))=mZ lt (gM lt (l.take i)) x:=by
 obtain⟨hi,rfl⟩:=List.getElem?_eq_some_iff.1 hx;rw[List.take_succ_eq_append_getElem hi,GK]
def gT (S:List α)(x:α)(rest:List α)(j:Nat):List α:=S.take j ++[x] ++S.drop j ++rest
theorem FW {S:List α}{x:α}{rest:List α}{j:Nat}(hj:j≤S.length):(gT S x rest j)[j]?=some x:=by
 have h:(S.take j).length=j:=by simp;omega
 simp[gT,List.getElem?_append,h]
theorem yK {S:List α}{x y:α}{rest:List α}{j:Nat}(hj:j≤S.length)(h0:0<j)(hy:S[j-1]?=some y):(gT S x rest j)[j-1]?=some y:=by
 have h:(S.take j).length=j:=by simp;omega
 simp only[gT,List.append_assoc];rw[List.getElem?_append_left (by omega),List.getElem?_take,if_pos (by omega)];exact hy
theorem BY {S:List α}{x y:α}{rest:List α}{j:Nat}(hj:j≤S.length)(h0:0<j)(hy:S[j-1]?=some y):((gT S x rest j).set j y).set (j-1) x=gT S x rest (j-1):=by
 obtain⟨j,rfl⟩:∃k,j=k+1:=⟨j-1,by omega⟩
 simp only[Nat.add_sub_cancel]at *;obtain⟨hl,rfl⟩:=List.getElem?_eq_some_iff.1 hy;have h1:S.take (j+1)=S.take j ++[S[j]]:=List.take_succ_eq_append_getElem hl;have h2:S.drop j=S[j] ::S.drop (j+1):=List.drop_eq_getElem_cons hl;have h:(S.take j).length=j:=by simp;omega
 unfold gT;rw[h1,h2];simp only[List.append_assoc,List.cons_append,List.nil_append];rw[List.set_append_right _ _ (by omega),h,show j+1-j=1 by omega];simp only[List.set_cons_succ,List.set_cons_zero];rw[List.set_append_right _ _ (by omega),h,Nat.sub_self];simp
end
end
section
theorem mC {w:World}{b:Nat}{vs:List Value}(hex:∀j,j<vs.length→(w.cell? ⟨b,j,none⟩).isSome=true){j:Nat}{v:Value}(hj:vs[j]?=some v):(w.setCells b 0 vs).cell? ⟨b,j,none⟩=some v:=by
 obtain⟨hl,rfl⟩:=List.getElem?_eq_some_iff.1 hj;have:=World.cell?_setCells_in b vs 0 w (fun j hj=>by simpa using hex j hj) j hl;simpa using this
theorem IV {w:World}{b o:Nat}{vs:List Value}{p:Addr}(hp:p.block≠b):(w.setCells b o vs).cell? p=w.cell? p :=
 World.cell?_setCells_out b vs o w p fun h=>absurd h hp
theorem DL {b:Nat}:∀ {vs:List Value}{o:Nat}{w:World},(w.setCells b o vs).heap.size=w.heap.size
 | [],_,_=>rfl
 |v ::r,o,w=>by rw[World.setCells,DL];simp
theorem cJ {w:World}{b:Nat}(hb:w.heap.size≤b):∀ {vs:List Value}{o:Nat}{w1:World},aA w w1→aA w (w1.setCells b o vs)
 | [],_,_,h=>h
 |v ::r,o,w1,h=>by rw[World.setCells];exact cJ hb (h.put hb v)
theorem dM {w:World}{b k n:Nat}{A:Option Addr}{rows:List (List Value)}(ho:bQ n b A):∀ {vs:List Value}{o:Nat}{w:World},S w k A n rows→S (w.setCells b o vs) k A n rows
 | [],_,_,h=>h
 |v ::r,o,w1,h=>by rw[World.setCells];exact dM (w:=w) ho (S.off h ho v)
def IP (w:World)(b n:Nat):Prop:=∀j,j<n→(w.cell? ⟨b,j,none⟩).isSome=true
theorem IP.put {w:World}{b n b' o:Nat}{vs:List Value}(h:IP w b n)(hb:b≠b'):IP (w.setCells b' o vs) b n:=fun j hj=>by
 rw[IV (by simpa using hb)];exact h j hj
theorem nV {w:World}{b:Nat}{v0 v1 v2 v3 v4:Value}(h0:w.cell? ⟨b,0,none⟩=some v0)(h1:w.cell? ⟨b,1,none⟩=some v1)(h2:w.cell? ⟨b,2,none⟩=some v2)(h3:w.cell? ⟨b,3,none⟩=some v3)(h4:w.cell? ⟨b,4,none⟩=some v4):IP w b 5:=fun j hj=>by
 match j,hj with
 |0,_=>rw[h0];rfl
 |1,_=>rw[h1];rfl
 |2,_=>rw[h2];rfl
 |3,_=>rw[h3];rfl
 |4,_=>rw[h4];rfl
end
section
structure Bx (w:World)(z:Nat)(vs:List Value):Prop where
 cells:∀j v,vs[j]?=some v→w.cell? ⟨z,j,none⟩=some v
 unf:rE w z
section
variable {w w':World}{z b o:Nat}{vs us:List Value}
theorem Bx.lt (h:Bx w z vs):z<w.heap.size:=h.unf.lt
theorem Bx.at_ (h:Bx w z vs)(j:Nat){v:Value}(hv:vs[j]?=some v):w.cell? ⟨z,j,none⟩=some v:=h.cells j v hv
theorem Bx.Zy (h:Bx w z vs)(o:Nat):w.frozen? ⟨z,o,none⟩=false:=h.unf.frozen o
theorem Bx.oe (h:Bx w z vs)(hb:aA w w'):Bx w' z vs:=⟨fun j v hv=>aB hb (h.cells j v hv),h.unf.oe hb⟩
theorem Bx.Zv (h:Bx w z vs)(q:Nat):Bx (w.drewN q) z vs:=h.oe ((aA.Zz w).Zv q)
theorem Bx.draw (h:Bx w z vs):Bx w.drew z vs:=h.oe ((aA.Zz w).draw)
theorem Bx.new (h:Bx w z vs)(o:Obj):Bx (w.alloc o) z vs:=h.oe ((aA.Zz w).new o)
theorem Bx.Zt (w:World)(cs:Array Value)(t:TypeId):Bx (w.alloc (.cells cs t)) w.heap.size cs.toList :=
 ⟨fun j v hv=>by
  rw[cell_of_row _ _ _ _ _ _ (heap_alloc_new w _),←Array.getElem?_toList];exact hv,⟨_,_,heap_alloc_new w _⟩⟩
theorem Bx.is {z:Nat}{cs:Array Value}{t:TypeId}(h:w.heap[z]?=some (.cells cs t)):Bx w z cs.toList :=
 ⟨fun j v hv=>by rw[cell_of_row _ _ _ _ _ _ h,←Array.getElem?_toList];exact hv,⟨_,_,h⟩⟩
theorem Bx.there (h:Bx w z vs){n:Nat}(hn:n≤vs.length):w.there z 0 n:=fun j hj=>by
 rw[Nat.zero_add];exact⟨by rw[h.cells j vs[j] (List.getElem?_eq_getElem (by omega))];rfl,h.Zy j⟩
theorem Bx.range (h:Bx w z vs):w.rangeAt z 0 vs:=fun j v hv=>by rw[Nat.zero_add];exact h.cells j v hv
theorem rE.Zw {b':Nat}:∀ {us:List Value}{o:Nat}{w:World},rE w b→rE (w.setCells b' o us) b
 | [],_,_,h=>h
 |v ::r,o,w,h=>by rw[World.setCells];exact rE.Zw (h.put _ _)
theorem Bx.put (h:Bx w z vs)(hu:us.length=vs.length):Bx (w.setCells z 0 us) z us :=
 ⟨fun j v hv=>mC (fun j hj=>by rw[h.cells j vs[j] (List.getElem?_eq_getElem (by omega))];rfl) hv,rE.Zw h.unf⟩
theorem Bx.off (h:Bx w z vs)(hb:z≠b):Bx (w.setCells b o us) z vs :=
 ⟨fun j v hv=>by rw[IV (by simpa using hb)];exact h.cells j v hv,rE.Zw h.unf⟩
theorem Bx.Zr (h:Bx w z vs){p:Addr}(hb:z≠p.block)(u:Value):Bx (w.setCell p u) z vs :=
 ⟨fun j v hv=>by rw[World.cell?_setCell_other w _ _ _ (by intro e;subst e;exact hb rfl)];exact h.cells j v hv,h.unf.put _ _⟩
theorem Bx.Zq (h:Bx w z vs){j:Nat}(hj:j<vs.length)(u:Value):Bx (w.setCell ⟨z,j,none⟩ u) z (vs.set j u) :=
 ⟨fun i v hv=>by
  rw[List.getElem?_set]at hv;by_cases e:j=i
  · subst e;rw[if_pos rfl,if_pos hj]at hv;injection hv with hv;subst hv;exact World.cell?_setCell_same w _ _ (h.cells j vs[j] (List.getElem?_eq_getElem hj))
  rw[if_neg e]at hv;rw[World.cell?_setCell_other w _ _ _ (by intro h;injection h with _ h _;exact e h)]
  exact h.cells i v hv,h.unf.put _ _⟩
theorem aA.Zw {w1:World}(hb:w.heap.size≤b)(h:aA w w1):aA w (w1.setCells b o us):=cJ hb h
theorem nU {P : Program}{ops : Array Oper}{rest : List Oper}{op : Oper}{a : Act}{Q : Exit → Act → World → Prop}(hB : Bx w z vs)(us : List Value)(ty : TypeId)(x y : Operand)(hgd : op.guard = none)(ho : op.op = .store ty x y)
    (hx:a.eval x=.pointer (some ⟨z,0,none⟩))(hy:a.eval y=.agg us.toArray)(hl:us.length=vs.length)(hi:(P.info? ty).map (·.size)=some vs.length)(h1:us.all (·.oneCell')=true)
    (h:wpList P ops Q rest (a.put op.dst undef) (w.setCells z 0 us)):wpList P ops Q (op ::rest) a w :=
 wpList_store_mid hgd ty x y ho z 0 us.toArray hx hy (hB.there (by simp;omega)) (by rw[hi];simp[hl]) (all_oneCell_toArray (List.all_eq_true.1 h1)) h
end
theorem gd {P:Program}{ops:Array Oper}{r:List Oper}{a:Act}{Q:Exit→Act→World→Prop}{w:World}{o t p f g}(h:wpList P ops Q (⟨none,o,t,p,f,g⟩::r) a w):wpList P ops Q (⟨none,o,t,p,f,g⟩::r) a w:=h
theorem pU {P:Program}{ops:Array Oper}{rest:List Oper}{op:Oper}{a:Act}{Q:Exit→Act→World→Prop}{w:World}{z:Nat}{vs:List Value}{x y:Operand}(hB:Bx w z vs)(us:List Value)(ty:TypeId)(hi:(P.info? ty).map (·.size)=some vs.length)(h:wpList P ops Q rest (a.put op.dst undef) (w.setCells z 0 us))(hgd:op.guard=none:=by rfl)(ho:op.op=.store ty x y:=by rfl)(hx:a.eval x=.pointer (some ⟨z,0,none⟩):=by rfl)(hy:a.eval y=.agg us.toArray:=by rfl)(hl:us.length=vs.length:=by rfl)(h1:us.all (·.oneCell')=true:=by rfl):wpList P ops Q (op::rest) a w:=nU hB us ty x y hgd ho hx hy hl hi h1 h
theorem Bx.p2 {w:World}{z:Nat}{v0 v1:Value}{r:List Value}(B:Bx w z (v0::v1::r)):w.cell? ⟨z,0,none⟩=some v0∧w.cell? ⟨z,1,none⟩=some v1:=⟨B.at_ 0 rfl,B.at_ 1 rfl⟩
theorem Bx.p3 {w:World}{z:Nat}{v0 v1 v2:Value}{r:List Value}(B:Bx w z (v0::v1::v2::r)):w.cell? ⟨z,0,none⟩=some v0∧w.cell? ⟨z,1,none⟩=some v1∧w.cell? ⟨z,2,none⟩=some v2:=⟨B.at_ 0 rfl,B.at_ 1 rfl,B.at_ 2 rfl⟩
theorem Bx.p4 {w:World}{z:Nat}{v0 v1 v2 v3:Value}{r:List Value}(B:Bx w z (v0::v1::v2::v3::r)):w.cell? ⟨z,0,none⟩=some v0∧w.cell? ⟨z,1,none⟩=some v1∧w.cell? ⟨z,2,none⟩=some v2∧w.cell? ⟨z,3,none⟩=some v3:=⟨B.at_ 0 rfl,B.at_ 1 rfl,B.at_ 2 rfl,B.at_ 3 rfl⟩
theorem Bx.p5 {w:World}{z:Nat}{v0 v1 v2 v3 v4:Value}{r:List Value}(B:Bx w z (v0::v1::v2::v3::v4::r)):w.cell? ⟨z,0,none⟩=some v0∧w.cell? ⟨z,1,none⟩=some v1∧w.cell? ⟨z,2,none⟩=some v2∧w.cell? ⟨z,3,none⟩=some v3∧w.cell? ⟨z,4,none⟩=some v4:=⟨B.at_ 0 rfl,B.at_ 1 rfl,B.at_ 2 rfl,B.at_ 3 rfl,B.at_ 4 rfl⟩
theorem Bx.p6 {w:World}{z:Nat}{v0 v1 v2 v3 v4 v5:Value}{r:List Value}(B:Bx w z (v0::v1::v2::v3::v4::v5::r)):w.cell? ⟨z,0,none⟩=some v0∧w.cell? ⟨z,1,none⟩=some v1∧w.cell? ⟨z,2,none⟩=some v2∧w.cell? ⟨z,3,none⟩=some v3∧w.cell? ⟨z,4,none⟩=some v4∧w.cell? ⟨z,5,none⟩=some v5:=⟨B.at_ 0 rfl,B.at_ 1 rfl,B.at_ 2 rfl,B.at_ 3 rfl,B.at_ 4 rfl,B.at_ 5 rfl⟩
theorem Bx.p7 {w:World}{z:Nat}{v0 v1 v2 v3 v4 v5 v6:Value}{r:List Value}(B:Bx w z (v0::v1::v2::v3::v4::v5::v6::r)):w.cell? ⟨z,0,none⟩=some v0∧w.cell? ⟨z,1,none⟩=some v1∧w.cell? ⟨z,2,none⟩=some v2∧w.cell? ⟨z,3,none⟩=some v3∧w.cell? ⟨z,4,none⟩=some v4∧w.cell? ⟨z,5,none⟩=some v5∧w.cell? ⟨z,6,none⟩=some v6:=⟨B.at_ 0 rfl,B.at_ 1 rfl,B.at_ 2 rfl,B.at_ 3 rfl,B.at_ 4 rfl,B.at_ 5 rfl,B.at_ 6 rfl⟩
theorem Bx.p8 {w:World}{z:Nat}{v0 v1 v2 v3 v4 v5 v6 v7:Value}{r:List Value}(B:Bx w z (v0::v1::v2::v3::v4::v5::v6::v7::r)):w.cell? ⟨z,0,none⟩=some v0∧w.cell? ⟨z,1,none⟩=some v1∧w.cell? ⟨z,2,none⟩=some v2∧w.cell? ⟨z,3,none⟩=some v3∧w.cell? ⟨z,4,none⟩=some v4∧w.cell? ⟨z,5,none⟩=some v5∧w.cell? ⟨z,6,none⟩=some v6∧w.cell? ⟨z,7,none⟩=some v7:=⟨B.at_ 0 rfl,B.at_ 1 rfl,B.at_ 2 rfl,B.at_ 3 rfl,B.at_ 4 rfl,B.at_ 5 rfl,B.at_ 6 rfl,B.at_ 7 rfl⟩
theorem Bx.p9 {w:World}{z:Nat}{v0 v1 v2 v3 v4 v5 v6 v7 v8:Value}{r:List Value}(B:Bx w z (v0::v1::v2::v3::v4::v5::v6::v7::v8::r)):w.cell? ⟨z,0,none⟩=some v0∧w.cell? ⟨z,1,none⟩=some v1∧w.cell? ⟨z,2,none⟩=some v2∧w.cell? ⟨z,3,none⟩=some v3∧w.cell? ⟨z,4,none⟩=some v4∧w.cell? ⟨z,5,none⟩=some v5∧w.cell? ⟨z,6,none⟩=some v6∧w.cell? ⟨z,7,none⟩=some v7∧w.cell? ⟨z,8,none⟩=some v8:=⟨B.at_ 0 rfl,B.at_ 1 rfl,B.at_ 2 rfl,B.at_ 3 rfl,B.at_ 4 rfl,B.at_ 5 rfl,B.at_ 6 rfl,B.at_ 7 rfl,B.at_ 8 rfl⟩
theorem Bx.p10 {w:World}{z:Nat}{v0 v1 v2 v3 v4 v5 v6 v7 v8 v9:Value}{r:List Value}(B:Bx w z (v0::v1::v2::v3::v4::v5::v6::v7::v8::v9::r)):w.cell? ⟨z,0,none⟩=some v0∧w.cell? ⟨z,1,none⟩=some v1∧w.cell? ⟨z,2,none⟩=some v2∧w.cell? ⟨z,3,none⟩=some v3∧w.cell? ⟨z,4,none⟩=some v4∧w.cell? ⟨z,5,none⟩=some v5∧w.cell? ⟨z,6,none⟩=some v6∧w.cell? ⟨z,7,none⟩=some v7∧w.cell? ⟨z,8,none⟩=some v8∧w.cell? ⟨z,9,none⟩=some v9:=⟨B.at_ 0 rfl,B.at_ 1 rfl,B.at_ 2 rfl,B.at_ 3 rfl,B.at_ 4 rfl,B.at_ 5 rfl,B.at_ 6 rfl,B.at_ 7 rfl,B.at_ 8 rfl,B.at_ 9 rfl⟩
theorem Bx.p11 {w:World}{z:Nat}{v0 v1 v2 v3 v4 v5 v6 v7 v8 v9 v10:Value}{r:List Value}(B:Bx w z (v0::v1::v2::v3::v4::v5::v6::v7::v8::v9::v10::r)):w.cell? ⟨z,0,none⟩=some v0∧w.cell? ⟨z,1,none⟩=some v1∧w.cell? ⟨z,2,none⟩=some v2∧w.cell? ⟨z,3,none⟩=some v3∧w.cell? ⟨z,4,none⟩=some v4∧w.cell? ⟨z,5,none⟩=some v5∧w.cell? ⟨z,6,none⟩=some v6∧w.cell? ⟨z,7,none⟩=some v7∧w.cell? ⟨z,8,none⟩=some v8∧w.cell? ⟨z,9,none⟩=some v9∧w.cell? ⟨z,10,none⟩=some v10:=⟨B.at_ 0 rfl,B.at_ 1 rfl,B.at_ 2 rfl,B.at_ 3 rfl,B.at_ 4 rfl,B.at_ 5 rfl,B.at_ 6 rfl,B.at_ 7 rfl,B.at_ 8 rfl,B.at_ 9 rfl,B.at_ 10 rfl⟩
theorem Bx.p12 {w:World}{z:Nat}{v0 v1 v2 v3 v4 v5 v6 v7 v8 v9 v10 v11:Value}{r:List Value}(B:Bx w z (v0::v1::v2::v3::v4::v5::v6::v7::v8::v9::v10::v11::r)):w.cell? ⟨z,0,none⟩=some v0∧w.cell? ⟨z,1,none⟩=some v1∧w.cell? ⟨z,2,none⟩=some v2∧w.cell? ⟨z,3,none⟩=some v3∧w.cell? ⟨z,4,none⟩=some v4∧w.cell? ⟨z,5,none⟩=some v5∧w.cell? ⟨z,6,none⟩=some v6∧w.cell? ⟨z,7,none⟩=some v7∧w.cell? ⟨z,8,none⟩=some v8∧w.cell? ⟨z,9,none⟩=some v9∧w.cell? ⟨z,10,none⟩=some v10∧w.cell? ⟨z,11,none⟩=some v11:=⟨B.at_ 0 rfl,B.at_ 1 rfl,B.at_ 2 rfl,B.at_ 3 rfl,B.at_ 4 rfl,B.at_ 5 rfl,B.at_ 6 rfl,B.at_ 7 rfl,B.at_ 8 rfl,B.at_ 9 rfl,B.at_ 10 rfl,B.at_ 11 rfl⟩

end
section
def gV:List Value→Nat→List Value→List Value
 |vs,_,[]=>vs
 |vs,o,u ::r=>gV (vs.set o u) (o+1) r
theorem lO:∀ (us:List Value)(vs:List Value)(o:Nat),(gV vs o us).length=vs.length
 | [],_,_=>rfl
 |u ::r,vs,o=>by rw[gV,lO r];simp
section
variable {w:World}{z b o:Nat}{vs us:List Value}
theorem Bx.putM:∀ {us vs:List Value}{o:Nat}{w:World},Bx w z vs→o+us.length≤vs.length→Bx (w.setCells z o us) z (gV vs o us)
 | [],_,_,_,h,_=>h
 |u ::r,vs,o,w,h,hl=>by
   rw[World.setCells,gV];simp only[List.length_cons]at hl;exact Bx.putM (h.Zq (j:=o) (by omega) u) (by simp;omega)
theorem Bx.thereM (h:Bx w z vs){o n:Nat}(hn:o+n≤vs.length):w.there z o n:=fun j hj =>
 ⟨by rw[h.cells (o+j) vs[o+j] (List.getElem?_eq_getElem (by omega))];rfl,h.Zy (o+j)⟩
variable {P:Program}{ops:Array Oper}{rest:List Oper}{op:Oper}{a:Act}{K:Act→World→Prop}{Q:Exit→Act→World→Prop}{F:Prop}
theorem DF (hB : Bx w z vs)(o : Nat)(us : List Value)(ty : TypeId)(x y : Operand)(hgd : op.guard = none)(ho : op.op = .store ty x y)
    (hx:a.eval x=.pointer (some ⟨z,o,none⟩))(hy:a.eval y=.agg us.toArray)(hl:o+us.length≤vs.length)(hi:(P.info? ty).map (·.size)=some us.length)(h1:us.all (·.oneCell')=true)
    (h:wpList P ops Q rest (a.put op.dst undef) (w.setCells z o us)):wpList P ops Q (op ::rest) a w :=
 wpList_store_mid hgd ty x y ho z o us.toArray hx hy (hB.thereM (by simpa using hl)) (by rw[hi];simp) (all_oneCell_toArray (List.all_eq_true.1 h1)) h
end
theorem pM {P:Program}{ops:Array Oper}{rest:List Oper}{op:Oper}{a:Act}{Q:Exit→Act→World→Prop}{w:World}{z:Nat}{vs:List Value}{x y:Operand}(hB:Bx w z vs)(o:Nat)(us:List Value)(ty:TypeId)(hl:o+us.length≤vs.length)(hi:(P.info? ty).map (·.size)=some us.length)(h:wpList P ops Q rest (a.put op.dst undef) (w.setCells z o us))(hgd:op.guard=none:=by rfl)(ho:op.op=.store ty x y:=by rfl)(hx:a.eval x=.pointer (some ⟨z,o,none⟩):=by rfl)(hy:a.eval y=.agg us.toArray:=by rfl)(h1:us.all (·.oneCell')=true:=by rfl):wpList P ops Q (op::rest) a w:=DF hB o us ty x y hgd ho hx hy hl hi h1 h

end
section
theorem QL (w:World)(x:Obj)(cs:Array Value)(t:TypeId):Bx ((w.alloc x).alloc (.cells cs t)) (w.heap.size+1) cs.toList:=by
 have:=Bx.Zt (w.alloc x) cs t;simpa using this
section
variable {P:Program}{c:Code}{Q:Exit→Act→World→Prop}{a:Act}{w:World}{k1 k2 k3:Array Value}{T1 T2 T3:TypeId}{v1 v2 v3:List Value}
theorem aW (e1:k1.toList=v1)(h:∀w1,aA w w1→Bx w1 w.heap.size v1→c.wp P Q a w1):c.wp P Q a (w.alloc (.cells k1 T1)):=by
 subst e1;exact h _ ((aA.Zz w).new _) (Bx.Zt _ _ _)
theorem kD (e1:k1.toList=v1)(e2:k2.toList=v2)(h:∀w1,aA w w1→Bx w1 w.heap.size v1→Bx w1 (w.heap.size+1) v2→c.wp P Q a w1):c.wp P Q a ((w.alloc (.cells k1 T1)).alloc (.cells k2 T2)):=by
 subst e1 e2;exact h _ (((aA.Zz w).new _).new _) ((Bx.Zt _ _ _).new _) (QL _ _ _ _)
theorem fY (e1:k1.toList=v1)(e2:k2.toList=v2)(e3:k3.toList=v3)(h:∀w1,aA w w1→Bx w1 w.heap.size v1→Bx w1 (w.heap.size+1) v2→Bx w1 (w.heap.size+1+1) v3→c.wp P Q a w1):c.wp P Q a (((w.alloc (.cells k1 T1)).alloc (.cells k2 T2)).alloc (.cells k3 T3)):=by
 subst e1 e2 e3;refine h _ ((((aA.Zz w).new _).new _).new _) (((Bx.Zt _ _ _).new _).new _) ((QL _ _ _ _).new _) ?_;have:=QL (w.alloc (.cells k1 T1)) (.cells k2 T2) k3 T3;simpa using this
end
end
section
abbrev dC (l:List UInt8):Value:=.string ⟨l.toArray⟩
def vF (l:List UInt8):List Value:=[dC l]
theorem LP (s:ByteArray):s=⟨s.data.toList.toArray⟩:=by cases s;simp
theorem eF (l:List UInt8):(⟨l.toArray⟩:ByteArray).size=l.length:=rfl
theorem dX (n : Int)(h0 : -9223372036854775808 ≤ n)(h1 : n ≤ 9223372036854775807)(w : World)(E : fR w) :
    Calls Tryz.prog 121 #[.int .i64 n] w fun e w'=>e=.returned (dC (Lib.itoa n))∧aA w w' :=
 (Any.strconv_Itoa Tryz.laysM171 n h0 h1 w E.tab).mono fun e w' ⟨he,k,os,hw⟩=>⟨he,hw▸yZ w k os⟩
theorem wY (t:List UInt8):(∃v,Lib.atoiAll t=.ok v∧jJ t=(if Lib.itoa v=t then some v else none)∧-9223372036854775808≤v∧v≤9223372036854775807)∨((∀v,Lib.atoiAll t≠.ok v)∧jJ t=none):=by
 unfold jJ
 cases h:Lib.atoiAll t with
 |ok v=>exact .inl ⟨v,rfl,rfl,Lib.atoiAll_bounds h⟩
 |_=>exact .inr ⟨by simp,rfl⟩
theorem vN (s : List UInt8)(hs : s.length ≤ 281474976710656)(w : World)(E : fR w) :
    Calls Tryz.prog 183 #[dC s] w fun e w'=>∃v er,e=.returned (.tuple #[.int .i64 v,er])∧aA w w' ∧
     ((er=.nilIface∧Lib.atoiAll s=.ok v∧-9223372036854775808≤v∧v≤9223372036854775807)∨((∃t p,er=.iface t p)∧∀v,Lib.atoiAll s≠.ok v)):=by
 obtain⟨t1,p1,c1⟩:=E.syn
 obtain⟨t2,p2,c2⟩:=E.rng
 cases h:Lib.atoiAll s with
 |ok v =>
   refine(Any.strconv_Atoi_ok Tryz.laysC172 ⟨s.toArray⟩ (by rw[eF];omega) v (by simpa using h) w).mono ?_
   rintro e w'⟨rfl,hw⟩
   refine⟨v,_,rfl,?_,.inl ⟨rfl,rfl,Lib.atoiAll_bounds h⟩⟩
   rcases hw with rfl| ⟨t,rfl⟩
   · exact aA.Zz _
   · exact Lib.bytesWorld_below _ _ _
 |range =>
   refine(Any.strconv_Atoi_range Tryz.laysC172 ⟨s.toArray⟩ (by rw[eF];omega) (by simpa using h) _ w c2 (.inr ⟨_,_,rfl⟩)).mono ?_
   rintro e w'⟨N,rfl,_,_,hw⟩
   exact⟨_,_,rfl,hw,.inr ⟨⟨_,_,rfl⟩,by simp⟩⟩
 |_ =>
   refine(Any.strconv_Atoi_syntax Tryz.laysC172 ⟨s.toArray⟩ (by rw[eF];omega) (by simpa using h) _ w c1 (.inr ⟨_,_,rfl⟩)).mono ?_
   rintro e w'⟨N,rfl,_,_,hw⟩
   exact⟨_,_,rfl,hw,.inr ⟨⟨_,_,rfl⟩,by simp⟩⟩
theorem oM (c:UInt8):∀s:List UInt8,(bO c s).length=s.count c+1
 | []=>rfl
 |b ::l=>by
   have ih:=oM c l
   have hne:=jZ c l
   rw[bO]
   split
   · rename_i h;subst h;rw[List.length_cons,ih,List.count_cons_self]
   · rename_i h
     rw[List.length_cons,List.length_tail,ih,List.count_cons_of_ne (Ne.symm (Ne.symm h))]
     omega
theorem CK (c:UInt8)(s:List UInt8):Lib.countB ⟨s.toArray⟩ ⟨#[c]⟩+1=(bO c s).length:=by
 rw[oM]
 show Lib.count _ _+1=_
 have:=Lib.count_one c s
 simpa using this
theorem MD (c:UInt8)(s:List UInt8):(Lib.splitB ⟨#[c]⟩ 0 (Lib.countB ⟨s.toArray⟩ ⟨#[c]⟩) ⟨s.toArray⟩).map Value.string=(bO c s).map dC:=by
 have h:=Lib.splitB_data ⟨#[c]⟩ 0 (Lib.countB ⟨s.toArray⟩ ⟨#[c]⟩) ⟨s.toArray⟩
 have e:Lib.splitK (⟨#[c]⟩:ByteArray).data.toList 0 (Lib.countB ⟨s.toArray⟩ ⟨#[c]⟩) (⟨s.toArray⟩:ByteArray).data.toList=bO c s:=by
  rw[←zE]
  unfold Lib.split
  rfl
 rw[e]at h
 rw[←h,List.map_map]
 apply List.map_congr_left
 intro x _
 show Value.string x=dC x.data.toList
 rw[dC,←LP]
theorem uZ (c : UInt8)(s : List UInt8)(hs : s.length ≤ 4000000000)(w : World)(E : fR w) :
    Calls Tryz.prog 161 #[dC s,dC [c]] w fun e w'=>∃A,e=.returned (.slice A (bO c s).length (bO c s).length)∧S w' 1 A (bO c s).length ((bO c s).map vF)∧aA w w':=by
 obtain⟨m,hm⟩:=E.big
 refine(Any.strings_Split Tryz.lays146 (by kernel_rfl) ⟨s.toArray⟩ ⟨#[c]⟩ m w (by rw[eF];omega) hm (Nat.le_refl 1)).mono ?_
 rintro e w'⟨rfl,rfl⟩
 rw[CK,MD]
 refine⟨_,rfl,?_,(aA.Zz w).new _⟩
 have:=Sl.block (k:=1) ((bO c s).map vF) (mM (w:=w) (o:=.cells ((bO c s).map dC).toArray 9) rfl) (by
  intro r hr
  obtain⟨x,_,rfl⟩:=List.mem_map.1 hr
  rfl) (by
  generalize bO c s=l
  induction l with
  |nil=>rfl
  |cons a l ih=>simp[vF]at ih⊢;exact ih)
 rw[List.length_map]at this
 exact this
theorem pZ (c:UInt8):∀s:List UInt8,(c∉s→Lib.index s [c]=-1)∧(∀p r,s=p ++c ::r→c∉p→Lib.index s [c]=p.length)
 | []=>⟨fun _=>by rw[Lib.index];rfl,fun p r h=>by simp at h⟩
 |b ::l=>by
   have ih:=pZ c l
   refine⟨fun h=>?_,fun p r h hp=>?_⟩
   · have h1:b≠c:=fun e=>h (by simp[e])
     have h2:c∉l:=fun e=>h (by simp[e])
     rw[Lib.index,ih.1 h2]
     simp[List.isPrefixOf,Ne.symm h1]
   · cases p with
     |nil =>
       simp at h
       obtain⟨rfl,rfl⟩:=h
       rw[Lib.index]
       simp[List.isPrefixOf]
     |cons a p =>
       simp only[List.cons_append,List.cons.injEq]at h
       obtain⟨rfl,h⟩:=h
       have h1:b≠c:=fun e=>hp (by simp[e])
       have h2:c∉p:=fun e=>hp (by simp[e])
       rw[Lib.index,ih.2 p r h h2]
       have:((p.length:Int) ==-1)=false:=by rw[beq_eq_false_iff_ne];omega
       simp[List.isPrefixOf,Ne.symm h1,this]
theorem NA (c:UInt8)(s:List UInt8):Lib.cut s [c]=if c∈s then((bO c s).headD [],gD c (bO c s).tail,true)else(s,[],false):=by
 by_cases h:c∈s
 · rw[if_pos h]
   obtain⟨p,r,rfl,hp⟩:=List.eq_append_cons_of_mem h
   unfold Lib.cut
   rw[(pZ c _).2 p r rfl hp,gH hp,if_pos (by omega)]
   simp[jO]
 · rw[if_neg h]
   unfold Lib.cut
   rw[(pZ c s).1 h]
   rfl
theorem zB (s sep : List UInt8)(hs : s.length ≤ 4000000000)(w : World)(E : fR w) :
    Calls Tryz.prog 140 #[dC s,dC sep] w fun e w'=>e=.returned (.tuple #[dC (Lib.cut s sep).1,dC (Lib.cut s sep).2.1,.bool (Lib.cut s sep).2.2])∧aA w w':=by
 obtain⟨m,hm⟩:=E.big
 refine(Any.strings_Cut Tryz.lays145 ⟨s.toArray⟩ ⟨sep.toArray⟩ m w (by rw[eF];omega) hm).mono ?_
 rintro e w'⟨rfl,q,rfl⟩
 exact⟨rfl,(aA.Zz w).Zv q⟩
theorem vI (s p : List UInt8)(w : World) :
    Calls Tryz.prog 163 #[dC s,dC p] w fun e w'=>e=.returned (.tuple #[dC (if p.isPrefixOf s then s.drop p.length else s),.bool (p.isPrefixOf s)])∧aA w w' :=
 (Any.strings_CutPrefix Tryz.lays103 ⟨s.toArray⟩ ⟨p.toArray⟩ w).mono fun e w' ⟨he,hw⟩=>⟨he,hw▸aA.Zz w⟩
end
section
theorem GP (x : aL)(w : World)(hc : aG x ≠ 0) :
    Calls prog 172 #[.agg #[x.kind,x.job,x.every,x.time,x.client]] w fun e w'=>e=.returned (.tuple #[dC [],(aG x:Int)])∧aA w w':=by
 obtain⟨r,hr⟩:∃r,r=aG x:=⟨_,rfl⟩
 rw[←hr]at hc⊢;have HR:=aH hr;clear hr;have hb:(!decide (r=0))=true:=by simp[hc]
 go_enter func172,ntmps172;go_wp2_with fail;refine Calls.mono (dG x.kind x.job x.every x.time x.client _) ?_;rintro e w1⟨rfl,b⟩;rw[show aG ⟨x.kind,x.job,x.every,x.time,x.client⟩=r from HR.out.symm];have on:aA w w1:=aA.to ((aA.Zz w).new _) b;clear b;go_wp2;refine bodyPost_ret (v:=.tuple #[dC [],r]) (by simp[results,results172,go_sem]) rfl ⟨rfl,on⟩
def xP (k:Int)(a b c d:Value):Value:=if k=1 then b else if k=2 then c else if k=3 then d else a
theorem QP (k:Int)(h0:0≤k)(h3:k≤3)(a b c d:Value)(w:World):(Instr.index 218 (.agg #[a,b,c,d]) (.int .i64 k)).run prog w=.ok (xP k a b c d) w:=by
 rcases(by omega:k=0∨k=1∨k=2∨k=3)with rfl|rfl|rfl|rfl<;>kernel_rfl
theorem QH (k:Int)(h0:0≤k)(h3:k≤3)(a b c d:Value)(w:World):(Instr.index 219 (.agg #[a,b,c,d]) (.int .i64 k)).run prog w=.ok (xP k a b c d) w:=by
 rcases(by omega:k=0∨k=1∨k=2∨k=3)with rfl|rfl|rfl|rfl<;>kernel_rfl
theorem JP (x:aL):xP x.kind (.string ⟨#[106,117,110,107]⟩) (.string ⟨#[112,117,116]⟩) (.string ⟨#[100,114,111,112]⟩) (.string ⟨#[114,105,110,103]⟩)=dC (lN x):=by
 unfold xP lN
 (repeat' split)<;>rfl
theorem S.ints {w:World}{b:Nat}{l:List Int}{t:TypeId}(h:w.heap[b]?=some (.cells (l.map fun n=>Value.int .i64 n).toArray t)):S w 1 (some ⟨b,0,none⟩) l.length (l.map iW):=by
 have:=Sl.block (k:=1) (l.map iW) h (by
  intro r hr;obtain⟨x,_,rfl⟩:=List.mem_map.1 hr
  rfl) (by
  clear h
  induction l with
  |nil=>rfl
  |cons a l ih=>simp[iW]at ih⊢;exact ih)
 rw[List.length_map]at this;exact this
theorem IL {l:List Int}{k:Nat}{n:Int}(h:l[k]?=some n):gG (l.take (k+1))=gG (l.take k) ++32 ::Lib.itoa n:=by
 obtain⟨hk,rfl⟩:=List.getElem?_eq_some_iff.1 h;rw[List.take_succ_eq_append_getElem hk];simp only[gG,List.map_append,List.flatten_append,List.map_cons,List.map_nil,List.flatten_cons,List.flatten_nil,List.append_nil]
set_option maxHeartbeats 4000000 in
theorem JO (x : aL)(w : World)(E : fR w)(hc : aG x = 0) :
    Calls prog 172 #[.agg #[x.kind,x.job,x.every,x.time,x.client]] w fun e w'=>e=.returned (.tuple #[dC (gC x),()])∧aA w w':=by
 have HC:=aH hc;have hk:=qA hc;have ix:∀a b c d w,(Instr.index 218 (.agg #[a,b,c,d]) (.int .i64 x.kind)).run prog w=.ok (xP x.kind a b c d) w:=fun a b c d w=>QP _ hk.1 hk.2 a b c d w
 have ix':∀w,(Instr.index 219 (.agg #[.string ⟨#[106,117,110,107]⟩,.string ⟨#[112,117,116]⟩,.string ⟨#[100,114,111,112]⟩,.string ⟨#[114,105,110,103]⟩]) (.int .i64 x.kind)).run prog w=.ok (dC (lN x)) w:=fun w=>by
  rw[QH _ hk.1 hk.2,JP]
 clear hc hk;go_enter func172,ntmps172;go_wp2_with fail;refine Calls.mono (dG x.kind x.job x.every x.time x.client _) ?_;rintro e w1⟨rfl,b⟩;rw[show aG ⟨x.kind,x.job,x.every,x.time,x.client⟩=0 from HC.out];have on:aA w w1:=aA.to ((aA.Zz w).new _) b;have c0:w1.cell? ⟨w.heap.size,0,none⟩=some (.int .i64 x.kind):=aB b (by simp[go_sem]);have c1:w1.cell? ⟨w.heap.size,1,none⟩=some (.int .i64 x.job):=aB b (by simp[go_sem]);have c2:w1.cell? ⟨w.heap.size,2,none⟩=some (.int .i64 x.every):=aB b (by simp[go_sem]);have c3:w1.cell? ⟨w.heap.size,3,none⟩=some (.int .i64 x.time):=aB b (by simp[go_sem]);have c4:w1.cell? ⟨w.heap.size,4,none⟩=some (.int .i64 x.client):=aB b (by simp[go_sem]);have E1:=E.oe on;clear b;generalize w.heap.size=z at *;have k11:∀o,(w1.alloc o).cell? ⟨z,1,none⟩=some (.int .i64 x.job):=fun o=>fS c1 o
 have k12:∀o,(w1.alloc o).cell? ⟨z,2,none⟩=some (.int .i64 x.every):=fun o=>fS c2 o
 have k13:∀o,(w1.alloc o).cell? ⟨z,3,none⟩=some (.int .i64 x.time):=fun o=>fS c3 o
 have k21:∀o p,((w1.alloc o).alloc p).cell? ⟨z,1,none⟩=some (.int .i64 x.job):=fun o p=>fS (fS c1 o) p
 have k31:∀o p q,(((w1.alloc o).alloc p).alloc q).cell? ⟨z,1,none⟩=some (.int .i64 x.job):=fun o p q=>fS (fS (fS c1 o) p) q
 have k33:∀o p q,(((w1.alloc o).alloc p).alloc q).cell? ⟨z,3,none⟩=some (.int .i64 x.time):=fun o p q=>fS (fS (fS c3 o) p) q
 have k34:∀o p q,(((w1.alloc o).alloc p).alloc q).cell? ⟨z,4,none⟩=some (.int .i64 x.client):=fun o p q=>fS (fS (fS c4 o) p) q
 have k40:∀o p q r,((((w1.alloc o).alloc p).alloc q).alloc r).cell? ⟨z,0,none⟩=some (.int .i64 x.kind):=fun o p q r=>fS (fS (fS (fS c0 o) p) q) r
 go_upto_region 6 with fail
 obtain⟨A, hA, sA⟩ : ∃A, xP x.kind (.slice (some ⟨w1.heap.size, 0, none⟩) 0 0) (.slice (some ⟨w1.heap.size + 1, 0, none⟩) 3 3) (.slice (some ⟨w1.heap.size + 1 + 1, 0, none⟩) 1 1) (.slice (some ⟨w1.heap.size + 1 + 1 + 1, 0, none⟩) 3 3) = .slice A (fJ x).length (fJ x).length ∧
     S ((((w1.alloc (Obj.cells #[] 3)).alloc (Obj.cells #[x.job,x.every,x.time] 3)).alloc (Obj.cells #[x.job] 3)).alloc (Obj.cells #[x.job,x.time,x.client] 3)) 1 A (fJ x).length ((fJ x).map iW):=by
  unfold xP fJ;by_cases h1:x.kind=1
  · rw[if_pos h1,if_pos h1];exact⟨_,rfl,S.ints (t:=3) (LA (LA (mM (by simp))))⟩
  rw[if_neg h1,if_neg h1];by_cases h2:x.kind=2
  · rw[if_pos h2,if_pos h2];exact⟨_,rfl,S.ints (t:=3) (LA (mM (by simp)))⟩
  rw[if_neg h2,if_neg h2];by_cases h3:x.kind=3
  · rw[if_pos h3,if_pos h3];exact⟨_,rfl,S.ints (t:=3) (mM (by simp))⟩
  rw[if_neg h3,if_neg h3];exact⟨_,rfl,Sl.nil⟩
 have oz:aA w1 ((((w1.alloc (Obj.cells #[] 3)).alloc (Obj.cells #[x.job,x.every,x.time] 3)).alloc (Obj.cells #[x.job] 3)).alloc (Obj.cells #[x.job,x.time,x.client] 3)):=((((aA.Zz w1).new _).new _).new _).new _;replace on:=aA.to on oz;replace E1:=E1.oe oz;rw[hA];clear hA c0 c1 c2 c3 c4 k11 k12 k13 k21 k31 k33 k34 k40 oz;generalize((((w1.alloc (Obj.cells #[] 3)).alloc (Obj.cells #[x.job,x.every,x.time] 3)).alloc (Obj.cells #[x.job] 3)).alloc (Obj.cells #[x.job,x.time,x.client] 3))=w5 at *;generalize w1.heap.size=z1;obtain⟨n,hn⟩:∃n,n=(fJ x).length:=⟨_,rfl⟩
 rw[←hn]at sA⊢;have HN:=aH hn;have hbd:=jD HC.out;have HB:=aH hbd;clear hn hbd;go_wp2_with fail
 go_loopg [6,8,42] n (fun g s6 s8 s42 wr=>∃kk:Nat,kk≤n∧n-kk≤g∧s42=.int .i64 kk∧s6=dC (lN x ++gG ((fJ x).take kk))∧aA w wr∧aA w5 wr)
 case atStart=>exact⟨0,Nat.zero_le _,by omega,rfl,by simp[gG],on,aA.Zz _⟩
 case round =>
  obtain⟨kk,hkk,hg,rfl,rfl,hon,h5⟩:=hrel;have hn3:n≤3:=by rw[HN.out];unfold fJ;(repeat' split)<;>simp
  have ER:=E1.oe h5;have sR:=S.oe sA h5;by_cases hlt:kk<n
  · obtain⟨bb,off,y,rfl,hb,hy,d0⟩:=Sl.atI sR hlt;have HY:=aH hy;have hyb:=HB.out y (List.mem_of_getElem? hy);clear hy sR;obtain⟨T,hT⟩:∃T,T=lN x ++gG ((fJ x).take kk):=⟨_,rfl⟩
    rw[←hT];have HT:=aH hT;clear hT;go_wp2_with fail;refine Calls.mono (dX y (by omega) (by omega) _ ER) ?_;rintro e w6⟨rfl,b⟩;have hl1:=Lib.itoa_length_le y (by omega) (by omega)
    have hl2:T.length≤100:=by
     have h1:=pR HC.out
     have h2:(gG ((fJ x).take kk)).length≤(gG (fJ x)).length:=by
      have e:gG (fJ x)=gG ((fJ x).take kk) ++gG ((fJ x).drop kk):=by
       unfold gG;rw[←List.flatten_append,←List.map_append,List.take_append_drop]
      rw[e,List.length_append];omega
     rw[HT.out];unfold gC at h1;rw[List.length_append]at h1⊢;omega
    have s1:∀w,(Op.stringOp .add ⟨#[32]⟩ ⟨(Lib.itoa y).toArray⟩).run prog w=.ok (dC (32 ::Lib.itoa y)) w:=fun w=>run_string_add_lists w [32] (Lib.itoa y) (by simp) (by omega)
    have s2:∀w,(Op.stringOp .add ⟨T.toArray⟩ ⟨(32 ::Lib.itoa y).toArray⟩).run prog w=.ok (dC (T ++32 ::Lib.itoa y)) w:=fun w=>run_string_add_lists w T _ (by omega) (by simp;omega)
    clear hl1 hl2;go_wp2_with fail;go_roundg (n-(kk+1))
    case measure=>omega
    case rel =>
     refine⟨kk+1,by omega,by omega,by go_num,?_,hon.to b,h5.to b⟩;rw[HT.out,IL HY.out,List.append_assoc]
  have hkn:kk=n:=by omega
  subst hkn
  have e:lN x ++gG ((fJ x).take kk)=gC x:=by
   rw[HN.out,List.take_length];rfl
  rw[e];clear e sR sA;go_wp2;refine bodyPost_ret (v:=.tuple #[dC (gC x),()]) (by simp[results,results172,go_sem]) rfl ⟨rfl,hon⟩
theorem AU (x : aL)(w : World)(E : fR w) :
    Calls prog 172 #[.agg #[x.kind,x.job,x.every,x.time,x.client]] w fun e w'=>e=.returned (.tuple #[dC (vP x).1,.int .i64 (vP x).2])∧aA w w':=by
 unfold vP;by_cases hc:aG x=0
 · rw[if_neg (by simp[hc])];exact JO x w E hc
 rw[if_pos hc];exact GP x w hc
end
section
def cA (b:UInt8):List Value:=[.int .u8 b.toNat]
theorem eY (l:List UInt8):∀r∈l.map cA,∀u∈r,u.oneCell'=true:=by
 intro r hr u hu;obtain⟨x,_,rfl⟩:=List.mem_map.1 hr;simp[cA]at hu;rcases hu with rfl<;>rfl
theorem Sl.atB {w:World}{B n:Nat}{A:Option Addr}{l:List UInt8}(h:Sl w B 1 A n (l.map cA)){i:Nat}(hi:i<n):∃b off x,A=some ⟨b,off,none⟩∧b<B∧l[i]?=some x∧w.cell? ⟨b,off+i,none⟩=some (.int .u8 x.toNat):=by
 obtain⟨b,off,x,e,hb,hx,hc⟩:=h.at_ hi;exact⟨b,off,x,e,hb,hx,by simpa using hc 0 _ rfl⟩
theorem PW (l:List UInt8):strOfNums (l.map fun b=>(b.toNat:Int))=⟨l.toArray⟩:=by
 unfold strOfNums;simp only[List.map_map];rw[show((fun n:Int=>UInt8.ofNat n.toNat)∘fun b:UInt8=>(b.toNat:Int))=id from by funext b;simp,List.map_id]
theorem jT {w:World}{B n c:Nat}{A:Option Addr}{l:List UInt8}(h:Sl w B 1 A n (l.map cA)):(convert 51 9 (.slice A n c)).run prog w=.ok (dC l) w:=by
 have hl:l.length=n:=by have:=h.1;simpa using this
 rcases Nat.eq_zero_or_pos n with h0|h0
 · subst h0;have hl0:l=[]:=List.eq_nil_of_length_eq_zero hl;subst hl0
   cases A with
   |none=>exact run_convert_bytes_nil w 51 5 underlying51 underlying5 0 c 9 underlying9
   |some a =>
     rw[run_convert_bytes_string w 51 9 5 _ 0 c underlying51 underlying5 underlying9,run_bytesToString w a 0 c [] (by simpa using run_loadCells_list (P:=prog) w a [] (by simp))];rfl
 obtain⟨b,off,e,_,hc⟩:=h.2.2 h0;subst e
 have:=run_convert_bytes_arg (P:=prog) w 51 5 underlying51 underlying5 b off n c (l.map fun b=>(b.toNat:Int)) (by simp[hl]) (fun i hi=>by
  have hi':i<l.length:=by omega
  have:=hc i 0 (cA l[i]) (.int .u8 l[i].toNat) (by simp[List.getElem?_eq_getElem hi']) rfl
  simpa[List.getD,List.getElem?_eq_getElem hi']using this) 9 underlying9
 rw[this,PW]
set_option maxHeartbeats 1000000 in
theorem kT (A A' : Option Addr)(n m c d B : Nat)(l l' : List UInt8)(w : World)(h : Sl w B 1 A n (l.map cA))(h' : Sl w B 1 A' m (l'.map cA))(hn : n ≤ 9223372036854775807) :
    Calls prog 84 #[.slice A n c,.slice A' m d] w fun e w'=>e=.returned (.bool (decide (l=l')))∧∃q,w'=w.drewN q:=by
 by_cases hnm:n=m
 · subst hnm;go_enter func84,ntmps84;go_wp2
   go_loopg [13] n (fun g s13 wr=>∃kk q:Nat,kk≤n∧n-kk≤g∧s13=.int .i64 kk∧wr=w.drewN q∧Hid (∀j,j<kk→l[j]?=l'[j]?))
   case atStart=>exact⟨0,0,Nat.zero_le _,by omega,rfl,rfl,fun j hj=>absurd hj (Nat.not_lt_zero _)⟩
   case round =>
    obtain⟨kk,q,hkk,hg,rfl,rfl,H⟩:=hrel;by_cases hlt:kk<n
    · obtain⟨b,off,x,rfl,hb,hx,c0⟩:=h.atB hlt;obtain⟨b',off',x',rfl,hb',hx',d0⟩:=h'.atB hlt;have HX:=aH hx;have HX':=aH hx';clear hx hx';clear h h';go_wp2_with fail;go_quiet (fail);go_wp2
      · go_ret;refine⟨?_,q+nq,by simp⟩
        have hd:l≠l':=by
         rintro rfl;have:=HX.out.symm.trans HX'.out;simp at this;subst this;simp_all
        simp[hd]
      go_roundg (n-(kk+1))
      case measure=>omega
      case rel =>
       refine⟨kk+1,q+nq,by omega,by omega,by go_num,by simp,?_⟩;intro j hj;by_cases e:j=kk
       · subst e;rw[HX.out,HX'.out];congr 1;simp_all;refine UInt8.toNat_inj.1 ?_;omega
       exact H.out j (by omega)
    have:kk=n:=by omega
    subst this;have hl:=h.len;have hl':=h'.len;simp at hl hl';have he:l=l':=jX (by omega) (fun j hj=>H.out j (by omega));clear h h' hl hl';go_wp2;go_ret;refine⟨by simp[he],q,rfl⟩
 have hnm':¬ (n:Int)=(m:Int):=by omega
 have hd:l≠l':=by
  rintro rfl;exact hnm (h.len.symm.trans h'.len)
 clear h h';go_enter func84,ntmps84;go_wp2;go_ret;exact⟨by simp[hd],0,rfl⟩
end
section
theorem DA (A : Option Addr)(n c base : Nat)(l : List dB)(g : FuncId)(lb : Array Value)(cf : dB → dB → Int)(w : World)(h : M w base 3 A n (l.map bX))(hn : n ≤ 12)
    (eg:∀args w,(callFunc g args).run prog w=.ok (.enter g args) w)
    (hp:∀ (x y:dB)(w':World),x∈l→y∈l→Calls prog g (#[.agg #[x.id,x.every,x.next],.agg #[y.id,y.every,y.next]] ++lb) w' fun e w''=>e=.returned (.int .i64 (cf x y))∧aA w' w'') :
    Calls prog 188 #[.slice A n c,(),n,.func (.func g) #[] lb] w fun e w'=>e=.returned (.tuple #[]) ∧
     M w' base 3 A n ((gM (fun x y=>decide (cf x y<0)) l).map bX)∧w.grownBy w' (A.map (·.block)):=by
 have hl:l.length=n:=by have:=h.1.len;simpa using this
 have hp':=aH hp;have HL:=aH hl;clear hp hl;go_enter func188,ntmps188;go_wp2_with fail
 go_loopw [8,9] (fun s s9 wr=>∃i:Nat,1≤i∧(i≤n∨i=1)∧s=.int .i64 i∧M wr base 3 A n ((gM (fun x y=>decide (cf x y<0)) (l.take i) ++l.drop i).map bX)∧w.grownBy wr (A.map (·.block))) (fun s _ _=>n-(intOf s).toNat)
 case atStart =>
  refine⟨1,by omega,by omega,rfl,?_,World.grownBy.refl _ _⟩
  have e:gM (fun x y=>decide (cf x y<0)) (l.take 1) ++l.drop 1=l:=by
   cases l with
   |nil=>rfl
   |cons x l=>simp[gM,mZ,BS]
  rw[e];exact h
 case round =>
  obtain⟨i,hi1,hin,rfl,hM,hg⟩:=hrel;by_cases hlt:i<n
  · obtain⟨wo,rfl⟩:∃wo:World,wo=wr:=⟨_,rfl⟩
    have hil:i<l.length:=by have:=HL.out;omega
    have hx:l[i]?=some l[i]:=List.getElem?_eq_getElem hil;obtain⟨S,hS⟩:∃S,S=gM (fun x y=>decide (cf x y<0)) (l.take i):=⟨_,rfl⟩
    obtain⟨x,hxx⟩:∃x,x=l[i]:=⟨_,rfl⟩
    rw[←hxx]at hx;have hSl:S.length=i:=by rw[hS,rX,List.length_take,HL.out];omega
    rw[←hS]at hM
    have hst:S ++l.drop i=gT S x (l.drop (i+1)) i:=by
     unfold gT;rw[←hSl,List.take_length,List.drop_length,hSl,hxx,List.drop_eq_getElem_cons (by have:=HL.out;omega)];simp
    rw[hst]at hM;have HX:=aH hx;have HS:=aH hS;have HSl:=aH hSl;clear hx hS hSl hst hxx h;go_wp2_with fail
    go_loopw [9] (fun s wr=>∃j:Nat,j≤i∧s=.int .i64 j∧M wr base 3 A n ((gT S x (l.drop (i+1)) j).map bX)∧wo.grownBy wr (A.map (·.block))∧Hid (∀y∈S.drop j,decide (cf x y<0)=true)) (fun s _=>(intOf s).toNat)
    case atStart=>exact⟨i,by omega,rfl,hM,World.grownBy.refl _ _,by show∀y∈_,_;rw[List.drop_eq_nil_of_le (by rw[HSl.out];omega)];simp⟩
    case round =>
     clear hM;obtain⟨j,hj,rfl,hM,hg',HJ⟩:=hrel;by_cases h0:0<j
     · obtain⟨j,rfl⟩:∃j',j=j'+1:=⟨j-1,by omega⟩
       obtain⟨b,off,x',rfl,hb,hx',c0,c1,c2⟩:=hM.1.atJ (i:=j+1) (by omega);obtain rfl:x=x':=by rw[FW (by rw[HSl.out];omega)]at hx';injection hx'
       obtain⟨y,hy⟩:∃y,S[j]?=some y:=⟨_,List.getElem?_eq_getElem (show j<S.length by rw[HSl.out];omega)⟩
       obtain⟨b',off',y',hA',hb',hy',d0,d1,d2⟩:=hM.1.atJ (i:=j) (by omega);injection hA' with hA';injection hA' with e1 e2 _;subst e1;subst e2;obtain rfl:y=y':=by have e:=yK (x:=x) (rest:=l.drop (i+1)) (j:=j+1) (by rw[HSl.out];omega) (by omega) hy;rw[Nat.add_sub_cancel]at e;rw[e]at hy';injection hy'
       have HY:=aH hy;have HXm:=aH (List.mem_of_getElem? HX.out);have HYm:Hid (y∈l):=List.mem_of_mem_take ((wI _ _).mem_iff.1 (by rw[←HS.out];exact List.mem_of_getElem? hy));clear hx' hy' hy;have hjn:(j:Int)<(n:Int):=by omega
       have hjn1:(j:Int)+1<(n:Int):=by omega
       have hj1:(0:Int)<(j:Int)+1:=by omega
       have k0:=aC c0;have k1:=aC c1;have k2:=aC c2;have l0:=aC d0;have l1:=aC d1;have l2:=aC d2
       cases hc:decide (cf x y<0)with
       |true =>
         go_wp2_with fail;refine aS (by kernel_rfl) (by kernel_rfl) ?_
         repeat(go_big_quiet_step (exact dO (hp'.out x y _ HXm.out HYm.out)))
         refine wpQuiet_nil ?_;intro w1 hb1;have z0:=aB hb1 c0;have z1:=aB hb1 c1;have z2:=aB hb1 c2;have y0:=aB hb1 d0;have y1:=aB hb1 d1;have y2:=aB hb1 d2;have hM1:=hM.oe hb1;have hU:rE w1 b:=by obtain⟨b',off',e,_,hU⟩:=hM1.2 (by omega);injection e with e;injection e with e1 e2 _;subst e1;exact hU
         have fz:=hU.frozen;clear k0 k1 k2 l0 l1 l2 c0 c1 c2 d0 d1 d2 hb hb';go_wp2_with fail;go_region;have hnl:(gT S x (l.drop (i+1)) (j+1)).length=n:=by have:=hM.1.len;simpa using this
         have hM2:=((hM1.putJ (i:=j+1) (by omega) y).putJ (i:=j) (by omega) x).draw;have e:=BY (x:=x) (rest:=l.drop (i+1)) (j:=j+1) (by rw[HSl.out];omega) (by omega) HY.out;rw[Nat.add_sub_cancel]at e;rw[e]at hM2;clear e;have hg2:=ND (lD (lD (lD (lD (lD (lD (kU hg' hb1) (p:=⟨b,off+(j+1)*3,none⟩) rfl (.int .i64 y.id)) (p:=⟨b,off+(j+1)*3+1,none⟩) rfl (.int .i64 y.every)) (p:=⟨b,off+(j+1)*3+2,none⟩) rfl (.int .i64 y.next)) (p:=⟨b,off+j*3,none⟩) rfl (.int .i64 x.id)) (p:=⟨b,off+j*3+1,none⟩) rfl (.int .i64 x.every)) (p:=⟨b,off+j*3+2,none⟩) rfl (.int .i64 x.next));have HC:=aH hc;clear hM hM1 hnl hU fz z0 z1 z2 y0 y1 y2 hb1 hg' hc;go_wp2_with fail
         go_roundw
         case measure=>simp[intOf]<;>omega
         case rel =>
          refine⟨j,by omega,by first|rfl|go_num,hM2,hg2,fun y' hy'=>?_⟩;obtain⟨hjl,rfl⟩:=List.getElem?_eq_some_iff.1 HY.out;rw[List.drop_eq_getElem_cons hjl]at hy';rcases List.mem_cons.1 hy' with rfl|hy'
          · exact HC.out
          exact HJ.out y' hy'
       |false =>
         have HC:=aH hc
         have hfin:S.take (j+1) ++[x] ++S.drop (j+1)=gM (fun x y=>decide (cf x y<0)) (l.take (i+1)):=by
          rw[wA HX.out,←HS.out];unfold mZ
          rw[AF (j:=j+1) (by rw[HSl.out];omega) HJ.out (fun y' _ hy'=>by
           rw[Nat.add_sub_cancel,HY.out]at hy';injection hy' with hy';subst hy'
           exact hc)]
         have HF:=aH hfin;clear hfin;go_wp2_with fail;refine aS (by kernel_rfl) (by kernel_rfl) ?_
         repeat(go_big_quiet_step (exact dO (hp'.out x y _ HXm.out HYm.out)))
         refine wpQuiet_nil ?_;intro w1 hb1;have hM1:=hM.oe hb1;unfold gT at hM1;rw[HF.out]at hM1;have hg2:=xQ hg (kU hg' hb1);clear hM hc c0 c1 c2 d0 d1 d2 k0 k1 k2 l0 l1 l2 hb hb' hg' hb1;go_wp2_with fail
         go_roundw
         case measure=>simp[intOf];omega
         case rel=>exact⟨i+1,by omega,by omega,by go_num,hM1,hg2⟩
     obtain rfl:j=0:=by omega
     have hfin:S.take 0 ++[x] ++S.drop 0=gM (fun x y=>decide (cf x y<0)) (l.take (i+1)):=by
      rw[wA HX.out,←HS.out];unfold mZ;rw[AF (j:=0) (by omega) HJ.out (fun y' h _=>by omega)]
     have HF:=aH hfin;clear hfin;go_wp2_with fail;go_quiet (fail);have hM1:=hM.Zv nq;unfold gT at hM1;rw[HF.out]at hM1;have hg2:=xQ hg (MB hg' nq);clear hM hg';go_wp2_with fail
     go_roundw
     case measure=>simp[intOf];omega
     case rel=>exact⟨i+1,by omega,by omega,by go_num,hM1,hg2⟩
  have hfin:gM (fun x y=>decide (cf x y<0)) (l.take i) ++l.drop i=gM (fun x y=>decide (cf x y<0)) l:=by
   rw[List.take_of_length_le (by rw[HL.out];omega),List.drop_eq_nil_of_le (by rw[HL.out];omega),List.append_nil]
  rw[hfin]at hM;clear hfin h;go_wp2_with fail
  go_end0
  exact⟨rfl,hM,hg⟩
end
end Go.Proofs.YtpfkagghooihfaaGreatDoor
