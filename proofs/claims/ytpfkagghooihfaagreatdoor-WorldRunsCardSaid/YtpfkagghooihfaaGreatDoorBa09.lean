/- Part 9. -/
import Derived.Test.YtpfkagghooihfaaGreatDoorBa03
import Derived.Deep.DrawnRows
import Derived.Test.YtpfkagghooihfaaGreatDoorBa04
namespace Go.Proofs.YtpfkagghooihfaaGreatDoor
set_option linter.unusedSimpArgs false
set_option linter.unusedVariables false
set_option maxHeartbeats 2000000
set_option maxRecDepth 100000
open Go.Proofs.Tryz
open Go.RowKit
section
theorem xE {α:Type}{a b:α}{w w':World}(h:Result.ok a w=Result.ok b w'):a=b:=by injection h
theorem PT:∀s:List UInt8,(s.map cA).flatten=Lib.strCells ⟨s.toArray⟩
 | []=>rfl
 |b ::s=>by
   rw[List.map_cons,List.flatten_cons,PT s];rfl
section
variable {P:Program}(w:World)
theorem EH (base : Nat)(t u ty e : TypeId)(i : TypeInfo)(ht : P.underlying t = some (.slice e))(hu : P.underlying u = some .string)(hi : P.info? e = some i)(hz : i.zero = some (.int .u8 0))
    (hsize:i.size=1)(hby:i.bytes=1)(v:Value)(n:Nat)(rows:List (List Value))(hown:cH w base e 1 v n rows)(s:List UInt8)
    (h63:n+s.length≤maxLen)(hbytes:n+s.length≤140737488355328)(hbase:base≤w.heap.size) :
    ∃v' w',(Builtin.append_ #[t,u] ty #[v,dC s]).run P w=.ok v' w'∧cH w' base e 1 v' (n+s.length) (rows ++s.map cA)∧w.grownBy w' v.ownBlock∧(v'.ownBlock=v.ownBlock∨v'.ownBlock=some w.heap.size):=by
 have hsz:(⟨s.toArray⟩:ByteArray).size=s.length:=rfl;obtain⟨v',w',hr,h2,h3,h4⟩:=Lib.run_append_own_string (P:=P) w base t u ty e i ht hu hi hz hsize hby v n rows.flatten hown.1 ⟨s.toArray⟩ (by rw[hsz];exact h63) (by rw[hsz];exact hbytes) hbase;rw[hsz]at h2 h4;refine⟨v',w',hr,⟨?_,by simp[hown.2.1],?_⟩,h3,?_⟩
 · have e:(rows ++s.map cA).flatten=rows.flatten ++Lib.strCells ⟨s.toArray⟩:=by
    rw[List.flatten_append];rw[PT]
   rw[e];exact h2
 · intro r hr;rcases List.mem_append.1 hr with hr|hr
   · exact hown.2.2 r hr
   obtain⟨b,_,rfl⟩:=List.mem_map.1 hr;rfl
 rcases hown.1.2 with ⟨rfl,rfl⟩| ⟨g,cap,cur,rfl,hbg,hg,hnc,hcm,hcs,htake⟩
 · by_cases hm:s.length=0
   · left;rw[h4.2 ⟨rfl,hm⟩]
   right;have hr2:=run_append_nil_string (P:=P) w t u ty e i (.int .u8 0) ht hu hi hz ⟨s.toArray⟩ (by rw[hsz];omega) (by rw[hsz];omega) (by rw[hby,hsz];omega);rw[hr]at hr2;rw[xE hr2];rfl
 by_cases hroom:n+s.length≤cap
 · left;have hr2:=Lib.run_append_room_string (P:=P) w t u ty e i ht hu hi hsize g n cap cur hg ⟨s.toArray⟩ (by rw[hsz];exact hroom) (by rw[hsz,hcs];omega);rw[hr]at hr2;rw[xE hr2];rfl
 right;have holds:∀j u,rows.flatten[j]?=some u→w.cell? ((⟨g,0,none⟩:Addr).add j)=some u:=hown.1.cells (g:=g) rfl;have hr2:=Lib.run_append_grow_string (P:=P) w t u ty e i (.int .u8 0) ht hu hi hz ⟨g,0,none⟩ n cap rows.flatten (by rw[hsize];simpa using hown.1.1) holds ⟨s.toArray⟩ (by rw[hsz];omega) (by rw[hsz];unfold maxLen at h63;omega) (by rw[hby,hsz];exact growslice_fits (by omega) (by omega));rw[hr]at hr2;rw[xE hr2];rfl
theorem zZ {ops : Array Oper}{o : Oper}{a : Act}{K : Act → World → Prop}{Q : Exit → Act → World → Prop}{F : Prop}(hgd : o.guard = none)(sl x : Operand)(t u : TypeId)
    (ho:o.op=.call { callee:=.builtin .append,args:=#[sl,x],argTypes:=#[t,u] })
    (base:Nat) (e:TypeId) (i:TypeInfo) (ht:P.underlying t=some (.slice e)) (hu:P.underlying u=some .string) (hi:P.info? e=some i) (hz:i.zero=some (.int .u8 0))
    (hsize:i.size=1) (hby:i.bytes=1) (v:Value) (n:Nat) (rows:List (List Value)) (hs:a.eval sl=v) (hown:cH w base e 1 v n rows) (s:List UInt8) (hx:a.eval x=dC s)
    (h63:n+s.length≤maxLen) (hbytes:n+s.length≤140737488355328) (hbase:base≤w.heap.size)
    (h:∀v' w',cH w' base e 1 v' (n+s.length) (rows ++s.map cA)→w.grownBy w' v.ownBlock→(v'.ownBlock=v.ownBlock∨v'.ownBlock=some w.heap.size)→K (a.put o.dst v') w') :
    if Region.wanted o (yielded ops a.tmps)=true then Oper.wp P o a w K Q else F:=by
 rw[if_pos (by simp[Region.wanted,hgd])];obtain⟨v',w',hrun,h2,h3,h4⟩:=EH (P:=P) w base t u o.type e i ht hu hi hz hsize hby v n rows hown s h63 hbytes hbase;unfold Oper.wp execOp;simp only[ho,resolve,invoke,builtin,Sem.run_bind,Sem.run_pure,Result.andThen_ok,List.map_toArray,List.map_cons,List.map_nil,hs,hx,hrun];exact h v' w' h2 h3 h4
theorem DU {ops : Array Oper}{o : Oper}{a : Act}{K : Act → World → Prop}{Q : Exit → Act → World → Prop}{F : Prop}(hgd : o.guard = none)(s x : Operand)(t : TypeId)
    (ho:o.op=.call { callee:=.builtin .append,args:=#[s,x],argTypes:=#[t,t] })
    (base:Nat) (e:TypeId) (i:TypeInfo) (z:Value) (size bytes:Nat) (ht:P.underlying t=some (.slice e)) (hi:P.info? e=some i) (hz:i.zero=some z)
    (hsize:i.size=size) (hby:i.bytes=bytes) (hzs:z.cells.size=size) (hsz:0<size)
    (v:Value) (n:Nat) (rows:List (List Value)) (hs:a.eval s=v) (hown:cH w base e size v n rows)
    (B:Nat) (A:Option Addr) (m c:Nat) (news:List (List Value)) (hx:a.eval x=.slice A m c) (hr:Sl w B size A m news) (h1:∀r∈news,∀u∈r,u.oneCell'=true)
    (h63:n+m≤maxLen) (hbytes:(n+m)*bytes≤140737488355328) (hbase:base≤w.heap.size)
    (h:∀v' w',cH w' base e size v' (n+m) (rows ++news)→w.grownBy w' v.ownBlock→(v'.ownBlock=v.ownBlock∨v'.ownBlock=some w.heap.size)→K (a.put o.dst v') w') :
    if Region.wanted o (yielded ops a.tmps)=true then Oper.wp P o a w K Q else F:=by
 rw[if_pos (by simp[Region.wanted,hgd])];exact jA w s x t ho base e i z size bytes ht hi hz hsize hby hzs hsz v n rows hs hown B A m c news hx hr h1 h63 hbytes hbase h
end
theorem cH.kept1 {w w':World}{base E k n:Nat}{v:Value}{rows:List (List Value)}{row:Option Nat}(h:cH w base E k v n rows)(hg:w.grownBy w' row)(hne:∀b,v.ownBlock=some b→row≠some b):cH w' base E k v n rows :=
 h.kept hg (by
  cases e:v.ownBlock with
  |none=>exact .inl rfl
  |some b=>exact .inr fun e'=>hne b e e'.symm)
theorem cH.lt {w:World}{base E k n:Nat}{v:Value}{rows:List (List Value)}(h:cH w base E k v n rows):∀b,v.ownBlock=some b→base≤b∧b<w.heap.size:=h.1.lt
end
section
structure xV where
 v:Value
 e:Nat
 k:Nat
 n:Nat
 rows:List (List Value)
structure aF (w0 w:World)(L:List (Option xV)):Prop where
 own:∀ (i:Nat)(x:xV),L[i]?=some (some x)→cH w w0.heap.size x.e x.k x.v x.n x.rows
 apart:∀ (i j:Nat)(x y:xV)(b:Nat),i≠j→L[i]?=some (some x)→L[j]?=some (some y)→x.v.ownBlock=some b→y.v.ownBlock≠some b
 on:aA w0 w
section
variable {w0 w w':World}{L:List (Option xV)}
theorem aF.start (w0:World)(k:Nat):aF w0 w0 (List.replicate k none) :=
 ⟨fun i x h=>by rw[List.getElem?_replicate]at h;split at h<;>simp at h,fun i j x y b _ h=>by rw[List.getElem?_replicate]at h;split at h<;>simp at h,aA.Zz _⟩
theorem aF.to (h:aF w0 w L)(hb:aA w w'):aF w0 w' L:=⟨fun i x hx=>(h.own i x hx).below hb,h.apart,h.on.to hb⟩
theorem aF.draw (h:aF w0 w L):aF w0 w.drew L:=h.to (aA.Zz w).draw
theorem aF.lt (h:aF w0 w L){i:Nat}{x:xV}(hx:L[i]?=some (some x)){b:Nat}(hb:x.v.ownBlock=some b):w0.heap.size≤b∧b<w.heap.size:=(h.own i x hx).lt b hb
theorem aF.put (h : aF w0 w L){i : Nat}(hi : i < L.length){x : xV}(ho : cH w' w0.heap.size x.e x.k x.v x.n x.rows)(hk : ∀ (j : Nat)(y : xV), j ≠ i → L[j]? = some (some y) → cH w' w0.heap.size y.e y.k y.v y.n y.rows)
    (hd:∀ (j:Nat)(y:xV)(b:Nat),j≠i→L[j]?=some (some y)→x.v.ownBlock=some b→y.v.ownBlock≠some b)(ht:aA w0 w'):aF w0 w' (L.set i (some x)):=by
 refine⟨fun j y hy=>?_,fun j k y z b hjk hy hz hb=>?_,ht⟩
 · rw[List.getElem?_set]at hy;by_cases e:i=j
   · subst e;rw[if_pos rfl,if_pos hi]at hy;injection hy with hy;injection hy with hy;subst hy;exact ho
   rw[if_neg e]at hy;exact hk j y (fun e'=>e e'.symm) hy
 rw[List.getElem?_set]at hy hz;by_cases e:i=j
 · subst e;rw[if_pos rfl,if_pos hi]at hy;injection hy with hy;injection hy with hy;subst hy;rw[if_neg hjk]at hz;exact hd k z b (fun e'=>hjk e'.symm) hz hb
 rw[if_neg e]at hy;by_cases e':i=k
 · subst e';rw[if_pos rfl,if_pos hi]at hz;injection hz with hz;injection hz with hz;subst hz;intro hc;exact hd j y b (fun e'=>e e'.symm) hy hc hb
 rw[if_neg e']at hz;exact h.apart j k y z b hjk hy hz hb
theorem aF.add (h:aF w0 w L){i:Nat}(hi:i<L.length){E k n:Nat}{v:Value}{rows:List (List Value)}(ho:cH w' w.heap.size E k v n rows)(hb:aA w w'):aF w0 w' (L.set i (some ⟨v,E,k,n,rows⟩)) :=
 h.put hi (ho.lower h.on.size) (fun j y _ hy=>(h.own j y hy).below hb) (fun j y b _ hy e hc=>by have h1:=(ho.lt b e).1;have h2:=(h.lt hy hc).2;omega) (h.on.to hb)
theorem aF.app (h : aF w0 w L){i : Nat}{x : xV}(hx : L[i]? = some (some x)){E k n : Nat}{v : Value}{rows : List (List Value)}(ho : cH w' w0.heap.size E k v n rows)(hg : w.grownBy w' x.v.ownBlock)
    (hv:v.ownBlock=x.v.ownBlock∨v.ownBlock=some w.heap.size):aF w0 w' (L.set i (some ⟨v,E,k,n,rows⟩)) :=
 h.put (List.getElem?_eq_some_iff.1 hx).1 ho (fun j y e hy=>(h.own j y hy).kept1 hg fun b hb hc=>h.apart i j x y b (fun e'=>e e'.symm) hx hy hc hb)
  (fun j y b e hy hb hc=>by
   rcases hv with hv|hv
   · rw[hv]at hb;exact h.apart i j x y b (fun e'=>e e'.symm) hx hy hb hc
   rw[hv]at hb;injection hb with hb;subst hb;have:=(h.lt hy hc).2;omega)
  (aT h.on h.on.size hg fun g hgg=>(h.lt hx hgg).1)
theorem aF.lit (h : aF w0 w L){i : Nat}(hi : i < L.length)(E k n : Nat)(rows : List (List Value))(cs : Array Value)(hc : cs.toList = rows.flatten)(hn : rows.length = n)(hk : ∀r ∈ rows, r.length = k)(hm : n ≤ maxLen) :
    aF w0 (w.alloc (.cells cs E)) (L.set i (some ⟨.slice (some ⟨w.heap.size,0,none⟩) n n,E,k,n,rows⟩)):=by
 have hl:rows.flatten.length=n*k:=by rw[aN hk,hn]
 have hcs:cs.size=n*k:=by rw[←Array.length_toList,hc,hl]
 exact h.add hi ⟨⟨hl,.inr ⟨w.heap.size,n,cs,rfl,Nat.le_refl _,heap_alloc_new w _,Nat.le_refl _,hm,hcs,by rw[hc,←hl];exact List.take_length⟩⟩,hn,hk⟩ ((aA.Zz w).new _)
theorem aF.litB (h:aF w0 w L){i:Nat}(hi:i<L.length)(b:UInt8):aF w0 (w.alloc (.cells #[.int .u8 b.toNat] 5)) (L.set i (some ⟨.slice (some ⟨w.heap.size,0,none⟩) 1 1,5,1,1,[cA b]⟩)) :=
 h.lit hi _ _ _ _ _ (by simp[cA]) rfl (by simp[cA]) (by simp[maxLen])
theorem aF.sl (h:aF w0 w L){i:Nat}{A:Option Addr}{E k m c:Nat}{rows:List (List Value)}(hx:L[i]?=some (some ⟨.slice A m c,E,k,m,rows⟩)):S w k A m rows:=(h.own i _ hx).sl
end
theorem lP {w0 w : World}{L : List (Option xV)}(LV : aF w0 w L)(i : Nat)(hi : i < L.length)(A : Option Addr)(n c : Nat)(l : List UInt8)(h : S w0 1 A n (l.map cA))(hn : n ≤ 140737488355328) :
    Calls prog 65 #[.slice A n c] w fun e w'=>∃A1 c1,e=.returned (.slice A1 n c1)∧aF w0 w' (L.set i (some ⟨.slice A1 n c1,5,1,n,l.map cA⟩)):=by
 refine Calls.mono (nP w A n c _ (Nat.le_refl _) (l.map cA) (h.oe LV.on) (eY _) (by omega)) ?_;rintro e w'⟨A1,c1,rfl,ho,hb⟩;exact⟨A1,c1,rfl,LV.add hi ho hb⟩
section
variable {ops:Array Oper}{o:Oper}{a:Act}{K:Act→World→Prop}{Q:Exit→Act→World→Prop}{F:Prop}{w0 w:World}{L:List (Option xV)}
theorem sM (LV : aF w0 w L)(hgd : o.guard = none)(sl x : Operand)(ho : o.op = .call { callee := .builtin .append, args := #[sl, x], argTypes := #[51, 9] })
    (i:Nat) (v:Value) (n:Nat) (rows:List (List Value)) (hs:a.eval sl=v) (hi:L[i]?=some (some ⟨v,5,1,n,rows⟩)) (s:List UInt8) (hx:a.eval x=dC s) (hbytes:n+s.length≤140737488355328)
    (h:∀A1 c1 w',aF w0 w' (L.set i (some ⟨.slice A1 (n+s.length) c1,5,1,n+s.length,rows ++s.map cA⟩))→K (a.put o.dst (.slice A1 (n+s.length) c1)) w') :
    if Region.wanted o (yielded ops a.tmps)=true then Oper.wp prog o a w K Q else F:=by
 obtain⟨i0,hi0,hz0,hz1,hz2⟩:=info_parts wS;refine zZ w hgd sl x 51 9 ho w0.heap.size 5 i0 underlying51 underlying9 hi0 hz0 hz1 hz2 v n rows hs (LV.own i _ hi) s hx (by unfold maxLen;omega) hbytes LV.on.size ?_;intro v' w' own grow hv;obtain⟨A1,c1,rfl,_,_⟩:=own.slice;exact h A1 c1 w' (LV.app hi own grow hv)
theorem gW (LV : aF w0 w L)(hgd : o.guard = none)(sl x : Operand)(t : TypeId)(ho : o.op = .call { callee := .builtin .append, args := #[sl, x], argTypes := #[t, t] })
    (E k by_:Nat) (z:Value) (hinfo:(prog.info? E).map (fun i=>(i.zero,i.size,i.bytes))=some (some z,k,by_)) (ht:prog.underlying t=some (.slice E)) (hzs:z.cells.size=k) (hk:0<k)
    (i:Nat) (v:Value) (n:Nat) (rows:List (List Value)) (hs:a.eval sl=v) (hi:L[i]?=some (some ⟨v,E,k,n,rows⟩)) (A:Option Addr) (m c:Nat) (news:List (List Value)) (hx:a.eval x=.slice A m c) (hr:S w k A m news) (h1:∀r∈news,∀u∈r,u.oneCell'=true)
    (h63:n+m≤maxLen) (hbytes:(n+m)*by_≤140737488355328)
    (h:∀A1 c1 w',aF w0 w' (L.set i (some ⟨.slice A1 (n+m) c1,E,k,n+m,rows ++news⟩))→K (a.put o.dst (.slice A1 (n+m) c1)) w') :
    if Region.wanted o (yielded ops a.tmps)=true then Oper.wp prog o a w K Q else F:=by
 obtain⟨i0,hi0,hz0,hz1,hz2⟩:=info_parts hinfo;refine DU w hgd sl x t ho w0.heap.size E i0 z k by_ ht hi0 hz0 hz1 hz2 hzs hk v n rows hs (LV.own i _ hi) w.heap.size A m c news hx hr h1 h63 hbytes LV.on.size ?_;intro v' w' own grow hv;obtain⟨A1,c1,rfl,_,_⟩:=own.slice;exact h A1 c1 w' (LV.app hi own grow hv)
end
end
section
set_option maxHeartbeats 2000000 in
theorem gY (A A' : Option Addr)(n c m d B : Nat)(jobs : List dB)(rung : List iO)(w : World)(h : Sl w B 3 A n (jobs.map bX))(h' : Sl w B 3 A' m (rung.map dN))(hB : B ≤ w.heap.size) :
    Calls prog 82 #[.agg #[.slice A n c,.slice A' m d]] w fun e w'=>e=.returned (.int .i64 (cF ⟨jobs,rung⟩))∧Below w.heap.size w w':=by
 have hn:=h.len;have hm:=h'.len;simp at hn hm;by_cases hbig:6<n∨60<m
 · have hs:cF ⟨jobs,rung⟩=2:=by
    unfold cF;rw[if_pos (by simp only;omega)]
   have HS:=aH hs;have HB:=aH hbig;clear hbig hs hn hm h h';by_cases h6:6<n
   all_goals
    go_enter func82,ntmps82;go_wp2_with fail
    any_goals
     go_ret;exact⟨aO HS.out.symm,(Below.refl _ _).alloc (Nat.le_refl _) _⟩
   have:=HB.out;exfalso;omega
 have hn6:n≤6:=by omega
 have hm6:m≤60:=by omega
 have hs:cF ⟨jobs,rung⟩=if dA (-1) jobs=0 then dW rung else dA (-1) jobs:=by
  unfold cF;rw[if_neg (by simp only;omega)]
 have HS:=aH hs;clear hbig hs hn hm;go_enter func82,ntmps82;go_wp2
 go_loopw [20] (fun s wr=>∃k:Nat,k≤n∧s=.int .i64 k∧Below (w.heap.size+1) (w.alloc (Obj.cells #[.slice A n c,.slice A' m d] 66)) wr∧Hid (dA (-1) jobs=dA (qW jobs k) (jobs.drop k))) (fun s _=>n-(intOf s).toNat)
 case atStart=>exact⟨0,by omega,rfl,Below.refl _ _,by simp[Hid,qW]⟩
 case round =>
  obtain⟨k,hk,rfl,hbel,HJ⟩:=hrel;have c0:wr.cell? ⟨w.heap.size,0,none⟩=some (.slice A n c):=(hbel.cell (p:=⟨w.heap.size,0,none⟩) (by simp)).trans (by simp);have c1:wr.cell? ⟨w.heap.size,1,none⟩=some (.slice A' m d):=(hbel.cell (p:=⟨w.heap.size,1,none⟩) (by simp)).trans (by simp);by_cases hlt:k<n
  · have hr:=(h.keep (w':=w.alloc (Obj.cells #[.slice A n c,.slice A' m d] 66)) fun p hp=>World.cell?_alloc_lt w _ p (by omega)).below (hbel.mono (by omega));obtain⟨b,off,x,rfl,hb,hx,e0,e1,e2⟩:=hr.atJ hlt
    have p0:0<k→∃y,jobs[k-1]?=some y∧wr.cell? ⟨b,off+(k-1)*3,none⟩=some (.int .i64 y.id):=by
     intro hp;obtain⟨b',off',y,e',_,hy,e0',_,_⟩:=hr.atJ (i:=k-1) (by omega);injection e' with e';injection e' with e1 e2 _;subst e1;subst e2;exact⟨y,hy,e0'⟩
    have HX:=aH hx;clear h h' hx hr;have hb0:Below w.heap.size w wr:=((Below.refl _ _).alloc (Nat.le_refl _) _).trans (hbel.mono (by omega));have hz:w.heap.size<wr.heap.size:=by have:=hbel.size;simp at this;omega
    have hzb:b<wr.heap.size:=by omega
    go_wp2_with fail
    any_goals
     go_ret;have hbj:eX x:=by unfold eX;omega
     refine⟨aO (by rw[HS.out,HJ.out,eH HX.out,if_pos hbj];simp),?_⟩
     repeat(first|exact hb0|refine Below.alloc ?_ (by have:=hb0.size;simp<;>omega) _)
    have hgood:¬eX x:=by unfold eX;omega
    have HG:=aH hgood;clear hgood;rcases Nat.eq_zero_or_pos k with rfl|hpos
    · clear p0;go_quiet (fail);go_wp2
      go_roundw
      case measure=>simp[intOf];omega
      case rel =>
       refine⟨1,by omega,rfl,?_,?_⟩
       · repeat(first|exact hbel|refine bV ?_ _|refine Below.setCell ?_ (by simp<;>omega) _|refine Below.alloc ?_ (by have:=hbel.size;simp at this;simp<;>omega) _)
       show _=_
       have h0:¬x.id≤-1:=by have:=HG.out;unfold eX at this;omega
       rw[HJ.out,eH HX.out,if_neg HG.out,if_neg (show¬x.id≤qW jobs 0 from h0)];simp[qW,HX.out]
    obtain⟨y,hy,ey⟩:=p0 hpos;have HY:=aH hy;have hpos':(0:Int)<(k:Int):=by omega
    clear hy p0
    have ha:qW jobs k=y.id:=by
     obtain⟨k',rfl⟩:∃k',k=k'+1:=⟨k-1,by omega⟩
     have:=HY.out;simp only[Nat.add_sub_cancel]at this;simp[qW,this]
    have HA:=aH ha;clear ha;go_quiet (fail);go_wp2
    · go_ret;have hle:x.id≤y.id:=by assumption
      refine⟨aO (by rw[HS.out,HJ.out,eH HX.out,if_neg HG.out,HA.out,if_pos hle];simp),?_⟩
      repeat(first|exact hb0|refine bV ?_ _|refine Below.alloc ?_ (by have:=hb0.size;simp<;>omega) _)
    have hlt':y.id<x.id:=by assumption
    go_roundw
    case measure=>simp[intOf];omega
    case rel =>
     refine⟨k+1,by omega,by go_num,?_,?_⟩
     · repeat(first|exact hbel|refine bV ?_ _|refine Below.alloc ?_ (by have:=hbel.size;simp at this;simp<;>omega) _)
     show _=_
     rw[HJ.out,eH HX.out,if_neg HG.out,HA.out,if_neg (by omega)];simp[qW,HX.out]
  obtain rfl:k=n:=by omega
  have hj:cF ⟨jobs,rung⟩=dW rung:=by
   have h0:dA (-1) jobs=0:=by
    rw[HJ.out,List.drop_eq_nil_of_le (by have:=h.len;simp at this;omega)];rfl
   rw[HS.out,h0];rfl
  have HK:=aH hj;clear hj HJ HS;have hz0:w.heap.size<wr.heap.size:=by have:=hbel.size;simp at this;omega
  go_wp2
  go_loopw [71] (fun s ws=>∃j:Nat,j≤m∧s=.int .i64 j∧Below (w.heap.size+1) (w.alloc (Obj.cells #[.slice A k c,.slice A' m d] 66)) ws∧Hid (dW rung=dW (rung.drop j))) (fun s _=>m-(intOf s).toNat)
  case atStart=>exact⟨0,by omega,rfl,hbel,by simp[Hid]⟩
  case round =>
   obtain⟨j,hj,rfl,hbel',HR⟩:=hrel;clear c0 c1 hz0;by_cases hlt':j<m
   · obtain⟨b,off,x,rfl,hb,hx,e0,e1,e2⟩:=((h'.keep (w':=w.alloc (Obj.cells #[.slice A k c,.slice A' m d] 66)) fun p hp=>World.cell?_alloc_lt w _ p (by omega)).below (hbel'.mono (by omega))).atR hlt';have HX:=aH hx;clear h h' hx hlt;have hb0:Below w.heap.size w wr:=((Below.refl _ _).alloc (Nat.le_refl _) _).trans (hbel'.mono (by omega));have hz:w.heap.size<wr.heap.size:=by have:=hbel'.size;simp at this;omega
     go_wp2_with fail
     any_goals
      go_ret;have hbr:oE x:=by unfold oE;omega
      refine⟨aO (by rw[HK.out,HR.out,kI HX.out hbr]),?_⟩
      repeat(first|exact hb0|refine Below.alloc ?_ (by have:=hb0.size;simp<;>omega) _)
     have hgr:¬oE x:=by unfold oE;omega
     go_roundw
     case measure=>simp[intOf];omega
     case rel =>
      refine⟨j+1,by omega,by go_num,?_,?_⟩
      · repeat(first|exact hbel'|refine Below.alloc ?_ (by have:=hbel'.size;simp at this;simp<;>omega) _)
      show _=_
      rw[HR.out,nS HX.out hgr]
   obtain rfl:j=m:=by omega
   have hb0:Below w.heap.size w wr:=((Below.refl _ _).alloc (Nat.le_refl _) _).trans (hbel'.mono (by omega))
   have hfin:cF ⟨jobs,rung⟩=0:=by
    rw[HK.out,HR.out,List.drop_eq_nil_of_le (by have:=h'.len;simp at this;omega)];rfl
   have HF:=aH hfin;clear h h' hfin;go_wp2;go_ret;exact⟨aO HF.out.symm,hb0⟩
end
section
theorem jN (A : Option Addr)(n c B : Nat)(l : List dB)(g : FuncId)(lb : Array Value)(p : dB → Bool)(w : World)(h : Sl w B 3 A n (l.map bX))(hB : B ≤ w.heap.size)(hn : n ≤ 9223372036854775807)
    (eg:∀args w,(callFunc g args).run prog w=.ok (.enter g args) w)
    (hp:∀ (x:dB)(w':World),Below w.heap.size w w'→Calls prog g (#[.agg #[x.id,x.every,x.next]] ++lb) w' fun e w''=>e=.returned (.bool (p x))∧Below w'.heap.size w' w'') :
    Calls prog 167 #[.slice A n c,.func (.func g) #[] lb] w fun e w'=>e=.returned (.int .i64 (lM p l))∧Below w.heap.size w w':=by
 have hp':=aH hp;clear hp;go_enter func167,ntmps167;go_wp2
 go_loopw [8] (fun s wr=>∃i:Nat,i≤n∧s=.int .i64 i∧Below w.heap.size w wr∧Hid (∀j y,j<i→l[j]?=some y→p y=false)) (fun s _=>n-(intOf s).toNat)
 case atStart=>exact⟨0,Nat.zero_le _,rfl,Below.refl _ _,fun j y hj=>absurd hj (Nat.not_lt_zero _)⟩
 case round =>
  obtain⟨i,hi,rfl,hbel,H⟩:=hrel;by_cases hlt:i<n
  · obtain⟨b,off,x,rfl,hb,hx,c0,c1,c2⟩:=(h.below (hbel.mono hB)).atJ hlt;have HX:=aH hx;have hl:=h.len;simp at hl;have HL:=aH hl;clear h hx hl
    cases hpx:p x with
    |true =>
      have HPX:=aH hpx;clear hpx;go_wp2_with fail;refine Calls.mono (hp'.out x _ hbel) ?_;rintro e w'⟨rfl,hw'⟩;rw[HPX.out];go_wp2;go_ret;refine⟨aO ?_,hbel.trans (hw'.mono hbel.size)⟩;exact(vK HX.out HPX.out H.out).symm
    |false =>
      have HPX:=aH hpx;clear hpx;go_wp2_with fail;refine Calls.mono (hp'.out x _ hbel) ?_;rintro e w'⟨rfl,hw'⟩;rw[HPX.out];go_wp2
      go_roundw
      case measure=>simp[intOf];omega
      case rel =>
       refine⟨i+1,by omega,by go_num,hbel.trans (hw'.mono hbel.size),fun j y hj hy=>?_⟩;by_cases e:j=i
       · subst e;have:=HX.out.symm.trans hy;injection this with this;subst this;exact HPX.out
       exact H.out j y (by omega) hy
  obtain rfl:i=n:=by omega
  have hl:=h.len;simp at hl;have hfin:lM p l=-1:=pS (fun j y hy=>H.out j y (by have:=(List.getElem?_eq_some_iff.1 hy).1;omega) hy);have HF:=aH hfin;clear h hl hfin;go_wp2;go_ret;exact⟨aO HF.out.symm,hbel⟩
theorem EK (a b c id : Int)(q : Nat)(w : World)(hq : w.cell? ⟨q, 0, none⟩ = some (.int .i64 id)) :
    Calls prog 169 #[.agg #[a,b,c],.pointer (some ⟨q,0,none⟩)] w fun e w'=>e=.returned (.bool (decide (a=id)))∧Below w.heap.size w w':=by
 have hqb:q<w.heap.size:=World.block_lt_of_cell? w _ hq;go_enter func169,ntmps169;go_wp2;go_ret;exact⟨QS (by first|rfl|simp),(Below.refl _ _).alloc (Nat.le_refl _) _⟩
theorem IK (A A' : Option Addr)(n c m d B : Nat)(id : Int)(jobs : List dB)(rung : List iO)(w : World)(h : Sl w B 3 A n (jobs.map bX))(hB : B ≤ w.heap.size)(hn : n ≤ 9223372036854775807) :
    Calls prog 151 #[.agg #[.slice A n c,.slice A' m d],id] w fun e w'=>e=.returned (.int .i64 (dZ ⟨jobs,rung⟩ id))∧Below w.heap.size w w':=by
 have HN:=aH hn;clear hn;go_enter func151,ntmps151;go_wp2_with fail;refine Calls.mono (jN A n c B jobs _ _ (fun j=>decide (j.id=id)) _ ((h.alloc hB _).alloc (by simp;omega) _) (by simp;omega) HN.out (fun _ _=>by kernel_rfl) ?_) ?_
 · intro x w' hw';exact EK _ _ _ _ _ _ ((hw'.cell (p:=⟨w.heap.size+1,0,none⟩) (by simp)).trans (by simp))
 rintro e w'⟨rfl,hw'⟩;go_wp2;go_ret;exact⟨rfl,(((Below.refl _ _).alloc (Nat.le_refl _) _).alloc (by simp) _).trans (hw'.mono (by simp;omega))⟩
theorem oR (l:List dB):∀r∈l.map bX,∀u∈r,u.oneCell'=true:=by simp[bX,Value.oneCell']
theorem EI (l:List iO):∀r∈l.map dN,∀u∈r,u.oneCell'=true:=by simp[dN,Value.oneCell']
theorem tX (A A' : Option Addr)(n c m d B : Nat)(jobs : List dB)(rung : List iO)(w : World)(h : Sl w B 3 A n (jobs.map bX))(h' : Sl w B 3 A' m (rung.map dN))(hB : B ≤ w.heap.size)(hn : n ≤ 1000000)(hm : m ≤ 1000000) :
    Calls prog 96 #[.agg #[.slice A n c,.slice A' m d]] w fun e w'=>∃A1 c1 A2 c2,e=.returned (.agg #[.slice A1 n c1,.slice A2 m c2]) ∧
     cH w' w.heap.size 136 3 (.slice A1 n c1) n (jobs.map bX)∧cH w' w.heap.size 77 3 (.slice A2 m c2) m (rung.map dN)∧Below w.heap.size w w':=by
 go_enter func96,ntmps96;go_wp2_with fail
 go_region_held3 (fun w'=>w'.cell? ⟨w.heap.size,0,none⟩=some (.slice A n c)∧w'.cell? ⟨w.heap.size,1,none⟩=some (.slice A' m d))
  (first|go_keep| (refine⟨?_,?_⟩<;>(rw[hb2.cell (by simp<;>omega)];simp[*]))| (refine⟨?_,?_⟩<;>(rw[hb1.cell (by simp<;>omega)];simp)))
  (first
   | (go_at_call 123;refine Calls.mono (rU _ A n c B (by simp;omega) (jobs.map bX) (by refine h.under hB ?_;repeat(first|exact Below.refl _ _|refine bV ?_ _|refine Below.drew ?_|refine Below.alloc ?_ (by simp<;>omega) _)) (oR _) (by omega)) ?_;rintro e w1⟨A1,c1,rfl,hown1,hb1⟩;have hz1:w.heap.size+2≤w1.heap.size:=(by have:=hb1.size;simp at this;omega);have hb1':Below w.heap.size w w1:=((((Below.refl _ _).alloc (Nat.le_refl _) _).alloc (by simp) _).drew).trans (hb1.mono (by simp;omega)))
   | (go_at_call 124;refine Calls.mono (AX _ A' m d B (by omega) (rung.map dN) (by refine h'.under hB ?_;repeat(first|exact Below.refl _ _|exact hb1'|refine bV ?_ _|refine Below.drew ?_|refine Below.alloc ?_ (by simp) _)) (EI _) (by omega)) ?_;rintro e w2⟨A2,c2,rfl,hown2,hb2⟩;have hz2:w.heap.size+2≤w2.heap.size:=(by have:=hb2.size;omega);have r0:w2.cell? ⟨w.heap.size+1,0,none⟩=some (.slice none 0 0):=(by rw[hb2.cell (by simp only;omega)];rw[hb1.cell (by simp<;>omega)];simp);have r1:w2.cell? ⟨w.heap.size+1,1,none⟩=some (.slice none 0 0):=(by rw[hb2.cell (by simp only;omega)];rw[hb1.cell (by simp<;>omega)];simp);have f0:w2.frozen? ⟨w.heap.size+1,0,none⟩=false:=(by rw[hb2.frozen (by simp only;omega)];rw[hb1.frozen (by simp<;>omega)];simp);have f1:w2.frozen? ⟨w.heap.size+1,1,none⟩=false:=(by rw[hb2.frozen (by simp only;omega)];rw[hb1.frozen (by simp<;>omega)];simp)))
 go_wp2;simp only[World.size_alloc,World.size_drew]at hown1 hb1;refine bodyPost_ret (v:=.agg #[.slice A1 n c1,.slice A2 m c2]) (by simp[results,results96,go_sem,r0,r1]) rfl ⟨A1,c1,A2,c2,rfl,?_,?_,?_⟩
 · exact(((hown1.below hb2).setCell (by simp) _).setCell (by simp) _).lower (by omega)
 · exact((hown2.setCell (by simp;omega) _).setCell (by simp;omega) _).lower (by omega)
 exact((hb1'.trans (hb2.mono (by omega))).setCell (by simp) _).setCell (by simp) _
theorem DM (A A' D D' : Option Addr)(n c m d n' c' m' d' B : Nat)(jobs jobs' : List dB)(rung rung' : List iO)(w : World)(h1 : Sl w B 3 A n (jobs.map bX))(h2 : Sl w B 3 A' m (rung.map dN))
    (h3:Sl w B 3 D n' (jobs'.map bX))(h4:Sl w B 3 D' m' (rung'.map dN))(hB:B≤w.heap.size)(hn:n≤9223372036854775807)(hm:m≤9223372036854775807) :
    Calls prog 83 #[.agg #[.slice A n c,.slice A' m d],.agg #[.slice D n' c',.slice D' m' d']] w fun e w'=>e=.returned (.bool (decide ((⟨jobs,rung⟩:cW)=⟨jobs',rung'⟩)))∧Below w.heap.size w w':=by
 have HN:=aH hn;have HM:=aH hm;clear hn hm;have hdec:decide ((⟨jobs,rung⟩:cW)=⟨jobs',rung'⟩)=(decide (jobs=jobs')&&decide (rung=rung')):=by simp
 have HD:=aH hdec;clear hdec;go_enter func83,ntmps83;go_wp2_with fail;refine Calls.mono (rW A D n n' c c' B jobs jobs' _ ((h1.alloc hB _).alloc (by simp;omega) _) ((h3.alloc hB _).alloc (by simp;omega) _) HN.out) ?_;rintro e w'⟨rfl,q,rfl⟩
 cases hj:decide (jobs=jobs')with
 |true =>
   have HJ:=aH hj;clear hj;go_wp2_with fail;refine Calls.mono (sO A' D' m m' d d' B rung rung' _ (((h2.alloc hB _).alloc (by simp;omega) _).drewN q) (((h4.alloc hB _).alloc (by simp;omega) _).drewN q) HM.out) ?_;rintro e w'⟨rfl,q',rfl⟩;go_wp2;go_ret;refine⟨QS (by rw[HD.out,HJ.out];simp),?_⟩
   repeat(first|exact Below.refl _ _|refine bV ?_ _|refine Below.alloc ?_ (by simp) _)
 |false =>
   have HJ:=aH hj;clear hj;go_wp2;go_ret;refine⟨QS (by rw[HD.out,HJ.out];simp),?_⟩
   repeat(first|exact Below.refl _ _|refine bV ?_ _|refine Below.alloc ?_ (by simp) _)
end
section
theorem M.clear {w : World}{base k n b off i : Nat}{rows : List (List Value)}{cur : Array Value}{t : TypeId}{cs : List Value}(h : M w base k (some ⟨b, off, none⟩) n rows)(hh : w.heap[b]? = some (.cells cur t (0, 0)))(hi : i ≤ n)
    (hfit:off+i*k+cs.length≤cur.size):M (w.setRow b (bG cur (off+i*k) cs)) base k (some ⟨b,off,none⟩) i (rows.take i):=by
 have hh':=setRow_heap w b cur (bG cur (off+i*k) cs) _ _ hh;have hbl:b<w.heap.size:=(Array.getElem?_eq_some_iff.1 hh).1
 have hb0:0<i→base≤b:=fun hi0=>by
  obtain⟨b',off',e,h1,_⟩:=h.2 (by omega);injection e with e;injection e with e1 e2 _;omega
 refine⟨⟨by have:=h.1.len;simp;omega,fun r hr=>h.1.2.1 r (List.mem_of_mem_take hr),fun hi0=>?_⟩,fun hi0=>⟨b,off,rfl,hb0 hi0,_,_,hh'⟩⟩;obtain⟨b',off',e,hb,hc⟩:=h.1.2.2 (by omega);injection e with e;injection e with e1 e2 _;subst e1;subst e2;refine⟨b,off,rfl,by simpa using hbl,fun i0 j r u hr hu=>?_⟩;rw[List.getElem?_take]at hr
 split at hr
 · rename_i hlt;have:=hc i0 j r u hr hu;have hrk:r.length=k:=h.1.2.1 r (List.mem_of_getElem? hr);have hj:j<k:=by rw[←hrk];exact(List.getElem?_eq_some_iff.1 hu).1
   rw[cell_of_row _ b _ _ _ _ hh',←Array.getElem?_toList];rw[cell_of_row _ b _ _ _ _ hh,←Array.getElem?_toList]at this;have hle:(i0+1)*k≤i*k:=Nat.mul_le_mul_right k hlt;rw[Nat.add_mul]at hle
   show(cur.toList.take (off+i*k) ++cs ++_)[_]?=_
   rw[List.append_assoc,List.getElem?_append_left (by
    have h1:off+i0*k+j<cur.toList.length:=(List.getElem?_eq_some_iff.1 this).1
    rw[List.length_take];simp at h1⊢;omega),List.getElem?_take,if_pos (by omega)]
   exact this
 cases hr
theorem M.room {w:World}{base k n b off:Nat}{rows:List (List Value)}(h:M w base k (some ⟨b,off,none⟩) n rows)(hn:0<n)(hk:0<k):∃cur t,w.heap[b]?=some (.cells cur t (0,0))∧off+n*k≤cur.size:=by
 obtain⟨b',off',e,_,cur,t,hh⟩:=h.2 hn;injection e with e;injection e with e1 e2 _;subst e1;subst e2;refine⟨cur,t,hh,?_⟩;obtain⟨b',off',e,hb,hc⟩:=h.1.2.2 hn;injection e with e;injection e with e1 e2 _;subst e1;subst e2;have hl:=h.1.1;have hr:rows[n-1]?=some rows[n-1]:=List.getElem?_eq_getElem (by omega);have hrk:(rows[n-1]).length=k:=h.1.2.1 _ (List.getElem_mem _);have:=hc (n-1) (k-1) _ _ hr (List.getElem?_eq_getElem (by omega));rw[cell_of_row _ b _ _ _ _ hh]at this;have h1:=(Array.getElem?_eq_some_iff.1 this).1;have e:(n-1+1)*k=(n-1)*k+k:=by rw[Nat.add_mul];omega
 rw[show n-1+1=n by omega]at e;omega
theorem jU {α:Type}{p:α→Bool}{l:List α}{j:Nat}{x:α}(hx:l[j]?=some x):(l.take (j+1)).filter p=(l.take j).filter p ++if p x=true then [x]else []:=by
 obtain⟨hj,rfl⟩:=List.getElem?_eq_some_iff.1 hx;rw[List.take_succ_eq_append_getElem hj,List.filter_append];simp only[List.filter_cons,List.filter_nil]
theorem vH {α:Type}{p:α→Bool}{l:List α}{i:Nat}(h:∀ (j:Nat) y,j<i→l[j]?=some y→p y=true):(l.take i).filter p=l.take i:=by
 rw[List.filter_eq_self];intro y hy;obtain⟨j,hj⟩:=List.mem_iff_getElem?.1 hy;rw[List.getElem?_take]at hj
 split at hj
 · exact h j y (by assumption) hj
 cases hj
theorem wJ {α:Type}(p:α→Bool)(l:List α):(lM p l=-1∧∀ (j:Nat) y,l[j]?=some y→p y=false)∨∃ (i:Nat)(x:α),lM p l=i∧l[i]?=some x∧p x=true∧∀ (j:Nat) y,j<i→l[j]?=some y→p y=false:=by
 unfold lM
 cases hf:l.findIdx? p with
 |none =>
   left;refine⟨rfl,fun j y hy=>?_⟩;have:=List.findIdx?_eq_none_iff.1 hf y (List.mem_of_getElem? hy);exact this
 |some i =>
   right;obtain⟨hi,hp,hlt⟩:=List.findIdx?_eq_some_iff_getElem.1 hf;refine⟨i,l[i],rfl,List.getElem?_eq_getElem hi,hp,fun j y hj hy=>?_⟩;obtain⟨hj',rfl⟩:=List.getElem?_eq_some_iff.1 hy;simpa using hlt j hj
theorem tK (A : Option Addr)(n c base : Nat)(l : List dB)(g : FuncId)(lb : Array Value)(p : dB → Bool)(w : World)(h : M w base 3 A n (l.map bX))(hn : n ≤ 1000)(hnc : n ≤ c)(hc : c ≤ maxLen)
    (eg:∀args w,(callFunc g args).run prog w=.ok (.enter g args) w)
    (hp:∀ (x:dB)(w':World),w.grownBy w' (A.map (·.block))→Calls prog g (#[.agg #[x.id,x.every,x.next]] ++lb) w' fun e w''=>e=.returned (.bool (p x))∧Below w'.heap.size w' w'') :
    Calls prog 147 #[.slice A n c,.func (.func g) #[] lb] w fun e w'=>∃k,e=.returned (.slice A k c)∧k≤n ∧
     M w' base 3 A k ((l.filter (fun x=>!p x)).map bX)∧w.grownBy w' (A.map (·.block)):=by
 have hl:l.length=n:=by have:=h.1.len;simpa using this
 have hp':=aH hp;have HL:=aH hl;have HCM:=aH hc;clear hp hl hc;rcases wJ p l with ⟨hi,hall⟩| ⟨i,x,hi,hx,hpx,hbef⟩
 · have hfin:l.filter (fun x=>!p x)=l:=by
    rw[List.filter_eq_self];intro y hy;obtain⟨j,hj⟩:=List.mem_iff_getElem?.1 hy;simp[hall j y hj]
   have HF:=aH hfin;have HI:=aH hi;clear hfin hi hall;go_enter func147,ntmps147;go_wp2_with fail;refine Calls.mono (jN A n c _ l g lb p _ h.1 (Nat.le_refl _) (by omega) eg (fun x w' hw'=>hp'.out x w' (IN hw' _))) ?_;rintro e w1⟨rfl,hb1⟩;rw[HI.out];go_wp2_with fail;go_ret;exact⟨n,rfl,Nat.le_refl _,by rw[HF.out];exact h.oe hb1,IN hb1 _⟩
 have hin:i<n:=by have h1:i<l.length:=(List.getElem?_eq_some_iff.1 hx).1;have:=HL.out;omega
 have hstart:(l.take (i+1)).filter (fun x=>!p x)=l.take i:=by
  rw[jU hx,vH (fun j y hj hy=>by simp[hbef j y hj hy])];simp[hpx]
 have HS:=aH hstart;have HI:=aH hi;clear hstart hi hpx hbef hx;go_enter func147,ntmps147;go_wp2_with fail;refine Calls.mono (jN A n c _ l g lb p _ h.1 (Nat.le_refl _) (by omega) eg (fun x w' hw'=>hp'.out x w' (IN hw' _))) ?_;rintro e w1⟨rfl,hb1⟩;rw[HI.out];have hM1:=h.oe hb1;have hg1:=IN hb1 (A.map (·.block));clear hb1 h;have hne:((i:Int) ==-1)=false:=by simp<;>omega
 go_wp2_with fail
 go_loopw [5,6] (fun s t wr=>∃ (i j:Nat) (L:List dB),i<j∧j≤n∧s=.int .i64 i∧t=.int .i64 j∧M wr base 3 A n (L.map bX)∧w.grownBy wr (A.map (·.block))∧Hid (L.take i=(l.take j).filter (fun x=>!p x)∧L.drop j=l.drop j)) (fun _ t _=>n-(intOf t).toNat)
 case atStart=>exact⟨i,i+1,l,by omega,by omega,rfl,by go_num,hM1,hg1,HS.out.symm,rfl⟩
 case round =>
  clear hM1 hg1 HS HI hin hne;obtain⟨i,j,L,hij,hjn,rfl,rfl,hM,hg,HLL⟩:=hrel;have hLl:L.length=n:=by have:=hM.1.len;simpa using this
  have HLl:=aH hLl;clear hLl;by_cases hlt:j<n
  · obtain⟨b,off,x,rfl,hb,hx,c0,c1,c2⟩:=hM.1.atJ hlt
    have hxl:l[j]?=some x:=by
     have:=HLL.out.2;have e1:(L.drop j)[0]?=some x:=by simpa using hx
     rw[this]at e1;simpa using e1
    have HX:=aH hxl;clear hx hxl;have hin:(i:Int)<(n:Int):=by omega
    cases hpx:p x with
    |true =>
      have HPX:=aH hpx;clear hpx;go_wp2_with fail;refine Calls.mono (hp'.out x _ (kU hg ((Below.refl _ _).alloc (Nat.le_refl _) _))) ?_;rintro e w2⟨rfl,hb2⟩;rw[HPX.out];have hA:aA wr w2:=((Below.refl _ _).alloc (Nat.le_refl _) _).trans (hb2.mono (by simp));have hM2:=hM.oe hA;have hg2:=kU hg hA;clear hM hg hb2 hA c0 c1 c2;go_wp2_with fail
      go_roundw
      case measure=>simp[intOf];omega
      case rel =>
       refine⟨i,j+1,L,by omega,by omega,rfl,by go_num,hM2,hg2,?_,?_⟩
       · rw[HLL.out.1,jU HX.out];(try simp[HPX.out])
       rw[←List.drop_drop,←List.drop_drop,HLL.out.2]
    |false =>
      have HPX:=aH hpx;clear hpx;go_wp2_with fail;refine Calls.mono (hp'.out x _ (kU hg ((Below.refl _ _).alloc (Nat.le_refl _) _))) ?_;rintro e w2⟨rfl,hb2⟩;rw[HPX.out];have hA:aA wr w2:=((Below.refl _ _).alloc (Nat.le_refl _) _).trans (hb2.mono (by simp));have hM2:=hM.oe hA;have hg2:=kU hg hA;have v0:w2.cell? ⟨wr.heap.size,0,none⟩=some (.int .i64 x.id):=aB hb2 (by simp[go_sem]);have v1:w2.cell? ⟨wr.heap.size,1,none⟩=some (.int .i64 x.every):=aB hb2 (by simp[go_sem]);have v2:w2.cell? ⟨wr.heap.size,2,none⟩=some (.int .i64 x.next):=aB hb2 (by simp[go_sem]);obtain⟨b',off',y,e,_,_,d0,d1,d2⟩:=hM2.1.atJ (show i<n by omega);injection e with e;injection e with e1 e2 _;subst e1;subst e2;have hU:rE w2 b:=by obtain⟨b',off',e,_,hU⟩:=hM2.2 (by omega);injection e with e;injection e with e1 e2 _;subst e1;exact hU
      have fz:=hU.frozen;clear hM hg hb2 hA c0 c1 c2;go_wp2_with fail;have hM3:=hM2.putJ (i:=i) (by omega) x;have hg3:=lD (lD (lD hg2 (p:=⟨b,off+i*3,none⟩) rfl (.int .i64 x.id)) (p:=⟨b,off+i*3+1,none⟩) rfl (.int .i64 x.every)) (p:=⟨b,off+i*3+2,none⟩) rfl (.int .i64 x.next);clear hM2 hg2 hU fz
      go_roundw
      case measure=>simp[intOf];omega
      case rel =>
       refine⟨i+1,j+1,L.set i x,by omega,by omega,by go_num,by go_num,hM3,hg3,?_,?_⟩
       · have hil:i<L.length:=by have:=HLl.out;omega
         rw[List.take_succ_eq_append_getElem (by simpa using hil),List.take_set_of_le (Nat.le_refl _),HLL.out.1,jU HX.out];simp[HPX.out]
       rw[List.drop_set_of_lt (by omega),←List.drop_drop,←List.drop_drop,HLL.out.2]
  obtain rfl:j=n:=by omega
  obtain⟨b,off,x,rfl,hb,hx,_,_,_⟩:=hM.1.atJ (i:=i) (by omega);obtain⟨cur,t,hh,hfit⟩:=hM.room (by omega) (by omega)
  have hcl:∀ty,(Builtin.clear_ #[63] ty #[.slice (some ⟨b,off+i*3,none⟩) (j-i) (c-i)]).run prog wr=.ok (.tuple #[]) (wr.setRow b (bG cur (off+i*3) (Builtin.zeroCells (Value.agg #[(),(),()]).cells (j-i)).toList)):=fun ty =>
   pC (P:=prog) wr 63 ty 136 b (off+i*3) (j-i) (c-i) cur t (Value.agg #[(),(),()]) underlying63 (by kernel_rfl) (by simp[Value.cells,Value.oneCell']) hh (by omega) (by simp[Value.cells];omega)
  have hM2:=hM.clear (i:=i) (cs:=(Builtin.zeroCells (Value.agg #[(),(),()]).cells (j-i)).toList) hh (by omega) (by simp[size_zeroCells,Value.cells];omega);have hg2:=xQ hg (eL wr b (bG cur (off+i*3) (Builtin.zeroCells (Value.agg #[(),(),()]).cells (j-i)).toList));rw[←List.map_take,HLL.out.1,List.take_of_length_le (by have:=HL.out;omega)]at hM2;have HCl:=aH hcl;have hcn:¬ (c=i):=by omega
  have hij':(i:Int)≤(j:Int):=by omega
  have hic:(i:Int)≤(c:Int):=by omega
  clear hcl hM hg hh hfit hx hb;go_wp2_with (with_reducible refine mW _ rfl (.tmp 38) _ rfl _ rfl (HCl.out _) ?_)
  go_wp2;go_ret;exact⟨i,rfl,by omega,hM2,hg2⟩
end
end Go.Proofs.YtpfkagghooihfaaGreatDoor
