/- Part 2 of the proof: Fresh, Mem, See, Rows3, Mut, Put, Box, BoxM, Env, SpecU. -/
import Derived.Test.YtidlffepdcldkaaGreatDoorBa01
import Derived.StillTailTactics
import Derived.BigRegion
import Derived.Laws.CopyRow
import Derived.Lib.AppendZerosOnto
import Derived.Lib.AppendZeros
import Derived.Lib.Overlaps
import Derived.Laws.Externs
import Derived.Laws.IdiomCopy
import Derived.Deep.MidRow
import Derived.Test.YtidlffepdcldkaaGreatDoorProg
import Derived.Lib.LaidTab
import Derived.Lib.AppendIntMem
import Derived.Lib.AtoiErrMem
namespace Go.Proofs.YtidlffepdcldkaaGreatDoor
set_option linter.unusedSimpArgs false
set_option linter.unusedVariables false
section
open Go.RowKit
def Fresh (lo:Nat) (A:Option Addr):Prop:=∀ a,A=some a→lo≤a.block
theorem Fresh.none_ (lo:Nat):Fresh lo none:=fun a h=>by cases h
theorem Own.fresh {w:World} {base E k n c lo:Nat} {A:Option Addr} {rows:List (List Value)} (h:Own w base E k (.slice A n c) n rows) (hl:lo≤base):Fresh lo A:=by
 intro a e
 subst e
 exact Nat.le_trans hl (h.1.lt a.block rfl).1
theorem Own.le_cap {w:World} {base E k n c:Nat} {A:Option Addr} {rows:List (List Value)} (h:Own w base E k (.slice A n c) n rows):n≤c:=by
 obtain ⟨A',c',e,h1,_⟩:=h.slice
 injection e with _ _ e
 omega
theorem Sl.away {w:World} {B k n lo:Nat} {A:Option Addr} {rows:List (List Value)} (h:Sl w B k A n rows) (hf:Fresh lo A) {p:Addr} (hp:p.block<lo) (u:Value):Sl (w.setCell p u) B k A n rows :=
 ⟨h.1,h.2.1,fun hn=>by
  obtain ⟨b,off,e,hb,hc⟩:=h.2.2 hn
  have:=hf _ e
  exact ⟨b,off,e,hb,fun i j r v hr hv=>(World.cell?_setCell_other w _ _ _ (by intro e;subst e;simp only at this hp;omega)).trans (hc i j r v hr hv)⟩⟩
theorem bcell {W w1:World} (hb:Below W.heap.size W w1):(∀ b o,b<W.heap.size→w1.cell? ⟨b,o,none⟩=W.cell? ⟨b,o,none⟩)∧(∀ b o,b<W.heap.size→w1.frozen? ⟨b,o,none⟩=W.frozen? ⟨b,o,none⟩) :=
 ⟨fun b o h=>hb.cell (p:=⟨b,o,none⟩) h,fun b o h=>hb.frozen (p:=⟨b,o,none⟩) h⟩
theorem cellB {W w1:World} (hb:Below W.heap.size W w1) {p:Addr} {v:Value} (h:W.cell? p=some v):w1.cell? p=some v:=(hb.cell (World.block_lt_of_cell? W p h)).trans h
theorem frozB {W w1:World} (hb:Below W.heap.size W w1) {p:Addr} {v:Value} (h:W.cell? p=some v) (hf:W.frozen? p=false):w1.frozen? p=false:=(hb.frozen (World.block_lt_of_cell? W p h)).trans hf
theorem Own.apart {w:World} {base E k n base' E' k' n':Nat} {v v':Value} {rows rows':List (List Value)} (h:Own w base E k v n rows) (h':Own w base' E' k' v' n' rows') (hE:E≠E'):v'.ownBlock=none∨v'.ownBlock≠v.ownBlock:=by
 rcases h'.1.2 with ⟨rfl,_⟩ | ⟨g',_,cur',rfl,_,hg',_⟩
 · exact .inl rfl
 · right
   rcases h.1.2 with ⟨rfl,_⟩ | ⟨g,_,cur,rfl,_,hg,_⟩
   · simp [Value.ownBlock]
   · intro e
     simp only [Value.ownBlock,Option.some.injEq] at e
     subst e
     rw [hg] at hg'
     injection hg' with hg'
     injection hg' with _ e2 _
     exact hE e2
theorem Own.notBelow {w:World} {base E k n:Nat} {v:Value} {rows:List (List Value)} (h:Own w base E k v n rows) {b:Nat} (hb:b<base):some b≠v.ownBlock:=by
 rcases h.1.2 with ⟨rfl,_⟩ | ⟨g,_,cur,rfl,hg,_⟩
 · simp [Value.ownBlock]
 · intro e
   simp only [Value.ownBlock,Option.some.injEq] at e
   omega
theorem grow_cell {w w':World} {row:Option Nat} (hg:w.grownBy w' row) {p:Addr} {v:Value} (h:w.cell? p=some v) (hne:some p.block≠row):w'.cell? p=some v:=hg.cell h hne
theorem grow_froz {w w':World} {row:Option Nat} (hg:w.grownBy w' row) {p:Addr} {v:Value} (h:w.cell? p=some v) (hf:w.frozen? p=false) (hne:some p.block≠row):w'.frozen? p=false :=
 (World.frozen?_of_block (hg.block p.block (World.block_lt_of_cell? w p h) hne)).trans hf
theorem below_grown {w0 w w':World} {B:Nat} {row:Option Nat} (hb:Below B w0 w) (hB:B≤w.heap.size) (hg:w.grownBy w' row) (hr:∀ g,row=some g→B≤g):Below B w0 w':=hb.grown hg hB hr
theorem Sl.grow {w w':World} {B k n b off:Nat} {rows:List (List Value)} {row:Option Nat} (h:Sl w B k (some ⟨b,off,none⟩) n rows) (hg:w.grownBy w' row) (hne:some b≠row) (hB:B≤w.heap.size):Sl w' B k (some ⟨b,off,none⟩) n rows :=
 ⟨h.1,h.2.1,fun hn=>by
  obtain ⟨b',off',e,hb,hc⟩:=h.2.2 hn
  injection e with e;injection e with e1 e2 _
  subst e1;subst e2
  exact ⟨b,off,rfl,hb,fun i j r u hr hu=>(World.cell?_of_block (hg.block b (by omega) hne)).trans (hc i j r u hr hu)⟩⟩
theorem Sl.setOff {w:World} {B k n b off:Nat} {rows:List (List Value)} (h:Sl w B k (some ⟨b,off,none⟩) n rows) {p:Addr} (hp:p.block≠b) (u:Value):Sl (w.setCell p u) B k (some ⟨b,off,none⟩) n rows :=
 ⟨h.1,h.2.1,fun hn=>by
  obtain ⟨b',off',e,hb,hc⟩:=h.2.2 hn
  injection e with e;injection e with e1 e2 _
  subst e1;subst e2
  exact ⟨b,off,rfl,hb,fun i j r v hr hv=>(World.cell?_setCell_other w _ _ _ (by intro e;subst e;exact hp rfl)).trans (hc i j r v hr hv)⟩⟩
end
section
open Go.RowKit
theorem Sl.take {w:World} {B k n m:Nat} {A:Option Addr} {rows:List (List Value)} (h:Sl w B k A n rows) (hm:m≤n):Sl w B k A m (rows.take m) :=
 ⟨by rw [List.length_take,h.1];omega,fun r hr=>h.2.1 r (List.mem_of_mem_take hr),fun h0=>by
  obtain ⟨b,off,e,hb,hc⟩:=h.2.2 (by omega)
  refine ⟨b,off,e,hb,fun i j r u hr hu=>?_⟩
  rw [List.getElem?_take] at hr
  split at hr
  · exact hc i j r u hr hu
  · cases hr⟩
theorem Sl.cut {w : World} {B k n m c : Nat} {A : Option Addr} {rows : List (List Value)} (h : Sl w B k A n rows) (hm : m ≤ n) (hc : n ≤ c) :
    Sl w B k (if c=m then A else A.map (fun a=>a.add (m*k))) (n - m) (rows.drop m):=by
 refine ⟨by rw [List.length_drop,h.1],fun r hr=>h.2.1 r (List.mem_of_mem_drop hr),fun h0=>?_⟩
 obtain ⟨b,off,rfl,hb,hcell⟩:=h.2.2 (by omega)
 rw [if_neg (by omega)]
 refine ⟨b,off+m*k,by simp [Addr.add_lit],hb,fun i j r u hr hu=>?_⟩
 rw [List.getElem?_drop] at hr
 have:=hcell (m+i) j r u hr hu
 rw [show off+m*k+i*k+j=off+(m+i)*k+j by rw [Nat.add_mul];omega]
 exact this
theorem run_slice_from {P : Program} {t e : TypeId} {size : Nat} (A : Option Addr) (n c m : Nat) (ht : P.underlying t = some (.slice e)) (hz : ∀ w, (sizeOf e).run P w = .ok size w) (hm : m ≤ n) (w : World) :
    (Instr.slice t (.slice A n c) (some (.int .i64 (m:Int))) none none).run P w=.ok (.slice (if c=m then A else A.map (fun a=>a.add (m*size))) (n - m) (c - m)) w:=by
 have h1:(m:Int)≤(n:Int):=by omega
 simp [Instr.slice,run_underlying ht,Instr.sliceBounds,hz,go_sem,h1]
theorem Sl.block {w : World} {b k : Nat} {t : TypeId} {fr : Nat × Nat} {cs : Array Value} (rows : List (List Value)) (h : w.heap[b]? = some (.cells cs t fr)) (hk : ∀ r ∈ rows, r.length = k) (hl : cs.toList = rows.flatten) :
    Sl w w.heap.size k (some ⟨b,0,none⟩) rows.length rows:=by
 refine ⟨rfl,hk,fun _=>⟨b,0,rfl,(Array.getElem?_eq_some_iff.1 h).1,fun i j r u hr hu=>?_⟩⟩
 rw [cell_of_row w b _ _ _ _ h,← Array.getElem?_toList,hl,Nat.zero_add]
 exact flatten_at hk i j r u hr hu
def OffN (n z:Nat) (A:Option Addr):Prop:=0<n→∀ a,A=some a→a.block≠z
theorem Sl.offN {w:World} {B k n z:Nat} {A:Option Addr} {rows:List (List Value)} (h:Sl w B k A n rows) (hz:B≤z):OffN n z A:=fun hn a e=>by
 obtain ⟨b,off,e',hb,_⟩:=h.2.2 hn
 rw [e] at e'
 injection e' with e'
 subst e'
 simp only
 omega
theorem Fresh.offN {lo n z:Nat} {A:Option Addr} (h:Fresh lo A) (hz:z<lo):OffN n z A:=fun _ a e=>by have:=h a e;omega
theorem Sl.setOffN {w:World} {B k n:Nat} {A:Option Addr} {rows:List (List Value)} (h:Sl w B k A n rows) {p:Addr} (ho:OffN n p.block A) (u:Value):Sl (w.setCell p u) B k A n rows :=
 ⟨h.1,h.2.1,fun hn=>by
  obtain ⟨b,off,e,hb,hc⟩:=h.2.2 hn
  have:=ho hn _ e
  exact ⟨b,off,e,hb,fun i j r v hr hv=>(World.cell?_setCell_other w _ _ _ (by intro e;subst e;exact this rfl)).trans (hc i j r v hr hv)⟩⟩
end
section
open Go.RowKit
abbrev S (w:World) (k:Nat) (A:Option Addr) (n:Nat) (rows:List (List Value)):Prop:=Sl w w.heap.size k A n rows
abbrev Onto (w w':World):Prop:=Below w.heap.size w w'
section
variable {w w' w'':World} {k n:Nat} {A:Option Addr} {rows:List (List Value)}
theorem Onto.rfl' (w:World):Onto w w:=Below.refl _ _
theorem Onto.to (h:Onto w w') (h':Onto w' w''):Onto w w'':=Below.trans h (h'.mono h.size)
theorem Onto.new (h:Onto w w') (o:Obj):Onto w (w'.alloc o):=Below.alloc h h.size o
theorem Onto.draws (h:Onto w w') (q:Nat):Onto w (w'.drewN q):=below_drewN h q
theorem Onto.draw (h:Onto w w'):Onto w w'.drew:=Below.drew h
theorem Onto.put (h:Onto w w') {p:Addr} (hp:w.heap.size≤p.block) (u:Value):Onto w (w'.setCell p u):=Below.setCell h hp u
theorem S.new (h:S w k A n rows) (o:Obj):S (w.alloc o) k A n rows:=(Sl.alloc h (Nat.le_refl _) o).more (by simp)
theorem S.draws (h:S w k A n rows) (q:Nat):S (w.drewN q) k A n rows:=h
theorem S.draw (h:S w k A n rows):S w.drew k A n rows:=h
theorem S.onto (h:S w k A n rows) (hb:Onto w w'):S w' k A n rows:=(Sl.under h (Nat.le_refl _) hb).more hb.size
theorem S.off (h:S w k A n rows) {p:Addr} (ho:OffN n p.block A) (u:Value):S (w.setCell p u) k A n rows:=by simpa [S] using Sl.setOffN h ho u
theorem S.of {B:Nat} (h:Sl w B k A n rows) (hB:B≤w.heap.size):S w k A n rows:=h.more hB
theorem cellA {p:Addr} {v:Value} (h:w.cell? p=some v) (o:Obj):(w.alloc o).cell? p=some v:=(World.cell?_alloc_lt w o p (World.block_lt_of_cell? w p h)).trans h
theorem sizeB {b:Nat} (hb:Onto w w') (h:b<w.heap.size):b<w'.heap.size:=Nat.lt_of_lt_of_le h hb.size
end
/-! ### A region that draws its order,its calls make memory,their values are known ahead -/
noncomputable def ontoW (w x:World):World:=open Classical in if Onto w x then x else w
section
variable {w x:World}
theorem onto_on (w x:World):Onto w (ontoW w x):=by
 unfold ontoW;split
 · assumption
 · exact Below.refl _ _
theorem onto_of (h:Onto w x):x=ontoW w x:=by unfold ontoW;rw [if_pos h]
theorem onto_cell {p:Addr} {v:Value} (h:w.cell? p=some v):∀ x,(ontoW w x).cell? p=some v:=fun x=>cellB (onto_on w x) h
theorem onto_size {b:Nat} (h:b<w.heap.size):∀ x,b<(ontoW w x).heap.size:=fun x=>sizeB (onto_on w x) h
theorem S.ontoX {k n:Nat} {A:Option Addr} {rows:List (List Value)} (h:S w k A n rows) (x:World):S (ontoW w x) k A n rows:=S.onto h (onto_on w x)
variable {P:Program} {f:FuncId} {args:Array Value} {v:Value}
theorem calls_onto (h:Calls P f args (ontoW w x) fun e w'=>e=.returned v∧Onto (ontoW w x) w'):Calls P f args (ontoW w x) fun e w''=>e=.returned v∧∃ y,w''=ontoW w y :=
 h.mono fun _ w' ⟨he,hw⟩=>⟨he,w',onto_of ((onto_on w x).to hw)⟩
theorem calls_onto' {u:Value} (h:Calls P f args (ontoW w x) fun e w'=>e=.returned v∧Onto (ontoW w x) w') (hv:v=u):Calls P f args (ontoW w x) fun e w''=>e=.returned u∧∃ y,w''=ontoW w y :=
 hv ▸ calls_onto h
theorem wp_region_onto {id : Nat} {Q : Exit → Act → World → Prop} {a : Act} {l : List Oper} (hm : P.follows .mixedOrders = true) (hB : Region.lexB .any l.toArray = true)
    (h:wpQuiet P l.toArray (fun w'=>∃ x,w'=ontoW w x) (fun a'=>∀ w',Onto w w'→Q .normal a' w') l a):(Code.region id l.toArray true).wp P Q a w :=
 wp_region_quiet (C:=fun w'=>∃ x,w'=ontoW w x) hm hB ⟨w.drew,onto_of ((Below.refl _ _).drew)⟩ (by
  have:(fun a':Act=>∀ w',(∃ x,w'=ontoW w x)→Q .normal a' w')=(fun a'=>∀ w',Onto w w'→Q .normal a' w'):=by
   funext a'
   exact propext ⟨fun h w' hw=>h w' ⟨w',onto_of hw⟩,fun h w' ⟨x,hx⟩=>h w' (hx ▸ onto_on w x)⟩
  rw [this]
  simpa using h)
end
end
section
open Go.RowKit
def spliceR (cur:Array Value) (o:Nat) (cs:List Value):Array Value:=(cur.toList.take o ++cs ++cur.toList.drop (o+cs.length)).toArray
theorem spliceR_size {cur:Array Value} {o:Nat} {cs:List Value} (h:o+cs.length≤cur.size):(spliceR cur o cs).size=cur.size:=by
 simp [spliceR];omega
section
variable {P:Program} (w:World)
theorem run_copy_rowK (dT sT ty elem : TypeId) (g o dLen dCap : Nat) (a : Addr) (sLen sCap : Nat) (cur : Array Value) (t : TypeId) (i : TypeInfo) (cs : List Value)
    (hu:P.underlying dT=some (.slice elem)) (hi:P.info? elem=some i) (hg:w.heap[g]?=some (.cells cur t (0,0))) (hn:cs.length=Nat.min sLen dLen*i.size)
    (hsrc:∀ j v,cs[j]?=some v→w.cell? (a.add j)=some v) (hfit:o+cs.length≤cur.size) (h1:∀ v∈cs,v.oneCell'=true) :
    (Builtin.copy_ #[dT,sT] ty #[.slice (some ⟨g,o,none⟩) dLen dCap,.slice (some a) sLen sCap]).run P w=.ok (goInt (Nat.min sLen dLen)) (w.setRow g (spliceR cur o cs)):=by
 have hl:=run_loadCells_list (P:=P) w a cs hsrc
 have hst:=run_storeCells_at P g o t cs 0 cur w hg (by simpa using hfit) h1
 simp only [Nat.add_zero] at hst
 simp [Builtin.copy_,run_underlying hu,Builtin.lenOf,Builtin.firstCells,sizeOf,typeInfo,hi,← hn,hl,hst,spliceR]
theorem wp_copy_run {o : Oper} {a : Act} {K : Act → World → Prop} {Q : Exit → Act → World → Prop} (d s : Operand) (t t' : TypeId)
    (ho:o.op=.call { callee:=.builtin .copy,args:=#[d,s],argTypes:=#[t,t'] }) (v u:Value) (hd:a.eval d=v) (hs:a.eval s=u) {v':Value} {w':World}
    (hr:(Builtin.copy_ #[t,t'] o.type #[v,u]).run P w=.ok v' w') (h:K (a.put o.dst v') w'):o.wp P a w K Q:=by
 unfold Oper.wp execOp
 simp only [ho,resolve,invoke,builtin,Sem.run_bind,Sem.run_pure,Result.andThen_ok,List.map_toArray,List.map_cons,List.map_nil,hd,hs,hr]
 exact h
theorem wpList_copy_run {ops : Array Oper} {rest : List Oper} {o : Oper} {a : Act} {Q : Exit → Act → World → Prop} (hgd : o.guard = none) (d s : Operand) (t t' : TypeId)
    (ho:o.op=.call { callee:=.builtin .copy,args:=#[d,s],argTypes:=#[t,t'] }) (v u:Value) (hd:a.eval d=v) (hs:a.eval s=u) {v':Value} {w':World}
    (hr:(Builtin.copy_ #[t,t'] o.type #[v,u]).run P w=.ok v' w') (h:wpList P ops Q rest (a.put o.dst v') w'):wpList P ops Q (o ::rest) a w :=
 wpList_plain hgd fun _ hK=>wp_copy_run w d s t t' ho v u hd hs hr (hK _ _ h)
theorem step_copy_run {ops : Array Oper} {o : Oper} {a : Act} {K : Act → World → Prop} {Q : Exit → Act → World → Prop} {E : Prop}
    (hg:o.guard=none) (d x:Operand) (dT sT:TypeId) (hop:o.op=Op.call { callee:=Callee.builtin Builtin.copy,args:=#[d,x],argTypes:=#[dT,sT] })
    (v u:Value) (hd:a.eval d=v) (hx:a.eval x=u) {v':Value} {w':World} (hr:(Builtin.copy_ #[dT,sT] o.type #[v,u]).run P w=.ok v' w') (hK:K (a.put o.dst v') w') :
    if Region.wanted o (yielded ops a.tmps)=true then Oper.wp P o a w K Q else E:=by
 have hw:Region.wanted o (yielded ops a.tmps)=true:=by simp [Region.wanted,hg]
 rw [if_pos hw]
 exact wp_copy_run w d x dT sT hop v u hd hx hr hK
end
section
variable {P:Program} (w:World)
theorem step_append_run {ops : Array Oper} {o : Oper} {a : Act} {K : Act → World → Prop} {Q : Exit → Act → World → Prop} {E : Prop}
    (hg:o.guard=none) (d x:Operand) (dT sT:TypeId) (hop:o.op=Op.call { callee:=Callee.builtin Builtin.append,args:=#[d,x],argTypes:=#[dT,sT] })
    (v u:Value) (hd:a.eval d=v) (hx:a.eval x=u) {v':Value} {w':World} (hr:(Builtin.append_ #[dT,sT] o.type #[v,u]).run P w=.ok v' w') (hK:K (a.put o.dst v') w') :
    if Region.wanted o (yielded ops a.tmps)=true then Oper.wp P o a w K Q else E:=by
 have hw:Region.wanted o (yielded ops a.tmps)=true:=by simp [Region.wanted,hg]
 rw [if_pos hw]
 unfold Oper.wp execOp
 simp only [hop,resolve,invoke,builtin,Sem.run_bind,Sem.run_pure,Result.andThen_ok,List.map_toArray,List.map_cons,List.map_nil,hd,hx,hr]
 exact hK
theorem wpList_clear_run {ops : Array Oper} {rest : List Oper} {o : Oper} {a : Act} {Q : Exit → Act → World → Prop} (hgd : o.guard = none) (d : Operand) (t : TypeId)
    (ho:o.op=.call { callee:=.builtin .clear,args:=#[d],argTypes:=#[t] }) (v:Value) (hd:a.eval d=v) {v':Value} {w':World}
    (hr:(Builtin.clear_ #[t] o.type #[v]).run P w=.ok v' w') (h:wpList P ops Q rest (a.put o.dst v') w'):wpList P ops Q (o ::rest) a w :=
 wpList_plain hgd fun _ hK=>by
  unfold Oper.wp execOp
  simp only [ho,resolve,invoke,builtin,Sem.run_bind,Sem.run_pure,Result.andThen_ok,List.map_toArray,List.map_cons,List.map_nil,hd,hr]
  exact hK _ _ h
theorem run_clear_rowK (t ty elem : TypeId) (g o n c : Nat) (cur : Array Value) (E : TypeId) (z : Value) (hu : P.underlying t = some (.slice elem)) (hz : (zeroValue elem).run P w = .ok z w) (hz1 : ∀ u ∈ z.cells, u.oneCell' = true)
    (hg:w.heap[g]?=some (.cells cur E (0,0))) (hn:0<n) (hfit:o+n*z.cells.size≤cur.size) :
    (Builtin.clear_ #[t] ty #[.slice (some ⟨g,o,none⟩) n c]).run P w=.ok (.tuple #[]) (w.setRow g (spliceR cur o (Builtin.zeroCells z.cells n).toList)):=by
 have hst:=run_storeCells_at P g o E (Builtin.zeroCells z.cells n).toList 0 cur w hg (by simpa [size_zeroCells] using hfit) (by
  intro v hv
  rw [Array.mem_toList_iff,Builtin.zeroCells,Array.mem_map] at hv
  obtain ⟨i,hi,rfl⟩:=hv
  rw [Array.mem_range] at hi
  have hpos:0<z.cells.size:=by
   rcases Nat.eq_zero_or_pos z.cells.size with h | h
   · rw [h] at hi;omega
   · exact h
  have hlt:=Nat.mod_lt i hpos
  rw [getElem!_pos z.cells _ hlt]
  exact hz1 _ (Array.getElem_mem hlt))
 simp only [Nat.add_zero] at hst
 cases n with
 | zero=>omega
 | succ n=>simp [Builtin.clear_,run_underlying hu,hz,hst,spliceR]
end
theorem Own.open_ {w : World} {base E k n c : Nat} {A : Option Addr} {rows : List (List Value)} (h : Own w base E k (.slice A n c) n rows) (hn : 0 < n) :
    ∃ g cur,A=some ⟨g,0,none⟩∧base≤g∧g<w.heap.size∧w.heap[g]?=some (.cells cur E (0,0))∧n≤c∧c≤maxLen∧cur.size=c*k∧cur.toList.take (n*k)=rows.flatten:=by
 rcases h.1.2 with ⟨e,h0⟩ | ⟨g,cap,cur,e,hb,hh,h1,h2,h3,h4⟩
 · omega
 · injection e with e1 e2 e3
   subst e1;subst e3
   exact ⟨g,cur,rfl,hb,(Array.getElem?_eq_some_iff.1 hh).1,hh,h1,h2,h3,h4⟩
theorem Own.mk_ {w : World} {base E k n c g : Nat} {cur : Array Value} {rows : List (List Value)} (hb : base ≤ g) (hh : w.heap[g]? = some (.cells cur E (0, 0))) (h1 : n ≤ c) (h2 : c ≤ maxLen) (h3 : cur.size = c * k)
    (h4:cur.toList.take (n*k)=rows.flatten) (hl:rows.length=n) (hr:∀ r∈rows,r.length=k):Own w base E k (.slice (some ⟨g,0,none⟩) n c) n rows :=
 ⟨⟨by rw [flatten_length hr,hl],.inr ⟨g,c,cur,rfl,hb,hh,h1,h2,h3,h4⟩⟩,hl,hr⟩
theorem grownBy_setRow (w:World) (g:Nat) (cs:Array Value):w.grownBy (w.setRow g cs) (some g) :=
 ⟨rfl,rfl,rfl,by simp,fun k _ hk=>setRow_other w g k _ (fun e=>hk (by rw [e]))⟩
theorem insert_cells {α : Type} (P X S Z : List α) (hX : X.length ≤ Z.length) :
    let c1:=(P ++S ++Z).take (P.length+X.length) ++S ++(P ++S ++Z).drop (P.length+X.length+S.length)
    c1.take P.length ++X ++c1.drop (P.length+X.length)=P ++X ++S ++Z.drop X.length:=by
 have e1:(P ++S ++Z).take (P.length+X.length)=P ++(S ++Z).take X.length:=by rw [List.append_assoc,List.take_length_add_append]
 have e2:(P ++S ++Z).drop (P.length+X.length+S.length)=Z.drop X.length:=by
  rw [show P.length+X.length+S.length=(P ++S).length+X.length by simp;omega,List.drop_length_add_append]
 have e3:((S ++Z).take X.length).length=X.length:=by simp;omega
 simp only [e1,e2]
 have t1:(P ++(S ++Z).take X.length ++S ++Z.drop X.length).take P.length=P:=by simp [List.append_assoc]
 have t2:(P ++(S ++Z).take X.length ++S ++Z.drop X.length).drop (P.length+X.length)=S ++Z.drop X.length:=by
  rw [show P.length+X.length=(P ++(S ++Z).take X.length).length by simp;omega]
  rw [List.append_assoc (P ++_),List.drop_left]
 rw [t1,t2]
 simp [List.append_assoc]
end
section
open Go.RowKit
def Unf (w:World) (b:Nat):Prop:=∃ cs t,w.heap[b]?=some (.cells cs t (0,0))
section
variable {w w':World} {b:Nat}
theorem Unf.frozen (h:Unf w b) (o:Nat):w.frozen? ⟨b,o,none⟩=false:=by
 obtain ⟨cs,t,h⟩:=h
 simp [World.frozen?,h]
theorem Unf.put (h:Unf w b) (p:Addr) (u:Value):Unf (w.setCell p u) b:=by
 obtain ⟨cs,t,h⟩:=h
 by_cases e:b=p.block
 · subst e
   unfold Unf World.setCell
   simp only [Array.getElem?_modify,if_true,h,Option.map_some]
   split <;> first | exact ⟨_,_,rfl⟩ | (rename_i e;injection e with e;exact ⟨_,_,rfl⟩) | simp_all
 · exact ⟨cs,t,(Below.heap_setCell w p u b e).trans h⟩
theorem Unf.new (h:Unf w b) (o:Obj):Unf (w.alloc o) b:=by
 obtain ⟨cs,t,h⟩:=h
 exact ⟨cs,t,(Below.heap_alloc w o b (Array.getElem?_eq_some_iff.1 h).1).trans h⟩
theorem Unf.lt (h:Unf w b):b<w.heap.size:=by
 obtain ⟨cs,t,h⟩:=h
 exact (Array.getElem?_eq_some_iff.1 h).1
theorem Unf.below {B:Nat} (h:Unf w b) (hb:Below B w w') (hB:b<B):Unf w' b:=by
 obtain ⟨cs,t,h⟩:=h
 exact ⟨cs,t,(hb.block b hB).trans h⟩
theorem Unf.onto (h:Unf w b) (hb:Onto w w'):Unf w' b:=h.below hb h.lt
theorem Unf.grown {row:Option Nat} (h:Unf w b) (hb:w.grownBy w' row) (hB:some b≠row):Unf w' b:=by
 have hl:=h.lt
 obtain ⟨cs,t,h⟩:=h
 exact ⟨cs,t,(hb.block b hl hB).trans h⟩
end
def M (w:World) (base k:Nat) (A:Option Addr) (n:Nat) (rows:List (List Value)):Prop:=S w k A n rows∧(0<n→∃ b off,A=some ⟨b,off,none⟩∧base≤b∧Unf w b)
section
variable {w w':World} {base k n b off i j:Nat} {A:Option Addr} {rows:List (List Value)} {r:List Value} {u:Value}
theorem M.sl (h:M w base k A n rows):S w k A n rows:=h.1
theorem M.onto (h:M w base k A n rows) (hb:Onto w w'):M w' base k A n rows :=
 ⟨h.1.onto hb,fun hn=>by obtain ⟨b,off,e,h1,h2⟩:=h.2 hn;exact ⟨b,off,e,h1,h2.onto hb⟩⟩
theorem M.lower {base':Nat} (h:M w base k A n rows) (hb:base'≤base):M w base' k A n rows :=
 ⟨h.1,fun hn=>by obtain ⟨b,off,e,h1,h2⟩:=h.2 hn;exact ⟨b,off,e,by omega,h2⟩⟩
theorem M.nil (w:World) (base k:Nat) (A:Option Addr):M w base k A 0 []:=⟨Sl.nil,fun h=>absurd h (by omega)⟩
theorem Own.cap_max {E c:Nat} (h:Own w base E k (.slice A n c) n rows):c≤maxLen:=by
 obtain ⟨A',c',e,_,h2⟩:=h.slice
 injection e with _ _ e
 omega
theorem Own.m {E c:Nat} (h:Own w base E k (.slice A n c) n rows):M w base k A n rows :=
 ⟨h.sl,fun hn=>by
  obtain ⟨g,cur,rfl,h1,h2,h3,_⟩:=h.open_ hn
  exact ⟨g,0,rfl,h1,cur,E,h3⟩⟩
theorem Sl.put {B : Nat} (h : Sl w B k (some ⟨b, off, none⟩) n rows) (hr : rows[i]? = some r) (hj : j < r.length) (u : Value) :
    Sl (w.setCell ⟨b,off+i*k+j,none⟩ u) B k (some ⟨b,off,none⟩) n (rows.set i (r.set j u)):=by
 have hi:i<rows.length:=(List.getElem?_eq_some_iff.1 hr).1
 have hrk:r.length=k:=h.2.1 r (List.mem_of_getElem? hr)
 refine ⟨by simpa using h.1,fun x hx=>?_,fun hn=>?_⟩
 · rcases List.mem_or_eq_of_mem_set hx with hx | rfl
   · exact h.2.1 x hx
   · simpa using hrk
 obtain ⟨b',off',e,hb,hc⟩:=h.2.2 hn
 injection e with e;injection e with e1 e2 _
 subst e1;subst e2
 refine ⟨b,off,rfl,hb,fun i0 j0 x v hx hv=>?_⟩
 rw [List.getElem?_set] at hx
 by_cases e:i=i0
 · subst e
   rw [if_pos rfl,if_pos hi] at hx
   injection hx with hx
   subst hx
   rw [List.getElem?_set] at hv
   by_cases e:j=j0
   · subst e
     rw [if_pos rfl,if_pos hj] at hv
     injection hv with hv
     subst hv
     exact World.cell?_setCell_same w _ _ (hc i j r r[j] hr (List.getElem?_eq_getElem hj))
   · rw [if_neg e] at hv
     rw [World.cell?_setCell_other w _ _ _ (by intro h;injection h with _ h _;omega)]
     exact hc i j0 r v hr hv
 · rw [if_neg e] at hx
   have hxk:x.length=k:=h.2.1 x (List.mem_of_getElem? hx)
   have hj0:j0<k:=by rw [← hxk];exact (List.getElem?_eq_some_iff.1 hv).1
   rw [World.cell?_setCell_other w _ _ _ (by
    intro h
    injection h with _ h _
    rcases Nat.lt_or_gt_of_ne e with e | e
    · have:(i+1)*k≤i0*k:=Nat.mul_le_mul_right k e
      rw [Nat.add_mul] at this;omega
    · have:(i0+1)*k≤i*k:=Nat.mul_le_mul_right k e
      rw [Nat.add_mul] at this;omega)]
   exact hc i0 j0 x v hx hv
theorem M.put (h : M w base k (some ⟨b, off, none⟩) n rows) (hr : rows[i]? = some r) (hj : j < r.length) (u : Value) :
    M (w.setCell ⟨b,off+i*k+j,none⟩ u) base k (some ⟨b,off,none⟩) n (rows.set i (r.set j u)) :=
 ⟨by have:=Sl.put h.1 hr hj u;simpa [S] using this,fun hn=>by
  obtain ⟨b',off',e,h1,h2⟩:=h.2 hn
  exact ⟨b',off',e,h1,h2.put _ _⟩⟩
end
/-! ### Only one row has turned -/
section
variable {a w w':World} {row:Option Nat} {b:Nat}
theorem gb_onto (h:a.grownBy w row) (hb:Onto w w'):a.grownBy w' row :=
 ⟨hb.os.trans h.os,hb.tape.trans h.tape,hb.output.trans h.output,Nat.le_trans h.size hb.size,fun i hi hn=>(hb.block i (Nat.lt_of_lt_of_le hi h.size)).trans (h.block i hi hn)⟩
theorem gb_put (h:a.grownBy w (some b)) {p:Addr} (hp:p.block=b) (u:Value):a.grownBy (w.setCell p u) (some b) :=
 ⟨h.os,h.tape,h.output,by simpa [World.setCell] using h.size,fun i hi hne=>(Below.heap_setCell w p u i (by rintro rfl;exact hne (by rw [hp]))).trans (h.block i hi hne)⟩
theorem M.draw {base k n:Nat} {A:Option Addr} {rows:List (List Value)} (h:M w base k A n rows):M w.drew base k A n rows:=h
theorem M.draws {base k n:Nat} {A:Option Addr} {rows:List (List Value)} (h:M w base k A n rows) (q:Nat):M (w.drewN q) base k A n rows:=h
end
/-! ### Insertion,from the right -/
section
variable {α:Type}
end
end
section
open Go.RowKit
theorem put_in {w:World} {b:Nat} {vs:List Value} (hex:∀ j,j<vs.length→(w.cell? ⟨b,j,none⟩).isSome=true) {j:Nat} {v:Value} (hj:vs[j]?=some v):(w.setCells b 0 vs).cell? ⟨b,j,none⟩=some v:=by
 obtain ⟨hl,rfl⟩:=List.getElem?_eq_some_iff.1 hj
 have:=World.cell?_setCells_in b vs 0 w (fun j hj=>by simpa using hex j hj) j hl
 simpa using this
theorem put_out {w:World} {b o:Nat} {vs:List Value} {p:Addr} (hp:p.block≠b):(w.setCells b o vs).cell? p=w.cell? p :=
 World.cell?_setCells_out b vs o w p fun h=>absurd h hp
theorem put_onto {w:World} {b:Nat} (hb:w.heap.size≤b):∀ {vs:List Value} {o:Nat} {w1:World},Onto w w1→Onto w (w1.setCells b o vs)
 | [],_,_,h=>h
 | v ::r,o,w1,h=>by rw [World.setCells];exact put_onto hb (h.put hb v)
theorem put_S {w:World} {b k n:Nat} {A:Option Addr} {rows:List (List Value)} (ho:OffN n b A):∀ {vs:List Value} {o:Nat} {w:World},S w k A n rows→S (w.setCells b o vs) k A n rows
 | [],_,_,h=>h
 | v ::r,o,w1,h=>by rw [World.setCells];exact put_S (w:=w) ho (S.off h ho v)
def There (w:World) (b n:Nat):Prop:=∀ j,j<n→(w.cell? ⟨b,j,none⟩).isSome=true
theorem There.put {w:World} {b n b' o:Nat} {vs:List Value} (h:There w b n) (hb:b≠b'):There (w.setCells b' o vs) b n:=fun j hj=>by
 rw [put_out (by simpa using hb)];exact h j hj
theorem there12 {w:World} {b:Nat} {v0 v1 v2 v3 v4 v5 v6 v7 v8 v9 v10 v11:Value} (h0:w.cell? ⟨b,0,none⟩=some v0) (h1:w.cell? ⟨b,1,none⟩=some v1) (h2:w.cell? ⟨b,2,none⟩=some v2) (h3:w.cell? ⟨b,3,none⟩=some v3) (h4:w.cell? ⟨b,4,none⟩=some v4) (h5:w.cell? ⟨b,5,none⟩=some v5) (h6:w.cell? ⟨b,6,none⟩=some v6) (h7:w.cell? ⟨b,7,none⟩=some v7) (h8:w.cell? ⟨b,8,none⟩=some v8) (h9:w.cell? ⟨b,9,none⟩=some v9) (h10:w.cell? ⟨b,10,none⟩=some v10) (h11:w.cell? ⟨b,11,none⟩=some v11):There w b 12:=fun j hj=>by
 match j,hj with
 | 0,_=>rw [h0];rfl
 | 1,_=>rw [h1];rfl
 | 2,_=>rw [h2];rfl
 | 3,_=>rw [h3];rfl
 | 4,_=>rw [h4];rfl
 | 5,_=>rw [h5];rfl
 | 6,_=>rw [h6];rfl
 | 7,_=>rw [h7];rfl
 | 8,_=>rw [h8];rfl
 | 9,_=>rw [h9];rfl
 | 10,_=>rw [h10];rfl
 | 11,_=>rw [h11];rfl
end
section
open Go.RowKit
structure Bx (w:World) (z:Nat) (vs:List Value):Prop where
 cells:∀ j v,vs[j]?=some v→w.cell? ⟨z,j,none⟩=some v
 unf:Unf w z
section
variable {w w':World} {z b o:Nat} {vs us:List Value}
theorem Bx.lt (h:Bx w z vs):z<w.heap.size:=h.unf.lt
theorem Bx.at_ (h:Bx w z vs) (j:Nat) {v:Value} (hv:vs[j]?=some v):w.cell? ⟨z,j,none⟩=some v:=h.cells j v hv
theorem Bx.froz (h:Bx w z vs) (o:Nat):w.frozen? ⟨z,o,none⟩=false:=h.unf.frozen o
theorem Bx.onto (h:Bx w z vs) (hb:Onto w w'):Bx w' z vs:=⟨fun j v hv=>cellB hb (h.cells j v hv),h.unf.onto hb⟩
theorem Bx.draws (h:Bx w z vs) (q:Nat):Bx (w.drewN q) z vs:=h.onto ((Onto.rfl' w).draws q)
theorem Bx.draw (h:Bx w z vs):Bx w.drew z vs:=h.onto ((Onto.rfl' w).draw)
theorem Bx.new (h:Bx w z vs) (o:Obj):Bx (w.alloc o) z vs:=h.onto ((Onto.rfl' w).new o)
theorem Bx.made (w:World) (cs:Array Value) (t:TypeId):Bx (w.alloc (.cells cs t)) w.heap.size cs.toList :=
 ⟨fun j v hv=>by
  rw [cell_of_row _ _ _ _ _ _ (heap_alloc_new w _),← Array.getElem?_toList];exact hv,⟨_,_,heap_alloc_new w _⟩⟩
theorem Bx.is {z:Nat} {cs:Array Value} {t:TypeId} (h:w.heap[z]?=some (.cells cs t)):Bx w z cs.toList :=
 ⟨fun j v hv=>by rw [cell_of_row _ _ _ _ _ _ h,← Array.getElem?_toList];exact hv,⟨_,_,h⟩⟩
theorem Bx.there (h:Bx w z vs) {n:Nat} (hn:n≤vs.length):w.there z 0 n:=fun j hj=>by
 rw [Nat.zero_add]
 exact ⟨by rw [h.cells j vs[j] (List.getElem?_eq_getElem (by omega))];rfl,h.froz j⟩
theorem Bx.range (h:Bx w z vs):w.rangeAt z 0 vs:=fun j v hv=>by rw [Nat.zero_add];exact h.cells j v hv
theorem Unf.puts {b':Nat}:∀ {us:List Value} {o:Nat} {w:World},Unf w b→Unf (w.setCells b' o us) b
 | [],_,_,h=>h
 | v ::r,o,w,h=>by rw [World.setCells];exact Unf.puts (h.put _ _)
theorem Bx.put (h:Bx w z vs) (hu:us.length=vs.length):Bx (w.setCells z 0 us) z us :=
 ⟨fun j v hv=>put_in (fun j hj=>by rw [h.cells j vs[j] (List.getElem?_eq_getElem (by omega))];rfl) hv,Unf.puts h.unf⟩
theorem Bx.off (h:Bx w z vs) (hb:z≠b):Bx (w.setCells b o us) z vs :=
 ⟨fun j v hv=>by rw [put_out (by simpa using hb)];exact h.cells j v hv,Unf.puts h.unf⟩
theorem Bx.off1 (h:Bx w z vs) {p:Addr} (hb:z≠p.block) (u:Value):Bx (w.setCell p u) z vs :=
 ⟨fun j v hv=>by rw [World.cell?_setCell_other w _ _ _ (by intro e;subst e;exact hb rfl)];exact h.cells j v hv,h.unf.put _ _⟩
theorem Bx.put1 (h:Bx w z vs) {j:Nat} (hj:j<vs.length) (u:Value):Bx (w.setCell ⟨z,j,none⟩ u) z (vs.set j u) :=
 ⟨fun i v hv=>by
  rw [List.getElem?_set] at hv
  by_cases e:j=i
  · subst e
    rw [if_pos rfl,if_pos hj] at hv
    injection hv with hv
    subst hv
    exact World.cell?_setCell_same w _ _ (h.cells j vs[j] (List.getElem?_eq_getElem hj))
  · rw [if_neg e] at hv
    rw [World.cell?_setCell_other w _ _ _ (by intro h;injection h with _ h _;exact e h)]
    exact h.cells i v hv,h.unf.put _ _⟩
theorem Onto.puts {w1:World} (hb:w.heap.size≤b) (h:Onto w w1):Onto w (w1.setCells b o us):=put_onto hb h
theorem wpList_put {P : Program} {ops : Array Oper} {rest : List Oper} {op : Oper} {a : Act} {Q : Exit → Act → World → Prop} (hB : Bx w z vs) (us : List Value) (ty : TypeId) (x y : Operand) (hgd : op.guard = none) (ho : op.op = .store ty x y)
    (hx:a.eval x=.pointer (some ⟨z,0,none⟩)) (hy:a.eval y=.agg us.toArray) (hl:us.length=vs.length) (hi:(P.info? ty).map (·.size)=some vs.length) (h1:us.all (·.oneCell')=true)
    (h:wpList P ops Q rest (a.put op.dst undef) (w.setCells z 0 us)):wpList P ops Q (op ::rest) a w :=
 wpList_store_mid hgd ty x y ho z 0 us.toArray hx hy (hB.there (by simp;omega)) (by rw [hi];simp [hl]) (all_oneCell_toArray (List.all_eq_true.1 h1)) h
end
end
section
open Go.RowKit
def setMany:List Value→Nat→List Value→List Value
 | vs,_,[]=>vs
 | vs,o,u ::r=>setMany (vs.set o u) (o+1) r
theorem setMany_length:∀ (us:List Value) (vs:List Value) (o:Nat),(setMany vs o us).length=vs.length
 | [],_,_=>rfl
 | u ::r,vs,o=>by rw [setMany,setMany_length r];simp
section
variable {w:World} {z b o:Nat} {vs us:List Value}
theorem Bx.putM:∀ {us vs:List Value} {o:Nat} {w:World},Bx w z vs→o+us.length≤vs.length→Bx (w.setCells z o us) z (setMany vs o us)
 | [],_,_,_,h,_=>h
 | u ::r,vs,o,w,h,hl=>by
   rw [World.setCells,setMany]
   simp only [List.length_cons] at hl
   exact Bx.putM (h.put1 (j:=o) (by omega) u) (by simp;omega)
theorem Bx.thereM (h:Bx w z vs) {o n:Nat} (hn:o+n≤vs.length):w.there z o n:=fun j hj =>
 ⟨by rw [h.cells (o+j) vs[o+j] (List.getElem?_eq_getElem (by omega))];rfl,h.froz (o+j)⟩
variable {P:Program} {ops:Array Oper} {rest:List Oper} {op:Oper} {a:Act} {K:Act→World→Prop} {Q:Exit→Act→World→Prop} {F:Prop}
theorem wpList_putM (hB : Bx w z vs) (o : Nat) (us : List Value) (ty : TypeId) (x y : Operand) (hgd : op.guard = none) (ho : op.op = .store ty x y)
    (hx:a.eval x=.pointer (some ⟨z,o,none⟩)) (hy:a.eval y=.agg us.toArray) (hl:o+us.length≤vs.length) (hi:(P.info? ty).map (·.size)=some us.length) (h1:us.all (·.oneCell')=true)
    (h:wpList P ops Q rest (a.put op.dst undef) (w.setCells z o us)):wpList P ops Q (op ::rest) a w :=
 wpList_store_mid hgd ty x y ho z o us.toArray hx hy (hB.thereM (by simpa using hl)) (by rw [hi];simp) (all_oneCell_toArray (List.all_eq_true.1 h1)) h
end
end
section
open Go.RowKit
structure Env (w:World):Prop where
 tab:Lib.TabIs Tryz.prog w "internal/strconv.uint64pow10" .u64 Lib.pow10Tab
 big:∃ m,w.cell? ⟨0,0,none⟩=some (.int .i64 m)
 syn:∃ t p,w.cell? ⟨3,0,none⟩=some (.iface t p)
 rng:∃ t p,w.cell? ⟨4,0,none⟩=some (.iface t p)
section
variable {w w':World}
theorem Env.onto (h:Env w) (hb:Onto w w'):Env w' :=
 ⟨Lib.tabBelow_of_tabIs h.tab w' hb,let ⟨m,hm⟩:=h.big;⟨m,cellB hb hm⟩,let ⟨t,p,hm⟩:=h.syn;⟨t,p,cellB hb hm⟩,let ⟨t,p,hm⟩:=h.rng;⟨t,p,cellB hb hm⟩⟩
theorem Env.draws (h:Env w) (q:Nat):Env (w.drewN q):=h.onto ((Onto.rfl' w).draws q)
theorem Env.draw (h:Env w):Env w.drew:=h.onto ((Onto.rfl' w).draw)
theorem Env.new (h:Env w) (o:Obj):Env (w.alloc o):=h.onto ((Onto.rfl' w).new o)
theorem onto_grow (w:World) (k:Nat) (os:Array Obj):Onto w (Sort.grow (w.drewN k) os):=Lib.below_grow w.heap.size w (Nat.le_refl _) k os
end
end
section
structure Rec where
 kind:Int
 at_:Int
 epoch:Int
 e:Entry
 deriving DecidableEq,Inhabited
structure Uni where
 ep:Int
 cells:List Entry
 deriving DecidableEq,Inhabited
def zeroE:Entry:=⟨0,0,0,0,0⟩
def blank:Entry:=⟨4,0,0,0,0⟩
def zeroR:Rec:=⟨0,0,0,zeroE⟩
def cellAt (cs:List Entry) (k:Nat):Entry:=(cs[k]?).getD zeroE
theorem cellAt_eq {cs:List Entry} {k:Nat} {x:Entry} (h:cs[k]?=some x):cellAt cs k=x:=by unfold cellAt;rw [h];rfl
def checkR (r:Rec):Int :=
 if r.kind=1 then (if r.at_<0∨60≤r.at_ then 3 else if r.epoch≠0 then 4 else checkE r.e)
 else if r.kind=2 then (if r.epoch<1∨20<r.epoch then 3 else if r.at_≠0∨r.e≠zeroE then 4 else 0) else 4
def checkCs:List Entry→Int
 | []=>0
 | c ::l=>if c=blank then checkCs l else if checkE c≠0 then checkE c else checkCs l
def checkU (ep:Int) (cs:List Entry):Int:=if ep<1∨20<ep then 3 else if cs.length≠60 then 4 else checkCs cs
def nextU (u:Uni) (r:Rec):Uni × Int :=
 if checkU u.ep u.cells≠0 then (⟨0,[]⟩,checkU u.ep u.cells)
 else if checkR r≠0 then (⟨0,[]⟩,checkR r)
 else if r.kind=2 then (if r.epoch≤u.ep then (⟨0,[]⟩,8) else (⟨r.epoch,u.cells⟩,0))
 else if (cellAt u.cells r.at_.toNat).kind≠4 then (⟨0,[]⟩,6) else (⟨u.ep,u.cells.set r.at_.toNat r.e⟩,0)
def newU:Uni:=⟨1,List.replicate 60 blank⟩
def tailU (cs:List Entry):Nat:=(cs.reverse.dropWhile (fun c=>decide (c.kind=4))).length
theorem checkCs_at {l:List Entry} {k:Nat} {x:Entry} (hx:l[k]?=some x):checkCs (l.drop k)=if x=blank then checkCs (l.drop (k+1)) else if checkE x≠0 then checkE x else checkCs (l.drop (k+1)):=by
 obtain ⟨hk,rfl⟩:=List.getElem?_eq_some_iff.1 hx
 rw [List.drop_eq_getElem_cons hk]
 rfl
def okC (c:Entry):Prop:=c=blank∨checkE c=0
theorem checkCs_iff {l:List Entry}:checkCs l=0↔∀ c∈l,okC c:=by
 induction l with
 | nil=>simp [checkCs]
 | cons c l ih =>
   simp only [checkCs,List.forall_mem_cons]
   by_cases h:c=blank
   · rw [if_pos h,ih];simp [okC,h]
   · rw [if_neg h]
     by_cases h2:checkE c=0
     · rw [if_neg (by simp [h2]),ih];simp [okC,h2]
     · rw [if_pos h2];simp [okC,h,h2]
structure GoodU (ep:Int) (cs:List Entry):Prop where
 e1:1≤ep
 e2:ep≤20
 len:cs.length=60
 ok:∀ c∈cs,okC c
theorem checkU_iff {ep:Int} {cs:List Entry}:checkU ep cs=0↔GoodU ep cs:=by
 unfold checkU
 constructor
 · intro h
   split at h
   · cases h
   · split at h
     · cases h
     · exact ⟨by omega,by omega,by omega,checkCs_iff.1 h⟩
 · intro h
   have h1:=h.e1;have h2:=h.e2;have h3:=h.len
   rw [if_neg (by omega),if_neg (by omega)]
   exact checkCs_iff.2 h.ok
theorem checkE_kd {e:Entry} (h:checkE e=0):0≤e.kind∧e.kind≤3:=by
 unfold checkE at h
 split at h
 · cases h
 · omega
theorem okC_kind {c:Entry} (h:okC c):0≤c.kind∧c.kind≤4∧(c.kind=4↔c=blank):=by
 rcases h with rfl | h
 · decide
 · obtain ⟨h1,h2⟩:=checkE_kd h
   refine ⟨h1,by omega,fun h4=>by omega,fun h4=>by subst h4;simp [blank] at h2⟩
theorem GoodU.new:GoodU 1 newU.cells:=⟨by omega,by omega,by simp [newU],fun c hc=>by simp [newU] at hc;exact .inl hc⟩
theorem checkR_write {r:Rec} (h:checkR r=0) (hk:r.kind≠2):r.kind=1∧0≤r.at_∧r.at_<60∧r.epoch=0∧checkE r.e=0:=by
 unfold checkR at h
 by_cases h1:r.kind=1
 · rw [if_pos h1] at h
   by_cases h2:r.at_<0∨60≤r.at_
   · rw [if_pos h2] at h;cases h
   · rw [if_neg h2] at h
     by_cases h3:r.epoch≠0
     · rw [if_pos h3] at h;cases h
     · rw [if_neg h3] at h
       exact ⟨h1,by omega,by omega,by omega,h⟩
 · rw [if_neg h1,if_neg hk] at h
   cases h
theorem checkR_seal {r:Rec} (h:checkR r=0) (hk:r.kind=2):1≤r.epoch∧r.epoch≤20∧r.at_=0∧r.e=zeroE:=by
 unfold checkR at h
 rw [if_neg (by omega),if_pos hk] at h
 split at h
 · cases h
 · split at h
   · cases h
   · exact ⟨by omega,by omega,by omega,by simp_all⟩
theorem nextU_good {u:Uni} {r:Rec} (h:(nextU u r).2=0):GoodU u.ep u.cells∧checkR r=0∧GoodU (nextU u r).1.ep (nextU u r).1.cells:=by
 unfold nextU at h ⊢
 split at h
 · rename_i h1;exact absurd h h1
 · rename_i h1
   have hg:=checkU_iff.1 (Decidable.byContradiction h1)
   rw [if_neg h1]
   split at h
   · rename_i h2;exact absurd h h2
   · rename_i h2
     have hr:checkR r=0:=Decidable.byContradiction h2
     rw [if_neg h2]
     refine ⟨hg,hr,?_⟩
     split at h
     · rename_i h3
       obtain ⟨e1,e2,_,_⟩:=checkR_seal hr h3
       split at h
       · cases h
       · rename_i h4
         rw [if_pos h3,if_neg h4]
         exact ⟨e1,e2,hg.len,hg.ok⟩
     · rename_i h3
       obtain ⟨_,e1,e2,_,e3⟩:=checkR_write hr h3
       split at h
       · cases h
       · rename_i h4
         rw [if_neg h3,if_neg h4]
         refine ⟨hg.e1,hg.e2,by simp [hg.len],fun c hc=>?_⟩
         rcases List.mem_or_eq_of_mem_set hc with h5 | rfl
         · exact hg.ok c h5
         · exact .inr e3
end
end Go.Proofs.YtidlffepdcldkaaGreatDoor
