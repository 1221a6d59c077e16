/- Part 1. -/
import Derived.WalkKit
import Derived.WalkSpells
import Derived.Below
import Derived.BigFrame
import Derived.BigQuiet
import Derived.Lib.Hide
import Derived.Laws.StructEq
import Derived.Deep.QuietTactic
import Derived.Deep.LoopGhost
import Derived.Deep.DeepFit
import Derived.Deep.Cut
import Derived.Deep.Draws
import Derived.Outline
import Derived.Laws.OwnMore
import Derived.Deep.AppendLies
import Derived.Maps.AppendAt
import Derived.RegionTactic
import Derived.OwnWalk
import Derived.Deep.RegionHeld3
import Derived.Test.YtpfkagghooihfaaGreatDoorProg
import Derived.StillTailTactics
import Derived.BigRegion
import Derived.Lib.LaidTab
import Derived.Lib.AppendIntMem
import Derived.Lib.AtoiErrMem
import Derived.Lib.SplitLaws
import Derived.Lib.ItoaLen
import Derived.Lib.AtoiAllCases
namespace Go.Proofs.YtpfkagghooihfaaGreatDoor
set_option linter.unusedSimpArgs false
set_option linter.unusedVariables false
set_option maxHeartbeats 4000000
set_option maxRecDepth 100000
open Go.Proofs.Tryz
section
instance : Coe Int Value := ⟨.int .i64⟩
instance : Coe Nat Value := ⟨fun k => .int .i64 k⟩
instance : Coe Unit Value := ⟨fun _ => .int .i64 0⟩
instance : Coe Type Value := ⟨fun _ => .slice none 0 0⟩
theorem aH {p : Prop} (h : p) : RowKit.Hid p := h
open Go.RowKit
structure aL where
 kind:Int
 job:Int
 every:Int
 time:Int
 client:Int
 deriving DecidableEq,Inhabited
structure dB where
 id:Int
 every:Int
 next:Int
 deriving DecidableEq,Inhabited
structure iO where
 job:Int
 time:Int
 client:Int
 deriving DecidableEq,Inhabited
structure QR where
 job:Int
 every:Int
 frm:Int
 rung:Int
 over:Bool
 deriving DecidableEq,Inhabited
def bA (e:aL):List Value:=[e.kind,e.job,e.every,e.time,e.client]
def bX (j:dB):List Value:=[j.id,j.every,j.next]
def dN (r:iO):List Value:=[r.job,r.time,r.client]
def iW (n:Int):List Value:=[n]
def Sl (w:World)(B k:Nat)(A:Option Addr)(n:Nat)(rows:List (List Value)):Prop :=
 rows.length=n∧(∀r∈rows,r.length=k) ∧
  (0<n→∃b off,A=some ⟨b,off,none⟩∧b<B∧∀i j r u,rows[i]?=some r→r[j]?=some u→w.cell? ⟨b,off+i*k+j,none⟩=some u)
section
variable {w w':World}{B B' k n:Nat}{A:Option Addr}{rows:List (List Value)}
theorem Sl.len (h:Sl w B k A n rows):rows.length=n:=h.1
theorem Sl.nil:Sl w B k A 0 []:=⟨rfl,by simp,fun h=>absurd h (by omega)⟩
theorem Sl.keep (h:Sl w B k A n rows)(hk:∀p:Addr,p.block<B→w'.cell? p=w.cell? p):Sl w' B k A n rows :=
 ⟨h.1,h.2.1,fun hn=>by
  obtain⟨b,off,e,hb,hc⟩:=h.2.2 hn
  exact⟨b,off,e,hb,fun i j r u hr hu=>(hk ⟨b,off+i*k+j,none⟩ hb).trans (hc i j r u hr hu)⟩⟩
theorem Sl.more (h:Sl w B k A n rows)(hB:B≤B'):Sl w B' k A n rows :=
 ⟨h.1,h.2.1,fun hn=>by
  obtain⟨b,off,e,hb,hc⟩:=h.2.2 hn
  exact⟨b,off,e,by omega,hc⟩⟩
theorem Sl.below (h:Sl w B k A n rows)(hb:Below B w w'):Sl w' B k A n rows:=h.keep fun _ hp=>hb.cell hp
theorem Sl.alloc (h:Sl w B k A n rows)(hB:B≤w.heap.size)(o:Obj):Sl (w.alloc o) B k A n rows:=h.keep fun p hp=>World.cell?_alloc_lt w o p (by omega)
theorem Sl.setCell (h:Sl w B k A n rows){p:Addr}(hB:B≤p.block)(u:Value):Sl (w.setCell p u) B k A n rows :=
 h.keep fun q hq=>World.cell?_setCell_other w p q u (fun e=>by subst e;omega)
theorem Sl.under (h:Sl w B k A n rows)(hB:B≤w.heap.size)(hb:Below w.heap.size w w'):Sl w' B k A n rows:=h.below (hb.mono hB)
theorem Sl.drewN (h:Sl w B k A n rows)(q:Nat):Sl (w.drewN q) B k A n rows:=h
theorem Sl.drew (h:Sl w B k A n rows):Sl w.drew B k A n rows:=h
section
variable {α:Type}{enc:α→List Value}{l:List α}
theorem Sl.at_ (h : Sl w B k A n (l.map enc)){i : Nat}(hi : i < n) : ∃b off x, A = some ⟨b, off, none⟩ ∧ b < B ∧ l[i]? = some x ∧
    ∀j u,(enc x)[j]?=some u→w.cell? ⟨b,off+i*k+j,none⟩=some u:=by
 obtain⟨b,off,e,hb,hc⟩:=h.2.2 (by omega);have hl:i<l.length:=by have:=h.1;simp at this;omega
 exact⟨b,off,l[i],e,hb,List.getElem?_eq_getElem hl,fun j u hu=>hc i j (enc l[i]) u (by simp[List.getElem?_eq_getElem hl]) hu⟩
end
theorem Sl.atJ {l : List dB}(h : Sl w B 3 A n (l.map bX)){i : Nat}(hi : i < n) : ∃b off x, A = some ⟨b, off, none⟩ ∧ b < B ∧ l[i]? = some x ∧
    w.cell? ⟨b,off+i*3,none⟩=some (.int .i64 x.id)∧w.cell? ⟨b,off+i*3+1,none⟩=some (.int .i64 x.every)∧w.cell? ⟨b,off+i*3+2,none⟩=some (.int .i64 x.next):=by
 obtain⟨b,off,x,e,hb,hx,hc⟩:=h.at_ hi;exact⟨b,off,x,e,hb,hx,hc 0 _ rfl,hc 1 _ rfl,hc 2 _ rfl⟩
theorem Sl.atR {l : List iO}(h : Sl w B 3 A n (l.map dN)){i : Nat}(hi : i < n) : ∃b off x, A = some ⟨b, off, none⟩ ∧ b < B ∧ l[i]? = some x ∧
    w.cell? ⟨b,off+i*3,none⟩=some (.int .i64 x.job)∧w.cell? ⟨b,off+i*3+1,none⟩=some (.int .i64 x.time)∧w.cell? ⟨b,off+i*3+2,none⟩=some (.int .i64 x.client):=by
 obtain⟨b,off,x,e,hb,hx,hc⟩:=h.at_ hi;exact⟨b,off,x,e,hb,hx,hc 0 _ rfl,hc 1 _ rfl,hc 2 _ rfl⟩
theorem Sl.atE {l : List aL}(h : Sl w B 5 A n (l.map bA)){i : Nat}(hi : i < n) : ∃b off x, A = some ⟨b, off, none⟩ ∧ b < B ∧ l[i]? = some x ∧
    w.cell? ⟨b,off+i*5,none⟩=some (.int .i64 x.kind)∧w.cell? ⟨b,off+i*5+1,none⟩=some (.int .i64 x.job)∧w.cell? ⟨b,off+i*5+2,none⟩=some (.int .i64 x.every)∧w.cell? ⟨b,off+i*5+3,none⟩=some (.int .i64 x.time)∧w.cell? ⟨b,off+i*5+4,none⟩=some (.int .i64 x.client):=by
 obtain⟨b,off,x,e,hb,hx,hc⟩:=h.at_ hi;exact⟨b,off,x,e,hb,hx,hc 0 _ rfl,hc 1 _ rfl,hc 2 _ rfl,hc 3 _ rfl,hc 4 _ rfl⟩
theorem Sl.atI {l:List Int}(h:Sl w B 1 A n (l.map iW)){i:Nat}(hi:i<n):∃b off x,A=some ⟨b,off,none⟩∧b<B∧l[i]?=some x∧w.cell? ⟨b,off+i,none⟩=some (.int .i64 x):=by
 obtain⟨b,off,x,e,hb,hx,hc⟩:=h.at_ hi;have h0:=hc 0 _ rfl;rw[Nat.mul_one]at h0;exact⟨b,off,x,e,hb,hx,h0⟩
end
/-! ### Rows of the call's own -/
def cH (w:World)(base:Nat)(E k:Nat)(v:Value)(n:Nat)(rows:List (List Value)):Prop :=
 w.ownsRow base E k v n rows.flatten∧rows.length=n∧∀r∈rows,r.length=k
theorem aN {α:Type}{k:Nat}:∀ {rows:List (List α)},(∀r∈rows,r.length=k)→rows.flatten.length=rows.length*k
 | [],_=>by simp
 |r ::rows,h=>by
   rw[List.flatten_cons,List.length_append,aN (fun r' h'=>h r' (by simp[h'])),h r (by simp),List.length_cons,Nat.add_mul];omega
theorem eG {α:Type}{k:Nat}:∀ {rows:List (List α)},(∀r∈rows,r.length=k)→∀ (i j:Nat)(r:List α)(u:α),rows[i]?=some r→r[j]?=some u→rows.flatten[i*k+j]?=some u
 | [],_,i,j,r,u,hr,_=>by simp at hr
 |r0 ::rows,h,0,j,r,u,hr,hu=>by
   simp at hr;subst hr
   have hj:j<r0.length:=by
    rcases Nat.lt_or_ge j r0.length with h'|h'
    · exact h'
    rw[List.getElem?_eq_none h']at hu;cases hu
   rw[List.flatten_cons,Nat.zero_mul,Nat.zero_add,List.getElem?_append_left hj];exact hu
 |r0 ::rows,h,i+1,j,r,u,hr,hu=>by
   have hk:r0.length=k:=h r0 (by simp);rw[List.flatten_cons,List.getElem?_append_right (by rw[hk,Nat.add_mul];omega)];have e:(i+1)*k+j-r0.length=i*k+j:=by rw[hk,Nat.add_mul];omega
   rw[e];exact eG (fun r' h'=>h r' (by simp[h'])) i j r u (by simpa using hr) hu
theorem qN {α:Type}{k:Nat}(hk:0<k):∀ {rows:List (List α)},(∀r∈rows,r.length=k)→∀ (m:Nat)(u:α),rows.flatten[m]?=some u→∃r,rows[m / k]?=some r∧r[m % k]?=some u
 | [],_,m,u,hu=>by simp at hu
 |r0 ::rows,h,m,u,hu=>by
   have hr0:r0.length=k:=h r0 (by simp);rw[List.flatten_cons]at hu;rcases Nat.lt_or_ge m k with hm|hm
   · rw[List.getElem?_append_left (by omega)]at hu;exact⟨r0,by rw[Nat.div_eq_of_lt hm];rfl,by rw[Nat.mod_eq_of_lt hm];exact hu⟩
   rw[List.getElem?_append_right (by omega),hr0]at hu;obtain⟨r,h1,h2⟩:=qN hk (fun r' h'=>h r' (by simp[h'])) (m-k) u hu;refine⟨r,?_,?_⟩
   · have e:m / k=(m-k) / k+1:=by
      have:=Nat.add_div_right (m-k) hk;rw[Nat.sub_add_cancel hm]at this;exact this
     rw[e,List.getElem?_cons_succ];exact h1
   rw[Nat.mod_eq_sub_mod hm];exact h2
section
variable {w w':World}{base E k n c:Nat}{A:Option Addr}{v:Value}{rows:List (List Value)}
theorem cH.sl (h:cH w base E k (.slice A n c) n rows):Sl w w.heap.size k A n rows:=by
 refine⟨h.2.1,h.2.2,fun hn=>?_⟩;obtain⟨g,cap,hv,_,hlt⟩:=h.1.form hn;have hA:A=some ⟨g,0,none⟩:=by injection hv
 subst hA;refine⟨g,0,rfl,hlt,fun i j r u hr hu=>?_⟩;have:=h.1.cells (g:=g) rfl _ u (eG h.2.2 i j r u hr hu);simpa[Addr.add_lit]using this
theorem cH.nil (w:World)(base E k:Nat):cH w base E k (.slice none 0 0) 0 []:=⟨World.ownsRow_nil _ _ _ _,rfl,by simp⟩
theorem cH.kept {row:Option Nat}(h:cH w base E k v n rows)(hg:w.grownBy w' row)(hne:v.ownBlock=none∨v.ownBlock≠row):cH w' base E k v n rows:=⟨h.1.kept hg hne,h.2⟩
theorem cH.lower {b':Nat}(h:cH w base E k v n rows)(hb:b'≤base):cH w b' E k v n rows:=by
 refine⟨⟨h.1.1,?_⟩,h.2⟩;rcases h.1.2 with hn| ⟨g,cap,cur,rfl,hb',rest⟩
 · exact .inl hn
 exact .inr ⟨g,cap,cur,rfl,Nat.le_trans hb hb',rest⟩
theorem cH.slice (h:cH w base E k v n rows):∃A c,v=.slice A n c∧n≤c∧c≤maxLen:=by
 rcases h.1.2 with ⟨rfl,rfl⟩| ⟨g,cap,cur,rfl,_,_,h1,h2,_⟩
 · exact⟨none,0,rfl,Nat.le_refl _,by unfold maxLen;omega⟩
 exact⟨_,cap,rfl,h1,h2⟩
theorem mO (h:Below w.heap.size w w')(row:Option Nat):w.grownBy w' row:=⟨h.os,h.tape,h.output,h.size,fun i hi _=>h.block i hi⟩
theorem cH.setCell (h:cH w base E k v n rows){p:Addr}(hp:p.block<base)(u:Value):cH (w.setCell p u) base E k v n rows:=⟨ownsRow_setCell_below h.1 hp u,h.2⟩
theorem cH.drewN (h:cH w base E k v n rows)(q:Nat):cH (w.drewN q) base E k v n rows:=h
theorem cH.alloc (h:cH w base E k v n rows)(o:Obj):cH (w.alloc o) base E k v n rows:=⟨h.1.alloc o,h.2⟩
theorem cH.below (h:cH w base E k v n rows)(hb:Below w.heap.size w w'):cH w' base E k v n rows:=h.kept (mO hb none) (by cases v.ownBlock<;>simp)
end
/-! ### append of what came in,nil or not,onto a row of the call's own -/
section
variable {P:Program}(w:World)
theorem yF (base : Nat)(t ty e : TypeId)(i : TypeInfo)(z : Value)(size bytes : Nat)(ht : P.underlying t = some (.slice e))(hi : P.info? e = some i)(hz : i.zero = some z)
    (hsize:i.size=size)(hby:i.bytes=bytes)(hzs:z.cells.size=size)(hsz:0<size)
    (v:Value)(n:Nat)(rows:List (List Value))(hown:cH w base e size v n rows)
    (B:Nat)(A:Option Addr)(m c:Nat)(news:List (List Value))(hr:Sl w B size A m news)(h1:∀r∈news,∀u∈r,u.oneCell'=true)
    (h63:n+m≤maxLen)(hbytes:(n+m)*bytes≤140737488355328)(hbase:base≤w.heap.size) :
    ∃v' w',(Builtin.append_ #[t,t] ty #[v,.slice A m c]).run P w=.ok v' w'∧cH w' base e size v' (n+m) (rows ++news)∧w.grownBy w' v.ownBlock ∧
     (v'.ownBlock=v.ownBlock∨v'.ownBlock=some w.heap.size):=by
 rcases Nat.eq_zero_or_pos m with h0|h0
 · subst h0;have hn:news=[]:=List.eq_nil_of_length_eq_zero hr.1;subst hn
   have hrun:(Builtin.append_ #[t,t] ty #[v,.slice A 0 c]).run P w=.ok v w:=by
    rcases hown.1.2 with ⟨rfl,rfl⟩| ⟨g,cap,cur,rfl,_,_,hnc,_⟩
    · cases A<;>simp[Builtin.append_,run_underlying ht,sizeOf,typeInfo,hi,Builtin.lenOf,Builtin.firstCells,loadCells,loadCellsFrom]
    cases A<;>simp[Builtin.append_,run_underlying ht,sizeOf,typeInfo,hi,Builtin.lenOf,Builtin.firstCells,loadCells,loadCellsFrom,hnc,storeCells]
   exact⟨v,w,hrun,by simpa using hown,World.grownBy.refl w _,.inl rfl⟩
 obtain⟨b,off,rfl,hb,hc⟩:=hr.2.2 h0
 have hcells:∀j u,news.flatten[j]?=some u→w.cell? ((⟨b,off,none⟩:Addr).add j)=some u:=by
  intro j u hu;obtain⟨r,h1,h2⟩:=qN hsz hr.2.1 j u hu;have:=hc _ _ r u h1 h2;rw[Nat.add_assoc,Nat.mul_comm,Nat.div_add_mod]at this;simpa[Addr.add_lit]using this
 have hlen:news.flatten.length=m*size:=by rw[aN hr.2.1,hr.1]
 have h1':∀u∈news.flatten,u.oneCell'=true:=by
  intro u hu;obtain⟨r,hr',hu'⟩:=List.mem_flatten.1 hu;exact h1 r hr' u hu'
 obtain⟨v',w',hrun,h2,h3,_,h5⟩:=run_append_own_at (P:=P) w base t ty e i z size bytes ht hi hz hsize hby hzs hsz v n rows.flatten hown.1 ⟨b,off,none⟩ m c news.flatten hlen hcells h1' h63 hbytes hbase;refine⟨v',w',hrun,⟨by rw[List.flatten_append];exact h2,by rw[List.length_append,hown.2.1,hr.1],fun r hr'=>?_⟩,h3,h5⟩;rcases List.mem_append.1 hr' with h|h
 · exact hown.2.2 r h
 exact hr.2.1 r h
theorem jA {o : Oper}{a : Act}{K : Act → World → Prop}{Q : Exit → Act → World → Prop}(s x : Operand)(t : TypeId)
    (ho:o.op=.call { callee:=.builtin .append,args:=#[s,x],argTypes:=#[t,t] })
    (base:Nat) (e:TypeId) (i:TypeInfo) (z:Value) (size bytes:Nat) (ht:P.underlying t=some (.slice e)) (hi:P.info? e=some i) (hz:i.zero=some z)
    (hsize:i.size=size) (hby:i.bytes=bytes) (hzs:z.cells.size=size) (hsz:0<size)
    (v:Value) (n:Nat) (rows:List (List Value)) (hs:a.eval s=v) (hown:cH w base e size v n rows)
    (B:Nat) (A:Option Addr) (m c:Nat) (news:List (List Value)) (hx:a.eval x=.slice A m c) (hr:Sl w B size A m news) (h1:∀r∈news,∀u∈r,u.oneCell'=true)
    (h63:n+m≤maxLen) (hbytes:(n+m)*bytes≤140737488355328) (hbase:base≤w.heap.size)
    (h:∀v' w',cH w' base e size v' (n+m) (rows ++news)→w.grownBy w' v.ownBlock→(v'.ownBlock=v.ownBlock∨v'.ownBlock=some w.heap.size)→K (a.put o.dst v') w'):o.wp P a w K Q:=by
 obtain⟨v',w',hrun,h2,h3,h4⟩:=yF (P:=P) w base t o.type e i z size bytes ht hi hz hsize hby hzs hsz v n rows hown B A m c news hr h1 h63 hbytes hbase;unfold Oper.wp execOp;simp only[ho,resolve,invoke,builtin,Sem.run_bind,Sem.run_pure,Result.andThen_ok,List.map_toArray,List.map_cons,List.map_nil,hs,hx,hrun];exact h v' w' h2 h3 h4
theorem aQ {ops : Array Oper}{rest : List Oper}{o : Oper}{a : Act}{Q : Exit → Act → World → Prop}(hgd : o.guard = none)(s x : Operand)(t : TypeId)
    (ho:o.op=.call { callee:=.builtin .append,args:=#[s,x],argTypes:=#[t,t] })
    (base:Nat) (e:TypeId) (i:TypeInfo) (z:Value) (size bytes:Nat) (ht:P.underlying t=some (.slice e)) (hi:P.info? e=some i) (hz:i.zero=some z)
    (hsize:i.size=size) (hby:i.bytes=bytes) (hzs:z.cells.size=size) (hsz:0<size)
    (v:Value) (n:Nat) (rows:List (List Value)) (hs:a.eval s=v) (hown:cH w base e size v n rows)
    (B:Nat) (A:Option Addr) (m c:Nat) (news:List (List Value)) (hx:a.eval x=.slice A m c) (hr:Sl w B size A m news) (h1:∀r∈news,∀u∈r,u.oneCell'=true)
    (h63:n+m≤maxLen) (hbytes:(n+m)*bytes≤140737488355328) (hbase:base≤w.heap.size)
    (h:∀v' w',cH w' base e size v' (n+m) (rows ++news)→w.grownBy w' v.ownBlock→(v'.ownBlock=v.ownBlock∨v'.ownBlock=some w.heap.size)→wpList P ops Q rest (a.put o.dst v') w'):wpList P ops Q (o ::rest) a w :=
 wpList_plain hgd fun _ hK=>jA w s x t ho base e i z size bytes ht hi hz hsize hby hzs hsz v n rows hs hown B A m c news hx hr h1 h63 hbytes hbase fun v' w' h2 h3 h4=>hK _ _ (h v' w' h2 h3 h4)
end
theorem GC (x y:dB):x=y↔x.id=y.id∧x.every=y.every∧x.next=y.next:=by
 cases x;cases y;simp
theorem EZ (x y:iO):x=y↔x.job=y.job∧x.time=y.time∧x.client=y.client:=by
 cases x;cases y;simp
theorem cD (x y:aL):x=y↔x.kind=y.kind∧x.job=y.job∧x.every=y.every∧x.time=y.time∧x.client=y.client:=by
 cases x;cases y;simp
theorem mM {w:World}{o:Obj}{k:Nat}(h:k=w.heap.size):(w.alloc o).heap[k]?=some o:=by subst h;exact heap_alloc_new w o
theorem LA {w:World}{o x:Obj}{k:Nat}(h:w.heap[k]?=some x):(w.alloc o).heap[k]?=some x:=by
 have hk:k<w.heap.size:=by
  rcases Nat.lt_or_ge k w.heap.size with hlt|hge
  · exact hlt
  rw[Array.getElem?_eq_none hge]at h;cases h
 exact(Below.heap_alloc w o k hk).trans h
theorem bV {B:Nat}{a w:World}(h:Below B a w)(n:Nat):Below B a (w.drewN n):=⟨h.os,h.tape,h.output,h.size,h.block⟩
theorem jX {α:Type}{l m:List α}(hl:l.length=m.length)(h:∀j,j<l.length→l[j]?=m[j]?):l=m:=by
 apply List.ext_getElem?;intro i;by_cases hi:i<l.length
 · exact h i hi
 rw[List.getElem?_eq_none (by omega),List.getElem?_eq_none (by omega)]
end
section
def aG (e:aL):Int :=
 if e.kind<0∨3<e.kind then 4
 else if e.job<0∨6≤e.job∨e.every<0∨100<e.every∨e.time<0∨100000<e.time∨e.client<0∨3≤e.client then 3
 else if(e.kind=0∧¬ (e.job=0∧e.every=0∧e.time=0∧e.client=0))∨(e.kind=1∧¬ (1≤e.every∧e.client=0)) ∨
  (e.kind=2∧¬ (e.every=0∧e.time=0∧e.client=0))∨(e.kind=3∧e.every≠0)then 4 else 0
structure cW where
 jobs:List dB
 rung:List iO
 deriving DecidableEq,Inhabited
def cW.none:cW:=⟨[],[]⟩
def dA (last:Int):List dB→Int
 | []=>0
 |j ::l=>if j.id<0∨6≤j.id∨j.every<1∨100<j.every∨j.next<0∨100100<j.next then 3 else if j.id≤last then 6 else dA j.id l
def dW:List iO→Int
 | []=>0
 |r ::l=>if r.job<0∨6≤r.job∨r.time<0∨100000<r.time∨r.client<0∨3≤r.client then 3 else dW l
def cF (b:cW):Int :=
 if 6<b.jobs.length∨60<b.rung.length then 2 else if dA (-1) b.jobs=0 then dW b.rung else dA (-1) b.jobs
def lM {α:Type}(p:α→Bool)(l:List α):Int :=
 match l.findIdx? p with
 |some i=>i
 |none=>-1
theorem vK {α:Type}{p:α→Bool}{l:List α}{i:Nat}{x:α}(hx:l[i]?=some x)(hp:p x=true)(h:∀j y,j<i→l[j]?=some y→p y=false):lM p l=i:=by
 obtain⟨hi,rfl⟩:=List.getElem?_eq_some_iff.1 hx
 have e:l.findIdx? p=some i:=by
  rw[List.findIdx?_eq_some_iff_getElem];refine⟨hi,hp,fun j hj=>?_⟩;have:=h j l[j] hj (List.getElem?_eq_getElem (by omega));simp[this]
 simp[lM,e]
theorem pS {α:Type}{p:α→Bool}{l:List α}(h:∀ (j:Nat) y,l[j]?=some y→p y=false):lM p l=-1:=by
 have e:l.findIdx? p=none:=by
  rw[List.findIdx?_eq_none_iff];intro x hx;obtain⟨j,hj,rfl⟩:=List.getElem_of_mem hx;exact h j _ (List.getElem?_eq_getElem hj)
 simp[lM,e]
def dZ (b:cW)(id:Int):Int:=lM (fun j=>decide (j.id=id)) b.jobs
def mH (l:List dB)(id:Int):Nat:=(l.takeWhile fun j=>decide (j.id<id)).length
def hD (b:cW)(e:aL):cW :=
 if e.kind=1 then
  if 0≤dZ b e.job then b else⟨b.jobs.take (mH b.jobs e.job) ++[⟨e.job,e.every,e.time⟩] ++b.jobs.drop (mH b.jobs e.job),b.rung⟩
 else if e.kind=2 then
  if 0≤dZ b e.job then⟨b.jobs.take (dZ b e.job).toNat ++b.jobs.drop ((dZ b e.job).toNat+1),b.rung⟩else b
 else if e.kind=3 then
  match b.jobs[(dZ b e.job).toNat]? with
  |some j=>if 0≤dZ b e.job∧j.next=e.time∧b.rung.length<60 then⟨b.jobs.set (dZ b e.job).toNat ⟨j.id,j.every,j.next+j.every⟩,b.rung ++[⟨e.job,e.time,e.client⟩]⟩else b
  |none=>b
 else b
def eR (b:cW)(e:aL):cW×Int :=
 if cF b≠0 then(cW.none,cF b)else if aG e≠0 then(cW.none,aG e)else(hD b e,0)
end
section
structure dI where
 kind:Int
 at_:Int
 epoch:Int
 e:aL
 deriving DecidableEq,Inhabited
structure eM where
 ep:Int
 cells:List aL
 deriving DecidableEq,Inhabited
def bP:aL:=⟨0,0,0,0,0⟩
def fK:aL:=⟨4,0,0,0,0⟩
def dR:dI:=⟨0,0,0,bP⟩
def bF (cs:List aL)(k:Nat):aL:=(cs[k]?).getD bP
theorem dH {cs:List aL}{k:Nat}{x:aL}(h:cs[k]?=some x):bF cs k=x:=by unfold bF;rw[h];rfl
def bI (r:dI):Int :=
 if r.kind=1 then(if r.at_<0∨60≤r.at_ then 3 else if r.epoch≠0 then 4 else aG r.e)
 else if r.kind=2 then(if r.epoch<1∨20<r.epoch then 3 else if r.at_≠0∨r.e≠bP then 4 else 0)else 4
def eV:List aL→Int
 | []=>0
 |c ::l=>if c=fK then eV l else if aG c≠0 then aG c else eV l
def eJ (ep:Int)(cs:List aL):Int:=if ep<1∨20<ep then 3 else if cs.length≠60 then 4 else eV cs
def bU (u:eM)(r:dI):eM×Int :=
 if eJ u.ep u.cells≠0 then(⟨0,[]⟩,eJ u.ep u.cells)
 else if bI r≠0 then(⟨0,[]⟩,bI r)
 else if r.kind=2 then(if r.epoch≤u.ep then(⟨0,[]⟩,8)else(⟨r.epoch,u.cells⟩,0))
 else if(bF u.cells r.at_.toNat).kind≠4 then(⟨0,[]⟩,6)else(⟨u.ep,u.cells.set r.at_.toNat r.e⟩,0)
def jI:eM:=⟨1,List.replicate 60 fK⟩
theorem wU {l:List aL}{k:Nat}{x:aL}(hx:l[k]?=some x):eV (l.drop k)=if x=fK then eV (l.drop (k+1))else if aG x≠0 then aG x else eV (l.drop (k+1)):=by
 obtain⟨hk,rfl⟩:=List.getElem?_eq_some_iff.1 hx;rw[List.drop_eq_getElem_cons hk];rfl
def OQ (c:aL):Prop:=c=fK∨aG c=0
theorem uR {l:List aL}:eV l=0↔∀c∈l,OQ c:=by
 induction l with
 |nil=>simp[eV]
 |cons c l ih =>
   simp only[eV,List.forall_mem_cons];by_cases h:c=fK
   · rw[if_pos h,ih];simp[OQ,h]
   rw[if_neg h];by_cases h2:aG c=0
   · rw[if_neg (by simp[h2]),ih];simp[OQ,h2]
   rw[if_pos h2];simp[OQ,h,h2]
structure lF (ep:Int)(cs:List aL):Prop where
 e1:1≤ep
 e2:ep≤20
 len:cs.length=60
 ok:∀c∈cs,OQ c
theorem dE {ep:Int}{cs:List aL}:eJ ep cs=0↔lF ep cs:=by
 unfold eJ;constructor
 · intro h
   split at h
   · cases h
   split at h
   · cases h
   exact⟨by omega,by omega,by omega,uR.1 h⟩
 intro h;have h1:=h.e1;have h2:=h.e2;have h3:=h.len;rw[if_neg (by omega),if_neg (by omega)];exact uR.2 h.ok
theorem qA {e:aL}(h:aG e=0):0≤e.kind∧e.kind≤3:=by
 unfold aG at h
 split at h
 · cases h
 omega
theorem sD {c:aL}(h:OQ c):0≤c.kind∧c.kind≤4∧(c.kind=4↔c=fK):=by
 rcases h with rfl|h
 · decide
 obtain⟨h1,h2⟩:=qA h;refine⟨h1,by omega,fun h4=>by omega,fun h4=>by subst h4;simp[fK]at h2⟩
theorem lF.new:lF 1 jI.cells:=⟨by omega,by omega,by simp[jI],fun c hc=>by simp[jI]at hc;exact .inl hc⟩
theorem kW {r:dI}(h:bI r=0)(hk:r.kind≠2):r.kind=1∧0≤r.at_∧r.at_<60∧r.epoch=0∧aG r.e=0:=by
 unfold bI at h;by_cases h1:r.kind=1
 · rw[if_pos h1]at h;by_cases h2:r.at_<0∨60≤r.at_
   · rw[if_pos h2]at h;cases h
   rw[if_neg h2]at h;by_cases h3:r.epoch≠0
   · rw[if_pos h3]at h;cases h
   rw[if_neg h3]at h;exact⟨h1,by omega,by omega,by omega,h⟩
 rw[if_neg h1,if_neg hk]at h
 cases h
theorem uV {r:dI}(h:bI r=0)(hk:r.kind=2):1≤r.epoch∧r.epoch≤20∧r.at_=0∧r.e=bP:=by
 unfold bI at h;rw[if_neg (by omega),if_pos hk]at h
 split at h
 · cases h
 split at h
 · cases h
 exact⟨by omega,by omega,by omega,by simp_all⟩
theorem iN {u:eM}{r:dI}(h:(bU u r).2=0):lF u.ep u.cells∧bI r=0∧lF (bU u r).1.ep (bU u r).1.cells:=by
 unfold bU at h⊢
 split at h
 · rename_i h1;exact absurd h h1
 rename_i h1;have hg:=dE.1 (Decidable.byContradiction h1);rw[if_neg h1]
 split at h
 · rename_i h2;exact absurd h h2
 rename_i h2;have hr:bI r=0:=Decidable.byContradiction h2;rw[if_neg h2];refine⟨hg,hr,?_⟩
 split at h
 · rename_i h3;obtain⟨e1,e2,_,_⟩:=uV hr h3
   split at h
   · cases h
   rename_i h4;rw[if_pos h3,if_neg h4];exact⟨e1,e2,hg.len,hg.ok⟩
 rename_i h3;obtain⟨_,e1,e2,_,e3⟩:=kW hr h3
 split at h
 · cases h
 rename_i h4;rw[if_neg h3,if_neg h4];refine⟨hg.e1,hg.e2,by simp[hg.len],fun c hc=>?_⟩;rcases List.mem_or_eq_of_mem_set hc with h5|rfl
 · exact hg.ok c h5
 exact .inr e3
end
section
open Go.RowKit
theorem aO {k:IntKind}{a b:Int}(h:a=b):Ending.returned (.int k a)=.returned (.int k b):=by rw[h]
theorem QS {a b:Bool}(h:a=b):Ending.returned (.bool a)=.returned (.bool b):=by rw[h]
theorem JS (j v t : Int)(w : World) :
    Calls prog 27 #[j,v,t] w fun e w'=>e=.returned (.agg #[(1:Int),j,v,t,()])∧Below w.heap.size w w':=by
 go_enter func27,ntmps27;go_wp2;refine bodyPost_ret (v:=.agg #[(1:Int),j,v,t,()]) (by simp[results,results27,go_sem]) rfl ⟨rfl,?_⟩
 repeat(first|exact Below.refl _ _|refine Below.alloc ?_ (by simp<;>omega) _|refine Below.setCell ?_ (by simp) _)
theorem dG (k j v t c : Int)(w : World) :
    Calls prog 81 #[.agg #[k,j,v,t,c]] w fun e w'=>e=.returned (.int .i64 (aG ⟨k,j,v,t,c⟩))∧Below w.heap.size w w':=by
 obtain⟨r,hr⟩:∃r,r=aG ⟨k,j,v,t,c⟩:=⟨_,rfl⟩
 rw[←hr];have HR:=aH hr;clear hr;go_enter func81,ntmps81;go_wp2
 all_goals
  go_ret;refine⟨aO ?_,?_⟩
  · rw[HR.out];clear HR;(try simp only[beq_iff_eq,beq_eq_false_iff_ne,bne_iff_ne,bne_eq_false_iff_eq,ne_eq]at *);unfold aG;dsimp only;(repeat' split)<;>omega
  repeat(first|exact Below.refl _ _|refine Below.alloc ?_ (by simp<;>omega) _|refine Below.setCell ?_ (by simp) _)
end
section
open Go.RowKit
def aR (lo:Nat)(A:Option Addr):Prop:=∀a,A=some a→lo≤a.block
theorem aR.Zp (lo:Nat):aR lo none:=fun a h=>by cases h
theorem cH.fresh {w:World}{base E k n c lo:Nat}{A:Option Addr}{rows:List (List Value)}(h:cH w base E k (.slice A n c) n rows)(hl:lo≤base):aR lo A:=by
 intro a e;subst e;exact Nat.le_trans hl (h.1.lt a.block rfl).1
theorem cH.Zs {w:World}{base E k n c:Nat}{A:Option Addr}{rows:List (List Value)}(h:cH w base E k (.slice A n c) n rows):n≤c:=by
 obtain⟨A',c',e,h1,_⟩:=h.slice;injection e with _ _ e;omega
theorem Sl.Zn {w:World}{B k n lo:Nat}{A:Option Addr}{rows:List (List Value)}(h:Sl w B k A n rows)(hf:aR lo A){p:Addr}(hp:p.block<lo)(u:Value):Sl (w.setCell p u) B k A n rows :=
 ⟨h.1,h.2.1,fun hn=>by
  obtain⟨b,off,e,hb,hc⟩:=h.2.2 hn;have:=hf _ e
  exact⟨b,off,e,hb,fun i j r v hr hv=>(World.cell?_setCell_other w _ _ _ (by intro e;subst e;simp only at this hp;omega)).trans (hc i j r v hr hv)⟩⟩
theorem yW {W w1:World}(hb:Below W.heap.size W w1):(∀b o,b<W.heap.size→w1.cell? ⟨b,o,none⟩=W.cell? ⟨b,o,none⟩)∧(∀b o,b<W.heap.size→w1.frozen? ⟨b,o,none⟩=W.frozen? ⟨b,o,none⟩) :=
 ⟨fun b o h=>hb.cell (p:=⟨b,o,none⟩) h,fun b o h=>hb.frozen (p:=⟨b,o,none⟩) h⟩
theorem aB {W w1:World}(hb:Below W.heap.size W w1){p:Addr}{v:Value}(h:W.cell? p=some v):w1.cell? p=some v:=(hb.cell (World.block_lt_of_cell? W p h)).trans h
theorem aJ {W w1:World}(hb:Below W.heap.size W w1){p:Addr}{v:Value}(h:W.cell? p=some v)(hf:W.frozen? p=false):w1.frozen? p=false:=(hb.frozen (World.block_lt_of_cell? W p h)).trans hf
theorem cH.apart {w:World}{base E k n base' E' k' n':Nat}{v v':Value}{rows rows':List (List Value)}(h:cH w base E k v n rows)(h':cH w base' E' k' v' n' rows')(hE:E≠E'):v'.ownBlock=none∨v'.ownBlock≠v.ownBlock:=by
 rcases h'.1.2 with ⟨rfl,_⟩| ⟨g',_,cur',rfl,_,hg',_⟩
 · exact .inl rfl
 right;rcases h.1.2 with ⟨rfl,_⟩| ⟨g,_,cur,rfl,_,hg,_⟩
 · simp[Value.ownBlock]
 intro e;simp only[Value.ownBlock,Option.some.injEq]at e;subst e;rw[hg]at hg';injection hg' with hg';injection hg' with _ e2 _;exact hE e2
theorem cH.Zo {w:World}{base E k n:Nat}{v:Value}{rows:List (List Value)}(h:cH w base E k v n rows){b:Nat}(hb:b<base):some b≠v.ownBlock:=by
 rcases h.1.2 with ⟨rfl,_⟩| ⟨g,_,cur,rfl,hg,_⟩
 · simp[Value.ownBlock]
 intro e;simp only[Value.ownBlock,Option.some.injEq]at e;omega
theorem aD {w w':World}{row:Option Nat}(hg:w.grownBy w' row){p:Addr}{v:Value}(h:w.cell? p=some v)(hne:some p.block≠row):w'.cell? p=some v:=hg.cell h hne
theorem bM {w w':World}{row:Option Nat}(hg:w.grownBy w' row){p:Addr}{v:Value}(h:w.cell? p=some v)(hf:w.frozen? p=false)(hne:some p.block≠row):w'.frozen? p=false :=
 (World.frozen?_of_block (hg.block p.block (World.block_lt_of_cell? w p h) hne)).trans hf
theorem aT {w0 w w':World}{B:Nat}{row:Option Nat}(hb:Below B w0 w)(hB:B≤w.heap.size)(hg:w.grownBy w' row)(hr:∀g,row=some g→B≤g):Below B w0 w':=hb.grown hg hB hr
theorem Sl.grow {w w':World}{B k n b off:Nat}{rows:List (List Value)}{row:Option Nat}(h:Sl w B k (some ⟨b,off,none⟩) n rows)(hg:w.grownBy w' row)(hne:some b≠row)(hB:B≤w.heap.size):Sl w' B k (some ⟨b,off,none⟩) n rows :=
 ⟨h.1,h.2.1,fun hn=>by
  obtain⟨b',off',e,hb,hc⟩:=h.2.2 hn;injection e with e;injection e with e1 e2 _;subst e1;subst e2
  exact⟨b,off,rfl,hb,fun i j r u hr hu=>(World.cell?_of_block (hg.block b (by omega) hne)).trans (hc i j r u hr hu)⟩⟩
theorem Sl.setOff {w:World}{B k n b off:Nat}{rows:List (List Value)}(h:Sl w B k (some ⟨b,off,none⟩) n rows){p:Addr}(hp:p.block≠b)(u:Value):Sl (w.setCell p u) B k (some ⟨b,off,none⟩) n rows :=
 ⟨h.1,h.2.1,fun hn=>by
  obtain⟨b',off',e,hb,hc⟩:=h.2.2 hn;injection e with e;injection e with e1 e2 _;subst e1;subst e2
  exact⟨b,off,rfl,hb,fun i j r v hr hv=>(World.cell?_setCell_other w _ _ _ (by intro e;subst e;exact hp rfl)).trans (hc i j r v hr hv)⟩⟩
end
section
open Go.RowKit
theorem Sl.take {w:World}{B k n m:Nat}{A:Option Addr}{rows:List (List Value)}(h:Sl w B k A n rows)(hm:m≤n):Sl w B k A m (rows.take m) :=
 ⟨by rw[List.length_take,h.1];omega,fun r hr=>h.2.1 r (List.mem_of_mem_take hr),fun h0=>by
  obtain⟨b,off,e,hb,hc⟩:=h.2.2 (by omega);refine⟨b,off,e,hb,fun i j r u hr hu=>?_⟩;rw[List.getElem?_take]at hr
  split at hr
  · exact hc i j r u hr hu
  cases hr⟩
theorem Sl.cut {w : World}{B k n m c : Nat}{A : Option Addr}{rows : List (List Value)}(h : Sl w B k A n rows)(hm : m ≤ n)(hc : n ≤ c) :
    Sl w B k (if c=m then A else A.map (fun a=>a.add (m*k))) (n-m) (rows.drop m):=by
 refine⟨by rw[List.length_drop,h.1],fun r hr=>h.2.1 r (List.mem_of_mem_drop hr),fun h0=>?_⟩;obtain⟨b,off,rfl,hb,hcell⟩:=h.2.2 (by omega);rw[if_neg (by omega)];refine⟨b,off+m*k,by simp[Addr.add_lit],hb,fun i j r u hr hu=>?_⟩;rw[List.getElem?_drop]at hr;have:=hcell (m+i) j r u hr hu;rw[show off+m*k+i*k+j=off+(m+i)*k+j by rw[Nat.add_mul];omega];exact this
theorem gO {P : Program}{t e : TypeId}{size : Nat}(A : Option Addr)(n c m : Nat)(ht : P.underlying t = some (.slice e))(hz : ∀w, (sizeOf e).run P w = .ok size w)(hm : m ≤ n)(w : World) :
    (Instr.slice t (.slice A n c) (some (.int .i64 (m:Int))) none none).run P w=.ok (.slice (if c=m then A else A.map (fun a=>a.add (m*size))) (n-m) (c-m)) w:=by
 have h1:(m:Int)≤(n:Int):=by omega
 simp[Instr.slice,run_underlying ht,Instr.sliceBounds,hz,go_sem,h1]
theorem Sl.block {w : World}{b k : Nat}{t : TypeId}{fr : Nat×Nat}{cs : Array Value}(rows : List (List Value))(h : w.heap[b]? = some (.cells cs t fr))(hk : ∀r ∈ rows, r.length = k)(hl : cs.toList = rows.flatten) :
    Sl w w.heap.size k (some ⟨b,0,none⟩) rows.length rows:=by
 refine⟨rfl,hk,fun _=>⟨b,0,rfl,(Array.getElem?_eq_some_iff.1 h).1,fun i j r u hr hu=>?_⟩⟩;rw[cell_of_row w b _ _ _ _ h,←Array.getElem?_toList,hl,Nat.zero_add];exact eG hk i j r u hr hu
def bQ (n z:Nat)(A:Option Addr):Prop:=0<n→∀a,A=some a→a.block≠z
theorem Sl.Zx {w:World}{B k n z:Nat}{A:Option Addr}{rows:List (List Value)}(h:Sl w B k A n rows)(hz:B≤z):bQ n z A:=fun hn a e=>by
 obtain⟨b,off,e',hb,_⟩:=h.2.2 hn;rw[e]at e';injection e' with e';subst e';simp only;omega
theorem aR.Zx {lo n z:Nat}{A:Option Addr}(h:aR lo A)(hz:z<lo):bQ n z A:=fun _ a e=>by have:=h a e;omega
theorem Sl.setOffN {w:World}{B k n:Nat}{A:Option Addr}{rows:List (List Value)}(h:Sl w B k A n rows){p:Addr}(ho:bQ n p.block A)(u:Value):Sl (w.setCell p u) B k A n rows :=
 ⟨h.1,h.2.1,fun hn=>by
  obtain⟨b,off,e,hb,hc⟩:=h.2.2 hn;have:=ho hn _ e
  exact⟨b,off,e,hb,fun i j r v hr hv=>(World.cell?_setCell_other w _ _ _ (by intro e;subst e;exact this rfl)).trans (hc i j r v hr hv)⟩⟩
end
section
open Go.RowKit
abbrev S (w:World)(k:Nat)(A:Option Addr)(n:Nat)(rows:List (List Value)):Prop:=Sl w w.heap.size k A n rows
abbrev aA (w w':World):Prop:=Below w.heap.size w w'
section
variable {w w' w'':World}{k n:Nat}{A:Option Addr}{rows:List (List Value)}
theorem aA.Zz (w:World):aA w w:=Below.refl _ _
theorem aA.to (h:aA w w')(h':aA w' w''):aA w w'':=Below.trans h (h'.mono h.size)
theorem aA.new (h:aA w w')(o:Obj):aA w (w'.alloc o):=Below.alloc h h.size o
theorem aA.Zv (h:aA w w')(q:Nat):aA w (w'.drewN q):=bV h q
theorem aA.draw (h:aA w w'):aA w w'.drew:=Below.drew h
theorem aA.put (h:aA w w'){p:Addr}(hp:w.heap.size≤p.block)(u:Value):aA w (w'.setCell p u):=Below.setCell h hp u
theorem S.new (h:S w k A n rows)(o:Obj):S (w.alloc o) k A n rows:=(Sl.alloc h (Nat.le_refl _) o).more (by simp)
theorem S.Zv (h:S w k A n rows)(q:Nat):S (w.drewN q) k A n rows:=h
theorem S.draw (h:S w k A n rows):S w.drew k A n rows:=h
theorem S.oe (h:S w k A n rows)(hb:aA w w'):S w' k A n rows:=(Sl.under h (Nat.le_refl _) hb).more hb.size
theorem S.off (h:S w k A n rows){p:Addr}(ho:bQ n p.block A)(u:Value):S (w.setCell p u) k A n rows:=by simpa[S]using Sl.setOffN h ho u
theorem S.of {B:Nat}(h:Sl w B k A n rows)(hB:B≤w.heap.size):S w k A n rows:=h.more hB
theorem fS {p:Addr}{v:Value}(h:w.cell? p=some v)(o:Obj):(w.alloc o).cell? p=some v:=(World.cell?_alloc_lt w o p (World.block_lt_of_cell? w p h)).trans h
theorem OL {b:Nat}(hb:aA w w')(h:b<w.heap.size):b<w'.heap.size:=Nat.lt_of_lt_of_le h hb.size
end
/-! ### A region that draws its order,its calls make memory,their values are known ahead -/
noncomputable def eP (w x:World):World:=open Classical in if aA w x then x else w
section
variable {w x:World}
theorem dK (w x:World):aA w (eP w x):=by
 unfold eP;split
 · assumption
 exact Below.refl _ _
theorem zM (h:aA w x):x=eP w x:=by unfold eP;rw[if_pos h]
theorem aC {p:Addr}{v:Value}(h:w.cell? p=some v):∀x,(eP w x).cell? p=some v:=fun x=>aB (dK w x) h
theorem mQ {b:Nat}(h:b<w.heap.size):∀x,b<(eP w x).heap.size:=fun x=>OL (dK w x) h
theorem S.ontoX {k n:Nat}{A:Option Addr}{rows:List (List Value)}(h:S w k A n rows)(x:World):S (eP w x) k A n rows:=S.oe h (dK w x)
variable {P:Program}{f:FuncId}{args:Array Value}{v:Value}
theorem dO (h:Calls P f args (eP w x) fun e w'=>e=.returned v∧aA (eP w x) w'):Calls P f args (eP w x) fun e w''=>e=.returned v∧∃y,w''=eP w y :=
 h.mono fun _ w' ⟨he,hw⟩=>⟨he,w',zM ((dK w x).to hw)⟩
theorem bT {u:Value}(h:Calls P f args (eP w x) fun e w'=>e=.returned v∧aA (eP w x) w')(hv:v=u):Calls P f args (eP w x) fun e w''=>e=.returned u∧∃y,w''=eP w y :=
 hv▸dO h
theorem aS {id : Nat}{Q : Exit → Act → World → Prop}{a : Act}{l : List Oper}(hm : P.follows .mixedOrders = true)(hB : Region.lexB .any l.toArray = true)
    (h:wpQuiet P l.toArray (fun w'=>∃x,w'=eP w x) (fun a'=>∀w',aA w w'→Q .normal a' w') l a):(Code.region id l.toArray true).wp P Q a w :=
 wp_region_quiet (C:=fun w'=>∃x,w'=eP w x) hm hB ⟨w.drew,zM ((Below.refl _ _).drew)⟩ (by
  have:(fun a':Act=>∀w',(∃x,w'=eP w x)→Q .normal a' w')=(fun a'=>∀w',aA w w'→Q .normal a' w'):=by
   funext a';exact propext ⟨fun h w' hw=>h w' ⟨w',zM hw⟩,fun h w' ⟨x,hx⟩=>h w' (hx▸dK w x)⟩
  rw[this]
  simpa using h)
end
end
section
open Go.RowKit
theorem rM (a0 a1 a2 a3 a4 b0 b1 b2 b3 b4:Int)(w:World):(binOp .neq 27 (.agg #[a0,a1,a2,a3,a4]) (.agg #[b0,b1,b2,b3,b4])).run prog w=.ok (.bool (!((a0 ==b0)&&(a1 ==b1)&&(a2 ==b2)&&(a3 ==b3)&&(a4 ==b4)))) w:=by
 have hu3:=underlying3;have ha3:=isAgg3;have hz3:=sizeOf3;have hS:prog.underlying 27=some (.struct (prog.fieldsOf 27)):=by kernel_rfl
 have hp:prog.stoodInHeld 27=false:=by kernel_rfl
 rw[run_neq_struct,show(10000:Nat)=9999+1 from rfl,run_equalIn_agg w 9999 27 _ _ hS hp];simp only[Program.fieldsOf,underlying27];go_simp;by_cases h0:a0=b0<;>by_cases h1:a1=b1<;>by_cases h2:a2=b2<;>by_cases h3:a3=b3<;>by_cases h4:a4=b4<;>simp[h0,h1,h2,h3,h4]
theorem OD (a0 a1 a2 a3 a4 b0 b1 b2 b3 b4:Int)(w:World):(binOp .eql 27 (.agg #[a0,a1,a2,a3,a4]) (.agg #[b0,b1,b2,b3,b4])).run prog w=.ok (.bool (((a0 ==b0)&&(a1 ==b1)&&(a2 ==b2)&&(a3 ==b3)&&(a4 ==b4)))) w:=by
 have hu3:=underlying3;have ha3:=isAgg3;have hz3:=sizeOf3;have hS:prog.underlying 27=some (.struct (prog.fieldsOf 27)):=by kernel_rfl
 have hp:prog.stoodInHeld 27=false:=by kernel_rfl
 rw[run_eql_struct,show(10000:Nat)=9999+1 from rfl,run_equalIn_agg w 9999 27 _ _ hS hp];simp only[Program.fieldsOf,underlying27];go_simp;by_cases h0:a0=b0<;>by_cases h1:a1=b1<;>by_cases h2:a2=b2<;>by_cases h3:a3=b3<;>by_cases h4:a4=b4<;>simp[h0,h1,h2,h3,h4]
set_option maxHeartbeats 1000000 in
theorem sB (A A' : Option Addr)(n m c d B : Nat)(l l' : List aL)(w : World)(h : Sl w B 5 A n (l.map bA))(h' : Sl w B 5 A' m (l'.map bA))(hn : n ≤ 9223372036854775807) :
    Calls prog 72 #[.slice A n c,.slice A' m d] w fun e w'=>e=.returned (.bool (decide (l=l')))∧∃q,w'=w.drewN q:=by
 by_cases hnm:n=m
 · subst hnm;go_enter func72,ntmps72;go_wp2
   go_loopg [13] n (fun g s13 wr=>∃kk q:Nat,kk≤n∧n-kk≤g∧s13=.int .i64 kk∧wr=w.drewN q∧Hid (∀j,j<kk→l[j]?=l'[j]?))
   case atStart=>exact⟨0,0,Nat.zero_le _,by omega,rfl,rfl,fun j hj=>absurd hj (Nat.not_lt_zero _)⟩
   case round =>
    obtain⟨kk,q,hkk,hg,rfl,rfl,H⟩:=hrel;by_cases hlt:kk<n
    · obtain⟨b,off,x,rfl,hb,hx,c0,c1,c2,c3,c4⟩:=h.atE hlt;obtain⟨b',off',x',rfl,hb',hx',d0,d1,d2,d3,d4⟩:=h'.atE hlt;have HX:=aH hx;have HX':=aH hx';clear hx hx';clear h h';have hne:=rM;go_wp2_with fail;go_quiet (fail);go_wp2
      · go_ret;refine⟨?_,q+nq,by simp⟩
        have hd:l≠l':=by
         rintro rfl;have:=HX.out.symm.trans HX'.out;simp at this;subst this;simp_all
        simp[hd]
      go_roundg (n-(kk+1))
      case measure=>omega
      case rel =>
       refine⟨kk+1,q+nq,by omega,by omega,by go_num,by simp,?_⟩;intro j hj;by_cases e:j=kk
       · subst e;rw[HX.out,HX'.out];congr 1;rw[cD];simp_all
       exact H.out j (by omega)
    have:kk=n:=by omega
    subst this;have hl:=h.len;have hl':=h'.len;simp at hl hl';have he:l=l':=jX (by omega) (fun j hj=>H.out j (by omega));clear h h' hl hl';go_wp2;go_ret;refine⟨by simp[he],q,rfl⟩
 have hnm':¬ (n:Int)=(m:Int):=by omega
 have hd:l≠l':=by
  rintro rfl;exact hnm (h.len.symm.trans h'.len)
 clear h h';go_enter func72,ntmps72;go_wp2;go_ret;exact⟨by simp[hd],0,rfl⟩
end
section
open Go.RowKit
structure fR (w:World):Prop where
 tab:Lib.TabIs prog w "internal/strconv.uint64pow10" .u64 Lib.pow10Tab
 big:∃m,w.cell? ⟨0,0,none⟩=some (.int .i64 m)
 syn:∃t p,w.cell? ⟨4,0,none⟩=some (.iface t p)
 rng:∃t p,w.cell? ⟨5,0,none⟩=some (.iface t p)
section
variable {w w':World}
theorem fR.oe (h:fR w)(hb:aA w w'):fR w' :=
 ⟨Lib.tabBelow_of_tabIs h.tab w' hb,let ⟨m,hm⟩:=h.big;⟨m,aB hb hm⟩,let ⟨t,p,hm⟩:=h.syn;⟨t,p,aB hb hm⟩,let ⟨t,p,hm⟩:=h.rng;⟨t,p,aB hb hm⟩⟩
theorem fR.Zv (h:fR w)(q:Nat):fR (w.drewN q):=h.oe ((aA.Zz w).Zv q)
theorem fR.draw (h:fR w):fR w.drew:=h.oe ((aA.Zz w).draw)
theorem fR.new (h:fR w)(o:Obj):fR (w.alloc o):=h.oe ((aA.Zz w).new o)
theorem yZ (w:World)(k:Nat)(os:Array Obj):aA w (Sort.grow (w.drewN k) os):=Lib.below_grow w.heap.size w (Nat.le_refl _) k os
end
end
section
/-! ### A text in pieces,at each c -/
def bO (c:UInt8):List UInt8→List (List UInt8)
 | []=>[[]]
 |b ::l=>if b=c then [] ::bO c l else(b ::(bO c l).headD []) ::(bO c l).tail
def gD (c:UInt8):List (List UInt8)→List UInt8
 | []=>[]
 | [p]=>p
 |p ::q ::r=>p ++c ::gD c (q ::r)
theorem jZ (c:UInt8)(l:List UInt8):bO c l≠[]:=by
 cases l with
 |nil=>simp[bO]
 |cons b l=>unfold bO;split<;>simp
theorem rY (c:UInt8)(l:List UInt8):bO c l=(bO c l).headD [] ::(bO c l).tail:=by
 have:=jZ c l
 cases h:bO c l with
 |nil=>exact absurd h this
 |cons a t=>rfl
theorem mK {c:UInt8}:∀ {p:List UInt8},c∉p→bO c p=[p]
 | [],_=>rfl
 |b ::p,h=>by
   have h1:b≠c:=fun e=>h (by simp[e])
   have h2:c∉p:=fun e=>h (by simp[e])
   rw[bO,if_neg h1,mK h2];rfl
theorem gH {c:UInt8}{s:List UInt8}:∀ {p:List UInt8},c∉p→bO c (p ++c ::s)=p ::bO c s
 | [],_=>by simp[bO]
 |b ::p,h=>by
   have h1:b≠c:=fun e=>h (by simp[e])
   have h2:c∉p:=fun e=>h (by simp[e])
   rw[List.cons_append,bO,if_neg h1,gH h2];rfl
theorem wN {c:UInt8}:∀ {ws:List (List UInt8)},ws≠[]→(∀w∈ws,c∉w)→bO c (gD c ws)=ws
 | [],h,_=>absurd rfl h
 | [p],_,h=>mK (h p (by simp))
 |p ::q ::r,_,h=>by
   rw[gD,gH (h p (by simp)),wN (by simp) (fun w hw=>h w (by simp at hw⊢;exact Or.inr hw))]
theorem xD {c:UInt8}{p:List UInt8}{ps:List (List UInt8)}(h:ps≠[]):gD c (p ::ps)=p ++c ::gD c ps:=by
 cases ps with
 |nil=>exact absurd rfl h
 |cons q r=>rfl
theorem jO (c:UInt8):∀l:List UInt8,gD c (bO c l)=l
 | []=>rfl
 |b ::l=>by
   have ih:=jO c l;rw[bO]
   split
   · rename_i h;rw[xD (jZ c l),ih,h];rfl
   rw[rY]at ih
   cases ht:(bO c l).tail with
   |nil=>rw[ht]at ih;simp only[gD]at ih⊢;rw[ih]
   |cons q r =>
     rw[ht]at ih;simp only[gD]at ih⊢;rw[List.cons_append,ih]
theorem oV {c:UInt8}:∀ {l p:List UInt8},p∈bO c l→c∉p
 | [],p,h=>by simp[bO]at h;simp[h]
 |b ::l,p,h=>by
   rw[bO]at h
   split at h
   · rename_i hb;rcases List.mem_cons.1 h with rfl|h
     · simp
     exact oV h
   rename_i hb;rcases List.mem_cons.1 h with rfl|h
   · have hh:(bO c l).headD []∈bO c l:=by rw[rY];simp
     have:=oV hh;simp only[List.mem_cons,not_or];exact⟨fun e=>hb e.symm,this⟩
   exact oV (List.mem_of_mem_tail h)
theorem zE (c:UInt8):∀s:List UInt8,Lib.split s [c]=bO c s
 | []=>by unfold Lib.split;rw[Lib.count_one];rfl
 |b ::l=>by
   have ih:=zE c l;unfold Lib.split at ih⊢;rw[bO];by_cases h:b=c
   · subst h;rw[if_pos rfl,Lib.count_cons_eq,Nat.add_comm 1,Lib.splitK];have hix:Lib.index (b ::l) [b]=0:=by rw[Lib.index];simp[List.isPrefixOf]
     rw[hix,if_neg (by decide)]
     show _=[] ::_
     rw[←ih];rfl
   rw[if_neg h,Lib.count_cons_ne b c l h,←ih]
   cases hk:Lib.count l [c]with
   |zero=>rfl
   |succ k =>
     have hne:Lib.index l [c]≠-1:=fun e=>by rw[Lib.count_miss e]at hk;cases hk
     have hge:=Lib.index_ge l [c];have hp:([c]:List UInt8).isPrefixOf (b ::l)=false:=by simp[List.isPrefixOf,Ne.symm h]
     have hix:Lib.index (b ::l) [c]=Lib.index l [c]+1:=by rw[Lib.index,hp];simp[hne]
     rw[Lib.splitK,Lib.splitK,hix,if_neg (by simpa using(by omega:¬Lib.index l [c]+1=-1)),if_neg (by simpa using hne)];obtain⟨j,hj⟩:∃j:Nat,Lib.index l [c]=j:=⟨(Lib.index l [c]).toNat,by omega⟩
     rw[hj,show(((j:Nat):Int)+1).toNat=j+1 by omega,show((j:Nat):Int).toNat=j by omega];rfl
/-! ### Whole numbers -/
def jJ (t:List UInt8):Option Int :=
 match Lib.atoiAll t with
 | .ok v=>if Lib.itoa v=t then some v else none
 |_=>none
theorem vT {t:List UInt8}{v:Int}(h:jJ t=some v):t=Lib.itoa v∧-9223372036854775808≤v∧v≤9223372036854775807:=by
 unfold jJ at h
 split at h
 · rename_i u hu
   split at h
   · rename_i e;injection h with h;subst h;exact⟨e.symm,Lib.atoiAll_bounds hu⟩
   cases h
 cases h
theorem pT {k:Nat}(h:k<10):(UInt8.ofNat (48+k)).toNat=48+k:=by
 rw[UInt8.toNat_ofNat'];omega
theorem KD:∀ (u:Nat)(b:UInt8),b∈Lib.decDigits u→48≤b.toNat∧b.toNat≤57:=by
 intro u
 induction u using Nat.strongRecOn with
 |_ u ih =>
   intro b hb;rw[Lib.decDigits]at hb
   split at hb
   · rename_i h;rw[List.mem_singleton.1 hb,pT h];omega
   rename_i h;rcases List.mem_append.1 hb with hb|hb
   · exact ih (u / 10) (by omega) b hb
   rw[List.mem_singleton.1 hb,pT (by omega)];omega
theorem KV (u:Nat):Lib.decDigits u≠[]:=by
 rw[Lib.decDigits];split<;>simp
theorem sG:∀ (l r:List UInt8)(acc a:Nat),Lib.parseUint10 acc l=.ok a→Lib.parseUint10 acc (l ++r)=Lib.parseUint10 a r
 | [],r,acc,a,h=>by simp only[Lib.parseUint10]at h;injection h with h;rw[h];rfl
 |c ::l,r,acc,a,h=>by
   simp only[Lib.parseUint10,List.cons_append]at h⊢
   split at h
   · rename_i h1;rw[if_pos h1]
     split at h
     · cases h
     rename_i h2;rw[if_neg h2]
     split at h
     · cases h
     rename_i h3;rw[if_neg h3];exact sG l r _ a h
   cases h
theorem JK:∀ (u:Nat),u<9223372036854775808→Lib.parseUint10 0 (Lib.decDigits u)=.ok u:=by
 intro u
 induction u using Nat.strongRecOn with
 |_ u ih =>
   intro hu;rw[Lib.decDigits]
   split
   · rename_i h;have e:(UInt8.ofNat (48+u)).toNat=48+u:=pT h;simp only[Lib.parseUint10,e];rw[if_pos (by omega),if_neg (by omega),if_neg (by omega)];congr 1;omega
   rename_i h;rw[sG _ _ _ _ (ih (u / 10) (by omega) (by omega))];have e:(UInt8.ofNat (48+u % 10)).toNat=48+u % 10:=pT (by omega);simp only[Lib.parseUint10,e];rw[if_pos (by omega),if_neg (by omega),if_neg (by omega)];congr 1;omega
theorem xJ {n:Int}(h:0≤n):Lib.itoa n=Lib.decDigits n.toNat:=by unfold Lib.itoa;rw[if_neg (by omega)]
theorem qU {n:Int}(h:0≤n){b:UInt8}(hb:b∈Lib.itoa n):48≤b.toNat∧b.toNat≤57:=by
 rw[xJ h]at hb;exact KD _ b hb
theorem IZ {n:Int}(h:0≤n):Lib.itoa n≠[]:=by rw[xJ h];exact KV _
theorem rR {n:Int}(h:0≤n){c:UInt8}(hc:c.toNat<48∨57<c.toNat):c∉Lib.itoa n:=fun hb=>by
 have:=qU h hb;omega
theorem xB {n:Int}(h:0≤n)(h2:n<9223372036854775808):jJ (Lib.itoa n)=some n:=by
 have e:Lib.atoiAll (Lib.itoa n)=.ok n:=by
  have hd:=xJ h
  cases hl:Lib.itoa n with
  |nil=>exact absurd hl (IZ h)
  |cons c r =>
    have hc:=qU h (b:=c) (by rw[hl];simp);rw[Lib.atoiAll_plain c r (by omega) (by omega),←hl,hd]
    have hp:Lib.parseMag (Lib.decDigits n.toNat)=.ok n.toNat:=by
     unfold Lib.parseMag;rw[if_neg (KV _),JK _ (by omega)]
    rw[hp];unfold Lib.signless;simp only;rw[if_neg (by omega)];congr 1;omega
 unfold jJ;rw[e];simp
/-! ### Entries -/
def JB:List UInt8:=[106,117,110,107]
def LN:List UInt8:=[112,117,116]
def FG:List UInt8:=[100,114,111,112]
def FJ:List UInt8:=[114,105,110,103]
def fJ (x:aL):List Int:=if x.kind=1 then [x.job,x.every,x.time]else if x.kind=2 then [x.job]else if x.kind=3 then [x.job,x.time,x.client]else []
def lN (x:aL):List UInt8:=if x.kind=1 then LN else if x.kind=2 then FG else if x.kind=3 then FJ else JB
def gG (l:List Int):List UInt8:=(l.map fun n=>32 ::Lib.itoa n).flatten
def gC (x:aL):List UInt8:=lN x ++gG (fJ x)
def vP (x:aL):List UInt8×Int:=if aG x≠0 then([],aG x)else(gC x,0)
def gQ (w:List UInt8):Option (Int×Nat):=if w=JB then some (0,0)else if w=LN then some (1,3)else if w=FG then some (2,1)else if w=FJ then some (3,3)else none
def gZ:List (List UInt8)→Option (List Int)
 | []=>some []
 |t ::l=>match jJ t with
   |some v=>(match gZ l with
     |some r=>some (v ::r)
     |none=>none)
   |none=>none
def yD (k:Int)(l:List Int):aL:=⟨k,l.getD 0 0,if k=1 then l.getD 1 0 else 0,if k=1 then l.getD 2 0 else if k=3 then l.getD 1 0 else 0,if k=3 then l.getD 2 0 else 0⟩
def bY (ws:List (List UInt8)):aL×Int :=
 match gQ (ws.headD [])with
 |none=>(bP,1)
 |some (k,many) =>
   if ws.tail.length≠many then(bP,1)else
   match gZ ws.tail with
   |none=>(bP,1)
   |some l=>if aG (yD k l)≠0 then(bP,aG (yD k l))else(yD k l,0)
def zL (s:List UInt8):aL×Int:=if 30000<s.length then(bP,2)else bY (bO 32 s)
theorem vS:∀ {ts:List (List UInt8)}{l:List Int},gZ ts=some l→ts=l.map Lib.itoa
 | [],l,h=>by simp[gZ]at h;simp[←h]
 |t ::ts,l,h=>by
   simp only[gZ]at h
   cases hn:jJ t with
   |none=>rw[hn]at h;cases h
   |some v =>
     rw[hn]at h
     cases hr:gZ ts with
     |none=>rw[hr]at h;cases h
     |some r =>
       rw[hr]at h;injection h with h;subst h;rw[List.map_cons,←vS hr,← (vT hn).1]
theorem wQ:∀ {l:List Int},(∀n∈l,0≤n∧n<9223372036854775808)→gZ (l.map Lib.itoa)=some l
 | [],_=>rfl
 |n ::l,h=>by
   rw[List.map_cons,gZ,xB (h n (by simp)).1 (h n (by simp)).2,wQ (fun m hm=>h m (by simp[hm]))]
theorem rB (w:List UInt8):∀l:List Int,w ++gG l=gD 32 (w ::l.map Lib.itoa)
 | []=>by simp[gG,gD]
 |n ::l=>by
   have:=rB (Lib.itoa n) l;rw[List.map_cons,gD,←this];simp[gG]
theorem jD {x:aL}(h:aG x=0):∀n∈fJ x,0≤n∧n<9223372036854775808:=by
 intro n hn;unfold aG at h
 split at h
 · cases h
 split at h
 · cases h
 rename_i h2;unfold fJ at hn
 (repeat' split at hn)<;>simp at hn<;>omega
theorem KP (l:List Int)(h:∀n∈l,-9223372036854775808≤n∧n≤9223372036854775807):(gG l).length≤22*l.length:=by
 induction l with
 |nil=>simp[gG]
 |cons n l ih =>
   have h1:=Lib.itoa_length_le n (h n (by simp)).1 (h n (by simp)).2;have h2:=ih (fun m hm=>h m (by simp[hm]));unfold gG at h2⊢;simp only[List.map_cons,List.flatten_cons,List.length_append,List.length_cons];omega
theorem pR {x:aL}(h:aG x=0):(gC x).length≤70:=by
 have h1:=KP (fJ x) (fun n hn=>by have:=jD h n hn;omega);have h2:(lN x).length≤4:=by unfold lN;(repeat' split)<;>decide
 have h3:(fJ x).length≤3:=by unfold fJ;(repeat' split)<;>simp
 unfold gC;rw[List.length_append];omega
theorem DZ (x:aL){c:UInt8}(h:c∈lN x):100≤c.toNat:=by
 unfold lN at h;have a1:∀c∈LN,100≤c.toNat:=by decide
 have a2:∀c∈FG,100≤c.toNat:=by decide
 have a3:∀c∈FJ,100≤c.toNat:=by decide
 have a4:∀c∈JB,100≤c.toNat:=by decide
 (repeat' split at h)<;>first|exact a1 c h|exact a2 c h|exact a3 c h|exact a4 c h
theorem KQ {x:aL}(h:aG x=0):bO 32 (gC x)=lN x ::(fJ x).map Lib.itoa:=by
 unfold gC;rw[rB,wN (by simp)];intro w hw;rcases List.mem_cons.1 hw with rfl|hw
 · exact fun hc=>by have:=DZ x hc;simp at this
 obtain⟨n,hn,rfl⟩:=List.mem_map.1 hw;exact rR (jD h n hn).1 (by decide)
theorem GO {x:aL}(h:aG x=0):bY (bO 32 (gC x))=(x,0):=by
 rw[KQ h];have hb:=wQ (jD h);obtain⟨k,j,v,t,c⟩:=x
 have hk:k=0∨k=1∨k=2∨k=3:=by
  unfold aG at h
  split at h
  · cases h
  simp at *;omega
 have key:yD k (fJ ⟨k,j,v,t,c⟩)=⟨k,j,v,t,c⟩:=by
  unfold aG at h;dsimp only at h;rcases hk with rfl|rfl|rfl|rfl<;>simp[yD,fJ]<;>simp at h<;>omega
 unfold bY;simp only[List.headD_cons,List.tail_cons,List.length_map];rcases hk with rfl|rfl|rfl|rfl
 all_goals
  rw[show gQ _=some _ from rfl];simp only;rw[if_neg (by simp[fJ]),hb];simp only;rw[key,if_neg (by simp[h])]
theorem KT {s:List UInt8}{z:aL}(h:bY (bO 32 s)=(z,0)):aG z=0∧gC z=s:=by
 unfold bY at h
 cases hk:gQ ((bO 32 s).headD [])with
 |none=>rw[hk]at h;simp at h
 |some km =>
   obtain⟨k,many⟩:=km;rw[hk]at h;simp only at h;by_cases hm:(bO 32 s).tail.length≠many
   · rw[if_pos hm]at h;simp at h
   rw[if_neg hm]at h;have hm:=Decidable.not_not.1 hm
   cases hn:gZ (bO 32 s).tail with
   |none=>rw[hn]at h;simp at h
   |some l =>
     rw[hn]at h;simp only at h;by_cases hc:aG (yD k l)≠0
     · rw[if_pos hc]at h;simp only[Prod.mk.injEq]at h;exact absurd h.2 hc
     rw[if_neg hc]at h;simp only[Prod.mk.injEq]at h;have hc:=Decidable.not_not.1 hc;obtain⟨rfl,_⟩:=h;refine⟨hc,?_⟩;have ht:=vS hn;have hs:s=gD 32 ((bO 32 s).headD [] ::l.map Lib.itoa):=by rw[←ht,←rY,jO]
     rw[←rB]at hs;rw[ht,List.length_map]at hm;unfold gQ at hk
     split at hk
     · rename_i e;injection hk with hk;simp only[Prod.mk.injEq]at hk;obtain⟨rfl,rfl⟩:=hk;rw[e]at hs;rw[hs]
       match l,hm with
       | [],_=>rfl
     split at hk
     · rename_i e;injection hk with hk;simp only[Prod.mk.injEq]at hk;obtain⟨rfl,rfl⟩:=hk;rw[e]at hs;rw[hs]
       match l,hm with
       | [a,b,c],_=>rfl
     split at hk
     · rename_i e;injection hk with hk;simp only[Prod.mk.injEq]at hk;obtain⟨rfl,rfl⟩:=hk;rw[e]at hs;rw[hs]
       match l,hm with
       | [a],_=>rfl
     split at hk
     · rename_i e;injection hk with hk;simp only[Prod.mk.injEq]at hk;obtain⟨rfl,rfl⟩:=hk;rw[e]at hs;rw[hs]
       match l,hm with
       | [a,b,c],_=>rfl
     cases hk
end
section
/-! ### Records -/
def iS:List UInt8:=[115,101,97,108,32]
def dJ:List UInt8:=[58,32]
def fT (r:dI):List UInt8:=if r.kind=2 then iS ++Lib.itoa r.epoch else Lib.itoa r.at_ ++dJ ++gC r.e
def dS (r:dI):List UInt8×Int:=if bI r≠0 then([],bI r)else(fT r,0)
def qG (r:dI):dI×Int:=if bI r≠0 then(dR,bI r)else(r,0)
def iU (s:List UInt8):dI×Int :=
 if iS.isPrefixOf s then
  match jJ (s.drop 5)with
  |none=>(dR,1)
  |some n=>qG ⟨2,0,n,bP⟩
 else if(Lib.cut s dJ).2.2=false then(dR,1)else
  match jJ (Lib.cut s dJ).1 with
  |none=>(dR,1)
  |some n=>if(bY (bO 32 (Lib.cut s dJ).2.1)).2≠0 then(dR,(bY (bO 32 (Lib.cut s dJ).2.1)).2)else qG ⟨1,n,0,(bY (bO 32 (Lib.cut s dJ).2.1)).1⟩
def dF (s:List UInt8):dI×Int:=if 30000<s.length then(dR,2)else iU s
theorem JE:∀ {a:List UInt8}(b:List UInt8),58∉a→Lib.index (a ++58 ::32 ::b) dJ=(a.length:Int)
 | [],b,_=>by rw[List.nil_append,Lib.index];rfl
 |c ::a,b,h=>by
   have h1:c≠58:=fun e=>h (by simp[e])
   have h2:(58:UInt8)∉a:=fun e=>h (by simp[e])
   rw[List.cons_append,Lib.index,JE b h2];have hp:dJ.isPrefixOf (c ::(a ++58 ::32 ::b))=false:=by simp[dJ,List.isPrefixOf,Ne.symm h1]
   rw[hp];simp only[Bool.false_eq_true,if_false,List.length_cons];have:((a.length:Int) ==-1)=false:=by rw[beq_eq_false_iff_ne];omega
   rw[this];simp
theorem JR {a:List UInt8}(b:List UInt8)(h:58∉a):Lib.cut (a ++dJ ++b) dJ=(a,b,true):=by
 have e:a ++dJ ++b=a ++58 ::32 ::b:=by simp[dJ]
 rw[e];unfold Lib.cut;rw[JE b h,if_pos (by omega)];simp[dJ,List.take_append,List.drop_append]
theorem LR {s sep:List UInt8}(h:(Lib.cut s sep).2.2=true):s=(Lib.cut s sep).1 ++sep ++(Lib.cut s sep).2.1:=by
 unfold Lib.cut at h⊢
 split
 · rename_i hi;rcases Lib.index_spec s sep with ⟨h1,_⟩| ⟨i,h1,h2,h3,_⟩
   · omega
   simp only[h1,show((i:Nat):Int).toNat=i by omega];unfold Lib.occAt at h3;obtain⟨r,hr⟩:=List.isPrefixOf_iff_prefix.1 h3
   have:s.drop (i+sep.length)=r:=by
    rw[←List.drop_drop,←hr];simp
   rw[this,List.append_assoc,hr,List.take_append_drop]
 rename_i hi;rw[if_neg hi]at h
 cases h
theorem pN {r:dI}(h:bI r=0)(hk:r.kind≠2):r.kind=1∧0≤r.at_∧r.at_<60∧r.epoch=0∧aG r.e=0:=by
 unfold bI at h;by_cases h1:r.kind=1
 · rw[if_pos h1]at h
   split at h
   · cases h
   split at h
   · cases h
   rename_i a b;exact⟨h1,by omega,by omega,by omega,h⟩
 rw[if_neg h1,if_neg hk]at h;cases h
theorem rF {r:dI}(h:bI r=0)(hk:r.kind=2):1≤r.epoch∧r.epoch≤20∧r.at_=0∧r.e=bP:=by
 unfold bI at h;rw[if_neg (by omega),if_pos hk]at h
 split at h
 · cases h
 split at h
 · cases h
 rename_i a b;exact⟨by omega,by omega,by omega,Decidable.not_not.1 fun e=>b (Or.inr e)⟩
theorem mR {r:dI}(h:bI r=0):(fT r).length≤100:=by
 unfold fT
 split
 · rename_i hk;obtain⟨h1,h2,_⟩:=rF h hk;have:=Lib.itoa_length_le r.epoch (by omega) (by omega);rw[List.length_append,show iS.length=5 from rfl];omega
 rename_i hk;obtain⟨_,h1,h2,_,h3⟩:=pN h hk;have:=Lib.itoa_length_le r.at_ (by omega) (by omega);have:=pR h3;simp only[List.length_append,show dJ.length=2 from rfl];omega
theorem MZ {n:Int}(h:0≤n)(b:List UInt8):iS.isPrefixOf (Lib.itoa n ++b)=false:=by
 cases hl:Lib.itoa n with
 |nil=>exact absurd hl (IZ h)
 |cons c r =>
   have hc:=qU h (b:=c) (by rw[hl];simp);have:(115:UInt8)≠c:=fun e=>by subst e;simp at hc
   simp[iS,List.isPrefixOf,this]
theorem IB {r:dI}(h:bI r=0):iU (fT r)=(r,0):=by
 obtain⟨k,p,ep,e⟩:=r;unfold fT;by_cases hk:k=2
 · obtain⟨h1,h2,h3,h4⟩:=rF h hk;dsimp only at h1 h2 h3 h4;subst hk h3 h4;rw[if_pos rfl];unfold iU;rw[if_pos (by simp[iS,List.isPrefixOf])];rw[show(iS ++Lib.itoa ep).drop 5=Lib.itoa ep from rfl,xB (by omega) (by omega)];simp only;unfold qG;rw[if_neg (by simp[h])]
 obtain⟨h0,h1,h2,h3,h4⟩:=pN h hk;dsimp only at h0 h1 h2 h3 h4;subst h0 h3;rw[if_neg (by simp)];unfold iU;rw[List.append_assoc,if_neg (by rw[MZ h1];simp),←List.append_assoc];rw[JR _ (rR h1 (by decide))];simp only[xB h1 (by omega),GO h4];unfold qG;rw[if_neg (by simp),if_neg (by simp),if_neg (by simp[h])]
theorem EL {r:dI}(h:bI r=0):dF (fT r)=(r,0):=by
 have:=mR h;unfold dF;rw[if_neg (by omega),IB h]
theorem JF {r z:dI}(h:qG r=(z,0)):bI z=0∧r=z:=by
 unfold qG at h
 split at h
 · rename_i hc;simp only[Prod.mk.injEq]at h;exact absurd h.2 hc
 rename_i hc;simp only[Prod.mk.injEq]at h;exact⟨h.1▸Decidable.not_not.1 hc,h.1⟩
theorem LF {s:List UInt8}{z:dI}(h:iU s=(z,0)):bI z=0∧fT z=s:=by
 unfold iU at h
 split at h
 · rename_i hp;obtain⟨t,rfl⟩:=List.isPrefixOf_iff_prefix.1 hp;rw[show(iS ++t).drop 5=t from rfl]at h
   cases hn:jJ t with
   |none=>rw[hn]at h;simp at h
   |some n =>
     rw[hn]at h;obtain⟨h1,rfl⟩:=JF h;exact⟨h1,by unfold fT;rw[if_pos rfl,← (vT hn).1]⟩
 split at h
 · simp at h
 rename_i hc;have hc:(Lib.cut s dJ).2.2=true:=by simpa using hc
 have hs:=LR hc
 cases hn:jJ (Lib.cut s dJ).1 with
 |none=>rw[hn]at h;simp at h
 |some n =>
   rw[hn]at h;simp only at h
   split at h
   · rename_i hb;simp only[Prod.mk.injEq]at h;exact absurd h.2 hb
   rename_i hb;have hb:=Decidable.not_not.1 hb;obtain⟨h1,rfl⟩:=JF h;refine⟨h1,?_⟩;have he:=KT (s:=(Lib.cut s dJ).2.1) (z:=(bY (bO 32 (Lib.cut s dJ).2.1)).1) (by rw[←hb]);unfold fT;rw[if_neg (by simp)];simp only;rw[he.2,← (vT hn).1];exact hs.symm
theorem JL {s:List UInt8}{z:dI}(h:dF s=(z,0)):bI z=0∧fT z=s:=by
 unfold dF at h
 split at h
 · simp at h
 exact LF h
end
section
section
variable {α:Type}
def eS (p:List UInt8→α×Int)(most:Nat)(acc:List α)(n:Nat):List (List UInt8)→List α×Nat×Int
 | []=>(acc,n,0)
 | [t]=>(acc,n,if t=[]then 0 else 9)
 |t ::u ::r=>if(p t).2≠0 then(acc,n,(p t).2)else if most≤acc.length then(acc,n,2)else eS p most (acc ++[(p t).1]) (n+t.length+1) (u ::r)
theorem lX {p : List UInt8 → α×Int}{most : Nat}{acc : List α}{n : Nat}{t : List UInt8}{r : List (List UInt8)}(h : r ≠ []) :
    eS p most acc n (t ::r)=if(p t).2≠0 then(acc,n,(p t).2)else if most≤acc.length then(acc,n,2)else eS p most (acc ++[(p t).1]) (n+t.length+1) r:=by
 cases r with
 |nil=>exact absurd rfl h
 |cons u r=>rfl
theorem nM {p:List UInt8→α×Int}{most:Nat}{acc:List α}{n:Nat}{t:List UInt8}:eS p most acc n [t]=(acc,n,if t=[]then 0 else 9):=rfl
def eQ (text:α→List UInt8)(l:List α):List UInt8:=(l.map fun x=>text x ++[10]).flatten
theorem iR (text:α→List UInt8)(x:α)(l:List α):eQ text (x ::l)=text x ++10 ::eQ text l:=by simp[eQ]
theorem nL (text:α→List UInt8)(l m:List α):eQ text (l ++m)=eQ text l ++eQ text m:=by simp[eQ]
theorem sY {text:α→List UInt8}(s:List UInt8):∀ {l:List α},(∀x∈l,10∉text x)→bO 10 (eQ text l ++s)=l.map text ++bO 10 s
 | [],_=>rfl
 |x ::l,h=>by
   rw[iR,List.append_assoc,List.cons_append,gH (h x (by simp)),sY s (fun y hy=>h y (by simp[hy]))];rfl
theorem vA {p : List UInt8 → α×Int}{text : α → List UInt8}{most : Nat}{r : List (List UInt8)}(hr : r ≠ []) : ∀ {l : List α}{acc : List α}{n : Nat}, (∀x ∈ l, p (text x) = (x, 0)) → acc.length + l.length ≤ most →
    eS p most acc n (l.map text ++r)=eS p most (acc ++l) (n+(eQ text l).length) r
 | [],acc,n,_,_=>by simp[eQ]
 |x ::l,acc,n,h,hm=>by
   simp only[List.length_cons]at hm;rw[List.map_cons,List.cons_append,lX (by simp[hr]),h x (by simp),if_neg (by simp),if_neg (by omega)];rw[vA hr (fun y hy=>h y (by simp[hy])) (by simp;omega),iR];simp only[List.length_append,List.length_cons,List.append_assoc,List.singleton_append,List.cons_append,List.nil_append];congr 1;omega
theorem uJ {p : List UInt8 → α×Int}{text : α → List UInt8}{ok : α → Prop}{most : Nat}(hp : ∀t x, p t = (x, 0) → ok x ∧ text x = t) : ∀ {r : List (List UInt8)}{acc l : List α}{n m : Nat}{e : Int}, r ≠ [] → eS p most acc n r = (l, m, e) → acc.length ≤ most →
    ∃l' s,l=acc ++l'∧l.length≤most∧(∀x∈l',ok x)∧m=n+(eQ text l').length∧gD 10 r=eQ text l' ++s∧(e=0→s=[])
 | [],acc,l,n,m,e,hr,_,_=>absurd rfl hr
 | [t],acc,l,n,m,e,_,h,hm=>by
   simp only[eS,Prod.mk.injEq]at h;obtain⟨rfl,rfl,h⟩:=h;refine⟨[],t,by simp,hm,by simp,by simp[eQ],by simp[eQ,gD],fun he=>?_⟩;subst he
   split at h
   · assumption
   cases h
 |t ::u ::r,acc,l,n,m,e,_,h,hm=>by
   rw[lX (by simp)]at h
   split at h
   · rename_i hb;simp only[Prod.mk.injEq]at h;obtain⟨rfl,rfl,h⟩:=h;exact⟨[],gD 10 (t ::u ::r),by simp,hm,by simp,by simp[eQ],by simp[eQ],fun he=>absurd (h.trans he) hb⟩
   rename_i hb;have hb:=Decidable.not_not.1 hb
   split at h
   · simp only[Prod.mk.injEq]at h;obtain⟨rfl,rfl,h⟩:=h;exact⟨[],gD 10 (t ::u ::r),by simp,hm,by simp,by simp[eQ],by simp[eQ],fun he=>by rw[he]at h;cases h⟩
   obtain⟨l',s,h1,h2,h3,h4,h5,h6⟩:=uJ hp (by simp) h (by simp;omega);obtain⟨hx,ht⟩:=hp t (p t).1 (by rw[←hb]);refine⟨(p t).1 ::l',s,by rw[h1];simp,h2,?_,?_,?_,h6⟩
   · intro y hy;rcases List.mem_cons.1 hy with rfl|hy
     · exact hx
     exact h3 y hy
   · rw[h4,iR,ht,List.length_append,List.length_cons];omega
   rw[xD (by simp),h5,iR,ht];simp
theorem xI {text : α → List UInt8} : ∀ {l : List α}{k : Nat}, (∀x ∈ l, 10 ∉ text x) → k ≤ (eQ text l).length →
    ∃j s,j≤l.length∧bO 10 ((eQ text l).take k)=(l.take j).map text ++[s]∧(eQ text (l.take j)) ++s=(eQ text l).take k∧10∉s
 | [],k,_,_=>⟨0,[],by simp,by simp[eQ,bO],by simp[eQ],by simp⟩
 |x ::l,k,h,hk=>by
   rw[iR]at hk⊢;have hx:=h x (by simp);by_cases hlt:k≤(text x).length
   · refine⟨0,(text x).take k,by simp,?_,?_,fun hc=>hx (List.mem_of_mem_take hc)⟩
     · rw[List.take_append_of_le_length hlt,mK (fun hc=>hx (List.mem_of_mem_take hc))];rfl
     rw[List.take_append_of_le_length hlt];simp[eQ]
   obtain⟨d,rfl⟩:∃d,k=(text x).length+(d+1):=⟨k-(text x).length-1,by omega⟩
   have hd:d≤(eQ text l).length:=by simp only[List.length_append,List.length_cons]at hk;omega
   obtain⟨j,s,h1,h2,h3,h4⟩:=xI (fun y hy=>h y (by simp[hy])) hd;refine⟨j+1,s,by simp;omega,?_,?_,h4⟩
   · rw[List.take_length_add_append,List.take_succ_cons,gH hx,h2];rfl
   rw[List.take_length_add_append,List.take_succ_cons,List.take_succ_cons,iR,List.append_assoc,List.cons_append,h3]
end
/-! ### A ledger -/
theorem LU {x:aL}(h:aG x=0):(10:UInt8)∉gC x:=by
 unfold gC gG;intro hc;rcases List.mem_append.1 hc with hc|hc
 · have:=DZ x hc;simp at this
 obtain⟨b,hb,hc⟩:=List.mem_flatten.1 hc;obtain⟨n,hn,rfl⟩:=List.mem_map.1 hb;rcases List.mem_cons.1 hc with hc|hc
 · simp at hc
 exact rR (jD h n hn).1 (by decide) hc
theorem xO {x:dI}(h:bI x=0):(10:UInt8)∉fT x:=by
 unfold fT
 split
 · rename_i hk;have:=rF h hk;intro hc;rcases List.mem_append.1 hc with hc|hc
   · simp[iS]at hc
   exact rR (by omega) (by decide) hc
 rename_i hk;have:=pN h hk;intro hc;rcases List.mem_append.1 hc with hc|hc
 · rcases List.mem_append.1 hc with hc|hc
   · exact rR (by omega) (by decide) hc
   simp[dJ]at hc
 exact LU this.2.2.2.2 hc
theorem IA {l:List dI}(h:∀x∈l,bI x=0):(eQ fT l).length≤101*l.length:=by
 induction l with
 |nil=>simp[eQ]
 |cons x l ih =>
   have:=ih (fun y hy=>h y (by simp[hy]));have:=mR (h x (by simp));rw[iR,List.length_append,List.length_cons,List.length_cons];omega
end
end Go.Proofs.YtpfkagghooihfaaGreatDoor
