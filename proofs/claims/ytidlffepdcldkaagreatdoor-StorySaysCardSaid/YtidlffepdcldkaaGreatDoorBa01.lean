/- Part 1 of the proof: Lib, Spec, Ent. -/
import Derived.WalkKit
import Derived.WalkSpells
import Derived.Below
import Derived.BigFrame
import Derived.BigQuiet
import Derived.Lib.Hide
import Derived.Laws.StructEq
import Derived.Deep.QuietTactic
import Derived.Deep.LoopGhost
import Derived.Deep.DeepFit
import Derived.Deep.Cut
import Derived.Deep.Draws
import Derived.Outline
import Derived.Laws.OwnMore
import Derived.Deep.AppendLies
import Derived.Maps.AppendAt
import Derived.RegionTactic
import Derived.OwnWalk
import Derived.Deep.RegionHeld3
import Derived.Test.YtidlffepdcldkaaGreatDoorProg
namespace Go.Proofs.YtidlffepdcldkaaGreatDoor
set_option linter.unusedSimpArgs false
set_option linter.unusedVariables false
section
open Go.RowKit
structure Entry where
 kind:Int
 job:Int
 every:Int
 time:Int
 client:Int
 deriving DecidableEq,Inhabited
structure Job where
 id:Int
 every:Int
 next:Int
 deriving DecidableEq,Inhabited
structure Rung where
 job:Int
 time:Int
 client:Int
 deriving DecidableEq,Inhabited
structure Life where
 job:Int
 every:Int
 frm:Int
 rung:Int
 over:Bool
 deriving DecidableEq,Inhabited
def encE (e:Entry):List Value:=[.int .i64 e.kind,.int .i64 e.job,.int .i64 e.every,.int .i64 e.time,.int .i64 e.client]
def encJ (j:Job):List Value:=[.int .i64 j.id,.int .i64 j.every,.int .i64 j.next]
def encR (r:Rung):List Value:=[.int .i64 r.job,.int .i64 r.time,.int .i64 r.client]
def encI (n:Int):List Value:=[.int .i64 n]
def Sl (w:World) (B k:Nat) (A:Option Addr) (n:Nat) (rows:List (List Value)):Prop :=
 rows.length=n∧(∀ r∈rows,r.length=k) ∧
  (0<n→∃ b off,A=some ⟨b,off,none⟩∧b<B∧∀ i j r u,rows[i]?=some r→r[j]?=some u→w.cell? ⟨b,off+i*k+j,none⟩=some u)
section
variable {w w':World} {B B' k n:Nat} {A:Option Addr} {rows:List (List Value)}
theorem Sl.len (h:Sl w B k A n rows):rows.length=n:=h.1
theorem Sl.nil:Sl w B k A 0 []:=⟨rfl,by simp,fun h=>absurd h (by omega)⟩
theorem Sl.keep (h:Sl w B k A n rows) (hk:∀ p:Addr,p.block<B→w'.cell? p=w.cell? p):Sl w' B k A n rows :=
 ⟨h.1,h.2.1,fun hn=>by
  obtain ⟨b,off,e,hb,hc⟩:=h.2.2 hn
  exact ⟨b,off,e,hb,fun i j r u hr hu=>(hk ⟨b,off+i*k+j,none⟩ hb).trans (hc i j r u hr hu)⟩⟩
theorem Sl.more (h:Sl w B k A n rows) (hB:B≤B'):Sl w B' k A n rows :=
 ⟨h.1,h.2.1,fun hn=>by
  obtain ⟨b,off,e,hb,hc⟩:=h.2.2 hn
  exact ⟨b,off,e,by omega,hc⟩⟩
theorem Sl.below (h:Sl w B k A n rows) (hb:Below B w w'):Sl w' B k A n rows:=h.keep fun _ hp=>hb.cell hp
theorem Sl.alloc (h:Sl w B k A n rows) (hB:B≤w.heap.size) (o:Obj):Sl (w.alloc o) B k A n rows:=h.keep fun p hp=>World.cell?_alloc_lt w o p (by omega)
theorem Sl.setCell (h:Sl w B k A n rows) {p:Addr} (hB:B≤p.block) (u:Value):Sl (w.setCell p u) B k A n rows :=
 h.keep fun q hq=>World.cell?_setCell_other w p q u (fun e=>by subst e;omega)
theorem Sl.under (h:Sl w B k A n rows) (hB:B≤w.heap.size) (hb:Below w.heap.size w w'):Sl w' B k A n rows:=h.below (hb.mono hB)
theorem Sl.drewN (h:Sl w B k A n rows) (q:Nat):Sl (w.drewN q) B k A n rows:=h
theorem Sl.drew (h:Sl w B k A n rows):Sl w.drew B k A n rows:=h
section
variable {α:Type} {enc:α→List Value} {l:List α}
theorem Sl.at_ (h : Sl w B k A n (l.map enc)) {i : Nat} (hi : i < n) : ∃ b off x, A = some ⟨b, off, none⟩ ∧ b < B ∧ l[i]? = some x ∧
    ∀ j u,(enc x)[j]?=some u→w.cell? ⟨b,off+i*k+j,none⟩=some u:=by
 obtain ⟨b,off,e,hb,hc⟩:=h.2.2 (by omega)
 have hl:i<l.length:=by have:=h.1;simp at this;omega
 exact ⟨b,off,l[i],e,hb,List.getElem?_eq_getElem hl,fun j u hu=>hc i j (enc l[i]) u (by simp [List.getElem?_eq_getElem hl]) hu⟩
end
theorem Sl.atJ {l : List Job} (h : Sl w B 3 A n (l.map encJ)) {i : Nat} (hi : i < n) : ∃ b off x, A = some ⟨b, off, none⟩ ∧ b < B ∧ l[i]? = some x ∧
    w.cell? ⟨b,off+i*3,none⟩=some (.int .i64 x.id)∧w.cell? ⟨b,off+i*3+1,none⟩=some (.int .i64 x.every)∧w.cell? ⟨b,off+i*3+2,none⟩=some (.int .i64 x.next):=by
 obtain ⟨b,off,x,e,hb,hx,hc⟩:=h.at_ hi
 exact ⟨b,off,x,e,hb,hx,hc 0 _ rfl,hc 1 _ rfl,hc 2 _ rfl⟩
theorem Sl.atR {l : List Rung} (h : Sl w B 3 A n (l.map encR)) {i : Nat} (hi : i < n) : ∃ b off x, A = some ⟨b, off, none⟩ ∧ b < B ∧ l[i]? = some x ∧
    w.cell? ⟨b,off+i*3,none⟩=some (.int .i64 x.job)∧w.cell? ⟨b,off+i*3+1,none⟩=some (.int .i64 x.time)∧w.cell? ⟨b,off+i*3+2,none⟩=some (.int .i64 x.client):=by
 obtain ⟨b,off,x,e,hb,hx,hc⟩:=h.at_ hi
 exact ⟨b,off,x,e,hb,hx,hc 0 _ rfl,hc 1 _ rfl,hc 2 _ rfl⟩
theorem Sl.atE {l : List Entry} (h : Sl w B 5 A n (l.map encE)) {i : Nat} (hi : i < n) : ∃ b off x, A = some ⟨b, off, none⟩ ∧ b < B ∧ l[i]? = some x ∧
    w.cell? ⟨b,off+i*5,none⟩=some (.int .i64 x.kind)∧w.cell? ⟨b,off+i*5+1,none⟩=some (.int .i64 x.job)∧w.cell? ⟨b,off+i*5+2,none⟩=some (.int .i64 x.every)∧w.cell? ⟨b,off+i*5+3,none⟩=some (.int .i64 x.time)∧w.cell? ⟨b,off+i*5+4,none⟩=some (.int .i64 x.client):=by
 obtain ⟨b,off,x,e,hb,hx,hc⟩:=h.at_ hi
 exact ⟨b,off,x,e,hb,hx,hc 0 _ rfl,hc 1 _ rfl,hc 2 _ rfl,hc 3 _ rfl,hc 4 _ rfl⟩
theorem Sl.atI {l:List Int} (h:Sl w B 1 A n (l.map encI)) {i:Nat} (hi:i<n):∃ b off x,A=some ⟨b,off,none⟩∧b<B∧l[i]?=some x∧w.cell? ⟨b,off+i,none⟩=some (.int .i64 x):=by
 obtain ⟨b,off,x,e,hb,hx,hc⟩:=h.at_ hi
 have h0:=hc 0 _ rfl
 rw [Nat.mul_one] at h0
 exact ⟨b,off,x,e,hb,hx,h0⟩
end
/-! ### Rows of the call's own -/
def Own (w:World) (base:Nat) (E k:Nat) (v:Value) (n:Nat) (rows:List (List Value)):Prop :=
 w.ownsRow base E k v n rows.flatten∧rows.length=n∧∀ r∈rows,r.length=k
theorem flatten_length {α:Type} {k:Nat}:∀ {rows:List (List α)},(∀ r∈rows,r.length=k)→rows.flatten.length=rows.length*k
 | [],_=>by simp
 | r ::rows,h=>by
   rw [List.flatten_cons,List.length_append,flatten_length (fun r' h'=>h r' (by simp [h'])),h r (by simp),List.length_cons,Nat.add_mul]
   omega
theorem flatten_at {α:Type} {k:Nat}:∀ {rows:List (List α)},(∀ r∈rows,r.length=k)→∀ (i j:Nat) (r:List α) (u:α),rows[i]?=some r→r[j]?=some u→rows.flatten[i*k+j]?=some u
 | [],_,i,j,r,u,hr,_=>by simp at hr
 | r0 ::rows,h,0,j,r,u,hr,hu=>by
   simp at hr
   subst hr
   have hj:j<r0.length:=by
    rcases Nat.lt_or_ge j r0.length with h' | h'
    · exact h'
    · rw [List.getElem?_eq_none h'] at hu;cases hu
   rw [List.flatten_cons,Nat.zero_mul,Nat.zero_add,List.getElem?_append_left hj]
   exact hu
 | r0 ::rows,h,i+1,j,r,u,hr,hu=>by
   have hk:r0.length=k:=h r0 (by simp)
   rw [List.flatten_cons,List.getElem?_append_right (by rw [hk,Nat.add_mul];omega)]
   have e:(i+1)*k+j - r0.length=i*k+j:=by rw [hk,Nat.add_mul];omega
   rw [e]
   exact flatten_at (fun r' h'=>h r' (by simp [h'])) i j r u (by simpa using hr) hu
theorem of_flatten_at {α:Type} {k:Nat} (hk:0<k):∀ {rows:List (List α)},(∀ r∈rows,r.length=k)→∀ (m:Nat) (u:α),rows.flatten[m]?=some u→∃ r,rows[m / k]?=some r∧r[m % k]?=some u
 | [],_,m,u,hu=>by simp at hu
 | r0 ::rows,h,m,u,hu=>by
   have hr0:r0.length=k:=h r0 (by simp)
   rw [List.flatten_cons] at hu
   rcases Nat.lt_or_ge m k with hm | hm
   · rw [List.getElem?_append_left (by omega)] at hu
     exact ⟨r0,by rw [Nat.div_eq_of_lt hm];rfl,by rw [Nat.mod_eq_of_lt hm];exact hu⟩
   · rw [List.getElem?_append_right (by omega),hr0] at hu
     obtain ⟨r,h1,h2⟩:=of_flatten_at hk (fun r' h'=>h r' (by simp [h'])) (m - k) u hu
     refine ⟨r,?_,?_⟩
     · have e:m / k=(m - k) / k+1:=by
        have:=Nat.add_div_right (m - k) hk
        rw [Nat.sub_add_cancel hm] at this
        exact this
       rw [e,List.getElem?_cons_succ]
       exact h1
     · rw [Nat.mod_eq_sub_mod hm];exact h2
section
variable {w w':World} {base E k n c:Nat} {A:Option Addr} {v:Value} {rows:List (List Value)}
theorem Own.sl (h:Own w base E k (.slice A n c) n rows):Sl w w.heap.size k A n rows:=by
 refine ⟨h.2.1,h.2.2,fun hn=>?_⟩
 obtain ⟨g,cap,hv,_,hlt⟩:=h.1.form hn
 have hA:A=some ⟨g,0,none⟩:=by injection hv
 subst hA
 refine ⟨g,0,rfl,hlt,fun i j r u hr hu=>?_⟩
 have:=h.1.cells (g:=g) rfl _ u (flatten_at h.2.2 i j r u hr hu)
 simpa [Addr.add_lit] using this
theorem Own.nil (w:World) (base E k:Nat):Own w base E k (.slice none 0 0) 0 []:=⟨World.ownsRow_nil _ _ _ _,rfl,by simp⟩
theorem Own.kept {row:Option Nat} (h:Own w base E k v n rows) (hg:w.grownBy w' row) (hne:v.ownBlock=none∨v.ownBlock≠row):Own w' base E k v n rows:=⟨h.1.kept hg hne,h.2⟩
theorem Own.lower {b':Nat} (h:Own w base E k v n rows) (hb:b'≤base):Own w b' E k v n rows:=by
 refine ⟨⟨h.1.1,?_⟩,h.2⟩
 rcases h.1.2 with hn | ⟨g,cap,cur,rfl,hb',rest⟩
 · exact .inl hn
 · exact .inr ⟨g,cap,cur,rfl,Nat.le_trans hb hb',rest⟩
theorem Own.slice (h:Own w base E k v n rows):∃ A c,v=.slice A n c∧n≤c∧c≤maxLen:=by
 rcases h.1.2 with ⟨rfl,rfl⟩ | ⟨g,cap,cur,rfl,_,_,h1,h2,_⟩
 · exact ⟨none,0,rfl,Nat.le_refl _,by unfold maxLen;omega⟩
 · exact ⟨_,cap,rfl,h1,h2⟩
theorem grownBy_of_below (h:Below w.heap.size w w') (row:Option Nat):w.grownBy w' row:=⟨h.os,h.tape,h.output,h.size,fun i hi _=>h.block i hi⟩
theorem Own.setCell (h:Own w base E k v n rows) {p:Addr} (hp:p.block<base) (u:Value):Own (w.setCell p u) base E k v n rows:=⟨ownsRow_setCell_below h.1 hp u,h.2⟩
theorem Own.drewN (h:Own w base E k v n rows) (q:Nat):Own (w.drewN q) base E k v n rows:=h
theorem Own.alloc (h:Own w base E k v n rows) (o:Obj):Own (w.alloc o) base E k v n rows:=⟨h.1.alloc o,h.2⟩
theorem Own.below (h:Own w base E k v n rows) (hb:Below w.heap.size w w'):Own w' base E k v n rows:=h.kept (grownBy_of_below hb none) (by cases v.ownBlock <;> simp)
end
/-! ### append of what came in,nil or not,onto a row of the call's own -/
section
variable {P:Program} (w:World)
theorem run_append_sl (base : Nat) (t ty e : TypeId) (i : TypeInfo) (z : Value) (size bytes : Nat) (ht : P.underlying t = some (.slice e)) (hi : P.info? e = some i) (hz : i.zero = some z)
    (hsize:i.size=size) (hby:i.bytes=bytes) (hzs:z.cells.size=size) (hsz:0<size)
    (v:Value) (n:Nat) (rows:List (List Value)) (hown:Own w base e size v n rows)
    (B:Nat) (A:Option Addr) (m c:Nat) (news:List (List Value)) (hr:Sl w B size A m news) (h1:∀ r∈news,∀ u∈r,u.oneCell'=true)
    (h63:n+m≤maxLen) (hbytes:(n+m)*bytes≤140737488355328) (hbase:base≤w.heap.size) :
    ∃ v' w',(Builtin.append_ #[t,t] ty #[v,.slice A m c]).run P w=.ok v' w'∧Own w' base e size v' (n+m) (rows ++news)∧w.grownBy w' v.ownBlock ∧
     (v'.ownBlock=v.ownBlock∨v'.ownBlock=some w.heap.size):=by
 rcases Nat.eq_zero_or_pos m with h0 | h0
 · subst h0
   have hn:news=[]:=List.eq_nil_of_length_eq_zero hr.1
   subst hn
   have hrun:(Builtin.append_ #[t,t] ty #[v,.slice A 0 c]).run P w=.ok v w:=by
    rcases hown.1.2 with ⟨rfl,rfl⟩ | ⟨g,cap,cur,rfl,_,_,hnc,_⟩
    · cases A <;> simp [Builtin.append_,run_underlying ht,sizeOf,typeInfo,hi,Builtin.lenOf,Builtin.firstCells,loadCells,loadCellsFrom]
    · cases A <;> simp [Builtin.append_,run_underlying ht,sizeOf,typeInfo,hi,Builtin.lenOf,Builtin.firstCells,loadCells,loadCellsFrom,hnc,storeCells]
   exact ⟨v,w,hrun,by simpa using hown,World.grownBy.refl w _,.inl rfl⟩
 · obtain ⟨b,off,rfl,hb,hc⟩:=hr.2.2 h0
   have hcells:∀ j u,news.flatten[j]?=some u→w.cell? ((⟨b,off,none⟩:Addr).add j)=some u:=by
    intro j u hu
    obtain ⟨r,h1,h2⟩:=of_flatten_at hsz hr.2.1 j u hu
    have:=hc _ _ r u h1 h2
    rw [Nat.add_assoc,Nat.mul_comm,Nat.div_add_mod] at this
    simpa [Addr.add_lit] using this
   have hlen:news.flatten.length=m*size:=by rw [flatten_length hr.2.1,hr.1]
   have h1':∀ u∈news.flatten,u.oneCell'=true:=by
    intro u hu
    obtain ⟨r,hr',hu'⟩:=List.mem_flatten.1 hu
    exact h1 r hr' u hu'
   obtain ⟨v',w',hrun,h2,h3,_,h5⟩:=run_append_own_at (P:=P) w base t ty e i z size bytes ht hi hz hsize hby hzs hsz v n rows.flatten hown.1 ⟨b,off,none⟩ m c news.flatten hlen hcells h1' h63 hbytes hbase
   refine ⟨v',w',hrun,⟨by rw [List.flatten_append];exact h2,by rw [List.length_append,hown.2.1,hr.1],fun r hr'=>?_⟩,h3,h5⟩
   rcases List.mem_append.1 hr' with h | h
   · exact hown.2.2 r h
   · exact hr.2.1 r h
theorem wp_append_sl {o : Oper} {a : Act} {K : Act → World → Prop} {Q : Exit → Act → World → Prop} (s x : Operand) (t : TypeId)
    (ho:o.op=.call { callee:=.builtin .append,args:=#[s,x],argTypes:=#[t,t] })
    (base:Nat) (e:TypeId) (i:TypeInfo) (z:Value) (size bytes:Nat) (ht:P.underlying t=some (.slice e)) (hi:P.info? e=some i) (hz:i.zero=some z)
    (hsize:i.size=size) (hby:i.bytes=bytes) (hzs:z.cells.size=size) (hsz:0<size)
    (v:Value) (n:Nat) (rows:List (List Value)) (hs:a.eval s=v) (hown:Own w base e size v n rows)
    (B:Nat) (A:Option Addr) (m c:Nat) (news:List (List Value)) (hx:a.eval x=.slice A m c) (hr:Sl w B size A m news) (h1:∀ r∈news,∀ u∈r,u.oneCell'=true)
    (h63:n+m≤maxLen) (hbytes:(n+m)*bytes≤140737488355328) (hbase:base≤w.heap.size)
    (h:∀ v' w',Own w' base e size v' (n+m) (rows ++news)→w.grownBy w' v.ownBlock→(v'.ownBlock=v.ownBlock∨v'.ownBlock=some w.heap.size)→K (a.put o.dst v') w'):o.wp P a w K Q:=by
 obtain ⟨v',w',hrun,h2,h3,h4⟩:=run_append_sl (P:=P) w base t o.type e i z size bytes ht hi hz hsize hby hzs hsz v n rows hown B A m c news hr h1 h63 hbytes hbase
 unfold Oper.wp execOp
 simp only [ho,resolve,invoke,builtin,Sem.run_bind,Sem.run_pure,Result.andThen_ok,List.map_toArray,List.map_cons,List.map_nil,hs,hx,hrun]
 exact h v' w' h2 h3 h4
theorem wpList_append_sl {ops : Array Oper} {rest : List Oper} {o : Oper} {a : Act} {Q : Exit → Act → World → Prop} (hgd : o.guard = none) (s x : Operand) (t : TypeId)
    (ho:o.op=.call { callee:=.builtin .append,args:=#[s,x],argTypes:=#[t,t] })
    (base:Nat) (e:TypeId) (i:TypeInfo) (z:Value) (size bytes:Nat) (ht:P.underlying t=some (.slice e)) (hi:P.info? e=some i) (hz:i.zero=some z)
    (hsize:i.size=size) (hby:i.bytes=bytes) (hzs:z.cells.size=size) (hsz:0<size)
    (v:Value) (n:Nat) (rows:List (List Value)) (hs:a.eval s=v) (hown:Own w base e size v n rows)
    (B:Nat) (A:Option Addr) (m c:Nat) (news:List (List Value)) (hx:a.eval x=.slice A m c) (hr:Sl w B size A m news) (h1:∀ r∈news,∀ u∈r,u.oneCell'=true)
    (h63:n+m≤maxLen) (hbytes:(n+m)*bytes≤140737488355328) (hbase:base≤w.heap.size)
    (h:∀ v' w',Own w' base e size v' (n+m) (rows ++news)→w.grownBy w' v.ownBlock→(v'.ownBlock=v.ownBlock∨v'.ownBlock=some w.heap.size)→wpList P ops Q rest (a.put o.dst v') w'):wpList P ops Q (o ::rest) a w :=
 wpList_plain hgd fun _ hK=>wp_append_sl w s x t ho base e i z size bytes ht hi hz hsize hby hzs hsz v n rows hs hown B A m c news hx hr h1 h63 hbytes hbase fun v' w' h2 h3 h4=>hK _ _ (h v' w' h2 h3 h4)
end
theorem job_eq_iff (x y:Job):x=y↔x.id=y.id∧x.every=y.every∧x.next=y.next:=by
 cases x;cases y;simp
theorem rung_eq_iff (x y:Rung):x=y↔x.job=y.job∧x.time=y.time∧x.client=y.client:=by
 cases x;cases y;simp
theorem entry_eq_iff (x y:Entry):x=y↔x.kind=y.kind∧x.job=y.job∧x.every=y.every∧x.time=y.time∧x.client=y.client:=by
 cases x;cases y;simp
theorem hNew {w:World} {o:Obj} {k:Nat} (h:k=w.heap.size):(w.alloc o).heap[k]?=some o:=by subst h;exact heap_alloc_new w o
theorem hOld {w:World} {o x:Obj} {k:Nat} (h:w.heap[k]?=some x):(w.alloc o).heap[k]?=some x:=by
 have hk:k<w.heap.size:=by
  rcases Nat.lt_or_ge k w.heap.size with hlt | hge
  · exact hlt
  · rw [Array.getElem?_eq_none hge] at h;cases h
 exact (Below.heap_alloc w o k hk).trans h
theorem below_drewN {B:Nat} {a w:World} (h:Below B a w) (n:Nat):Below B a (w.drewN n):=⟨h.os,h.tape,h.output,h.size,h.block⟩
theorem list_eq_of {α:Type} {l m:List α} (hl:l.length=m.length) (h:∀ j,j<l.length→l[j]?=m[j]?):l=m:=by
 apply List.ext_getElem?;intro i
 by_cases hi:i<l.length
 · exact h i hi
 · rw [List.getElem?_eq_none (by omega),List.getElem?_eq_none (by omega)]
end
section
def checkE (e:Entry):Int :=
 if e.kind<0∨3<e.kind then 4
 else if e.job<0∨6≤e.job∨e.every<0∨100<e.every∨e.time<0∨100000<e.time∨e.client<0∨3≤e.client then 3
 else if (e.kind=0∧¬ (e.job=0∧e.every=0∧e.time=0∧e.client=0))∨(e.kind=1∧¬ (1≤e.every∧e.client=0)) ∨
  (e.kind=2∧¬ (e.every=0∧e.time=0∧e.client=0))∨(e.kind=3∧e.every≠0) then 4 else 0
structure Book where
 jobs:List Job
 rung:List Rung
 deriving DecidableEq,Inhabited
def Book.none:Book:=⟨[],[]⟩
def checkJs (last:Int):List Job→Int
 | []=>0
 | j ::l=>if j.id<0∨6≤j.id∨j.every<1∨100<j.every∨j.next<0∨100100<j.next then 3 else if j.id≤last then 6 else checkJs j.id l
def checkRs:List Rung→Int
 | []=>0
 | r ::l=>if r.job<0∨6≤r.job∨r.time<0∨100000<r.time∨r.client<0∨3≤r.client then 3 else checkRs l
def checkB (b:Book):Int :=
 if 6<b.jobs.length∨60<b.rung.length then 2 else if checkJs (-1) b.jobs=0 then checkRs b.rung else checkJs (-1) b.jobs
def idxI {α:Type} (p:α→Bool) (l:List α):Int :=
 match l.findIdx? p with
 | some i=>i
 | none=>-1
theorem idxI_at {α:Type} {p:α→Bool} {l:List α} {i:Nat} {x:α} (hx:l[i]?=some x) (hp:p x=true) (h:∀ j y,j<i→l[j]?=some y→p y=false):idxI p l=i:=by
 obtain ⟨hi,rfl⟩:=List.getElem?_eq_some_iff.1 hx
 have e:l.findIdx? p=some i:=by
  rw [List.findIdx?_eq_some_iff_getElem]
  refine ⟨hi,hp,fun j hj=>?_⟩
  have:=h j l[j] hj (List.getElem?_eq_getElem (by omega))
  simp [this]
 simp [idxI,e]
theorem idxI_none {α:Type} {p:α→Bool} {l:List α} (h:∀ (j:Nat) y,l[j]?=some y→p y=false):idxI p l=-1:=by
 have e:l.findIdx? p=none:=by
  rw [List.findIdx?_eq_none_iff]
  intro x hx
  obtain ⟨j,hj,rfl⟩:=List.getElem_of_mem hx
  exact h j _ (List.getElem?_eq_getElem hj)
 simp [idxI,e]
def findB (b:Book) (id:Int):Int:=idxI (fun j=>decide (j.id=id)) b.jobs
def posJ (l:List Job) (id:Int):Nat:=(l.takeWhile fun j=>decide (j.id<id)).length
def stepB (b:Book) (e:Entry):Book :=
 if e.kind=1 then
  if 0≤findB b e.job then b else ⟨b.jobs.take (posJ b.jobs e.job) ++[⟨e.job,e.every,e.time⟩] ++b.jobs.drop (posJ b.jobs e.job),b.rung⟩
 else if e.kind=2 then
  if 0≤findB b e.job then ⟨b.jobs.take (findB b e.job).toNat ++b.jobs.drop ((findB b e.job).toNat+1),b.rung⟩ else b
 else if e.kind=3 then
  match b.jobs[(findB b e.job).toNat]? with
  | some j=>if 0≤findB b e.job∧j.next=e.time∧b.rung.length<60 then ⟨b.jobs.set (findB b e.job).toNat ⟨j.id,j.every,j.next+j.every⟩,b.rung ++[⟨e.job,e.time,e.client⟩]⟩ else b
  | none=>b
 else b
def applyB (b:Book) (e:Entry):Book × Int :=
 if checkB b≠0 then (Book.none,checkB b) else if checkE e≠0 then (Book.none,checkE e) else (stepB b e,0)
def replayB (b:Book):List Entry→Book × Int
 | []=>(b,0)
 | e ::l=>if (applyB b e).2≠0 then (Book.none,(applyB b e).2) else replayB (applyB b e).1 l
def replay (l:List Entry):Book × Int:=if 60<l.length then (Book.none,2) else replayB Book.none l
end
section
open Go.RowKit
theorem ret_int {k:IntKind} {a b:Int} (h:a=b):Ending.returned (.int k a)=.returned (.int k b):=by rw [h]
theorem ret_bool {a b:Bool} (h:a=b):Ending.returned (.bool a)=.returned (.bool b):=by rw [h]
theorem put_calls (j v t : Int) (w : World) :
    Calls Tryz.prog 27 #[.int .i64 j,.int .i64 v,.int .i64 t] w fun e w'=>e=.returned (.agg #[.int .i64 1,.int .i64 j,.int .i64 v,.int .i64 t,.int .i64 0])∧Below w.heap.size w w':=by
 go_enter Tryz.func27,Tryz.ntmps27
 go_wp2
 refine bodyPost_ret (v:=.agg #[.int .i64 1,.int .i64 j,.int .i64 v,.int .i64 t,.int .i64 0]) (by simp [results,Tryz.results27,go_sem]) rfl ⟨rfl,?_⟩
 repeat (first | exact Below.refl _ _ | refine Below.alloc ?_ (by simp <;> omega) _ | refine Below.setCell ?_ (by simp) _)
set_option maxHeartbeats 4000000 in
set_option maxRecDepth 100000 in
theorem Check_calls (k j v t c : Int) (w : World) :
    Calls Tryz.prog 58 #[.agg #[.int .i64 k,.int .i64 j,.int .i64 v,.int .i64 t,.int .i64 c]] w fun e w'=>e=.returned (.int .i64 (checkE ⟨k,j,v,t,c⟩))∧Below w.heap.size w w':=by
 obtain ⟨r,hr⟩:∃ r,r=checkE ⟨k,j,v,t,c⟩:=⟨_,rfl⟩
 rw [← hr]
 have HR:=Lib.hid hr
 clear hr
 go_enter Tryz.func58,Tryz.ntmps58
 go_wp2
 all_goals
  go_ret
  refine ⟨ret_int ?_,?_⟩
  · rw [HR.out];clear HR;(try simp only [beq_iff_eq,beq_eq_false_iff_ne,bne_iff_ne,bne_eq_false_iff_eq,ne_eq] at *);unfold checkE;dsimp only;(repeat' split) <;> omega
  · repeat (first | exact Below.refl _ _ | refine Below.alloc ?_ (by simp <;> omega) _ | refine Below.setCell ?_ (by simp) _)
end
end Go.Proofs.YtidlffepdcldkaaGreatDoor
