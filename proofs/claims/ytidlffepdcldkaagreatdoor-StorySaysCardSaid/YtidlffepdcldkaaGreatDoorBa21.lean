/- Part 21 of the proof: WMem, WRead, LaidW. -/
import Derived.Test.YtidlffepdcldkaaGreatDoorBa16
import Derived.Test.YtidlffepdcldkaaGreatDoorBa10
import Derived.Test.YtidlffepdcldkaaGreatDoorBa03
import Derived.Test.YtidlffepdcldkaaGreatDoorBa13
import Derived.Test.YtidlffepdcldkaaGreatDoorBa05
import Derived.Test.YtidlffepdcldkaaGreatDoorBa20
import Derived.Test.YtidlffepdcldkaaGreatDoorRows
import Derived.Test.YtidlffepdcldkaaGreatDoorBa02
import Derived.Test.YtidlffepdcldkaaGreatDoorShelf
import Derived.Test.YtidlffepdcldkaaGreatDoorBa09
import Derived.Stop.LaidErr
import Derived.Stop.Joined
import Derived.Handed
import Derived.Lay
import Derived.SizedLaws
namespace Go.Proofs.YtidlffepdcldkaaGreatDoor
set_option linter.unusedSimpArgs false
set_option linter.unusedVariables false
section
open Go.RowKit
theorem Onto.sz {w w':World} (h:Onto w w'):w.heap.size≤w'.heap.size:=h.size
theorem Bx.grown {w w':World} {z:Nat} {vs:List Value} {row:Option Nat} (h:Bx w z vs) (hg:w.grownBy w' row) (hne:some z≠row):Bx w' z vs:=⟨fun j v hv=>grow_cell hg (h.cells j v hv) hne,h.unf.grown hg hne⟩
theorem S.grown {w w':World} {k n:Nat} {A:Option Addr} {rows:List (List Value)} {row:Option Nat} (h:S w k A n rows) (hg:w.grownBy w' row) (hne:∀ b,row=some b→OffN n b A):S w' k A n rows :=
 ⟨h.1,h.2.1,fun hn=>by
  obtain ⟨b,off,e,hb,hc⟩:=h.2.2 hn
  exact ⟨b,off,e,Nat.lt_of_lt_of_le hb hg.size,fun i j r u hr hu=>grow_cell hg (hc i j r u hr hu) (fun e'=>hne b e'.symm hn _ e rfl)⟩⟩
theorem DK.grown {w w':World} {A A':Option Addr} {n c m d:Nat} {x:Dsk} {row:Option Nat} (h:DK w A n c A' m d x) (hg:w.grownBy w' row) (h1:∀ b,row=some b→OffN n b A) (h2:∀ b,row=some b→OffN m b A'):DK w' A n c A' m d x :=
 ⟨h.safe.grown hg h1,h.wait.grown hg h2,h.n_le,h.c_le,h.m_le,h.d_le⟩
theorem DK.puts {w:World} {A A':Option Addr} {n c m d z:Nat} {x:Dsk} (h:DK w A n c A' m d x) (h1:OffN n z A) (h2:OffN m z A') {us:List Value} {o:Nat}:DK (w.setCells z o us) A n c A' m d x :=
 ⟨put_S (w:=w) h1 h.safe,put_S (w:=w) h2 h.wait,h.n_le,h.c_le,h.m_le,h.d_le⟩
abbrev Turn (w w':World) (z:Nat):Prop:=w.grownBy w' (some z)
theorem Turn.rfl' (w:World) (z:Nat):Turn w w z:=gb_onto (World.grownBy.refl w _) (Onto.rfl' w)
theorem Turn.of {w w':World} (h:Onto w w') (z:Nat):Turn w w' z:=gb_onto (World.grownBy.refl w _) h
theorem Turn.onto {w w' w'':World} {z:Nat} (h:Turn w w' z) (b:Onto w' w''):Turn w w'' z:=gb_onto h b
theorem Turn.put {w w':World} {z:Nat} (h:Turn w w' z) {p:Addr} (hp:p.block=z) (u:Value):Turn w (w'.setCell p u) z:=gb_put h hp u
theorem Turn.puts {w:World} {z:Nat}:∀ {us:List Value} {o:Nat} {w':World},Turn w w' z→Turn w (w'.setCells z o us) z
 | [],_,_,h=>h
 | u ::r,o,w',h=>by rw [World.setCells];exact Turn.puts (h.put rfl u)
theorem Turn.to {w w' w'':World} {z:Nat} (h:Turn w w' z) (h':Turn w' w'' z) (hz:z<w.heap.size):Turn w w'' z:=World.grownBy.andThen h h' (fun g hg=>.inr hg)
theorem Turn.up {w0 w w':World} {z:Nat} (on:Onto w0 w) (h:Turn w w' z) (hz:w0.heap.size≤z):Onto w0 w':=below_grown on on.size h (fun g hg=>by injection hg with hg;omega)
structure NV where
 x:Nod
 A:Option Addr
 n:Nat
 c:Nat
 F:Option Addr
 k:Nat
 i:Nat
 G:Option Addr
 l:Nat
 j:Nat
def encN (v:NV):List Value:=[.int .i64 v.x.u.ep,.slice v.A v.n v.c,.slice v.F v.k v.i,.slice v.G v.l v.j,.bool v.x.up]
structure NV.In (w:World) (v:NV):Prop where
 cells:S w 5 v.A v.n (v.x.u.cells.map encE)
 disk:DK w v.F v.k v.i v.G v.l v.j v.x.d
 le:v.n≤v.c
 max:v.c≤maxLen
structure NV.off (z:Nat) (v:NV):Prop where
 a:OffN v.n z v.A
 f:OffN v.k z v.F
 g:OffN v.l z v.G
structure CV where
 x:Cli
 A:Option Addr
 n:Nat
 c:Nat
 G:Option Addr
 m:Nat
 d:Nat
def encC (v:CV):List Value:=[.int .i64 v.x.epoch,.int .i64 v.x.doing,.int .i64 v.x.e.kind,.int .i64 v.x.e.job,.int .i64 v.x.e.every,.int .i64 v.x.e.time,.int .i64 v.x.e.client,.int .i64 v.x.at_,.int .i64 v.x.link,.int .i64 v.x.played,.slice v.A v.n v.c,.slice v.G v.m v.d]
structure CV.In (w:World) (v:CV):Prop where
 jobs:S w 3 v.A v.n (v.x.b.jobs.map encJ)
 rung:S w 3 v.G v.m (v.x.b.rung.map encR)
 le:v.n≤v.c
 le':v.m≤v.d
structure CV.off (z:Nat) (v:CV):Prop where
 a:OffN v.n z v.A
 g:OffN v.m z v.G
section
variable {w w':World} {v:NV} {c:CV} {z o:Nat} {us:List Value}
theorem NV.In.onto (h:v.In w) (b:Onto w w'):v.In w':=⟨h.cells.onto b,h.disk.onto b,h.le,h.max⟩
theorem NV.In.puts (h:v.In w) (f:v.off z):v.In (w.setCells z o us):=⟨put_S (w:=w) f.a h.cells,h.disk.puts f.f f.g,h.le,h.max⟩
theorem NV.In.grown (h:v.In w) (b:Turn w w' z) (f:v.off z):v.In w' :=
 ⟨h.cells.grown b (fun g e=>by injection e with e;subst e;exact f.a),h.disk.grown b (fun g e=>by injection e with e;subst e;exact f.f) (fun g e=>by injection e with e;subst e;exact f.g),h.le,h.max⟩
theorem NV.In.put (h:v.In w) {p:Addr} (f:v.off p.block) (u:Value):v.In (w.setCell p u):=⟨S.off h.cells f.a u,⟨S.off h.disk.safe f.f u,S.off h.disk.wait f.g u,h.disk.n_le,h.disk.c_le,h.disk.m_le,h.disk.d_le⟩,h.le,h.max⟩
theorem CV.In.put (h:c.In w) {p:Addr} (f:c.off p.block) (u:Value):c.In (w.setCell p u):=⟨S.off h.jobs f.a u,S.off h.rung f.g u,h.le,h.le'⟩
theorem CV.In.onto (h:c.In w) (b:Onto w w'):c.In w':=⟨h.jobs.onto b,h.rung.onto b,h.le,h.le'⟩
theorem CV.In.puts (h:c.In w) (f:c.off z):c.In (w.setCells z o us):=⟨put_S (w:=w) f.a h.jobs,put_S (w:=w) f.g h.rung,h.le,h.le'⟩
theorem CV.In.grown (h:c.In w) (b:Turn w w' z) (f:c.off z):c.In w' :=
 ⟨h.jobs.grown b (fun g e=>by injection e with e;subst e;exact f.a),h.rung.grown b (fun g e=>by injection e with e;subst e;exact f.g),h.le,h.le'⟩
theorem NV.In.away (h:v.In w) (hz:w.heap.size≤z):v.off z:=⟨h.cells.offN hz,h.disk.safe.offN hz,h.disk.wait.offN hz⟩
theorem CV.In.away (h:c.In w) (hz:w.heap.size≤z):c.off z:=⟨h.jobs.offN hz,h.rung.offN hz⟩
end
structure WR (w:World) (A:Option Addr) (n:Nat) (C:Option Addr) (m:Nat) (ns:List NV) (cs:List CV):Prop where
 nr:S w 5 A n (ns.map encN)
 cr:S w 12 C m (cs.map encC)
 ni:∀ v∈ns,v.In w
 ci:∀ v∈cs,v.In w
abbrev nods (ns:List NV):List Nod:=ns.map NV.x
abbrev clis (cs:List CV):List Cli:=cs.map CV.x
abbrev wor (ns:List NV) (tip:Int) (cs:List CV) (time:Int):Wor:=⟨nods ns,tip,clis cs,time⟩
section
variable {w w':World} {A C:Option Addr} {n m:Nat} {ns:List NV} {cs:List CV}
theorem WR.onto (h:WR w A n C m ns cs) (b:Onto w w'):WR w' A n C m ns cs:=⟨h.nr.onto b,h.cr.onto b,fun v hv=>(h.ni v hv).onto b,fun v hv=>(h.ci v hv).onto b⟩
theorem WR.new (h:WR w A n C m ns cs) (o:Obj):WR (w.alloc o) A n C m ns cs:=h.onto ((Onto.rfl' w).new o)
theorem WR.nlen (h:WR w A n C m ns cs):ns.length=n:=by have:=h.nr.len;simpa using this
theorem WR.clen (h:WR w A n C m ns cs):cs.length=m:=by have:=h.cr.len;simpa using this
theorem WR.atN (h : WR w A n C m ns cs) {i : Nat} (hi : i < n) : ∃ b off v, A = some ⟨b, off, none⟩ ∧ b < w.heap.size ∧ ns[i]? = some v ∧ v.In w ∧
    w.cell? ⟨b,off+i*5,none⟩=some (.int .i64 v.x.u.ep)∧w.cell? ⟨b,off+i*5+1,none⟩=some (.slice v.A v.n v.c)∧w.cell? ⟨b,off+i*5+2,none⟩=some (.slice v.F v.k v.i)∧w.cell? ⟨b,off+i*5+3,none⟩=some (.slice v.G v.l v.j)∧w.cell? ⟨b,off+i*5+4,none⟩=some (.bool v.x.up):=by
 obtain ⟨b,off,x,e,hb,hx,hc⟩:=h.nr.at_ hi
 exact ⟨b,off,x,e,hb,hx,h.ni x (List.mem_of_getElem? hx),hc 0 _ rfl,hc 1 _ rfl,hc 2 _ rfl,hc 3 _ rfl,hc 4 _ rfl⟩
theorem WR.atC (h : WR w A n C m ns cs) {i : Nat} (hi : i < m) : ∃ b off v, C = some ⟨b, off, none⟩ ∧ b < w.heap.size ∧ cs[i]? = some v ∧ v.In w ∧
    w.cell? ⟨b,off+i*12,none⟩=some (.int .i64 v.x.epoch)∧w.cell? ⟨b,off+i*12+1,none⟩=some (.int .i64 v.x.doing)∧w.cell? ⟨b,off+i*12+2,none⟩=some (.int .i64 v.x.e.kind)∧w.cell? ⟨b,off+i*12+3,none⟩=some (.int .i64 v.x.e.job)∧w.cell? ⟨b,off+i*12+4,none⟩=some (.int .i64 v.x.e.every)∧w.cell? ⟨b,off+i*12+5,none⟩=some (.int .i64 v.x.e.time)∧w.cell? ⟨b,off+i*12+6,none⟩=some (.int .i64 v.x.e.client)∧w.cell? ⟨b,off+i*12+7,none⟩=some (.int .i64 v.x.at_)∧w.cell? ⟨b,off+i*12+8,none⟩=some (.int .i64 v.x.link)∧w.cell? ⟨b,off+i*12+9,none⟩=some (.int .i64 v.x.played)∧w.cell? ⟨b,off+i*12+10,none⟩=some (.slice v.A v.n v.c)∧w.cell? ⟨b,off+i*12+11,none⟩=some (.slice v.G v.m v.d):=by
 obtain ⟨b,off,x,e,hb,hx,hc⟩:=h.cr.at_ hi
 exact ⟨b,off,x,e,hb,hx,h.ci x (List.mem_of_getElem? hx),hc 0 _ rfl,hc 1 _ rfl,hc 2 _ rfl,hc 3 _ rfl,hc 4 _ rfl,hc 5 _ rfl,hc 6 _ rfl,hc 7 _ rfl,hc 8 _ rfl,hc 9 _ rfl,hc 10 _ rfl,hc 11 _ rfl⟩
end
abbrev Rx (w:World) (z:Nat) (rows:List (List Value)):Prop:=Bx w z rows.flatten
section
variable {w:World} {z k i:Nat} {rows:List (List Value)} {r:List Value}
theorem Rx.at_ (h:Rx w z rows) (hk:∀ r∈rows,r.length=k) (hr:rows[i]?=some r) (j:Nat) {u:Value} (hu:r[j]?=some u):w.cell? ⟨z,i*k+j,none⟩=some u :=
 Bx.at_ h _ (flatten_at hk i j r u hr hu)
theorem Rx.s (h:Rx w z rows) (hk:∀ r∈rows,r.length=k):S w k (some ⟨z,0,none⟩) rows.length rows :=
 ⟨rfl,hk,fun _=>⟨z,0,rfl,Bx.lt h,fun i j r u hr hu=>by rw [Nat.zero_add];exact Rx.at_ h hk hr j hu⟩⟩
theorem setMany_get:∀ (us vs:List Value) (o i:Nat),o+us.length≤vs.length→(setMany vs o us)[i]?=if o≤i∧i<o+us.length then us[i - o]? else vs[i]?
 | [],vs,o,i,_=>by rw [setMany,if_neg (by simp <;> omega)]
 | u ::r,vs,o,i,h=>by
   simp only [List.length_cons] at h
   rw [setMany,setMany_get r _ _ _ (by simp;omega)]
   by_cases h1:o+1≤i∧i<o+1+r.length
   · rw [if_pos h1,if_pos (by simp;omega),show i - o=(i - (o+1))+1 by omega,List.getElem?_cons_succ]
   · rw [if_neg h1,List.getElem?_set]
     by_cases h2:o=i
     · subst h2
       rw [if_pos rfl,if_pos (by omega),if_pos (by simp),Nat.sub_self];rfl
     · rw [if_neg h2,if_neg (by simp;omega)]
theorem flatten_set:∀ {rows:List (List Value)} {i:Nat} {r us:List Value},(∀ r∈rows,r.length=k)→rows[i]?=some r→us.length=k→setMany rows.flatten (i*k) us=(rows.set i us).flatten:=by
 intro rows i r us hk hr hu
 have hi:i<rows.length:=(List.getElem?_eq_some_iff.1 hr).1
 have hl:=flatten_length hk
 have hk':∀ r∈rows.set i us,r.length=k:=fun r hr=>by
  rcases List.mem_or_eq_of_mem_set hr with h | rfl
  · exact hk r h
  · exact hu
 have hl':=flatten_length hk'
 have hik:i*k+k≤rows.length*k:=by have:=Nat.mul_le_mul_right k hi;rw [Nat.succ_mul] at this;exact this
 rcases Nat.eq_zero_or_pos k with h0 | hpos
 · subst h0
   obtain rfl:us=[]:=List.eq_nil_of_length_eq_zero hu
   rw [setMany,List.eq_nil_of_length_eq_zero (l:=rows.flatten) (by rw [hl];simp),List.eq_nil_of_length_eq_zero (l:=(rows.set i []).flatten) (by rw [hl'];simp)]
 refine list_eq_of (by rw [setMany_length,hl,hl',List.length_set]) fun j hj=>?_
 rw [setMany_length,hl] at hj
 rw [setMany_get _ _ _ _ (by rw [hl,hu];exact hik),hu]
 have hq:j / k<rows.length:=Nat.div_lt_of_lt_mul (by rw [Nat.mul_comm];exact hj)
 have hm:j % k<k:=Nat.mod_lt _ hpos
 have hdm:j / k*k+j % k=j:=by rw [Nat.mul_comm];exact Nat.div_add_mod j k
 by_cases hin:i*k≤j∧j<i*k+k
 · rw [if_pos hin]
   have e:us[j - i*k]?=some us[j - i*k]:=List.getElem?_eq_getElem (by omega)
   have:=flatten_at hk' i (j - i*k) us us[j - i*k] (by rw [List.getElem?_set,if_pos rfl,if_pos hi]) e
   rw [show i*k+(j - i*k)=j by omega] at this
   rw [this,e]
 · rw [if_neg hin]
   have hne:i≠j / k:=by
    rintro rfl
    exact hin ⟨by omega,by omega⟩
   have hr0:rows[j / k]?=some rows[j / k]:=List.getElem?_eq_getElem hq
   have hlr:rows[j / k].length=k:=hk _ (List.getElem_mem hq)
   have hu0:rows[j / k][j % k]?=some (rows[j / k][j % k]'(by omega)):=List.getElem?_eq_getElem (by omega)
   have h1:=flatten_at hk _ _ _ _ hr0 hu0
   have h2:=flatten_at hk' (j / k) (j % k) _ _ (by rw [List.getElem?_set,if_neg hne];exact hr0) hu0
   rw [hdm] at h1 h2
   rw [h1,h2]
theorem flatten_set1 {rows:List (List Value)} {i j:Nat} {r:List Value} {u:Value} (hk:∀ r∈rows,r.length=k) (hr:rows[i]?=some r) (hj:j<k):rows.flatten.set (i*k+j) u=(rows.set i (r.set j u)).flatten:=by
 have hi:i<rows.length:=(List.getElem?_eq_some_iff.1 hr).1
 have hrk:r.length=k:=hk r (List.mem_of_getElem? hr)
 have hl:=flatten_length hk
 have hk':∀ x∈rows.set i (r.set j u),x.length=k:=fun x hx=>by
  rcases List.mem_or_eq_of_mem_set hx with h | rfl
  · exact hk x h
  · simpa using hrk
 have hl':=flatten_length hk'
 have hik:i*k+k≤rows.length*k:=by have:=Nat.mul_le_mul_right k hi;rw [Nat.succ_mul] at this;exact this
 refine list_eq_of (by rw [List.length_set,hl,hl',List.length_set]) fun m hm=>?_
 rw [List.length_set,hl] at hm
 have hq:m / k<rows.length:=Nat.div_lt_of_lt_mul (by rw [Nat.mul_comm];exact hm)
 have hmk:m % k<k:=Nat.mod_lt _ (by omega)
 have hdm:m / k*k+m % k=m:=by rw [Nat.mul_comm];exact Nat.div_add_mod m k
 have hr0:rows[m / k]?=some rows[m / k]:=List.getElem?_eq_getElem hq
 have hlr:rows[m / k].length=k:=hk _ (List.getElem_mem hq)
 have hu0:rows[m / k][m % k]?=some (rows[m / k][m % k]'(by omega)):=List.getElem?_eq_getElem (by omega)
 have h1:=flatten_at hk _ _ _ _ hr0 hu0
 rw [hdm] at h1
 by_cases e:i=m / k
 · subst e
   rw [hr] at hr0
   injection hr0 with hr0
   subst hr0
   rw [List.getElem?_set]
   by_cases e2:j=m % k
   · subst e2
     rw [if_pos hdm,if_pos (by rw [hl];omega)]
     have h2:=flatten_at hk' (m / k) (m % k) (rows[m / k].set (m % k) u) u (by rw [List.getElem?_set,if_pos rfl,if_pos hi]) (by rw [List.getElem?_set,if_pos rfl,if_pos (by omega)])
     rw [hdm] at h2
     exact h2.symm
   · rw [if_neg (by omega),h1]
     have h2:=flatten_at hk' (m / k) (m % k) (rows[m / k].set j u) _ (by rw [List.getElem?_set,if_pos rfl,if_pos hi]) (by rw [List.getElem?_set,if_neg e2];exact hu0)
     rw [hdm] at h2
     exact h2.symm
 · have hne:¬ i*k+j=m:=fun e'=>e (by rw [← e',Nat.mul_comm,Nat.mul_add_div (by omega),Nat.div_eq_of_lt hj];rfl)
   rw [List.getElem?_set,if_neg hne,h1]
   have h2:=flatten_at hk' (m / k) (m % k) _ _ (by rw [List.getElem?_set,if_neg e];exact hr0) hu0
   rw [hdm] at h2
   exact h2.symm
theorem set_self {rows:List (List Value)} {i:Nat} {r:List Value} (hr:rows[i]?=some r):rows.set i r=rows:=by
 obtain ⟨h,rfl⟩:=List.getElem?_eq_some_iff.1 hr
 exact List.set_getElem_self h
theorem Rx.cell1 (h:Rx w z (rows.set i r)) (hk:∀ x∈rows,x.length=k) (hi:i<rows.length) (hr:r.length=k) {j:Nat} (hj:j<k) (u:Value):Rx (w.setCell ⟨z,i*k+j,none⟩ u) z (rows.set i (r.set j u)):=by
 have hk':∀ x∈rows.set i r,x.length=k:=fun x hx=>by
  rcases List.mem_or_eq_of_mem_set hx with h | rfl
  · exact hk x h
  · exact hr
 have hik:i*k+k≤rows.length*k:=by have:=Nat.mul_le_mul_right k hi;rw [Nat.succ_mul] at this;exact this
 have h1:=Bx.put1 (j:=i*k+j) h (by rw [flatten_length hk',List.length_set];omega) u
 rw [flatten_set1 (r:=r) hk' (by rw [List.getElem?_set,if_pos rfl,if_pos hi]) hj,List.set_set] at h1
 exact h1
theorem Rx.put (h:Rx w z rows) (hk:∀ r∈rows,r.length=k) (hr:rows[i]?=some r) {us:List Value} (hu:us.length=k):Rx (w.setCells z (i*k) us) z (rows.set i us):=by
 have hi:i<rows.length:=(List.getElem?_eq_some_iff.1 hr).1
 have hik:i*k+k≤rows.length*k:=by have:=Nat.mul_le_mul_right k hi;rw [Nat.succ_mul] at this;exact this
 have:=Bx.putM (us:=us) (o:=i*k) h (by rw [flatten_length hk,hu];exact hik)
 rw [flatten_set hk hr hu] at this
 exact this
end
theorem encN_len (ns:List NV):∀ r∈ns.map encN,r.length=5:=fun r hr=>by obtain ⟨v,_,rfl⟩:=List.mem_map.1 hr;rfl
theorem encC_len (cs:List CV):∀ r∈cs.map encC,r.length=12:=fun r hr=>by obtain ⟨v,_,rfl⟩:=List.mem_map.1 hr;rfl
structure NV.fresh (lo:Nat) (v:NV):Prop where
 a:Fresh lo v.A
 f:Fresh lo v.F
 g:Fresh lo v.G
structure CV.fresh (lo:Nat) (v:CV):Prop where
 a:Fresh lo v.A
 g:Fresh lo v.G
theorem NV.fresh.off {lo z:Nat} {v:NV} (h:v.fresh lo) (hz:z<lo):v.off z:=⟨h.a.offN hz,h.f.offN hz,h.g.offN hz⟩
theorem CV.fresh.off {lo z:Nat} {v:CV} (h:v.fresh lo) (hz:z<lo):v.off z:=⟨h.a.offN hz,h.g.offN hz⟩
structure WF (w0 w:World) (nb cN cb cC:Nat) (ns:List NV) (cs:List CV):Prop where
 nr:Rx w nb (ns.map encN)
 cr:Rx w cb (cs.map encC)
 nl:ns.length=3
 cl:cs.length=3
 ni:∀ v∈ns,v.In w∧v.off nb∧v.off cb
 ci:∀ v∈cs,v.In w∧v.off nb∧v.off cb
 hn:w0.heap.size≤nb
 hc:w0.heap.size≤cb
 nc:nb≠cb
 kN:3≤cN∧cN≤maxLen
 kC:3≤cC∧cC≤maxLen
 on:Onto w0 w
section
variable {w0 w w':World} {z nb cN cb cC:Nat} {ns:List NV} {cs:List CV} {tip time:Int}
theorem WF.onto (h:WF w0 w nb cN cb cC ns cs) (b:Onto w w'):WF w0 w' nb cN cb cC ns cs :=
 ⟨Bx.onto h.nr b,Bx.onto h.cr b,h.nl,h.cl,fun v hv=>⟨(h.ni v hv).1.onto b,(h.ni v hv).2⟩,fun v hv=>⟨(h.ci v hv).1.onto b,(h.ci v hv).2⟩,h.hn,h.hc,h.nc,h.kN,h.kC,h.on.to b⟩
theorem WF.wr (h:WF w0 w nb cN cb cC ns cs):WR w (some ⟨nb,0,none⟩) 3 (some ⟨cb,0,none⟩) 3 ns cs :=
 ⟨by have:=Rx.s h.nr (encN_len ns);rw [List.length_map,h.nl] at this;exact this,by have:=Rx.s h.cr (encC_len cs);rw [List.length_map,h.cl] at this;exact this,fun v hv=>(h.ni v hv).1,fun v hv=>(h.ci v hv).1⟩
theorem WF.setN (h:WF w0 w nb cN cb cC ns cs) {k:Nat} {v:NV} (t:Turn w w' nb) (hr:Rx w' nb ((ns.set k v).map encN)) (hv:v.In w'∧v.off nb∧v.off cb):WF w0 w' nb cN cb cC (ns.set k v) cs :=
 ⟨hr,Bx.grown h.cr t (by intro e;injection e with e;exact h.nc e.symm),by rw [List.length_set,h.nl],h.cl,
  fun u hu=>by
   rcases List.mem_or_eq_of_mem_set hu with hu | rfl
   · exact ⟨(h.ni u hu).1.grown t (h.ni u hu).2.1,(h.ni u hu).2⟩
   · exact hv,fun u hu=>⟨(h.ci u hu).1.grown t (h.ci u hu).2.1,(h.ci u hu).2⟩,h.hn,h.hc,h.nc,h.kN,h.kC,Turn.up h.on t h.hn⟩
theorem WF.setC (h:WF w0 w nb cN cb cC ns cs) {k:Nat} {v:CV} (t:Turn w w' cb) (hr:Rx w' cb ((cs.set k v).map encC)) (hv:v.In w'∧v.off nb∧v.off cb):WF w0 w' nb cN cb cC ns (cs.set k v) :=
 ⟨Bx.grown h.nr t (by intro e;injection e with e;exact h.nc e),hr,h.nl,by rw [List.length_set,h.cl],
  fun u hu=>⟨(h.ni u hu).1.grown t (h.ni u hu).2.2,(h.ni u hu).2⟩,fun u hu=>by
   rcases List.mem_or_eq_of_mem_set hu with hu | rfl
   · exact ⟨(h.ci u hu).1.grown t (h.ci u hu).2.2,(h.ci u hu).2⟩
   · exact hv,h.hn,h.hc,h.nc,h.kN,h.kC,Turn.up h.on t h.hc⟩
theorem WF.turn (h:WF w0 w nb cN cb cC ns cs) (t:Turn w w' z) (hz:w0.heap.size≤z) (zn:z≠nb) (zc:z≠cb) (hn:∀ v∈ns,v.off z) (hc:∀ v∈cs,v.off z):WF w0 w' nb cN cb cC ns cs :=
 ⟨Bx.grown h.nr t (by intro e;injection e with e;exact zn e.symm),Bx.grown h.cr t (by intro e;injection e with e;exact zc e.symm),h.nl,h.cl,
  fun u hu=>⟨(h.ni u hu).1.grown t (hn u hu),(h.ni u hu).2⟩,fun u hu=>⟨(h.ci u hu).1.grown t (hc u hu),(h.ci u hu).2⟩,h.hn,h.hc,h.nc,h.kN,h.kC,Turn.up h.on t hz⟩
theorem WF.atN (h : WF w0 w nb cN cb cC ns cs) {i : Nat} (hi : i < 3) : ∃ v, ns[i]? = some v ∧ v.In w ∧ v.off nb ∧ v.off cb ∧
    w.cell? ⟨nb,i*5,none⟩=some (.int .i64 v.x.u.ep)∧w.cell? ⟨nb,i*5+1,none⟩=some (.slice v.A v.n v.c)∧w.cell? ⟨nb,i*5+2,none⟩=some (.slice v.F v.k v.i)∧w.cell? ⟨nb,i*5+3,none⟩=some (.slice v.G v.l v.j)∧w.cell? ⟨nb,i*5+4,none⟩=some (.bool v.x.up):=by
 have hi':i<ns.length:=by rw [h.nl];exact hi
 have hx:ns[i]?=some ns[i]:=List.getElem?_eq_getElem hi'
 have hr:(ns.map encN)[i]?=some (encN ns[i]):=by rw [List.getElem?_map,hx];rfl
 have hm:=h.ni _ (List.getElem_mem hi')
 exact ⟨ns[i],hx,hm.1,hm.2.1,hm.2.2,Rx.at_ h.nr (encN_len ns) hr 0 rfl,Rx.at_ h.nr (encN_len ns) hr 1 rfl,Rx.at_ h.nr (encN_len ns) hr 2 rfl,Rx.at_ h.nr (encN_len ns) hr 3 rfl,Rx.at_ h.nr (encN_len ns) hr 4 rfl⟩
theorem WF.atC (h : WF w0 w nb cN cb cC ns cs) {i : Nat} (hi : i < 3) : ∃ v, cs[i]? = some v ∧ v.In w ∧ v.off nb ∧ v.off cb ∧
    ∀ j u,(encC v)[j]?=some u→w.cell? ⟨cb,i*12+j,none⟩=some u:=by
 have hi':i<cs.length:=by rw [h.cl];exact hi
 have hx:cs[i]?=some cs[i]:=List.getElem?_eq_getElem hi'
 have hr:(cs.map encC)[i]?=some (encC cs[i]):=by rw [List.getElem?_map,hx];rfl
 have hm:=h.ci _ (List.getElem_mem hi')
 exact ⟨cs[i],hx,hm.1,hm.2.1,hm.2.2,fun j u hu=>Rx.at_ h.cr (encC_len cs) hr j hu⟩
end
structure Kp (K w:World) (z nb cb:Nat):Prop where
 size:K.heap.size≤w.heap.size
 block:∀ b,b<K.heap.size→b≠z→b≠nb→b≠cb→w.heap[b]?=K.heap[b]?
section
variable {K w w':World} {z nb cb b:Nat}
theorem Kp.rfl' (w:World) (z nb cb:Nat):Kp w w z nb cb:=⟨Nat.le_refl _,fun _ _ _ _ _=>rfl⟩
theorem Kp.onto (h:Kp K w z nb cb) (b:Onto w w'):Kp K w' z nb cb:=⟨Nat.le_trans h.size b.size,fun i hi h1 h2 h3=>(b.block i (Nat.lt_of_lt_of_le hi h.size)).trans (h.block i hi h1 h2 h3)⟩
theorem Kp.turn (h:Kp K w z nb cb) (t:Turn w w' b) (hb:b=z∨b=nb∨b=cb∨K.heap.size≤b):Kp K w' z nb cb :=
 ⟨Nat.le_trans h.size t.size,fun i hi h1 h2 h3=>(t.block i (Nat.lt_of_lt_of_le hi h.size) (by intro e;injection e with e;omega)).trans (h.block i hi h1 h2 h3)⟩
theorem Kp.far (h:Kp K w z nb cb) (t:Turn w w' b) (hb:K.heap.size≤b):Kp K w' z nb cb:=h.turn t (.inr (.inr (.inr hb)))
end
structure WM (K w0 w:World) (z nb cN cb cC:Nat) (ns:List NV) (tip:Int) (cs:List CV) (time:Int):Prop where
 bx:Bx w z [.slice (some ⟨nb,0,none⟩) 3 cN,.int .i64 tip,.slice (some ⟨cb,0,none⟩) 3 cC,.int .i64 time]
 f:WF w0 w nb cN cb cC ns cs
 nz:∀ v∈ns,v.off z
 cz:∀ v∈cs,v.off z
 hz:w0.heap.size≤z
 zn:z≠nb
 zc:z≠cb
 kp:Kp K w z nb cb
 fN:∀ v∈ns,∀ b,b<w0.heap.size→v.off b
 fC:∀ v∈cs,∀ b,b<w0.heap.size→v.off b
section
variable {K w0 w w':World} {z nb cN cb cC:Nat} {ns:List NV} {cs:List CV} {tip time:Int}
theorem WM.onto (h:WM K w0 w z nb cN cb cC ns tip cs time) (b:Onto w w'):WM K w0 w' z nb cN cb cC ns tip cs time:=⟨h.bx.onto b,h.f.onto b,h.nz,h.cz,h.hz,h.zn,h.zc,h.kp.onto b,h.fN,h.fC⟩
theorem WM.setN (h:WM K w0 w z nb cN cb cC ns tip cs time) {k:Nat} {v:NV} (t:Turn w w' nb) (hr:Rx w' nb ((ns.set k v).map encN)) (hv:v.In w'∧v.off nb∧v.off cb) (hz:v.off z) (hf:∀ b,b<w0.heap.size→v.off b):WM K w0 w' z nb cN cb cC (ns.set k v) tip cs time :=
 ⟨h.bx.grown t (by intro e;injection e with e;exact h.zn e),h.f.setN t hr hv,fun u hu=>by
  rcases List.mem_or_eq_of_mem_set hu with hu | rfl
  · exact h.nz u hu
  · exact hz,h.cz,h.hz,h.zn,h.zc,h.kp.turn t (.inr (.inl rfl)),fun u hu=>by
  rcases List.mem_or_eq_of_mem_set hu with hu | rfl
  · exact h.fN u hu
  · exact hf,h.fC⟩
theorem WM.setC (h:WM K w0 w z nb cN cb cC ns tip cs time) {k:Nat} {v:CV} (t:Turn w w' cb) (hr:Rx w' cb ((cs.set k v).map encC)) (hv:v.In w'∧v.off nb∧v.off cb) (hz:v.off z) (hf:∀ b,b<w0.heap.size→v.off b):WM K w0 w' z nb cN cb cC ns tip (cs.set k v) time :=
 ⟨h.bx.grown t (by intro e;injection e with e;exact h.zc e),h.f.setC t hr hv,h.nz,fun u hu=>by
  rcases List.mem_or_eq_of_mem_set hu with hu | rfl
  · exact h.cz u hu
  · exact hz,h.hz,h.zn,h.zc,h.kp.turn t (.inr (.inr (.inl rfl))),h.fN,fun u hu=>by
  rcases List.mem_or_eq_of_mem_set hu with hu | rfl
  · exact h.fC u hu
  · exact hf⟩
theorem WM.setZ (h:WM K w0 w z nb cN cb cC ns tip cs time) {tip' time':Int} (t:Turn w w' z) (hb:Bx w' z [.slice (some ⟨nb,0,none⟩) 3 cN,.int .i64 tip',.slice (some ⟨cb,0,none⟩) 3 cC,.int .i64 time']):WM K w0 w' z nb cN cb cC ns tip' cs time' :=
 ⟨hb,h.f.turn t h.hz h.zn h.zc h.nz h.cz,h.nz,h.cz,h.hz,h.zn,h.zc,h.kp.turn t (.inl rfl),h.fN,h.fC⟩
end
end
section
open Go.ChangeShapes Go.WideShapes Go.ChangeAt Go.RowKit Go.Deep Go.Joins
theorem cells_bool:Tryz.prog.cellsOf 4=1:=by kernel_rfl
theorem cells_node:Tryz.prog.cellsOf 56=5:=by kernel_rfl
theorem cells_nodes:Tryz.prog.cellsOf 22=1:=by kernel_rfl
theorem cells_clients:Tryz.prog.cellsOf 23=1:=by kernel_rfl
theorem cells_world:Tryz.prog.cellsOf 25=4:=by kernel_rfl
theorem reads_bool {w:World} {cs:List Value} (h:Reads w 4 cs):∃ b,cs=[.bool b]:=by
 obtain ⟨H,enc,spare,held,fuel,y,h⟩:=h
 obtain ⟨b,e,_⟩:=DataW.trod_bool Tryz.underlying4 h
 exact ⟨b,e⟩
set_option maxRecDepth 100000 in
theorem reads_node {w:World} {cs:List Value} (h:Reads w 56 cs):∃ v:NV,cs=encN v∧v.In w:=by
 obtain ⟨hl,hf⟩:=reads_struct Tryz.underlying56 h
 rw [cells_node] at hl
 match cs,hl with
 | [c0,c1,c2,c3,c4],_ =>
   simp only [allF,cells_unit,cells_disk,cells_bool] at hf
   obtain ⟨h0,h1,h2,_⟩:=hf
   obtain ⟨u,e0,_,hs,hnc,hcm⟩:=reads_unit h0
   obtain ⟨d,e1,K⟩:=reads_disk h1
   obtain ⟨b,e2⟩:=reads_bool h2
   simp [encU,encD] at e0 e1 e2
   obtain ⟨rfl,rfl⟩:=e0
   obtain ⟨rfl,rfl⟩:=e1
   subst e2
   exact ⟨⟨⟨⟨u.ep,u.cells⟩,d.x,b⟩,u.A,u.n,u.c,d.A,d.n,d.c,d.A',d.m,d.d⟩,rfl,hs,K,hnc,hcm⟩
theorem reads_cv {w:World} {cs:List Value} (h:Reads w 66 cs):∃ v:CV,cs=encC v∧v.In w:=by
 obtain ⟨c,A,n,k,A',m,d,rfl,hnk,_,hmd,_,_,_,_,_,_,_,s,t⟩:=reads_client h
 exact ⟨⟨c,A,n,k,A',m,d⟩,rfl,s,t,hnk,hmd⟩
set_option maxRecDepth 100000 in
theorem reads_world {w : World} {cs : List Value} (h : Reads w 25 cs) : ∃ (A : Option Addr) (n c : Nat) (tip : Int) (C : Option Addr) (m d : Nat) (time : Int) (ns : List NV) (vs : List CV),
    cs=[.slice A n c,.int .i64 tip,.slice C m d,.int .i64 time]∧n≤c∧c≤maxLen∧m≤d∧d≤maxLen∧WR w A n C m ns vs:=by
 obtain ⟨hl,hf⟩:=reads_struct Tryz.underlying25 h
 rw [cells_world] at hl
 match cs,hl with
 | [c0,c1,c2,c3],_ =>
   simp only [allF,cells_nodes,cells_int,cells_clients] at hf
   obtain ⟨h0,h1,h2,h3,_⟩:=hf
   obtain ⟨A,n,c,ns,e0,hnc,hcm,hN,hs⟩:=reads_rows encN (fun v=>v.In w) Tryz.underlying22 cells_node (by omega) (fun _=>rfl) (fun _ _ h=>reads_node h) h0
   obtain ⟨tip,e1,_⟩:=reads_int h1
   obtain ⟨C,m,d,vs,e2,hmd,hdm,hC,ht⟩:=reads_rows encC (fun v=>v.In w) Tryz.underlying23 cells_client (by omega) (fun _=>rfl) (fun _ _ h=>reads_cv h) h2
   obtain ⟨time,e3,_⟩:=reads_int h3
   simp at e0 e1 e2 e3
   subst e0 e1 e2 e3
   exact ⟨A,n,c,tip,C,m,d,time,ns,vs,rfl,hnc,hcm,hmd,hdm,hs,ht,hN,hC⟩
def encH (x:Hap):List Value:=[.int .i64 x.kind,.int .i64 x.client,.int .i64 x.n,.int .i64 x.job,.int .i64 x.epoch,.int .i64 x.e.kind,.int .i64 x.e.job,.int .i64 x.e.every,.int .i64 x.e.time,.int .i64 x.e.client]
end
section
open Go.ChangeShapes Go.WideShapes Go.ChangeAt Go.RowKit
theorem handed_shaped {H : Type} {enc : TypeId × Value → H} {a : Assume} {C : Checked} {os : Os} {f : FuncId} {fn : Func} {s : ChangeSpec} {conds : List PathCond} {apart fresh handsOn again : Bool} {X : World → Array Value → Prop}
    (hX:∀ (w w':World) (args:Array Value),w.heap=w'.heap→X w args→X w' args)
    (own:ownKnob C.prog.godebug=none) (started:os.Started) (noInit:C.prog.inits.idxOf? f=none) (hfn:C.prog.funcs[f]?=some fn)
    (witness:∃ (w:World) (tape:Tape) (i:Input),w.os=os∧(w.forCall tape i).Shaped C.prog∧i.vars=[]∧Input.okWide C.prog (w.forCall tape i) .any w.heap.size f i ∧
     ((s.pre enc C.prog fn conds apart (w.forCall tape i).memory i.args∧X (w.forCall tape i).memory i.args)∧sizedMet enc C.prog fn (OpenSpec.ofChange s) apart (w.forCall tape i).memory i.args)∧a.holds C.prog (lone (Frame.enter C.prog f i.args .normal) [] (w.forCall tape i)))
    (contract:∀ (W:World) (base:Nat) (args:Array Value) (ds gs:List (DataW H)) (before:List MemPlace),
     (∀ (j:Nat) t v,fn.params[j]?=some t→args[j]?=some v→Value.okWide C.prog W .any base t v) →
     DataW.Whole enc C.prog fn.params.toList s.vars apart W args.toList ds gs before →
     (DataW.weightsEach C.prog (fn.params.toList ++s.plain.varTypes C.prog) (ds ++gs)).all (·≤reachBytes)=true→X W args→W.ShapedOpen C.prog →
     Calls C.prog f args W fun e W'=>∃ v,e=.returned v∧s.post enc C.prog fn apart fresh handsOn again W args v W') :
    ReturnsInHanded a C os f .any (fun w args=>(s.pre enc C.prog fn conds apart w args∧X w args)∧sizedMet enc C.prog fn (OpenSpec.ofChange s) apart w args) (s.post enc C.prog fn apart fresh handsOn again):=by
 refine returnsInHanded_of_calls own started noInit witness ?_
 intro w tape i _ hsh _ hok hpre hholds
 obtain ⟨_,_,_,fn',hfn',_,_,_,_,hval⟩:=hok
 have e:fn'=fn:=Option.some.inj (hfn'.symm.trans hfn)
 subst e
 obtain ⟨⟨⟨ds,gs,before,hw,hc⟩,hx⟩,hz⟩:=hpre
 have hw':=DataW.Whole.of_heap (w':=w.forCall tape i) (by rfl) hw
 refine (contract (w.forCall tape i) w.heap.size i.args ds gs before hval hw' (hz.weights hw) (hX _ _ _ (by rfl) hx) hsh).mono fun e W' ⟨v,he,hp⟩=>?_
 subst he
 exact ChangeSpec.post_blind hp
def laidS:List (String × DataW Unit):=Rows.storySaysRow.laid
theorem pow10_data:(Rows.laid_internal_strconv_uint64pow10:DataW Unit)=Lib.tabData .u64 Lib.pow10Tab:=by kernel_rfl
theorem star_name : "*" ++ "errors.errorString" = "*errors.errorString":=by decide
theorem row_err (u:TypeId) (h:Tryz.prog.typeName? 3 u=some "*errors.errorString"):u=236 :=
 typeName_ptr_named (nm := "errors.errorString") (by rw [star_name];kernel_rfl) (by kernel_rfl) (by decide) u (by rw [star_name];exact h)
theorem env_of {W:World} (hL:laidMet Tryz.prog laidS W) (hS:W.ShapedOpen Tryz.prog):Env W:=by
 have h3:laidMet Tryz.prog (("internal/strconv.uint64pow10",Lib.tabData .u64 Lib.pow10Tab) ::laidS.drop 3) W:=by
  have:laidMet Tryz.prog (laidS.drop 2) W:=hL.tail.tail
  have e:laidS.drop 2=("internal/strconv.uint64pow10",Lib.tabData .u64 Lib.pow10Tab) ::laidS.drop 3:=by rw [← pow10_data];rfl
  rw [← e];exact this
 have h5:laidMet Tryz.prog (laidS.drop 4) W:=h3.tail.tail
 have h6:laidMet Tryz.prog (laidS.drop 5) W:=h5.tail
 obtain ⟨a0,s0,hv0,-,-,-⟩:=laid_sentinel (n := "strconv.ErrRange") h5 (by kernel_rfl:Tryz.prog.globalNamed "strconv.ErrRange"=some 4) (by kernel_rfl) Tryz.underlying162 row_err Tryz.underlying236 Tryz.underlying238 rfl rfl Tryz.underlying9 (by kernel_rfl) (by kernel_rfl)
 obtain ⟨a1,s1,hv1,-,-,-⟩:=laid_sentinel (n := "strconv.ErrSyntax") h6 (by kernel_rfl:Tryz.prog.globalNamed "strconv.ErrSyntax"=some 3) (by kernel_rfl) Tryz.underlying162 row_err Tryz.underlying236 Tryz.underlying238 rfl rfl Tryz.underlying9 (by kernel_rfl) (by kernel_rfl)
 refine ⟨Lib.tabIs_of_head (g:=5) (t:=227) (e:=169) (n:=20) (by kernel_rfl) (by kernel_rfl) Tryz.underlying227 Tryz.underlying169 (by kernel_rfl) (by kernel_rfl) h3,?_,?_,?_⟩
 · exact Tryz.laysM143.s1_3 W hS
 · have:=World.var?_cell (by kernel_rfl:Tryz.prog.globalNamed "strconv.ErrSyntax"=some 3) hv1 0
   exact ⟨_,_,by simpa using this⟩
 · have:=World.var?_cell (by kernel_rfl:Tryz.prog.globalNamed "strconv.ErrRange"=some 4) hv0 0
   exact ⟨_,_,by simpa using this⟩
end
end Go.Proofs.YtidlffepdcldkaaGreatDoor
