/- Part 4 of the proof: RowsB, Live, EqE, CloneE. -/
import Derived.Test.YtidlffepdcldkaaGreatDoorProg
import Derived.Test.YtidlffepdcldkaaGreatDoorBa02
import Derived.Lib.AppendZerosOnto
import Derived.Lib.SliceRun
import Derived.Test.YtidlffepdcldkaaGreatDoorBa03
import Derived.Test.YtidlffepdcldkaaGreatDoorBa01
namespace Go.Proofs.YtidlffepdcldkaaGreatDoor
set_option linter.unusedSimpArgs false
set_option linter.unusedVariables false
section
open Go.RowKit
theorem rinfoB:(Tryz.prog.info? 5).map (fun i=>(i.zero,i.size,i.bytes))=some (some (.int .u8 0),1,1):=by kernel_rfl
set_option maxHeartbeats 1000000 in
theorem CloneB_calls (w : World) (A : Option Addr) (n c B : Nat) (hB : B ≤ w.heap.size) (rows : List (List Value)) (h : Sl w B 1 A n rows) (h1 : ∀ r ∈ rows, ∀ u ∈ r, u.oneCell' = true) (hn : n * 1 ≤ 140737488355328) :
    Calls Tryz.prog 77 #[.slice A n c] w fun e w'=>∃ A' c',e=.returned (.slice A' n c')∧Own w' w.heap.size 5 1 (.slice A' n c') n rows∧Onto w w':=by
 obtain ⟨i0,hi0,hz0,hz1,hz2⟩:=info_parts rinfoB
 have hnm:n≤maxLen:=by unfold maxLen;omega
 cases A with
 | none =>
   have h0:n=0:=by
    rcases Nat.eq_zero_or_pos n with h0 | h0
    · exact h0
    · obtain ⟨b,off,e,_⟩:=h.2.2 h0
      cases e
   subst h0
   have hr:rows=[]:=List.eq_nil_of_length_eq_zero h.1
   subst hr
   clear h h1 hi0 hz0 hz1 hz2 hnm hn
   have hs:∀ w,(binOp .eql 52 (.slice none 0 c) (.slice none 0 0)).run Tryz.prog w=.ok (.bool true) w:=fun w=>by kernel_rfl
   go_enter Tryz.func77,Tryz.ntmps77
   go_wp2
   go_ret
   exact ⟨none,0,rfl,Own.nil _ _ _ _,Below.refl _ _⟩
 | some a =>
   have hs:∀ w,(binOp .eql 52 (.slice (some a) n c) (.slice none 0 0)).run Tryz.prog w=.ok (.bool false) w:=fun w=>by kernel_rfl
   have HN:=Lib.hid hn;have HM:=Lib.hid hnm;have H1:=Lib.hid h1;have H:=Lib.hid h;clear hn hnm h1 h
   have HI:=Lib.hid hi0;have HZ0:=Lib.hid hz0;have HZ1:=Lib.hid hz1;have HZ2:=Lib.hid hz2;clear hi0 hz0 hz1 hz2
   go_enter Tryz.func77,Tryz.ntmps77
   go_wp2_with (at_builtin;refine wpList_append_sl _ rfl _ _ 52 rfl w.heap.size 5 i0 _ 1 1 Tryz.underlying52 HI.out HZ0.out HZ1.out HZ2.out rfl (by decide) _ 0 [] rfl ?c1 B (some a) n c rows rfl ?c2 H1.out ?c3 ?c4 ?c5 ?_)
   case c1=>exact ⟨World.ownsRow_made _ _ _ (Nat.le_refl _) (by simp [maxLen]) (by simp),rfl,by simp⟩
   case c2=>exact H.out.keep fun p hp=>World.cell?_alloc_lt w _ p (by omega)
   case c3=>rw [Nat.zero_add];exact HM.out
   case c4=>rw [Nat.zero_add];exact HN.out
   case c5=>simp
   intro v' w' hown hgrow hblk
   obtain ⟨A',c',rfl,_,_⟩:=hown.slice
   go_wp2
   go_ret
   refine ⟨A',c',rfl,hown,?_⟩
   exact ((Below.refl _ _).alloc (Nat.le_refl _) _).grown hgrow (by simp) (by simp [Value.ownBlock])
theorem zerosB (n:Nat):(Builtin.zeroCells ((.int .u8 0:Value)).cells n).size=n*1:=by simp [Builtin.zeroCells,Value.cells]
set_option maxHeartbeats 2000000 in
theorem GrowB_calls (w : World) (n : Nat) (hn : n * 1 ≤ 140737488355328) :
    Calls Tryz.prog 67 #[.slice none 0 0,.int .i64 n] w fun e w'=>∃ A' c',e=.returned (.slice A' 0 c')∧Own w' w.heap.size 5 1 (.slice A' 0 c') 0 []∧Onto w w':=by
 obtain ⟨i0,hi0,hz0,hz1,hz2⟩:=info_parts rinfoB
 have h1:¬ ((n:Int)<0):=by omega
 have h3:wrap64 ((n:Int) - 0)=(n:Int):=by unfold wrap64;omega
 rcases Nat.eq_zero_or_pos n with hn0 | hn0
 · subst hn0
   clear hi0 hz0 hz1 hz2 hn
   go_enter Tryz.func67,Tryz.ntmps67
   go_wp2
   go_ret
   exact ⟨none,0,rfl,Own.nil _ _ _ _,Below.refl _ _⟩
 · have hd:(0:Int)<(n:Int):=by omega
   have hgc:n≤grownCap w n 0 5:=grownCap_ge w _ _ _
   have hgm:grownCap w n 0 5≤maxLen:=grownCap_le_maxLen w n 0 5 (by unfold maxLen;omega)
   have hrz : ∀ ty, (Builtin.append_ #[52, 3] ty #[.slice none 0 0, .int .i64 (n : Int)]).run Tryz.prog w =
       .ok (.slice (some ⟨w.heap.size,0,none⟩) n (grownCap w n 0 5)) (w.drew.alloc (.cells (#[] ++Builtin.zeroCells ((.int .u8 0:Value)).cells n ++Builtin.zeroCells ((.int .u8 0:Value)).cells (grownCap w n 0 5 - n)) 5)):=fun ty=>by
    have h:=Lib.run_append_grow_zeros w 52 3 ty 5 i0 _ .i64 .i64 Tryz.underlying52 Tryz.underlying3 hi0 hz0 none 0 0 [] (run_firstCells_none w.drew i0.size 0 0 0) n hn0 (by omega) (by omega) (by omega)
     (by rw [hz2];omega) (by rw [Nat.zero_add,hz2];exact growslice_fits (by omega) (by omega))
    rw [Nat.zero_add] at h
    exact h
   have hown:(w.drew.alloc (.cells (#[] ++Builtin.zeroCells ((.int .u8 0:Value)).cells n ++Builtin.zeroCells ((.int .u8 0:Value)).cells (grownCap w n 0 5 - n)) 5)).ownsRow w.heap.size 5 1 (.slice (some ⟨w.drew.heap.size,0,none⟩) 0 (grownCap w n 0 5)) 0 []:=World.ownsRow_made w.drew _ _ (Nat.le_refl _) hgm (by
    simp only [Array.size_append,zerosB]
    simp
    omega)
   have HOWN:=Lib.hid hown
   have hon:Onto w (w.drew.alloc (.cells (#[] ++Builtin.zeroCells ((.int .u8 0:Value)).cells n ++Builtin.zeroCells ((.int .u8 0:Value)).cells (grownCap w n 0 5 - n)) 5)):=(Onto.draw (Onto.rfl' w)).new _
   have HON:=Lib.hid hon
   unfold maxLen at hgm
   clear hi0 hz0 hz1 hz2 hn hown hon
   generalize (w.drew.alloc (.cells (#[] ++Builtin.zeroCells ((.int .u8 0:Value)).cells n ++Builtin.zeroCells ((.int .u8 0:Value)).cells (grownCap w n 0 5 - n)) 5))=w1 at *
   generalize grownCap w n 0 5=G at *
   go_enter Tryz.func67,Tryz.ntmps67
   go_wp2_with (at_builtin;refine Lib.wpList_append_run _ rfl _ _ _ _ rfl _ _ rfl rfl _ _ (hrz _) ?_)
   all_goals (go_ret;exact ⟨some ⟨w.heap.size,0,none⟩,G,rfl,⟨HOWN.out,rfl,by simp⟩,HON.out⟩)
set_option maxHeartbeats 4000000 in
set_option maxRecDepth 100000 in
theorem ConcatB_calls (w : World) (A A' : Option Addr) (n c m d Z y : Nat) (rows rows' : List (List Value)) (hz0 : w.cell? ⟨Z, 0, none⟩ = some (.slice A n c)) (hz1 : w.cell? ⟨Z, 1, none⟩ = some (.slice A' m d))
    (h:Sl w w.heap.size 1 A n rows) (h':Sl w w.heap.size 1 A' m rows') (h1:∀ r∈rows,∀ u∈r,u.oneCell'=true) (h1':∀ r∈rows',∀ u∈r,u.oneCell'=true) (hn:(n+m)*1≤140737488355328) :
    Calls Tryz.prog 42 #[.slice (some ⟨Z,0,none⟩) 2 y] w fun e w'=>∃ A1 c1,e=.returned (.slice A1 (n+m) c1)∧Own w' w.heap.size 5 1 (.slice A1 (n+m) c1) (n+m) (rows ++rows')∧Onto w w':=by
 have HH:=Lib.hid h;have HH':=Lib.hid h';have H1:=Lib.hid h1;have H1':=Lib.hid h1';have HN:=Lib.hid hn
 have hZ:Z<w.heap.size:=World.block_lt_of_cell? w _ hz0
 have hn0:n≤140737488355328:=by omega
 have hm0:m≤140737488355328:=by omega
 have hnm:n+m≤maxLen:=by unfold maxLen;omega
 have HNM:=Lib.hid hnm
 clear h h' h1 h1' hn hnm
 obtain ⟨i0,hi0,hq0,hq1,hq2⟩:=info_parts rinfoB
 have HI:=Lib.hid hi0;have HQ0:=Lib.hid hq0;have HQ1:=Lib.hid hq1;have HQ2:=Lib.hid hq2;clear hi0 hq0 hq1 hq2
 go_enter Tryz.func42,Tryz.ntmps42
 go_wp2_with fail
 go_loopg [3,11] 2 (fun g s3 s11 wr=>w=wr∧((s11=.int .i64 0∧s3=.int .i64 0∧2≤g)∨(s11=.int .i64 1∧s3=.int .i64 n∧1≤g)∨(s11=.int .i64 2∧s3=.int .i64 ((n+m:Nat):Int))))
 case atStart=>exact ⟨rfl,.inl ⟨rfl,rfl,by omega⟩⟩
 case round =>
  obtain ⟨rfl,⟨rfl,rfl,hg⟩ | ⟨rfl,rfl,hg⟩ | ⟨rfl,rfl⟩⟩:=hrel
  · go_wp2_with fail
    go_roundg 1
    case measure=>omega
    case rel=>exact ⟨rfl,.inr (.inl ⟨by go_num,by go_num,by omega⟩)⟩
  · have hlt:¬ ((n:Int)+(m:Int)<0):=by omega
    go_wp2_with fail
    go_roundg 0
    case measure=>omega
    case rel=>exact ⟨rfl,.inr (.inr ⟨by go_num,by go_num⟩)⟩
  · go_wp2_with fail
    refine Calls.mono (GrowB_calls _ (n+m) HN.out) ?_
    rintro e w1 ⟨A1,c1,rfl,ow,on⟩
    have y0:w1.cell? ⟨Z,0,none⟩=some (.slice A n c):=by rw [on.cell hZ];exact hz0
    have y1:w1.cell? ⟨Z,1,none⟩=some (.slice A' m d):=by rw [on.cell hZ];exact hz1
    clear hz0 hz1
    have HOW:=Lib.hid ow
    clear ow
    go_wp2_with fail
    go_loopg [6,27] 2 (fun g s6 s27 wr=>Onto w wr∧((s27=.int .i64 0∧2≤g∧∃ A2 c2,s6=.slice A2 0 c2∧Hid (Own wr w.heap.size 5 1 (.slice A2 0 c2) 0 []))∨(s27=.int .i64 1∧1≤g∧∃ A2 c2,s6=.slice A2 n c2∧Hid (Own wr w.heap.size 5 1 (.slice A2 n c2) n rows))∨(s27=.int .i64 2∧∃ A2 c2,s6=.slice A2 (n+m) c2∧Hid (Own wr w.heap.size 5 1 (.slice A2 (n+m) c2) (n+m) (rows ++rows')))))
    case atStart=>exact ⟨on,.inl ⟨rfl,by omega,A1,c1,rfl,HOW⟩⟩
    case round =>
     obtain ⟨on2,⟨rfl,hg,A2,c2,rfl,HO⟩ | ⟨rfl,hg,A2,c2,rfl,HO⟩ | ⟨rfl,A2,c2,rfl,HO⟩⟩:=hrel
     · have u0:wr.cell? ⟨Z,0,none⟩=some (.slice A n c):=by rw [on2.cell hZ,← on.cell hZ];exact y0
       go_wp2_with (at_builtin;refine wpList_append_sl _ rfl _ _ 52 rfl w.heap.size 5 i0 _ 1 1 Tryz.underlying52 HI.out HQ0.out HQ1.out HQ2.out rfl (by decide) _ 0 [] rfl HO.out w.heap.size A n c rows rfl (Sl.under HH.out (Nat.le_refl _) on2) H1.out (by have:=HNM.out;omega) (by have:=HN.out;omega) on2.size ?_)
       intro v8 w8 own8 grow8 hv8
       obtain ⟨A8,c8,rfl,_,_⟩:=own8.slice
       have hB8:Onto w w8:=below_grown on2 on2.size grow8 (fun g hg=>by have:=(HO.out.1.lt g hg).1;omega)
       have HO8:=Lib.hid own8
       clear grow8 hv8 own8 HO u0 on2 y0 y1
       go_wp2_with fail
       go_roundg 1
       case measure=>omega
       case rel=>exact ⟨hB8,.inr (.inl ⟨by go_num,by omega,A8,c8,rfl,HO8⟩)⟩
     · have u0:wr.cell? ⟨Z,1,none⟩=some (.slice A' m d):=by rw [on2.cell hZ,← on.cell hZ];exact y1
       go_wp2_with (at_builtin;refine wpList_append_sl _ rfl _ _ 52 rfl w.heap.size 5 i0 _ 1 1 Tryz.underlying52 HI.out HQ0.out HQ1.out HQ2.out rfl (by decide) _ n rows rfl HO.out w.heap.size A' m d rows' rfl (Sl.under HH'.out (Nat.le_refl _) on2) H1'.out (by have:=HNM.out;omega) (by have:=HN.out;omega) on2.size ?_)
       intro v8 w8 own8 grow8 hv8
       obtain ⟨A8,c8,rfl,_,_⟩:=own8.slice
       have hB8:Onto w w8:=below_grown on2 on2.size grow8 (fun g hg=>by have:=(HO.out.1.lt g hg).1;omega)
       have HO8:=Lib.hid own8
       clear grow8 hv8 own8 HO u0 on2 y0 y1
       go_wp2_with fail
       go_roundg 0
       case measure=>omega
       case rel=>exact ⟨hB8,.inr (.inr ⟨by go_num,A8,c8,rfl,HO8⟩)⟩
     · have HB2:=Lib.hid on2
       clear on2 y0 y1
       go_wp2_with fail
       go_ret
       exact ⟨A2,c2,rfl,HO.out,HB2.out⟩
end
section
open Go.RowKit
structure Ent where
 v:Value
 e:Nat
 k:Nat
 n:Nat
 rows:List (List Value)
structure Live (w0 w:World) (L:List (Option Ent)):Prop where
 own:∀ (i:Nat) (x:Ent),L[i]?=some (some x)→Own w w0.heap.size x.e x.k x.v x.n x.rows
 apart:∀ (i j:Nat) (x y:Ent) (b:Nat),i≠j→L[i]?=some (some x)→L[j]?=some (some y)→x.v.ownBlock=some b→y.v.ownBlock≠some b
 on:Onto w0 w
section
variable {w0 w w':World} {L:List (Option Ent)}
theorem Live.start (w0:World) (k:Nat):Live w0 w0 (List.replicate k none) :=
 ⟨fun i x h=>by rw [List.getElem?_replicate] at h;split at h <;> simp at h,fun i j x y b _ h=>by rw [List.getElem?_replicate] at h;split at h <;> simp at h,Onto.rfl' _⟩
theorem Live.to (h:Live w0 w L) (hb:Onto w w'):Live w0 w' L:=⟨fun i x hx=>(h.own i x hx).below hb,h.apart,h.on.to hb⟩
theorem Live.draw (h:Live w0 w L):Live w0 w.drew L:=h.to (Onto.rfl' w).draw
theorem Live.lt (h:Live w0 w L) {i:Nat} {x:Ent} (hx:L[i]?=some (some x)) {b:Nat} (hb:x.v.ownBlock=some b):w0.heap.size≤b∧b<w.heap.size:=(h.own i x hx).lt b hb
theorem Live.put (h : Live w0 w L) {i : Nat} (hi : i < L.length) {x : Ent} (ho : Own w' w0.heap.size x.e x.k x.v x.n x.rows) (hk : ∀ (j : Nat) (y : Ent), j ≠ i → L[j]? = some (some y) → Own w' w0.heap.size y.e y.k y.v y.n y.rows)
    (hd:∀ (j:Nat) (y:Ent) (b:Nat),j≠i→L[j]?=some (some y)→x.v.ownBlock=some b→y.v.ownBlock≠some b) (ht:Onto w0 w'):Live w0 w' (L.set i (some x)):=by
 refine ⟨fun j y hy=>?_,fun j k y z b hjk hy hz hb=>?_,ht⟩
 · rw [List.getElem?_set] at hy
   by_cases e:i=j
   · subst e
     rw [if_pos rfl,if_pos hi] at hy
     injection hy with hy;injection hy with hy;subst hy
     exact ho
   · rw [if_neg e] at hy
     exact hk j y (fun e'=>e e'.symm) hy
 · rw [List.getElem?_set] at hy hz
   by_cases e:i=j
   · subst e
     rw [if_pos rfl,if_pos hi] at hy
     injection hy with hy;injection hy with hy;subst hy
     rw [if_neg hjk] at hz
     exact hd k z b (fun e'=>hjk e'.symm) hz hb
   · rw [if_neg e] at hy
     by_cases e':i=k
     · subst e'
       rw [if_pos rfl,if_pos hi] at hz
       injection hz with hz;injection hz with hz;subst hz
       intro hc
       exact hd j y b (fun e'=>e e'.symm) hy hc hb
     · rw [if_neg e'] at hz
       exact h.apart j k y z b hjk hy hz hb
theorem Live.add (h:Live w0 w L) {i:Nat} (hi:i<L.length) {E k n:Nat} {v:Value} {rows:List (List Value)} (ho:Own w' w.heap.size E k v n rows) (hb:Onto w w'):Live w0 w' (L.set i (some ⟨v,E,k,n,rows⟩)) :=
 h.put hi (ho.lower h.on.size) (fun j y _ hy=>(h.own j y hy).below hb) (fun j y b _ hy e hc=>by have h1:=(ho.lt b e).1;have h2:=(h.lt hy hc).2;omega) (h.on.to hb)
theorem Live.app (h : Live w0 w L) {i : Nat} {x : Ent} (hx : L[i]? = some (some x)) {E k n : Nat} {v : Value} {rows : List (List Value)} (ho : Own w' w0.heap.size E k v n rows) (hg : w.grownBy w' x.v.ownBlock)
    (hv:v.ownBlock=x.v.ownBlock∨v.ownBlock=some w.heap.size):Live w0 w' (L.set i (some ⟨v,E,k,n,rows⟩)) :=
 h.put (List.getElem?_eq_some_iff.1 hx).1 ho (fun j y e hy=>(h.own j y hy).kept1 hg fun b hb hc=>h.apart i j x y b (fun e'=>e e'.symm) hx hy hc hb)
  (fun j y b e hy hb hc=>by
   rcases hv with hv | hv
   · rw [hv] at hb;exact h.apart i j x y b (fun e'=>e e'.symm) hx hy hb hc
   · rw [hv] at hb;injection hb with hb;subst hb;have:=(h.lt hy hc).2;omega)
  (below_grown h.on h.on.size hg fun g hgg=>(h.lt hx hgg).1)
theorem Live.lit (h : Live w0 w L) {i : Nat} (hi : i < L.length) (E k n : Nat) (rows : List (List Value)) (cs : Array Value) (hc : cs.toList = rows.flatten) (hn : rows.length = n) (hk : ∀ r ∈ rows, r.length = k) (hm : n ≤ maxLen) :
    Live w0 (w.alloc (.cells cs E)) (L.set i (some ⟨.slice (some ⟨w.heap.size,0,none⟩) n n,E,k,n,rows⟩)):=by
 have hl:rows.flatten.length=n*k:=by rw [flatten_length hk,hn]
 have hcs:cs.size=n*k:=by rw [← Array.length_toList,hc,hl]
 exact h.add hi ⟨⟨hl,.inr ⟨w.heap.size,n,cs,rfl,Nat.le_refl _,heap_alloc_new w _,Nat.le_refl _,hm,hcs,by rw [hc,← hl];exact List.take_length⟩⟩,hn,hk⟩ ((Onto.rfl' w).new _)
theorem Live.litB (h:Live w0 w L) {i:Nat} (hi:i<L.length) (b:UInt8):Live w0 (w.alloc (.cells #[.int .u8 b.toNat] 5)) (L.set i (some ⟨.slice (some ⟨w.heap.size,0,none⟩) 1 1,5,1,1,[encB b]⟩)) :=
 h.lit hi _ _ _ _ _ (by simp [encB]) rfl (by simp [encB]) (by simp [maxLen])
theorem Live.sl (h:Live w0 w L) {i:Nat} {A:Option Addr} {E k m c:Nat} {rows:List (List Value)} (hx:L[i]?=some (some ⟨.slice A m c,E,k,m,rows⟩)):S w k A m rows:=(h.own i _ hx).sl
end
theorem CloneB_live {w0 w : World} {L : List (Option Ent)} (LV : Live w0 w L) (i : Nat) (hi : i < L.length) (A : Option Addr) (n c : Nat) (l : List UInt8) (h : S w0 1 A n (l.map encB)) (hn : n ≤ 140737488355328) :
    Calls Tryz.prog 77 #[.slice A n c] w fun e w'=>∃ A1 c1,e=.returned (.slice A1 n c1)∧Live w0 w' (L.set i (some ⟨.slice A1 n c1,5,1,n,l.map encB⟩)):=by
 refine Calls.mono (CloneB_calls w A n c _ (Nat.le_refl _) (l.map encB) (h.onto LV.on) (encB_one _) (by omega)) ?_
 rintro e w' ⟨A1,c1,rfl,ho,hb⟩
 exact ⟨A1,c1,rfl,LV.add hi ho hb⟩
section
variable {ops:Array Oper} {o:Oper} {a:Act} {K:Act→World→Prop} {Q:Exit→Act→World→Prop} {F:Prop} {w0 w:World} {L:List (Option Ent)}
theorem step_app_str_live (LV : Live w0 w L) (hgd : o.guard = none) (sl x : Operand) (ho : o.op = .call { callee := .builtin .append, args := #[sl, x], argTypes := #[52, 9] })
    (i:Nat) (v:Value) (n:Nat) (rows:List (List Value)) (hs:a.eval sl=v) (hi:L[i]?=some (some ⟨v,5,1,n,rows⟩)) (s:List UInt8) (hx:a.eval x=str s) (hbytes:n+s.length≤140737488355328)
    (h:∀ A1 c1 w',Live w0 w' (L.set i (some ⟨.slice A1 (n+s.length) c1,5,1,n+s.length,rows ++s.map encB⟩))→K (a.put o.dst (.slice A1 (n+s.length) c1)) w') :
    if Region.wanted o (yielded ops a.tmps)=true then Oper.wp Tryz.prog o a w K Q else F:=by
 obtain ⟨i0,hi0,hz0,hz1,hz2⟩:=info_parts rinfoB
 refine step_app_str w hgd sl x 52 9 ho w0.heap.size 5 i0 Tryz.underlying52 Tryz.underlying9 hi0 hz0 hz1 hz2 v n rows hs (LV.own i _ hi) s hx (by unfold maxLen;omega) hbytes LV.on.size ?_
 intro v' w' own grow hv
 obtain ⟨A1,c1,rfl,_,_⟩:=own.slice
 exact h A1 c1 w' (LV.app hi own grow hv)
theorem step_app_sl_live (LV : Live w0 w L) (hgd : o.guard = none) (sl x : Operand) (t : TypeId) (ho : o.op = .call { callee := .builtin .append, args := #[sl, x], argTypes := #[t, t] })
    (E k by_:Nat) (z:Value) (hinfo:(Tryz.prog.info? E).map (fun i=>(i.zero,i.size,i.bytes))=some (some z,k,by_)) (ht:Tryz.prog.underlying t=some (.slice E)) (hzs:z.cells.size=k) (hk:0<k)
    (i:Nat) (v:Value) (n:Nat) (rows:List (List Value)) (hs:a.eval sl=v) (hi:L[i]?=some (some ⟨v,E,k,n,rows⟩)) (A:Option Addr) (m c:Nat) (news:List (List Value)) (hx:a.eval x=.slice A m c) (hr:S w k A m news) (h1:∀ r∈news,∀ u∈r,u.oneCell'=true)
    (h63:n+m≤maxLen) (hbytes:(n+m)*by_≤140737488355328)
    (h:∀ A1 c1 w',Live w0 w' (L.set i (some ⟨.slice A1 (n+m) c1,E,k,n+m,rows ++news⟩))→K (a.put o.dst (.slice A1 (n+m) c1)) w') :
    if Region.wanted o (yielded ops a.tmps)=true then Oper.wp Tryz.prog o a w K Q else F:=by
 obtain ⟨i0,hi0,hz0,hz1,hz2⟩:=info_parts hinfo
 refine step_app_sl w hgd sl x t ho w0.heap.size E i0 z k by_ ht hi0 hz0 hz1 hz2 hzs hk v n rows hs (LV.own i _ hi) w.heap.size A m c news hx hr h1 h63 hbytes LV.on.size ?_
 intro v' w' own grow hv
 obtain ⟨A1,c1,rfl,_,_⟩:=own.slice
 exact h A1 c1 w' (LV.app hi own grow hv)
end
end
section
open Go.RowKit
theorem neqE (a0 a1 a2 a3 a4 b0 b1 b2 b3 b4:Int) (w:World):(binOp .neq 46 (.agg #[.int .i64 a0,.int .i64 a1,.int .i64 a2,.int .i64 a3,.int .i64 a4]) (.agg #[.int .i64 b0,.int .i64 b1,.int .i64 b2,.int .i64 b3,.int .i64 b4])).run Tryz.prog w=.ok (.bool (!((a0 ==b0) && (a1 ==b1) && (a2 ==b2) && (a3 ==b3) && (a4 ==b4)))) w:=by
 have hu3:=Tryz.underlying3;have ha3:=Tryz.isAgg3;have hz3:=Tryz.sizeOf3
 have hS:Tryz.prog.underlying 46=some (.struct (Tryz.prog.fieldsOf 46)):=by kernel_rfl
 have hp:Tryz.prog.stoodInHeld 46=false:=by kernel_rfl
 rw [run_neq_struct,show (10000:Nat)=9999+1 from rfl,run_equalIn_agg w 9999 46 _ _ hS hp]
 simp only [Program.fieldsOf,Tryz.underlying46]
 go_simp
 by_cases h0:a0=b0 <;> by_cases h1:a1=b1 <;> by_cases h2:a2=b2 <;> by_cases h3:a3=b3 <;> by_cases h4:a4=b4 <;> simp [h0,h1,h2,h3,h4]
theorem eqlE (a0 a1 a2 a3 a4 b0 b1 b2 b3 b4:Int) (w:World):(binOp .eql 46 (.agg #[.int .i64 a0,.int .i64 a1,.int .i64 a2,.int .i64 a3,.int .i64 a4]) (.agg #[.int .i64 b0,.int .i64 b1,.int .i64 b2,.int .i64 b3,.int .i64 b4])).run Tryz.prog w=.ok (.bool (((a0 ==b0) && (a1 ==b1) && (a2 ==b2) && (a3 ==b3) && (a4 ==b4)))) w:=by
 have hu3:=Tryz.underlying3;have ha3:=Tryz.isAgg3;have hz3:=Tryz.sizeOf3
 have hS:Tryz.prog.underlying 46=some (.struct (Tryz.prog.fieldsOf 46)):=by kernel_rfl
 have hp:Tryz.prog.stoodInHeld 46=false:=by kernel_rfl
 rw [run_eql_struct,show (10000:Nat)=9999+1 from rfl,run_equalIn_agg w 9999 46 _ _ hS hp]
 simp only [Program.fieldsOf,Tryz.underlying46]
 go_simp
 by_cases h0:a0=b0 <;> by_cases h1:a1=b1 <;> by_cases h2:a2=b2 <;> by_cases h3:a3=b3 <;> by_cases h4:a4=b4 <;> simp [h0,h1,h2,h3,h4]
set_option maxHeartbeats 1000000 in
theorem EqualE_calls (A A' : Option Addr) (n m c d B : Nat) (l l' : List Entry) (w : World) (h : Sl w B 5 A n (l.map encE)) (h' : Sl w B 5 A' m (l'.map encE)) (hn : n ≤ 9223372036854775807) :
    Calls Tryz.prog 12 #[.slice A n c,.slice A' m d] w fun e w'=>e=.returned (.bool (decide (l=l')))∧∃ q,w'=w.drewN q:=by
 by_cases hnm:n=m
 · subst hnm
   go_enter Tryz.func12,Tryz.ntmps12
   go_wp2
   go_loopg [13] n (fun g s13 wr=>∃ kk q:Nat,kk≤n∧n - kk≤g∧s13=.int .i64 kk∧wr=w.drewN q∧Hid (∀ j,j<kk→l[j]?=l'[j]?))
   case atStart=>exact ⟨0,0,Nat.zero_le _,by omega,rfl,rfl,fun j hj=>absurd hj (Nat.not_lt_zero _)⟩
   case round =>
    obtain ⟨kk,q,hkk,hg,rfl,rfl,H⟩:=hrel
    by_cases hlt:kk<n
    · obtain ⟨b,off,x,rfl,hb,hx,c0,c1,c2,c3,c4⟩:=h.atE hlt
      obtain ⟨b',off',x',rfl,hb',hx',d0,d1,d2,d3,d4⟩:=h'.atE hlt
      have HX:=Lib.hid hx;have HX':=Lib.hid hx';clear hx hx'
      clear h h'
      have hne:=neqE
      go_wp2_with fail
      go_quiet (fail)
      go_wp2
      · go_ret
        refine ⟨?_,q+nq,by simp⟩
        have hd:l≠l':=by
         rintro rfl
         have:=HX.out.symm.trans HX'.out
         simp at this;subst this;simp_all
        simp [hd]
      · go_roundg (n - (kk+1))
        case measure=>omega
        case rel =>
         refine ⟨kk+1,q+nq,by omega,by omega,by go_num,by simp,?_⟩
         intro j hj
         by_cases e:j=kk
         · subst e
           rw [HX.out,HX'.out];congr 1;rw [entry_eq_iff];simp_all
         · exact H.out j (by omega)
    · have:kk=n:=by omega
      subst this
      have hl:=h.len;have hl':=h'.len
      simp at hl hl'
      have he:l=l':=list_eq_of (by omega) (fun j hj=>H.out j (by omega))
      clear h h' hl hl'
      go_wp2
      go_ret
      refine ⟨by simp [he],q,rfl⟩
 · have hnm':¬ (n:Int)=(m:Int):=by omega
   have hd:l≠l':=by
    rintro rfl
    exact hnm (h.len.symm.trans h'.len)
   clear h h'
   go_enter Tryz.func12,Tryz.ntmps12
   go_wp2
   go_ret
   exact ⟨by simp [hd],0,rfl⟩
end
section
open Go.RowKit
theorem infoE:(Tryz.prog.info? 46).map (fun i=>(i.zero,i.size,i.bytes))=some (some (.agg #[.int .i64 0,.int .i64 0,.int .i64 0,.int .i64 0,.int .i64 0]),5,40):=by kernel_rfl
set_option maxHeartbeats 1000000 in
theorem CloneE_calls (w : World) (A : Option Addr) (n c B : Nat) (hB : B ≤ w.heap.size) (rows : List (List Value)) (h : Sl w B 5 A n rows) (h1 : ∀ r ∈ rows, ∀ u ∈ r, u.oneCell' = true) (hn : n * 40 ≤ 140737488355328) :
    Calls Tryz.prog 96 #[.slice A n c] w fun e w'=>∃ A' c',e=.returned (.slice A' n c')∧Own w' w.heap.size 46 5 (.slice A' n c') n rows∧Below w.heap.size w w':=by
 obtain ⟨i0,hi0,hz0,hz1,hz2⟩:=info_parts infoE
 have hnm:n≤maxLen:=by unfold maxLen;omega
 cases A with
 | none =>
   have h0:n=0:=by
    rcases Nat.eq_zero_or_pos n with h0 | h0
    · exact h0
    · obtain ⟨b,off,e,_⟩:=h.2.2 h0
      cases e
   subst h0
   have hr:rows=[]:=List.eq_nil_of_length_eq_zero h.1
   subst hr
   clear h h1 hi0 hz0 hz1 hz2 hnm hn
   have hs:∀ w,(binOp .eql 26 (.slice none 0 c) (.slice none 0 0)).run Tryz.prog w=.ok (.bool true) w:=fun w=>by kernel_rfl
   go_enter Tryz.func96,Tryz.ntmps96
   go_wp2
   go_ret
   exact ⟨none,0,rfl,Own.nil _ _ _ _,Below.refl _ _⟩
 | some a =>
   have hs:∀ w,(binOp .eql 26 (.slice (some a) n c) (.slice none 0 0)).run Tryz.prog w=.ok (.bool false) w:=fun w=>by kernel_rfl
   have HN:=Lib.hid hn;have HM:=Lib.hid hnm;have H1:=Lib.hid h1;have H:=Lib.hid h;clear hn hnm h1 h
   have HI:=Lib.hid hi0;have HZ0:=Lib.hid hz0;have HZ1:=Lib.hid hz1;have HZ2:=Lib.hid hz2;clear hi0 hz0 hz1 hz2
   go_enter Tryz.func96,Tryz.ntmps96
   go_wp2_with (at_builtin;refine wpList_append_sl _ rfl _ _ 26 rfl w.heap.size 46 i0 _ 5 40 Tryz.underlying26 HI.out HZ0.out HZ1.out HZ2.out rfl (by decide) _ 0 [] rfl ?c1 B (some a) n c rows rfl ?c2 H1.out ?c3 ?c4 ?c5 ?_)
   case c1=>exact ⟨World.ownsRow_made _ _ _ (Nat.le_refl _) (by simp [maxLen]) (by simp),rfl,by simp⟩
   case c2=>exact H.out.keep fun p hp=>World.cell?_alloc_lt w _ p (by omega)
   case c3=>rw [Nat.zero_add];exact HM.out
   case c4=>rw [Nat.zero_add];exact HN.out
   case c5=>simp
   intro v' w' hown hgrow hblk
   obtain ⟨A',c',rfl,_,_⟩:=hown.slice
   go_wp2
   go_ret
   refine ⟨A',c',rfl,hown,?_⟩
   exact ((Below.refl _ _).alloc (Nat.le_refl _) _).grown hgrow (by simp) (by simp [Value.ownBlock])
end
end Go.Proofs.YtidlffepdcldkaaGreatDoor
