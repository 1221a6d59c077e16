/- Part 20 of the proof: RowsW, RowsHN, Err, ReadU, ReadD, ReadB, ReadCl. -/
import Derived.Test.YtidlffepdcldkaaGreatDoorProg
import Derived.Test.YtidlffepdcldkaaGreatDoorBa02
import Derived.Lib.AppendZerosOnto
import Derived.Lib.SliceRun
import Derived.Test.YtidlffepdcldkaaGreatDoorBa14
import Derived.Test.YtidlffepdcldkaaGreatDoorBa10
import Derived.Test.YtidlffepdcldkaaGreatDoorBa13
import Derived.Test.YtidlffepdcldkaaGreatDoorBa01
namespace Go.Proofs.YtidlffepdcldkaaGreatDoor
set_option linter.unusedSimpArgs false
set_option linter.unusedVariables false
section
open Go.RowKit
theorem rinfoD:(Tryz.prog.info? 56).map (fun i=>(i.zero,i.size,i.bytes))=some (some (.agg #[.int .i64 0,.slice none 0 0,.slice none 0 0,.slice none 0 0,.bool false]),5,88):=by kernel_rfl
set_option maxHeartbeats 1000000 in
theorem CloneD_calls (w : World) (A : Option Addr) (n c B : Nat) (hB : B ≤ w.heap.size) (rows : List (List Value)) (h : Sl w B 5 A n rows) (h1 : ∀ r ∈ rows, ∀ u ∈ r, u.oneCell' = true) (hn : n * 88 ≤ 140737488355328) :
    Calls Tryz.prog 74 #[.slice A n c] w fun e w'=>∃ A' c',e=.returned (.slice A' n c')∧Own w' w.heap.size 56 5 (.slice A' n c') n rows∧Onto w w':=by
 obtain ⟨i0,hi0,hz0,hz1,hz2⟩:=info_parts rinfoD
 have hnm:n≤maxLen:=by unfold maxLen;omega
 cases A with
 | none =>
   have h0:n=0:=by
    rcases Nat.eq_zero_or_pos n with h0 | h0
    · exact h0
    · obtain ⟨b,off,e,_⟩:=h.2.2 h0
      cases e
   subst h0
   have hr:rows=[]:=List.eq_nil_of_length_eq_zero h.1
   subst hr
   clear h h1 hi0 hz0 hz1 hz2 hnm hn
   have hs:∀ w,(binOp .eql 22 (.slice none 0 c) (.slice none 0 0)).run Tryz.prog w=.ok (.bool true) w:=fun w=>by kernel_rfl
   go_enter Tryz.func74,Tryz.ntmps74
   go_wp2
   go_ret
   exact ⟨none,0,rfl,Own.nil _ _ _ _,Below.refl _ _⟩
 | some a =>
   have hs:∀ w,(binOp .eql 22 (.slice (some a) n c) (.slice none 0 0)).run Tryz.prog w=.ok (.bool false) w:=fun w=>by kernel_rfl
   have HN:=Lib.hid hn;have HM:=Lib.hid hnm;have H1:=Lib.hid h1;have H:=Lib.hid h;clear hn hnm h1 h
   have HI:=Lib.hid hi0;have HZ0:=Lib.hid hz0;have HZ1:=Lib.hid hz1;have HZ2:=Lib.hid hz2;clear hi0 hz0 hz1 hz2
   go_enter Tryz.func74,Tryz.ntmps74
   go_wp2_with (at_builtin;refine wpList_append_sl _ rfl _ _ 22 rfl w.heap.size 56 i0 _ 5 88 Tryz.underlying22 HI.out HZ0.out HZ1.out HZ2.out rfl (by decide) _ 0 [] rfl ?c1 B (some a) n c rows rfl ?c2 H1.out ?c3 ?c4 ?c5 ?_)
   case c1=>exact ⟨World.ownsRow_made _ _ _ (Nat.le_refl _) (by simp [maxLen]) (by simp),rfl,by simp⟩
   case c2=>exact H.out.keep fun p hp=>World.cell?_alloc_lt w _ p (by omega)
   case c3=>rw [Nat.zero_add];exact HM.out
   case c4=>rw [Nat.zero_add];exact HN.out
   case c5=>simp
   intro v' w' hown hgrow hblk
   obtain ⟨A',c',rfl,_,_⟩:=hown.slice
   go_wp2
   go_ret
   refine ⟨A',c',rfl,hown,?_⟩
   exact ((Below.refl _ _).alloc (Nat.le_refl _) _).grown hgrow (by simp) (by simp [Value.ownBlock])
theorem rinfoC:(Tryz.prog.info? 66).map (fun i=>(i.zero,i.size,i.bytes))=some (some (.agg #[.int .i64 0,.int .i64 0,.int .i64 0,.int .i64 0,.int .i64 0,.int .i64 0,.int .i64 0,.int .i64 0,.int .i64 0,.int .i64 0,.slice none 0 0,.slice none 0 0]),12,128):=by kernel_rfl
set_option maxHeartbeats 1000000 in
theorem CloneC_calls (w : World) (A : Option Addr) (n c B : Nat) (hB : B ≤ w.heap.size) (rows : List (List Value)) (h : Sl w B 12 A n rows) (h1 : ∀ r ∈ rows, ∀ u ∈ r, u.oneCell' = true) (hn : n * 128 ≤ 140737488355328) :
    Calls Tryz.prog 75 #[.slice A n c] w fun e w'=>∃ A' c',e=.returned (.slice A' n c')∧Own w' w.heap.size 66 12 (.slice A' n c') n rows∧Onto w w':=by
 obtain ⟨i0,hi0,hz0,hz1,hz2⟩:=info_parts rinfoC
 have hnm:n≤maxLen:=by unfold maxLen;omega
 cases A with
 | none =>
   have h0:n=0:=by
    rcases Nat.eq_zero_or_pos n with h0 | h0
    · exact h0
    · obtain ⟨b,off,e,_⟩:=h.2.2 h0
      cases e
   subst h0
   have hr:rows=[]:=List.eq_nil_of_length_eq_zero h.1
   subst hr
   clear h h1 hi0 hz0 hz1 hz2 hnm hn
   have hs:∀ w,(binOp .eql 23 (.slice none 0 c) (.slice none 0 0)).run Tryz.prog w=.ok (.bool true) w:=fun w=>by kernel_rfl
   go_enter Tryz.func75,Tryz.ntmps75
   go_wp2
   go_ret
   exact ⟨none,0,rfl,Own.nil _ _ _ _,Below.refl _ _⟩
 | some a =>
   have hs:∀ w,(binOp .eql 23 (.slice (some a) n c) (.slice none 0 0)).run Tryz.prog w=.ok (.bool false) w:=fun w=>by kernel_rfl
   have HN:=Lib.hid hn;have HM:=Lib.hid hnm;have H1:=Lib.hid h1;have H:=Lib.hid h;clear hn hnm h1 h
   have HI:=Lib.hid hi0;have HZ0:=Lib.hid hz0;have HZ1:=Lib.hid hz1;have HZ2:=Lib.hid hz2;clear hi0 hz0 hz1 hz2
   go_enter Tryz.func75,Tryz.ntmps75
   go_wp2_with (at_builtin;refine wpList_append_sl _ rfl _ _ 23 rfl w.heap.size 66 i0 _ 12 128 Tryz.underlying23 HI.out HZ0.out HZ1.out HZ2.out rfl (by decide) _ 0 [] rfl ?c1 B (some a) n c rows rfl ?c2 H1.out ?c3 ?c4 ?c5 ?_)
   case c1=>exact ⟨World.ownsRow_made _ _ _ (Nat.le_refl _) (by simp [maxLen]) (by simp),rfl,by simp⟩
   case c2=>exact H.out.keep fun p hp=>World.cell?_alloc_lt w _ p (by omega)
   case c3=>rw [Nat.zero_add];exact HM.out
   case c4=>rw [Nat.zero_add];exact HN.out
   case c5=>simp
   intro v' w' hown hgrow hblk
   obtain ⟨A',c',rfl,_,_⟩:=hown.slice
   go_wp2
   go_ret
   refine ⟨A',c',rfl,hown,?_⟩
   exact ((Below.refl _ _).alloc (Nat.le_refl _) _).grown hgrow (by simp) (by simp [Value.ownBlock])
end
section
open Go.RowKit
structure Pt where
 A:Option Addr
 n:Nat
 c:Nat
 rows:List (List Value)
def lenP (l:List Pt):Nat:=(l.map Pt.n).sum
def rowsP (l:List Pt):List (List Value):=(l.map Pt.rows).flatten
theorem lenP_append (a b:List Pt):lenP (a ++b)=lenP a+lenP b:=by simp [lenP]
theorem lenP_succ {l:List Pt} {i:Nat} {p:Pt} (h:l[i]?=some p):lenP (l.take (i+1))=lenP (l.take i)+p.n:=by
 obtain ⟨hi,rfl⟩:=List.getElem?_eq_some_iff.1 h
 rw [List.take_succ_eq_append_getElem hi,lenP_append]
 simp [lenP]
theorem rowsP_succ {l:List Pt} {i:Nat} {p:Pt} (h:l[i]?=some p):rowsP (l.take (i+1))=rowsP (l.take i) ++p.rows:=by
 obtain ⟨hi,rfl⟩:=List.getElem?_eq_some_iff.1 h
 rw [List.take_succ_eq_append_getElem hi]
 unfold rowsP
 rw [List.map_append,List.flatten_append]
 simp
theorem lenP_le (l:List Pt) (i:Nat):lenP (l.take i)≤lenP l:=by
 have h:=lenP_append (l.take i) (l.drop i)
 rw [List.take_append_drop] at h
 omega
theorem rinfoN:(Tryz.prog.info? 27).map (fun i=>(i.zero,i.size,i.bytes))=some (some (.int .i64 0),1,8):=by kernel_rfl
theorem zerosN (n:Nat):(Builtin.zeroCells ((.int .i64 0:Value)).cells n).size=n*1:=by simp [Builtin.zeroCells,Value.cells]
set_option maxHeartbeats 2000000 in
theorem GrowN_calls (w : World) (n : Nat) (hn : n * 8 ≤ 140737488355328) :
    Calls Tryz.prog 53 #[.slice none 0 0,.int .i64 n] w fun e w'=>∃ A' c',e=.returned (.slice A' 0 c')∧Own w' w.heap.size 27 1 (.slice A' 0 c') 0 []∧Onto w w':=by
 obtain ⟨i0,hi0,hz0,hz1,hz2⟩:=info_parts rinfoN
 have h1:¬ ((n:Int)<0):=by omega
 have h3:wrap64 ((n:Int) - 0)=(n:Int):=by unfold wrap64;omega
 rcases Nat.eq_zero_or_pos n with hn0 | hn0
 · subst hn0
   clear hi0 hz0 hz1 hz2 hn
   go_enter Tryz.func53,Tryz.ntmps53
   go_wp2
   go_ret
   exact ⟨none,0,rfl,Own.nil _ _ _ _,Below.refl _ _⟩
 · have hd:(0:Int)<(n:Int):=by omega
   have hgc:n≤grownCap w n 0 27:=grownCap_ge w _ _ _
   have hgm:grownCap w n 0 27≤maxLen:=grownCap_le_maxLen w n 0 27 (by unfold maxLen;omega)
   have hrz : ∀ ty, (Builtin.append_ #[71, 3] ty #[.slice none 0 0, .int .i64 (n : Int)]).run Tryz.prog w =
       .ok (.slice (some ⟨w.heap.size,0,none⟩) n (grownCap w n 0 27)) (w.drew.alloc (.cells (#[] ++Builtin.zeroCells ((.int .i64 0:Value)).cells n ++Builtin.zeroCells ((.int .i64 0:Value)).cells (grownCap w n 0 27 - n)) 27)):=fun ty=>by
    have h:=Lib.run_append_grow_zeros w 71 3 ty 27 i0 _ .i64 .i64 Tryz.underlying71 Tryz.underlying3 hi0 hz0 none 0 0 [] (run_firstCells_none w.drew i0.size 0 0 0) n hn0 (by omega) (by omega) (by omega)
     (by rw [hz2];omega) (by rw [Nat.zero_add,hz2];exact growslice_fits (by omega) (by omega))
    rw [Nat.zero_add] at h
    exact h
   have hown:(w.drew.alloc (.cells (#[] ++Builtin.zeroCells ((.int .i64 0:Value)).cells n ++Builtin.zeroCells ((.int .i64 0:Value)).cells (grownCap w n 0 27 - n)) 27)).ownsRow w.heap.size 27 1 (.slice (some ⟨w.drew.heap.size,0,none⟩) 0 (grownCap w n 0 27)) 0 []:=World.ownsRow_made w.drew _ _ (Nat.le_refl _) hgm (by
    simp only [Array.size_append,zerosN]
    simp
    omega)
   have HOWN:=Lib.hid hown
   have hon:Onto w (w.drew.alloc (.cells (#[] ++Builtin.zeroCells ((.int .i64 0:Value)).cells n ++Builtin.zeroCells ((.int .i64 0:Value)).cells (grownCap w n 0 27 - n)) 27)):=(Onto.draw (Onto.rfl' w)).new _
   have HON:=Lib.hid hon
   unfold maxLen at hgm
   clear hi0 hz0 hz1 hz2 hn hown hon
   generalize (w.drew.alloc (.cells (#[] ++Builtin.zeroCells ((.int .i64 0:Value)).cells n ++Builtin.zeroCells ((.int .i64 0:Value)).cells (grownCap w n 0 27 - n)) 27))=w1 at *
   generalize grownCap w n 0 27=G at *
   go_enter Tryz.func53,Tryz.ntmps53
   go_wp2_with (at_builtin;refine Lib.wpList_append_run _ rfl _ _ _ _ rfl _ _ rfl rfl _ _ (hrz _) ?_)
   all_goals (go_ret;exact ⟨some ⟨w.heap.size,0,none⟩,G,rfl,⟨HOWN.out,rfl,by simp⟩,HON.out⟩)
set_option maxHeartbeats 4000000 in
set_option maxRecDepth 100000 in
theorem ConcatNN_calls (w : World) (ps : List Pt) (Z y : Nat) (hz : ∀ i p, ps[i]? = some p → w.cell? ⟨Z, i, none⟩ = some (.slice p.A p.n p.c))
    (h:∀ p∈ps,Sl w w.heap.size 1 p.A p.n p.rows) (h1:∀ p∈ps,∀ r∈p.rows,∀ u∈r,u.oneCell'=true) (hZ:Z<w.heap.size) (hp:ps.length≤1000) (hn:lenP ps*8≤140737488355328) :
    Calls Tryz.prog 30 #[.slice (some ⟨Z,0,none⟩) ps.length y] w fun e w'=>∃ A1 c1,e=.returned (.slice A1 (lenP ps) c1)∧Own w' w.heap.size 27 1 (.slice A1 (lenP ps) c1) (lenP ps) (rowsP ps)∧Onto w w':=by
 have HH:=Lib.hid h;have H1:=Lib.hid h1;have HN:=Lib.hid hn;have HZ:=Lib.hid hz
 obtain ⟨N,hN⟩:∃ N,N=ps.length:=⟨_,rfl⟩
 obtain ⟨M,hM⟩:∃ M,M=lenP ps:=⟨_,rfl⟩
 have HLE:=Lib.hid (fun i=>lenP_le ps i)
 rw [← hN] at hp ⊢;rw [← hM] at hn ⊢
 have HNN:=Lib.hid hN;have HMM:=Lib.hid hM
 have hM0:M≤140737488355328:=by omega
 clear h h1 hz hN hM
 have hnm:M≤maxLen:=by unfold maxLen;omega
 have HNM:=Lib.hid hnm
 clear hnm
 obtain ⟨i0,hi0,hq0,hq1,hq2⟩:=info_parts rinfoN
 have HI:=Lib.hid hi0;have HQ0:=Lib.hid hq0;have HQ1:=Lib.hid hq1;have HQ2:=Lib.hid hq2;clear hi0 hq0 hq1 hq2
 go_enter Tryz.func30,Tryz.ntmps30
 go_wp2_with fail
 go_loopg [3,11] N (fun g s3 s11 wr=>∃ i:Nat,i≤N∧N - i≤g∧w=wr∧s11=.int .i64 i∧s3=.int .i64 ((lenP (ps.take i):Nat):Int))
 case atStart=>exact ⟨0,Nat.zero_le _,Nat.le_refl _,rfl,rfl,by simp [lenP]⟩
 case round =>
  obtain ⟨i,hi,hg,rfl,rfl,rfl⟩:=hrel
  by_cases hlt:i<N
  · obtain ⟨p,hpi⟩:∃ p,ps[i]?=some p:=⟨_,List.getElem?_eq_getElem (by rw [← HNN.out];exact hlt)⟩
    have hc:=HZ.out i p hpi
    have hs:=lenP_succ hpi
    have hle:lenP (ps.take (i+1))≤M:=by rw [HMM.out];exact HLE.out _
    obtain ⟨a1,ha1⟩:∃ a1,a1=lenP (ps.take (i+1)):=⟨_,rfl⟩
    rw [← ha1] at hs hle
    generalize lenP (ps.take i)=a0 at *
    obtain ⟨q,hq⟩:∃ q,q=p.n:=⟨_,rfl⟩
    rw [← hq] at hs hc
    have hlt0:¬ ((a1:Int)<0):=by omega
    have hsum:wrap64 ((a0:Int)+(q:Int))=(a1:Int):=by unfold wrap64;omega
    have hsum':IntKind.i64.wrap ((a0:Int)+(q:Int))=(a1:Int):=by clear hsum;rw [IntKind.wrap_i64];omega
    have HA1:=Lib.hid ha1
    clear ha1 hq
    clear hpi hs
    go_wp2_with fail
    go_roundg (N - (i+1))
    case measure=>omega
    case rel=>exact ⟨i+1,by omega,Nat.le_refl _,rfl,by go_num,by rw [← HA1.out]⟩
  · obtain rfl:i=N:=by omega
    have hall:lenP (ps.take i)=M:=by have h1:=HNN.out;have h2:=HMM.out;rw [h2,h1,List.take_length]
    rw [hall]
    clear hall
    go_wp2_with fail
    refine Calls.mono (GrowN_calls _ M hn) ?_
    rintro e w1 ⟨A1,c1,rfl,ow,on⟩
    have HOW:=Lib.hid ow
    clear ow
    go_wp2_with fail
    go_loopg [6,27] i (fun g s6 s27 wr=>Onto w wr∧∃ (j:Nat) (A2:Option Addr) (c2:Nat),j≤i∧i - j≤g∧s27=.int .i64 j∧s6=.slice A2 (lenP (ps.take j)) c2∧Hid (Own wr w.heap.size 27 1 (.slice A2 (lenP (ps.take j)) c2) (lenP (ps.take j)) (rowsP (ps.take j))))
    case atStart=>exact ⟨on,0,A1,c1,Nat.zero_le _,Nat.le_refl _,rfl,by simp [lenP],by simpa [lenP,rowsP] using HOW⟩
    case round =>
     obtain ⟨on2,j,A2,c2,hj,hg2,rfl,rfl,HO⟩:=hrel
     by_cases hlt2:j<i
     · obtain ⟨p,hpi⟩:∃ p,ps[j]?=some p:=⟨_,List.getElem?_eq_getElem (by rw [← HNN.out];exact hlt2)⟩
       have hm:=List.mem_of_getElem? hpi
       have u0:wr.cell? ⟨Z,j,none⟩=some (.slice p.A p.n p.c):=by rw [on2.cell hZ];exact HZ.out j p hpi
       have hs:=lenP_succ hpi
       have hrw:=rowsP_succ hpi
       have hle:lenP (ps.take (j+1))≤M:=by rw [HMM.out];exact HLE.out _
       have hb:lenP (ps.take j)+p.n≤M:=by omega
       have HS:=Lib.hid hs;have HRW:=Lib.hid hrw;have HB:=Lib.hid hb
       clear hpi hs hrw hle hb
       go_wp2_with (at_builtin;refine wpList_append_sl _ rfl _ _ 71 rfl w.heap.size 27 i0 _ 1 8 Tryz.underlying71 HI.out HQ0.out HQ1.out HQ2.out rfl (by decide) _ (lenP (ps.take j)) (rowsP (ps.take j)) rfl HO.out w.heap.size p.A p.n p.c p.rows rfl (Sl.under (HH.out p hm) (Nat.le_refl _) on2) (H1.out p hm) (by have h1:=HNM.out;have h2:=HB.out;omega) (by have h2:=HB.out;omega) on2.size ?_)
       intro v8 w8 own8 grow8 hv8
       obtain ⟨A8,c8,rfl,_,_⟩:=own8.slice
       have hB8:Onto w w8:=below_grown on2 on2.size grow8 (fun g hg=>by have:=(HO.out.1.lt g hg).1;omega)
       rw [← HS.out,← HRW.out] at own8
       have HO8:=Lib.hid own8
       rw [← HS.out]
       clear grow8 hv8 own8 HO u0 on2 hm
       go_wp2_with fail
       go_roundg (i - (j+1))
       case measure=>omega
       case rel=>exact ⟨hB8,j+1,A8,c8,by omega,Nat.le_refl _,by go_num,rfl,HO8⟩
     · obtain rfl:j=i:=by omega
       have hall:ps.take j=ps:=by have h1:=HNN.out;rw [h1,List.take_length]
       have HB2:=Lib.hid on2
       rw [hall,← HMM.out] at HO
       rw [hall,← HMM.out]
       clear on2 hall
       go_wp2_with fail
       go_ret
       exact ⟨A2,c2,rfl,HO.out,HB2.out⟩
end
section
open Go.RowKit
set_option maxHeartbeats 1000000 in
set_option maxRecDepth 100000 in
theorem IndexFuncN_calls (A : Option Addr) (n c B : Nat) (l : List Int) (g : FuncId) (lb : Array Value) (p : Int → Bool) (w : World) (h : Sl w B 1 A n (l.map encI)) (hB : B ≤ w.heap.size) (hn : n ≤ 9223372036854775807)
    (eg:∀ args w,(callFunc g args).run Tryz.prog w=.ok (.enter g args) w)
    (hp:∀ (x:Int) (w':World),Below w.heap.size w w'→Calls Tryz.prog g (#[.int .i64 x] ++lb) w' fun e w''=>e=.returned (.bool (p x))∧Below w'.heap.size w' w'') :
    Calls Tryz.prog 52 #[.slice A n c,.func (.func g) #[] lb] w fun e w'=>e=.returned (.int .i64 (idxI p l))∧Below w.heap.size w w':=by
 have hp':=Lib.hid hp
 clear hp
 go_enter Tryz.func52,Tryz.ntmps52
 go_wp2
 go_loopw [8] (fun s wr=>∃ i:Nat,i≤n∧s=.int .i64 i∧Below w.heap.size w wr∧Hid (∀ j y,j<i→l[j]?=some y→p y=false)) (fun s _=>n - (intOf s).toNat)
 case atStart=>exact ⟨0,Nat.zero_le _,rfl,Below.refl _ _,fun j y hj=>absurd hj (Nat.not_lt_zero _)⟩
 case round =>
  obtain ⟨i,hi,rfl,hbel,H⟩:=hrel
  by_cases hlt:i<n
  · obtain ⟨b,off,x,rfl,hb,hx,c0⟩:=(h.below (hbel.mono hB)).atI hlt
    have HX:=Lib.hid hx
    have hl:=h.len
    simp at hl
    have HL:=Lib.hid hl
    clear h hx hl
    cases hpx:p x with
    | true =>
      have HPX:=Lib.hid hpx
      clear hpx
      go_wp2_with fail
      refine Calls.mono (hp'.out x _ hbel) ?_
      rintro e w' ⟨rfl,hw'⟩
      rw [HPX.out]
      go_wp2
      go_ret
      refine ⟨ret_int ?_,hbel.trans (hw'.mono hbel.size)⟩
      exact (idxI_at HX.out HPX.out H.out).symm
    | false =>
      have HPX:=Lib.hid hpx
      clear hpx
      go_wp2_with fail
      refine Calls.mono (hp'.out x _ hbel) ?_
      rintro e w' ⟨rfl,hw'⟩
      rw [HPX.out]
      go_wp2
      go_roundw
      case measure=>simp [intOf];omega
      case rel =>
       refine ⟨i+1,by omega,by go_num,hbel.trans (hw'.mono hbel.size),fun j y hj hy=>?_⟩
       by_cases e:j=i
       · subst e
         have:=HX.out.symm.trans hy
         injection this with this
         subst this
         exact HPX.out
       · exact H.out j y (by omega) hy
  · obtain rfl:i=n:=by omega
    have hl:=h.len
    simp at hl
    have hfin:idxI p l=-1:=idxI_none (fun j y hy=>H.out j y (by have:=(List.getElem?_eq_some_iff.1 hy).1;omega) hy)
    have HF:=Lib.hid hfin
    clear h hl hfin
    go_wp2
    go_ret
    exact ⟨ret_int HF.out.symm,hbel⟩
set_option maxHeartbeats 1000000 in
theorem ContainsFuncN_calls (A : Option Addr) (n c : Nat) (l : List Int) (g : FuncId) (p : Int → Bool) (w : World) (h : S w 1 A n (l.map encI)) (hn : n ≤ 9223372036854775807)
    (eg:∀ args w,(callFunc g args).run Tryz.prog w=.ok (.enter g args) w)
    (hp:∀ (x:Int) (w':World),Onto w w'→Calls Tryz.prog g #[.int .i64 x] w' fun e w''=>e=.returned (.bool (p x))∧Onto w' w'') :
    Calls Tryz.prog 29 #[.slice A n c,.func (.func g) #[] #[]] w fun e w'=>e=.returned (.bool (decide (0≤idxI p l)))∧Onto w w':=by
 have hp':=Lib.hid hp
 clear hp
 obtain ⟨q,hq⟩:∃ q,q=idxI p l:=⟨_,rfl⟩
 rw [← hq]
 have HQ:=Lib.hid hq
 clear hq
 go_enter Tryz.func29,Tryz.ntmps29
 go_wp2_with fail
 refine Calls.mono (IndexFuncN_calls A n c _ l g #[] p _ h (Nat.le_refl _) hn eg (fun x w' hw'=>hp'.out x w' hw')) ?_
 rw [← HQ.out]
 rintro e w' ⟨rfl,b⟩
 go_wp2_with fail
 go_ret
 exact ⟨by first | rfl | simp,b⟩
theorem tlOf_calls (k c:Int) (w:World):Calls Tryz.prog 24 #[.int .i64 k,.int .i64 c] w fun e w'=>e=.returned (.agg #[.int .i64 k,.int .i64 c,.int .i64 0,.int .i64 0,.int .i64 0,.int .i64 0,.int .i64 0,.int .i64 0,.int .i64 0,.int .i64 0])∧Onto w w':=by
 go_enter Tryz.func24,Tryz.ntmps24
 go_wp2_with fail
 refine bodyPost_ret (v:=.agg #[.int .i64 k,.int .i64 c,.int .i64 0,.int .i64 0,.int .i64 0,.int .i64 0,.int .i64 0,.int .i64 0,.int .i64 0,.int .i64 0]) (by simp [results,Tryz.results24,go_sem]) rfl ?_
 exact ⟨rfl,by repeat (first | exact Below.refl _ _ | refine Onto.put ?_ (by simp) _ | refine Onto.new ?_ _)⟩
theorem tlBad_calls (x:Int) (w:World):Calls Tryz.prog 28 #[.int .i64 x] w fun e w'=>e=.returned (.bool (decide (x≠0)))∧Onto w w':=by
 by_cases h0:x=0
 · subst h0
   go_enter Tryz.func28,Tryz.ntmps28
   go_wp2_with fail
   go_ret
   exact ⟨by simp,Onto.rfl' _⟩
 · have hd:(x !=0)=true:=by simpa using h0
   go_enter Tryz.func28,Tryz.ntmps28
   go_wp2_with fail
   go_ret
   exact ⟨by simp [h0],Onto.rfl' _⟩
end
section
open Go.ChangeShapes Go.WideShapes Go.ChangeAt Go.RowKit Go.Deep Go.Joins
theorem cells_unit:Tryz.prog.cellsOf 51=2:=by kernel_rfl
theorem cells_entries:Tryz.prog.cellsOf 26=1:=by kernel_rfl
set_option maxRecDepth 100000 in
theorem reads_unit {w:World} {cs:List Value} (h:Reads w 51 cs):∃ v,cs=encU v∧(I64 v.ep∧S w 5 v.A v.n (v.cells.map encE)∧v.n≤v.c∧v.c≤maxLen):=by
 obtain ⟨hl,hf⟩:=reads_struct Tryz.underlying51 h
 rw [cells_unit] at hl
 match cs,hl with
 | [c0,c1],_ =>
   simp only [allF,cells_int,cells_entries] at hf
   obtain ⟨h0,h1,_⟩:=hf
   obtain ⟨z0,e0,i0⟩:=reads_int h0
   obtain ⟨A,n,c,l,e1,hnc,hcm,_,hs⟩:=reads_entries h1
   simp at e0 e1
   exact ⟨⟨z0,A,n,c,l⟩,by simp [encU,e0,e1],i0,hs,hnc,hcm⟩
end
section
open Go.ChangeShapes Go.WideShapes Go.ChangeAt Go.RowKit Go.Deep Go.Joins
theorem cells_byte:Tryz.prog.cellsOf 5=1:=by kernel_rfl
theorem cells_bytes:Tryz.prog.cellsOf 52=1:=by kernel_rfl
theorem cells_disk:Tryz.prog.cellsOf 54=2:=by kernel_rfl
theorem reads_byte {w:World} {cs:List Value} (h:Reads w 5 cs):∃ b:UInt8,cs=encB b∧True:=by
 obtain ⟨H,enc,spare,held,fuel,y,h⟩:=h
 obtain ⟨k,e,_,hw⟩:=DataW.trod_int Tryz.underlying5 h
 simp [Lit.wf,IntKind.min,IntKind.max,IntKind.signed,IntKind.bits] at hw
 obtain ⟨h0,h1⟩:=hw
 refine ⟨UInt8.ofNat k.toNat,?_,trivial⟩
 rw [e]
 have:(UInt8.ofNat k.toNat).toNat=k.toNat:=by rw [UInt8.toNat_ofNat'];omega
 simp [encB,this]
 omega
theorem reads_bytes {w:World} {cs:List Value} (h:Reads w 52 cs):∃ (A:Option Addr) (n c:Nat) (l:List UInt8),cs=[.slice A n c]∧n≤c∧c≤maxLen∧S w 1 A n (l.map encB):=by
 obtain ⟨A,n,c,l,e,hnc,hcm,_,hs⟩:=reads_rows encB (fun _=>True) Tryz.underlying52 cells_byte (by omega) (fun _=>rfl) (fun _ _ h=>reads_byte h) h
 exact ⟨A,n,c,l,e,hnc,hcm,hs⟩
structure DV where
 A:Option Addr
 n:Nat
 c:Nat
 A':Option Addr
 m:Nat
 d:Nat
 x:Dsk
def encD (v:DV):List Value:=[.slice v.A v.n v.c,.slice v.A' v.m v.d]
set_option maxRecDepth 100000 in
theorem reads_disk {w:World} {cs:List Value} (h:Reads w 54 cs):∃ v:DV,cs=encD v∧DK w v.A v.n v.c v.A' v.m v.d v.x:=by
 obtain ⟨hl,hf⟩:=reads_struct Tryz.underlying54 h
 rw [cells_disk] at hl
 match cs,hl with
 | [c0,c1],_ =>
   simp only [allF,cells_bytes] at hf
   obtain ⟨h0,h1,_⟩:=hf
   obtain ⟨A,n,c,l,e0,hnc,hcm,hs⟩:=reads_bytes h0
   obtain ⟨A',m,d,l',e1,hmd,hdm,hs'⟩:=reads_bytes h1
   simp at e0 e1
   exact ⟨⟨A,n,c,A',m,d,⟨l,l'⟩⟩,by simp [encD,e0,e1],hs,hs',hnc,hcm,hmd,hdm⟩
end
section
open Go.ChangeShapes Go.WideShapes Go.ChangeAt Go.RowKit Go.Deep Go.Joins
theorem cells_job:Tryz.prog.cellsOf 82=3:=by kernel_rfl
theorem cells_rung:Tryz.prog.cellsOf 85=3:=by kernel_rfl
theorem cells_jobs:Tryz.prog.cellsOf 30=1:=by kernel_rfl
theorem cells_rungs:Tryz.prog.cellsOf 31=1:=by kernel_rfl
theorem cells_book:Tryz.prog.cellsOf 33=2:=by kernel_rfl
set_option maxRecDepth 100000 in
theorem reads_job {w:World} {cs:List Value} (h:Reads w 82 cs):∃ x,cs=encJ x∧(I64 x.id∧I64 x.every∧I64 x.next):=by
 obtain ⟨hl,hf⟩:=reads_struct Tryz.underlying82 h
 rw [cells_job] at hl
 match cs,hl with
 | [c0,c1,c2],_ =>
   simp only [allF,cells_int] at hf
   obtain ⟨h0,h1,h2,_⟩:=hf
   obtain ⟨z0,e0,i0⟩:=reads_int h0;obtain ⟨z1,e1,i1⟩:=reads_int h1;obtain ⟨z2,e2,i2⟩:=reads_int h2
   simp at e0 e1 e2
   exact ⟨⟨z0,z1,z2⟩,by simp [encJ,e0,e1,e2],i0,i1,i2⟩
set_option maxRecDepth 100000 in
theorem reads_rung {w:World} {cs:List Value} (h:Reads w 85 cs):∃ x,cs=encR x∧(I64 x.job∧I64 x.time∧I64 x.client):=by
 obtain ⟨hl,hf⟩:=reads_struct Tryz.underlying85 h
 rw [cells_rung] at hl
 match cs,hl with
 | [c0,c1,c2],_ =>
   simp only [allF,cells_int] at hf
   obtain ⟨h0,h1,h2,_⟩:=hf
   obtain ⟨z0,e0,i0⟩:=reads_int h0;obtain ⟨z1,e1,i1⟩:=reads_int h1;obtain ⟨z2,e2,i2⟩:=reads_int h2
   simp at e0 e1 e2
   exact ⟨⟨z0,z1,z2⟩,by simp [encR,e0,e1,e2],i0,i1,i2⟩
set_option maxRecDepth 100000 in
theorem reads_book {w : World} {cs : List Value} (h : Reads w 33 cs) : ∃ (A : Option Addr) (n c : Nat) (A' : Option Addr) (m d : Nat) (b : Book), cs = [.slice A n c, .slice A' m d] ∧ n ≤ c ∧ c ≤ maxLen ∧ m ≤ d ∧ d ≤ maxLen ∧
    (∀ x∈b.jobs,I64 x.id∧I64 x.every∧I64 x.next)∧(∀ x∈b.rung,I64 x.job∧I64 x.time∧I64 x.client)∧Sl w w.heap.size 3 A n (b.jobs.map encJ)∧Sl w w.heap.size 3 A' m (b.rung.map encR):=by
 obtain ⟨hl,hf⟩:=reads_struct Tryz.underlying33 h
 rw [cells_book] at hl
 match cs,hl with
 | [c0,c1],_ =>
   simp only [allF,cells_jobs,cells_rungs] at hf
   obtain ⟨h0,h1,_⟩:=hf
   obtain ⟨A,n,c,l,e0,hnc,hc,hR,hs⟩:=reads_rows encJ _ Tryz.underlying30 cells_job (by omega) (fun _=>rfl) (fun _ _ h=>reads_job h) h0
   obtain ⟨A',m,d,l',e1,hmd,hd,hR',hs'⟩:=reads_rows encR _ Tryz.underlying31 cells_rung (by omega) (fun _=>rfl) (fun _ _ h=>reads_rung h) h1
   simp at e0 e1
   exact ⟨A,n,c,A',m,d,⟨l,l'⟩,by simp [e0,e1],hnc,hc,hmd,hd,hR,hR',hs,hs'⟩
end
section
open Go.ChangeShapes Go.WideShapes Go.ChangeAt Go.RowKit Go.Deep Go.Joins
theorem cells_client:Tryz.prog.cellsOf 66=12:=by kernel_rfl
set_option maxRecDepth 100000 in
theorem reads_client {w : World} {cs : List Value} (h : Reads w 66 cs) : ∃ (c : Cli) (A : Option Addr) (n k : Nat) (A' : Option Addr) (m d : Nat),
    cs=[.int .i64 c.epoch,.int .i64 c.doing,.int .i64 c.e.kind,.int .i64 c.e.job,.int .i64 c.e.every,.int .i64 c.e.time,.int .i64 c.e.client,.int .i64 c.at_,.int .i64 c.link,.int .i64 c.played,.slice A n k,.slice A' m d] ∧
    n≤k∧k≤maxLen∧m≤d∧d≤maxLen∧I64 c.epoch∧I64 c.doing∧(I64 c.e.kind∧I64 c.e.job∧I64 c.e.every∧I64 c.e.time∧I64 c.e.client)∧I64 c.at_∧I64 c.link∧I64 c.played ∧
    S w 3 A n (c.b.jobs.map encJ)∧S w 3 A' m (c.b.rung.map encR):=by
 obtain ⟨hl,hf⟩:=reads_struct Tryz.underlying66 h
 rw [cells_client] at hl
 match cs,hl with
 | [c0,c1,c2,c3,c4,c5,c6,c7,c8,c9,c10,c11],_ =>
   simp only [allF,cells_int,cells_entry,cells_book] at hf
   obtain ⟨h0,h1,h2,h3,h4,h5,h6,_⟩:=hf
   obtain ⟨z0,e0,i0⟩:=reads_int h0;obtain ⟨z1,e1,i1⟩:=reads_int h1
   obtain ⟨x,e2,i2⟩:=reads_entry h2
   obtain ⟨z3,e3,i3⟩:=reads_int h3;obtain ⟨z4,e4,i4⟩:=reads_int h4;obtain ⟨z5,e5,i5⟩:=reads_int h5
   obtain ⟨A,n,k,A',m,d,b,e6,hnc,hc,hmd,hd,hR,hR',hs,hs'⟩:=reads_book h6
   simp [encE] at e0 e1 e2 e3 e4 e5 e6
   refine ⟨⟨z0,z1,x,z3,z4,z5,b⟩,A,n,k,A',m,d,?_,hnc,hc,hmd,hd,i0,i1,i2,i3,i4,i5,hs,hs'⟩
   obtain ⟨rfl,rfl,rfl,rfl,rfl⟩:=e2
   obtain ⟨rfl,rfl⟩:=e6
   subst e0 e1 e3 e4 e5
   rfl
end
end Go.Proofs.YtidlffepdcldkaaGreatDoor
