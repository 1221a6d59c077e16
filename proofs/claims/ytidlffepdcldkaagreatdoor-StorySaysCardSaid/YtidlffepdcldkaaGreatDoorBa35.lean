/- Part 35 of the proof: RowsQ, RDisk. -/
import Derived.Test.YtidlffepdcldkaaGreatDoorProg
import Derived.Test.YtidlffepdcldkaaGreatDoorBa02
import Derived.Lib.AppendZerosOnto
import Derived.Lib.SliceRun
import Derived.Test.YtidlffepdcldkaaGreatDoorBa34
import Derived.Test.YtidlffepdcldkaaGreatDoorBa11
namespace Go.Proofs.YtidlffepdcldkaaGreatDoor
set_option linter.unusedSimpArgs false
set_option linter.unusedVariables false
section
open Go.RowKit
theorem rinfoQ:(Tryz.prog.info? 96).map (fun i=>(i.zero,i.size,i.bytes))=some (some (.agg #[.int .i64 0,.int .i64 0,.int .i64 0,.int .i64 0,.int .i64 0,.int .i64 0,.int .i64 0,.int .i64 0]),8,64):=by kernel_rfl
theorem zerosQ (n:Nat):(Builtin.zeroCells ((.agg #[.int .i64 0,.int .i64 0,.int .i64 0,.int .i64 0,.int .i64 0,.int .i64 0,.int .i64 0,.int .i64 0]:Value)).cells n).size=n*8:=by simp [Builtin.zeroCells,Value.cells]
set_option maxHeartbeats 2000000 in
theorem GrowQ_calls (w : World) (n : Nat) (hn : n * 64 ≤ 140737488355328) :
    Calls Tryz.prog 68 #[.slice none 0 0,.int .i64 n] w fun e w'=>∃ A' c',e=.returned (.slice A' 0 c')∧Own w' w.heap.size 96 8 (.slice A' 0 c') 0 []∧Onto w w':=by
 obtain ⟨i0,hi0,hz0,hz1,hz2⟩:=info_parts rinfoQ
 have h1:¬ ((n:Int)<0):=by omega
 have h3:wrap64 ((n:Int) - 0)=(n:Int):=by unfold wrap64;omega
 rcases Nat.eq_zero_or_pos n with hn0 | hn0
 · subst hn0
   clear hi0 hz0 hz1 hz2 hn
   go_enter Tryz.func68,Tryz.ntmps68
   go_wp2
   go_ret
   exact ⟨none,0,rfl,Own.nil _ _ _ _,Below.refl _ _⟩
 · have hd:(0:Int)<(n:Int):=by omega
   have hgc:n≤grownCap w n 0 96:=grownCap_ge w _ _ _
   have hgm:grownCap w n 0 96≤maxLen:=grownCap_le_maxLen w n 0 96 (by unfold maxLen;omega)
   have hrz : ∀ ty, (Builtin.append_ #[59, 3] ty #[.slice none 0 0, .int .i64 (n : Int)]).run Tryz.prog w =
       .ok (.slice (some ⟨w.heap.size,0,none⟩) n (grownCap w n 0 96)) (w.drew.alloc (.cells (#[] ++Builtin.zeroCells ((.agg #[.int .i64 0,.int .i64 0,.int .i64 0,.int .i64 0,.int .i64 0,.int .i64 0,.int .i64 0,.int .i64 0]:Value)).cells n ++Builtin.zeroCells ((.agg #[.int .i64 0,.int .i64 0,.int .i64 0,.int .i64 0,.int .i64 0,.int .i64 0,.int .i64 0,.int .i64 0]:Value)).cells (grownCap w n 0 96 - n)) 96)):=fun ty=>by
    have h:=Lib.run_append_grow_zeros w 59 3 ty 96 i0 _ .i64 .i64 Tryz.underlying59 Tryz.underlying3 hi0 hz0 none 0 0 [] (run_firstCells_none w.drew i0.size 0 0 0) n hn0 (by omega) (by omega) (by omega)
     (by rw [hz2];omega) (by rw [Nat.zero_add,hz2];exact growslice_fits (by omega) (by omega))
    rw [Nat.zero_add] at h
    exact h
   have hown:(w.drew.alloc (.cells (#[] ++Builtin.zeroCells ((.agg #[.int .i64 0,.int .i64 0,.int .i64 0,.int .i64 0,.int .i64 0,.int .i64 0,.int .i64 0,.int .i64 0]:Value)).cells n ++Builtin.zeroCells ((.agg #[.int .i64 0,.int .i64 0,.int .i64 0,.int .i64 0,.int .i64 0,.int .i64 0,.int .i64 0,.int .i64 0]:Value)).cells (grownCap w n 0 96 - n)) 96)).ownsRow w.heap.size 96 8 (.slice (some ⟨w.drew.heap.size,0,none⟩) 0 (grownCap w n 0 96)) 0 []:=World.ownsRow_made w.drew _ _ (Nat.le_refl _) hgm (by
    simp only [Array.size_append,zerosQ]
    simp
    omega)
   have HOWN:=Lib.hid hown
   have hon:Onto w (w.drew.alloc (.cells (#[] ++Builtin.zeroCells ((.agg #[.int .i64 0,.int .i64 0,.int .i64 0,.int .i64 0,.int .i64 0,.int .i64 0,.int .i64 0,.int .i64 0]:Value)).cells n ++Builtin.zeroCells ((.agg #[.int .i64 0,.int .i64 0,.int .i64 0,.int .i64 0,.int .i64 0,.int .i64 0,.int .i64 0,.int .i64 0]:Value)).cells (grownCap w n 0 96 - n)) 96)):=(Onto.draw (Onto.rfl' w)).new _
   have HON:=Lib.hid hon
   unfold maxLen at hgm
   clear hi0 hz0 hz1 hz2 hn hown hon
   generalize (w.drew.alloc (.cells (#[] ++Builtin.zeroCells ((.agg #[.int .i64 0,.int .i64 0,.int .i64 0,.int .i64 0,.int .i64 0,.int .i64 0,.int .i64 0,.int .i64 0]:Value)).cells n ++Builtin.zeroCells ((.agg #[.int .i64 0,.int .i64 0,.int .i64 0,.int .i64 0,.int .i64 0,.int .i64 0,.int .i64 0,.int .i64 0]:Value)).cells (grownCap w n 0 96 - n)) 96))=w1 at *
   generalize grownCap w n 0 96=G at *
   go_enter Tryz.func68,Tryz.ntmps68
   go_wp2_with (at_builtin;refine Lib.wpList_append_run _ rfl _ _ _ _ rfl _ _ rfl rfl _ _ (hrz _) ?_)
   all_goals (go_ret;exact ⟨some ⟨w.heap.size,0,none⟩,G,rfl,⟨HOWN.out,rfl,by simp⟩,HON.out⟩)
set_option maxHeartbeats 4000000 in
set_option maxRecDepth 100000 in
theorem ConcatQ_calls (w : World) (A A' : Option Addr) (n c m d Z y : Nat) (rows rows' : List (List Value)) (hz0 : w.cell? ⟨Z, 0, none⟩ = some (.slice A n c)) (hz1 : w.cell? ⟨Z, 1, none⟩ = some (.slice A' m d))
    (h:Sl w w.heap.size 8 A n rows) (h':Sl w w.heap.size 8 A' m rows') (h1:∀ r∈rows,∀ u∈r,u.oneCell'=true) (h1':∀ r∈rows',∀ u∈r,u.oneCell'=true) (hn:(n+m)*64≤140737488355328) :
    Calls Tryz.prog 43 #[.slice (some ⟨Z,0,none⟩) 2 y] w fun e w'=>∃ A1 c1,e=.returned (.slice A1 (n+m) c1)∧Own w' w.heap.size 96 8 (.slice A1 (n+m) c1) (n+m) (rows ++rows')∧Onto w w':=by
 have HH:=Lib.hid h;have HH':=Lib.hid h';have H1:=Lib.hid h1;have H1':=Lib.hid h1';have HN:=Lib.hid hn
 have hZ:Z<w.heap.size:=World.block_lt_of_cell? w _ hz0
 have hn0:n≤140737488355328:=by omega
 have hm0:m≤140737488355328:=by omega
 have hnm:n+m≤maxLen:=by unfold maxLen;omega
 have HNM:=Lib.hid hnm
 clear h h' h1 h1' hn hnm
 obtain ⟨i0,hi0,hq0,hq1,hq2⟩:=info_parts rinfoQ
 have HI:=Lib.hid hi0;have HQ0:=Lib.hid hq0;have HQ1:=Lib.hid hq1;have HQ2:=Lib.hid hq2;clear hi0 hq0 hq1 hq2
 go_enter Tryz.func43,Tryz.ntmps43
 go_wp2_with fail
 go_loopg [3,11] 2 (fun g s3 s11 wr=>w=wr∧((s11=.int .i64 0∧s3=.int .i64 0∧2≤g)∨(s11=.int .i64 1∧s3=.int .i64 n∧1≤g)∨(s11=.int .i64 2∧s3=.int .i64 ((n+m:Nat):Int))))
 case atStart=>exact ⟨rfl,.inl ⟨rfl,rfl,by omega⟩⟩
 case round =>
  obtain ⟨rfl,⟨rfl,rfl,hg⟩ | ⟨rfl,rfl,hg⟩ | ⟨rfl,rfl⟩⟩:=hrel
  · go_wp2_with fail
    go_roundg 1
    case measure=>omega
    case rel=>exact ⟨rfl,.inr (.inl ⟨by go_num,by go_num,by omega⟩)⟩
  · have hlt:¬ ((n:Int)+(m:Int)<0):=by omega
    go_wp2_with fail
    go_roundg 0
    case measure=>omega
    case rel=>exact ⟨rfl,.inr (.inr ⟨by go_num,by go_num⟩)⟩
  · go_wp2_with fail
    refine Calls.mono (GrowQ_calls _ (n+m) HN.out) ?_
    rintro e w1 ⟨A1,c1,rfl,ow,on⟩
    have y0:w1.cell? ⟨Z,0,none⟩=some (.slice A n c):=by rw [on.cell hZ];exact hz0
    have y1:w1.cell? ⟨Z,1,none⟩=some (.slice A' m d):=by rw [on.cell hZ];exact hz1
    clear hz0 hz1
    have HOW:=Lib.hid ow
    clear ow
    go_wp2_with fail
    go_loopg [6,27] 2 (fun g s6 s27 wr=>Onto w wr∧((s27=.int .i64 0∧2≤g∧∃ A2 c2,s6=.slice A2 0 c2∧Hid (Own wr w.heap.size 96 8 (.slice A2 0 c2) 0 []))∨(s27=.int .i64 1∧1≤g∧∃ A2 c2,s6=.slice A2 n c2∧Hid (Own wr w.heap.size 96 8 (.slice A2 n c2) n rows))∨(s27=.int .i64 2∧∃ A2 c2,s6=.slice A2 (n+m) c2∧Hid (Own wr w.heap.size 96 8 (.slice A2 (n+m) c2) (n+m) (rows ++rows')))))
    case atStart=>exact ⟨on,.inl ⟨rfl,by omega,A1,c1,rfl,HOW⟩⟩
    case round =>
     obtain ⟨on2,⟨rfl,hg,A2,c2,rfl,HO⟩ | ⟨rfl,hg,A2,c2,rfl,HO⟩ | ⟨rfl,A2,c2,rfl,HO⟩⟩:=hrel
     · have u0:wr.cell? ⟨Z,0,none⟩=some (.slice A n c):=by rw [on2.cell hZ,← on.cell hZ];exact y0
       go_wp2_with (at_builtin;refine wpList_append_sl _ rfl _ _ 59 rfl w.heap.size 96 i0 _ 8 64 Tryz.underlying59 HI.out HQ0.out HQ1.out HQ2.out rfl (by decide) _ 0 [] rfl HO.out w.heap.size A n c rows rfl (Sl.under HH.out (Nat.le_refl _) on2) H1.out (by have:=HNM.out;omega) (by have:=HN.out;omega) on2.size ?_)
       intro v8 w8 own8 grow8 hv8
       obtain ⟨A8,c8,rfl,_,_⟩:=own8.slice
       have hB8:Onto w w8:=below_grown on2 on2.size grow8 (fun g hg=>by have:=(HO.out.1.lt g hg).1;omega)
       have HO8:=Lib.hid own8
       clear grow8 hv8 own8 HO u0 on2 y0 y1
       go_wp2_with fail
       go_roundg 1
       case measure=>omega
       case rel=>exact ⟨hB8,.inr (.inl ⟨by go_num,by omega,A8,c8,rfl,HO8⟩)⟩
     · have u0:wr.cell? ⟨Z,1,none⟩=some (.slice A' m d):=by rw [on2.cell hZ,← on.cell hZ];exact y1
       go_wp2_with (at_builtin;refine wpList_append_sl _ rfl _ _ 59 rfl w.heap.size 96 i0 _ 8 64 Tryz.underlying59 HI.out HQ0.out HQ1.out HQ2.out rfl (by decide) _ n rows rfl HO.out w.heap.size A' m d rows' rfl (Sl.under HH'.out (Nat.le_refl _) on2) H1'.out (by have:=HNM.out;omega) (by have:=HN.out;omega) on2.size ?_)
       intro v8 w8 own8 grow8 hv8
       obtain ⟨A8,c8,rfl,_,_⟩:=own8.slice
       have hB8:Onto w w8:=below_grown on2 on2.size grow8 (fun g hg=>by have:=(HO.out.1.lt g hg).1;omega)
       have HO8:=Lib.hid own8
       clear grow8 hv8 own8 HO u0 on2 y0 y1
       go_wp2_with fail
       go_roundg 0
       case measure=>omega
       case rel=>exact ⟨hB8,.inr (.inr ⟨by go_num,A8,c8,rfl,HO8⟩)⟩
     · have HB2:=Lib.hid on2
       clear on2 y0 y1
       go_wp2_with fail
       go_ret
       exact ⟨A2,c2,rfl,HO.out,HB2.out⟩
end
section
open Go.RowKit
attribute [local go_sem ↓] Go.wp_at_zero Go.wp_at_succ
set_option maxHeartbeats 4000000 in
set_option maxRecDepth 100000 in
theorem RDCheck_calls (A A' : Option Addr) (n c m d : Nat) (x : Dsk) (w : World) (E : Env w) (K : DK w A n c A' m d x) :
    Calls Tryz.prog 18 #[.agg #[.slice A n c,.slice A' m d]] w fun e w'=>e=.returned (.int .i64 (checkK x))∧Onto w w':=by
 obtain ⟨q,hq⟩:∃ q,q=checkK x:=⟨_,rfl⟩
 rw [← hq]
 have hn:=K.n_eq;have hm:=K.m_eq
 have hq0:q=if 30000<n∨30000<n+m then 2 else (linesK x.safe 160).2.2:=by rw [hq,hn,hm];rfl
 have hnb:n≤9223372036854775807:=by have:=K.n_le;have:=K.c_le;unfold maxLen at *;omega
 have hmb:m≤9223372036854775807:=by have:=K.m_le;have:=K.d_le;unfold maxLen at *;omega
 have HN:=Lib.hid hn;have HM:=Lib.hid hm;have HQ:=Lib.hid hq0
 clear hn hm hq hq0
 go_enter Tryz.func18,Tryz.ntmps18
 go_upto_region 1 with fail
 have on:Onto w (w.alloc (Obj.cells #[.slice A n c,.slice A' m d] 54)):=(Onto.rfl' w).new _
 have B:Bx (w.alloc (Obj.cells #[.slice A n c,.slice A' m d] 54)) w.heap.size [.slice A n c,.slice A' m d]:=Bx.made _ _ _
 generalize (w.alloc (Obj.cells #[.slice A n c,.slice A' m d] 54))=w1 at *
 generalize w.heap.size=z at B ⊢
 have b0:=B.at_ 0 rfl;have b1:=B.at_ 1 rfl
 by_cases h1:30000<n
 · have hd:decide ((30000:Int)<(n:Int))=true:=by simp;omega
   have h1':(30000:Int)<(n:Int):=by omega
   have hqq:q=2:=by rw [HQ.out,if_pos (.inl h1)]
   subst hqq
   clear h1
   go_wp2_with fail
   go_ret
   exact ⟨ret_int rfl,on⟩
 · have h1':¬ (30000:Int)<(n:Int):=by omega
   have hw:wrap64 ((30000:Int) - (n:Int))=30000 - (n:Int):=by unfold wrap64;omega
   by_cases h2:30000<n+m
   · have h2':(30000:Int) - (n:Int)<(m:Int):=by omega
     have hqq:q=2:=by rw [HQ.out,if_pos (.inr h2)]
     subst hqq
     clear h1 h2
     go_wp2_with fail
     go_ret
     exact ⟨ret_int rfl,on⟩
   · have h2':¬ (30000:Int) - (n:Int)<(m:Int):=by omega
     have hqq:q=(linesK x.safe 160).2.2:=by rw [HQ.out,if_neg (by omega)]
     have cv:=conv_bytes (c:=c) (K.safe.onto on)
     have E1:=E.onto on
     have hsl:x.safe.length≤30000:=by rw [← HN.out];omega
     have HQQ:=Lib.hid hqq;have ON:=Lib.hid on
     clear h1 h2 hqq on
     go_wp2_with fail
     refine Calls.mono (RLines_calls x.safe 160 hsl (by omega) _ E1) ?_
     rintro e w2 ⟨A1,n1,c1,rfl,_,b⟩
     have ON2:=Lib.hid (ON.out.to b)
     clear b b0 b1 B
     rw [show (linesK x.safe 160).2.2=q from HQQ.out.symm]
     go_wp2_with fail
     go_ret
     exact ⟨ret_int rfl,ON2.out⟩
/-! ### Bytes of a text -/
/-! ### Put,Sync,Recover,as the document has them -/
def RnK (w:World) (q:Dsk × Int) (e:Ending) (w':World):Prop:=∃ F k i F' l j,e=.returned (.tuple #[.agg #[.slice F k i,.slice F' l j],.int .i64 q.2])∧DK w' F k i F' l j q.1∧Onto w w'
theorem RnK.bad {w w':World} {q:Int} {v:Value} (h:v=.tuple #[.agg #[.slice none 0 0,.slice none 0 0],.int .i64 q]) (on:Onto w w'):RnK w (noK,q) (.returned v) w':=⟨none,0,0,none,0,0,by rw [h],DK.none_ _,on⟩
end
end Go.Proofs.YtidlffepdcldkaaGreatDoor
