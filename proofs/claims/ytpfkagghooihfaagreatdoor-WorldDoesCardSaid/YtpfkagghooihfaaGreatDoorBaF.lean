/- Part 50. -/
import Derived.Test.YtpfkagghooihfaaGreatDoorBa41
namespace Go.Proofs.YtpfkagghooihfaaGreatDoor
set_option linter.unusedSimpArgs false
set_option linter.unusedVariables false
set_option maxHeartbeats 8000000
set_option maxRecDepth 100000
open Go.Proofs.Tryz
open Go.RowKit
section
theorem xW (A : Option Addr)(c : Nat)(x : NV)(w : World)(h : S w 5 A 1 [bW x]) :
    Calls prog 45 #[.slice A 1 c,(3:Int)] w fun e w'=>∃A',e=.returned (.slice A' 3 3)∧S w' 5 A' 3 ((List.replicate 3 x).map bW)∧aA w w'∧aR w.heap.size A':=by
 obtain⟨i0,hi0,hz0,hz1,hz2⟩:=info_parts BM
 have hmk:∀w:World,(Instr.makeSlice 22 (.int .i64 3) (.int .i64 3)).run prog w=.ok (.slice (some ⟨w.heap.size,0,none⟩) 3 3) (w.alloc (.cells (madeCells (Value.agg #[(),Nat,Nat,Nat,.bool false]).cells 15) 55)):=fun w=>by
  have:=run_makeSlice (P:=prog) w 22 55 i0 _ underlying22 hi0 hz0 .i64 .i64 3 3 (by omega) (by omega) (by rw[hz1];decide) (by rw[hz2];decide) (by omega);rw[hz1]at this;exact this
 have HC:=aH (fun g m cur=>vO (N:=3) (row:=bW x) (cur:=cur) underlying22 hi0 hz1 rfl (by simp[bW,Value.oneCell']) g m);have HC0:=aH (fun W g b off cur=>sX (N:=3) (row:=bW x) (cur:=cur) underlying22 hi0 hz1 rfl (by simp[bW,Value.oneCell']) W g b off);clear hi0 hz0 hz1 hz2;obtain⟨b,off,rfl,hb,hc⟩:=h.2.2 (by omega)
 have hc':Hid (∀j v,(bW x)[j]?=some v→w.cell? ⟨b,off+j,none⟩=some v):=aH fun j v hj=>by
  have:=hc 0 j (bW x) v (by rfl) hj;simpa using this
 clear hc h;go_enter func45,ntmps45;go_wp2_with fail;refine Calls.mono (tU 3 (by omega) _) ?_;rintro e w1⟨rfl,o1⟩;go_upto_region 7 with fail
 have hg:(w1.alloc (.cells (madeCells (Value.agg #[(),Nat,Nat,Nat,.bool false]).cells 15) 55)).heap[w1.heap.size]?=some (.cells (madeCells (Value.agg #[(),Nat,Nat,Nat,.bool false]).cells 15) 55 (0,0)):=mM rfl;have o2:aA w (w1.alloc (.cells (madeCells (Value.agg #[(),Nat,Nat,Nat,.bool false]).cells 15) 55)):=aA.new o1 _;have hsz0:=size_madeCells (Value.agg #[(),Nat,Nat,Nat,.bool false]).cells 15;have hwg:w.heap.size≤w1.heap.size:=o1.size;change Code.wp _ _ _ _ (w1.alloc (.cells (madeCells (Value.agg #[(),Nat,Nat,Nat,.bool false]).cells 15) 55));generalize(w1.alloc (.cells (madeCells (Value.agg #[(),Nat,Nat,Nat,.bool false]).cells 15) 55))=w2 at *;generalize madeCells (Value.agg #[(),Nat,Nat,Nat,.bool false]).cells 15=cur0 at *;generalize w1.heap.size=g at *;obtain⟨cur1,hr1,hs1,ht1⟩:=HC0.out w2 g b off cur0 hg hsz0 (by omega) (fun j v hj=>aB o2 (hc'.out j v hj));have HG:=aH hg;have HR1:=aH hr1;have HT:Hid (cur1.size=3*5∧cur1.toList.take (1*5)=(List.replicate 1 (bW x)).flatten):=aH ⟨hs1,ht1⟩;clear hmk hg hr1 hs1 ht1 o1 hsz0;go_wp2_with (with_reducible refine gA _ rfl (.tmp 31) (.tmp 32) _ _ rfl _ _ rfl rfl (HR1.out _ _ _) ?_)
 go_loopw [8] (fun s wr=>∃ (m:Nat) (cur:Array Value),1≤m∧m≤3∧s=.int .i64 m∧Hid (wr.heap[g]?=some (.cells cur 55 (0,0)))∧Hid (cur.size=3*5∧cur.toList.take (m*5)=(List.replicate m (bW x)).flatten)∧aA w wr) (fun s _=>3-(intOf s).toNat)
 case atStart=>exact⟨1,cur1,Nat.le_refl _,by omega,rfl,setRow_heap _ _ _ _ _ _ HG.out,HT,aT o2 o2.size (eL _ _ _) (fun k hk=>by injection hk with hk;omega)⟩
 case round =>
  obtain⟨m,cur,h1,h60,rfl,HG2,HT2,ob⟩:=hrel;by_cases hlt:m<3
  · obtain⟨cur',hr,hs',ht'⟩:=HC.out g m cur HT2.out.1 h60 HT2.out.2;have hle:min m (3-m)≤3-m:=Nat.min_le_right _ _;have hge:1≤min m (3-m):=by rw[Nat.le_min];omega
    have hsl:∀w,(Instr.slice 22 (.slice (some ⟨g,0,none⟩) 3 3) (some (.int .i64 (m:Int))) none none).run prog w=.ok (.slice (some ⟨g,m*5,none⟩) (3-m) (3-m)) w:=fun w=>by
     rw[gO (some ⟨g,0,none⟩) 3 3 m underlying22 sizeOf55 h60 w,if_neg (by omega)];simp[Addr.add];omega
    have hmi:(m:Int)≤3:=by omega
    have hmi2:(m:Int)<3:=by omega
    generalize min m (3-m)=t at *;have hwr:IntKind.i64.wrap ((m:Int)+(t:Int))=(m:Int)+(t:Int):=by rw[IntKind.wrap_i64];omega
    have HR:=aH hr;have HT':=aH (show cur'.size=3*5∧_ from⟨hs',ht'⟩);clear hr hs' ht' HC HC0 HR1 HG HT;go_wp2_with fail
    go_region_law (refine iL _ rfl _ _ 22 22 rfl _ _ (by simp[Act.eval,Act.put];rfl) (by simp[Act.eval,Act.put];rfl) (HR.out _ (by exact HG2.out) _ _ _) ?_)
    go_wp2_with fail
    go_frame
    go_roundw
    case measure=>simp[intOf]<;>omega
    case rel =>
     refine⟨_,_,_,_,_,_,_,_,_,_,_,_,_,_,⟨m+t,cur',by omega,by omega,?_,setRow_heap _ g cur _ _ _ HG2.out,HT',aT (aA.draw ob) ob.size (eL _ _ _) (fun k hk=>by injection hk with hk;omega)⟩,rfl⟩;go_num
  obtain rfl:m=3:=by omega
  have hfin:S wr 5 (some ⟨g,0,none⟩) 3 ((List.replicate 3 x).map bW):=by
   have hlen:cur.toList=(List.replicate 3 (bW x)).flatten:=by
    rw[←HT2.out.2,List.take_of_length_le];have:=HT2.out.1;simp;omega
   have:=Sl.block (k:=5) (List.replicate 3 (bW x)) HG2.out (fun r hr=>by rw[(List.mem_replicate.1 hr).2];rfl) hlen;rw[List.map_replicate];rw[List.length_replicate]at this;exact this
  clear HC HC0 HR1 HG HT HG2 HT2;go_wp2_with fail;go_ret;exact⟨_,rfl,hfin,ob,fun a e=>by injection e with e;subst e;exact hwg⟩
theorem xZ (A : Option Addr)(c : Nat)(x : CV)(w : World)(h : S w 12 A 1 [aE x]) :
    Calls prog 47 #[.slice A 1 c,(3:Int)] w fun e w'=>∃A',e=.returned (.slice A' 3 3)∧S w' 12 A' 3 ((List.replicate 3 x).map aE)∧aA w w'∧aR w.heap.size A':=by
 obtain⟨i0,hi0,hz0,hz1,hz2⟩:=info_parts AS
 have hmk:∀w:World,(Instr.makeSlice 23 (.int .i64 3) (.int .i64 3)).run prog w=.ok (.slice (some ⟨w.heap.size,0,none⟩) 3 3) (w.alloc (.cells (madeCells (Value.agg #[(),(),(),(),(),(),(),(),(),(),Nat,Nat]).cells 36) 68)):=fun w=>by
  have:=run_makeSlice (P:=prog) w 23 68 i0 _ underlying23 hi0 hz0 .i64 .i64 3 3 (by omega) (by omega) (by rw[hz1];decide) (by rw[hz2];decide) (by omega);rw[hz1]at this;exact this
 have HC:=aH (fun g m cur=>vO (N:=3) (row:=aE x) (cur:=cur) underlying23 hi0 hz1 rfl (by simp[aE,Value.oneCell']) g m);have HC0:=aH (fun W g b off cur=>sX (N:=3) (row:=aE x) (cur:=cur) underlying23 hi0 hz1 rfl (by simp[aE,Value.oneCell']) W g b off);clear hi0 hz0 hz1 hz2;obtain⟨b,off,rfl,hb,hc⟩:=h.2.2 (by omega)
 have hc':Hid (∀j v,(aE x)[j]?=some v→w.cell? ⟨b,off+j,none⟩=some v):=aH fun j v hj=>by
  have:=hc 0 j (aE x) v (by rfl) hj;simpa using this
 clear hc h;go_enter func47,ntmps47;go_wp2_with fail;refine Calls.mono (tU 3 (by omega) _) ?_;rintro e w1⟨rfl,o1⟩;go_upto_region 7 with fail
 have hg:(w1.alloc (.cells (madeCells (Value.agg #[(),(),(),(),(),(),(),(),(),(),Nat,Nat]).cells 36) 68)).heap[w1.heap.size]?=some (.cells (madeCells (Value.agg #[(),(),(),(),(),(),(),(),(),(),Nat,Nat]).cells 36) 68 (0,0)):=mM rfl;have o2:aA w (w1.alloc (.cells (madeCells (Value.agg #[(),(),(),(),(),(),(),(),(),(),Nat,Nat]).cells 36) 68)):=aA.new o1 _;have hsz0:=size_madeCells (Value.agg #[(),(),(),(),(),(),(),(),(),(),Nat,Nat]).cells 36;have hwg:w.heap.size≤w1.heap.size:=o1.size;change Code.wp _ _ _ _ (w1.alloc (.cells (madeCells (Value.agg #[(),(),(),(),(),(),(),(),(),(),Nat,Nat]).cells 36) 68));generalize(w1.alloc (.cells (madeCells (Value.agg #[(),(),(),(),(),(),(),(),(),(),Nat,Nat]).cells 36) 68))=w2 at *;generalize madeCells (Value.agg #[(),(),(),(),(),(),(),(),(),(),Nat,Nat]).cells 36=cur0 at *
 generalize w1.heap.size=g at *;obtain⟨cur1,hr1,hs1,ht1⟩:=HC0.out w2 g b off cur0 hg hsz0 (by omega) (fun j v hj=>aB o2 (hc'.out j v hj));have HG:=aH hg;have HR1:=aH hr1;have HT:Hid (cur1.size=3*12∧cur1.toList.take (1*12)=(List.replicate 1 (aE x)).flatten):=aH ⟨hs1,ht1⟩;clear hmk hg hr1 hs1 ht1 o1 hsz0;go_wp2_with (with_reducible refine gA _ rfl (.tmp 31) (.tmp 32) _ _ rfl _ _ rfl rfl (HR1.out _ _ _) ?_)
 go_loopw [8] (fun s wr=>∃ (m:Nat) (cur:Array Value),1≤m∧m≤3∧s=.int .i64 m∧Hid (wr.heap[g]?=some (.cells cur 68 (0,0)))∧Hid (cur.size=3*12∧cur.toList.take (m*12)=(List.replicate m (aE x)).flatten)∧aA w wr) (fun s _=>3-(intOf s).toNat)
 case atStart=>exact⟨1,cur1,Nat.le_refl _,by omega,rfl,setRow_heap _ _ _ _ _ _ HG.out,HT,aT o2 o2.size (eL _ _ _) (fun k hk=>by injection hk with hk;omega)⟩
 case round =>
  obtain⟨m,cur,h1,h60,rfl,HG2,HT2,ob⟩:=hrel;by_cases hlt:m<3
  · obtain⟨cur',hr,hs',ht'⟩:=HC.out g m cur HT2.out.1 h60 HT2.out.2;have hle:min m (3-m)≤3-m:=Nat.min_le_right _ _;have hge:1≤min m (3-m):=by rw[Nat.le_min];omega
    have hsl:∀w,(Instr.slice 23 (.slice (some ⟨g,0,none⟩) 3 3) (some (.int .i64 (m:Int))) none none).run prog w=.ok (.slice (some ⟨g,m*12,none⟩) (3-m) (3-m)) w:=fun w=>by
     rw[gO (some ⟨g,0,none⟩) 3 3 m underlying23 sizeOf68 h60 w,if_neg (by omega)];simp[Addr.add];omega
    have hmi:(m:Int)≤3:=by omega
    have hmi2:(m:Int)<3:=by omega
    generalize min m (3-m)=t at *;have hwr:IntKind.i64.wrap ((m:Int)+(t:Int))=(m:Int)+(t:Int):=by rw[IntKind.wrap_i64];omega
    have HR:=aH hr;have HT':=aH (show cur'.size=3*12∧_ from⟨hs',ht'⟩);clear hr hs' ht' HC HC0 HR1 HG HT;go_wp2_with fail
    go_region_law (refine iL _ rfl _ _ 23 23 rfl _ _ (by simp[Act.eval,Act.put];rfl) (by simp[Act.eval,Act.put];rfl) (HR.out _ (by exact HG2.out) _ _ _) ?_)
    go_wp2_with fail
    go_frame
    go_roundw
    case measure=>simp[intOf]<;>omega
    case rel =>
     refine⟨_,_,_,_,_,_,_,_,_,_,_,_,_,_,⟨m+t,cur',by omega,by omega,?_,setRow_heap _ g cur _ _ _ HG2.out,HT',aT (aA.draw ob) ob.size (eL _ _ _) (fun k hk=>by injection hk with hk;omega)⟩,rfl⟩;go_num
  obtain rfl:m=3:=by omega
  have hfin:S wr 12 (some ⟨g,0,none⟩) 3 ((List.replicate 3 x).map aE):=by
   have hlen:cur.toList=(List.replicate 3 (aE x)).flatten:=by
    rw[←HT2.out.2,List.take_of_length_le];have:=HT2.out.1;simp;omega
   have:=Sl.block (k:=12) (List.replicate 3 (aE x)) HG2.out (fun r hr=>by rw[(List.mem_replicate.1 hr).2];rfl) hlen;rw[List.map_replicate];rw[List.length_replicate]at this;exact this
  clear HC HC0 HR1 HG HT HG2 HT2;go_wp2_with fail;go_ret;exact⟨_,rfl,hfin,ob,fun a e=>by injection e with e;subst e;exact hwg⟩
end
section
attribute [local go_sem ↓] Go.wp_at_zero Go.wp_at_succ
theorem BP (w:World):Calls prog 12 #[] w fun e w'=>∃A C ns cs,e=.returned (.agg #[.slice A 3 3,(),.slice C 3 3,()])∧WR w' A 3 C 3 ns cs∧aY ns 0 cs 0=qV∧aA w w':=by
 go_enter func12,ntmps12;go_upto_region 1 with fail
 refine aW (v1:=z4) rfl fun w1 on Q=>?_
 have hz:w.heap.size≤w.heap.size:=Nat.le_refl _;generalize hzq:w.heap.size=z at Q hz⊢;go_wp2_with fail;refine Calls.mono (uP _) ?_;rintro e w2⟨A,rfl,hs,ob,hf⟩;have hzl:=Q.lt;replace on:=on.to ob;replace Q:=Q.oe ob;have hfA:∀k n,k<w1.heap.size→bQ n k A:=fun k n h=>hf.Zx h
 clear ob;go_wp2_with fail;have o3:=(aA.Zz w2).new (Obj.cells #[(1:Int),.slice A 60 60,Nat,Nat,.bool true] 55)
 refine Calls.mono (xW _ 1 ⟨lH,A,60,60,none,0,0,none,0,0⟩ _ (by
  have:=Sl.block (w:=w2.alloc (Obj.cells #[(1:Int),.slice A 60 60,Nat,Nat,.bool true] 55)) (k:=5) [bW (⟨lH,A,60,60,none,0,0,none,0,0⟩:NV)] (heap_alloc_new w2 _) (by simp[bW]) rfl
  simpa using S.of this (Nat.le_refl _))) ?_
 rintro e w3⟨A3,rfl,s3,ob,f3⟩;have hz2:z<w2.heap.size:=Q.lt;have hs3:=hs.oe (o3.to ob);replace on:=on.to (o3.to ob);replace Q:=Q.oe (o3.to ob);have n3:bQ 3 z A3:=f3.Zx (by simp;omega);clear ob o3 hs;go_wp2_with fail;have o4:=(aA.Zz w3).new (Obj.cells #[(1:Int),(),(),(),(),(),(),(),(),(),Nat,Nat] 68)
 refine Calls.mono (xZ _ 1 ⟨iD,none,0,0,none,0,0⟩ _ (by
  have:=Sl.block (w:=w3.alloc (Obj.cells #[(1:Int),(),(),(),(),(),(),(),(),(),Nat,Nat] 68)) (k:=12) [aE (⟨iD,none,0,0,none,0,0⟩:CV)] (heap_alloc_new w3 _) (by simp[aE]) rfl
  simpa using S.of this (Nat.le_refl _))) ?_
 rintro e w4⟨C4,rfl,s4,ob,f4⟩;have hz3:z<w3.heap.size:=Q.lt;replace on:=on.to (o4.to ob);replace Q:=Q.oe (o4.to ob);have hs4:=hs3.oe (o4.to ob);have s34:=s3.oe (o4.to ob);have n4:bQ 3 z C4:=f4.Zx (by simp;omega);have n5:=hfA z 60 hzl;clear ob o4 hs3 s3 f3 f4 hf hfA;go_wp2_with (refine pU Q [.slice A3 3 3,(),.slice C4 3 3,()] 25 bJ ?_)
 have B:=Q.put (us:=[.slice A3 3 3,(),.slice C4 3 3,()]) rfl;obtain⟨b0,b1,b2,b3⟩:=B.p4;refine bodyPost_ret (v:=.agg #[.slice A3 3 3,(),.slice C4 3 3,()]) (by simp[results,results12,go_sem,b0,b1,b2,b3]) rfl ⟨A3,C4,List.replicate 3 ⟨lH,A,60,60,none,0,0,none,0,0⟩,List.replicate 3 ⟨iD,none,0,0,none,0,0⟩,rfl,⟨dM (w:=w4) n3 s34,dM (w:=w4) n4 s4,fun v hv=>?_,fun v hv=>?_⟩,rfl,cJ (by omega) on⟩
 · rw[(List.mem_replicate.1 hv).2];exact⟨dM (w:=w4) n5 hs4,DK.Zp _,Nat.le_refl _,by simp[maxLen]⟩
 rw[(List.mem_replicate.1 hv).2];exact⟨Sl.nil,Sl.nil,Nat.le_refl _,Nat.le_refl _⟩
end
end Go.Proofs.YtpfkagghooihfaaGreatDoor
