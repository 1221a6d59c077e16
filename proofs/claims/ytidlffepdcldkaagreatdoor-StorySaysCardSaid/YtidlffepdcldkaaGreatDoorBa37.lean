/- Part 37 of the proof: Rep, UReplay, RBook, RBSame, RClient. -/
import Derived.Test.YtidlffepdcldkaaGreatDoorBa12
import Derived.Test.YtidlffepdcldkaaGreatDoorBa31
import Derived.Deep.RegionLaw
import Derived.Test.YtidlffepdcldkaaGreatDoorBa13
import Derived.Test.YtidlffepdcldkaaGreatDoorBa36
import Derived.Test.YtidlffepdcldkaaGreatDoorBa02
import Derived.Test.YtidlffepdcldkaaGreatDoorBa16
import Derived.Test.YtidlffepdcldkaaGreatDoorBa14
namespace Go.Proofs.YtidlffepdcldkaaGreatDoor
set_option linter.unusedSimpArgs false
set_option linter.unusedVariables false
section
open Go.RowKit
set_option maxRecDepth 100000 in
theorem Mul64_calls (w:World):Calls Tryz.prog 121 #[.int .u64 1,.int .u64 60] w fun e w'=>e=.returned (.tuple #[.int .u64 0,.int .u64 60])∧Onto w w':=by
 go_enter Tryz.func121,Tryz.ntmps121
 go_wp2_with fail
 exact bodyPost_ret (v:=.tuple #[.int .u64 0,.int .u64 60]) (by simp [results,Tryz.results121,go_sem];kernel_rfl) rfl ⟨rfl,Onto.rfl' _⟩
set_option maxRecDepth 100000 in
theorem Mul_calls (w:World):Calls Tryz.prog 95 #[.int .u64 1,.int .u64 60] w fun e w'=>e=.returned (.tuple #[.int .u64 0,.int .u64 60])∧Onto w w':=by
 go_enter Tryz.func95,Tryz.ntmps95
 go_wp2_with fail
 refine Calls.mono (Mul64_calls _) ?_
 rintro e w' ⟨rfl,hb⟩
 go_wp2_with fail
 exact bodyPost_ret (v:=.tuple #[.int .u64 0,.int .u64 60]) (by simp [results,Tryz.results95,go_sem]) rfl ⟨rfl,hb⟩
theorem rep_len (x:Entry) (m:Nat):(List.replicate m (encE x)).flatten.length=m*5:=by
 induction m with
 | zero=>rfl
 | succ m ih=>rw [List.replicate_succ,List.flatten_cons,List.length_append,ih];simp [encE];omega
theorem rep_add (x:Entry) (m k:Nat):(List.replicate (m+k) (encE x)).flatten=(List.replicate m (encE x)).flatten ++(List.replicate k (encE x)).flatten:=by
 rw [← List.replicate_append_replicate,List.flatten_append]
theorem rep_one (x:Entry) (m:Nat):∀ v∈(List.replicate m (encE x)).flatten,v.oneCell'=true:=by
 intro v hv
 obtain ⟨r,hr,hv⟩:=List.mem_flatten.1 hv
 rw [(List.mem_replicate.1 hr).2] at hv
 simp [encE] at hv
 rcases hv with rfl | rfl | rfl | rfl | rfl <;> rfl
theorem rep_map (x:Entry) (m:Nat):(List.replicate m x).map encE=List.replicate m (encE x):=by rw [List.map_replicate]
set_option maxHeartbeats 2000000 in
set_option maxRecDepth 100000 in
theorem Repeat_calls (A : Option Addr) (c : Nat) (x : Entry) (w : World) (h : S w 5 A 1 [encE x]) :
    Calls Tryz.prog 69 #[.slice A 1 c,.int .i64 60] w fun e w'=>∃ A',e=.returned (.slice A' 60 60)∧S w' 5 A' 60 ((List.replicate 60 x).map encE)∧Onto w w'∧Fresh w.heap.size A':=by
 obtain ⟨i0,hi0,hz0,hz1,hz2⟩:=info_parts infoE
 have hmk:∀ w:World,(Instr.makeSlice 26 (.int .i64 60) (.int .i64 60)).run Tryz.prog w=.ok (.slice (some ⟨w.heap.size,0,none⟩) 60 60) (w.alloc (.cells (madeCells (Value.agg #[.int .i64 0,.int .i64 0,.int .i64 0,.int .i64 0,.int .i64 0]).cells 300) 46)):=fun w=>by
  have:=run_makeSlice (P:=Tryz.prog) w 26 46 i0 _ Tryz.underlying26 hi0 hz0 .i64 .i64 60 60 (by omega) (by omega) (by rw [hz1];decide) (by rw [hz2];decide) (by omega)
  rw [hz1] at this
  exact this
 have hcp:∀ (g m:Nat) (cur:Array Value),cur.size=300→1≤m→m≤60→cur.toList.take (m*5)=(List.replicate m (encE x)).flatten→∃ cur',(∀ W:World,W.heap[g]?=some (.cells cur 46 (0,0))→∀ ty dc sc,(Builtin.copy_ #[26,26] ty #[.slice (some ⟨g,m*5,none⟩) (60 - m) dc,.slice (some ⟨g,0,none⟩) m sc]).run Tryz.prog W=.ok (.int .i64 (min m (60 - m):Nat)) (W.setRow g cur'))∧cur'.size=300∧cur'.toList.take ((m+min m (60 - m))*5)=(List.replicate (m+min m (60 - m)) (encE x)).flatten:=by
  intro g m cur hsz h1 h60 htk
  have hle:min m (60 - m)≤m:=Nat.min_le_left _ _
  have hle2:min m (60 - m)≤60 - m:=Nat.min_le_right _ _
  obtain ⟨t,ht⟩:∃ t,t=min m (60 - m):=⟨_,rfl⟩
  have ht':Nat.min m (60 - m)=t:=ht.symm
  rw [← ht] at hle hle2 ⊢
  have hlen:=rep_len x t
  have:=fun (W:World) (hW:W.heap[g]?=some (.cells cur 46 (0,0))) ty dc sc=>run_copy_rowK (P:=Tryz.prog) W 26 26 ty 46 g (m*5) (60 - m) dc ⟨g,0,none⟩ m sc cur 46 i0 (List.replicate t (encE x)).flatten Tryz.underlying26 hi0 hW
   (by rw [ht',hz1,hlen]) (fun j v hj=>by
    have hjl:=(List.getElem?_eq_some_iff.1 hj).1
    rw [hlen] at hjl
    rw [Addr.add_lit,cell_of_row W g _ _ _ _ hW,← Array.getElem?_toList,Nat.zero_add]
    have h2:(cur.toList.take (m*5))[j]?=some v:=by
     rw [htk,show m=t+(m - t) by omega,rep_add,List.getElem?_append_left (by rw [hlen];exact hjl)]
     exact hj
    rw [List.getElem?_take_of_lt (by omega)] at h2
    exact h2) (by rw [hlen];omega) (rep_one x t)
  rw [ht'] at this
  refine ⟨_,this,?_,?_⟩
  · rw [spliceR_size (by rw [hlen];omega),hsz]
  · have hl1:(cur.toList.take (m*5)).length=m*5:=by rw [List.length_take];simp;omega
    rw [rep_add,← htk,Nat.add_mul]
    simp only [spliceR]
    rw [show m*5+t*5=(cur.toList.take (m*5) ++(List.replicate t (encE x)).flatten).length by rw [List.length_append,hl1,hlen]]
    exact List.take_left
 have hcp0:∀ (W:World) (g b off:Nat) (cur:Array Value),W.heap[g]?=some (.cells cur 46 (0,0))→cur.size=300→(∀ j v,(encE x)[j]?=some v→W.cell? ⟨b,off+j,none⟩=some v)→∃ cur',(∀ ty dc sc,(Builtin.copy_ #[26,26] ty #[.slice (some ⟨g,0,none⟩) 60 dc,.slice (some ⟨b,off,none⟩) 1 sc]).run Tryz.prog W=.ok (.int .i64 1) (W.setRow g cur'))∧cur'.size=300∧cur'.toList.take (1*5)=(List.replicate 1 (encE x)).flatten:=by
  intro W g b off cur hW hsz hc
  have:=fun ty dc sc=>run_copy_rowK (P:=Tryz.prog) W 26 26 ty 46 g 0 60 dc ⟨b,off,none⟩ 1 sc cur 46 i0 (encE x) Tryz.underlying26 hi0 hW
   (by rw [hz1];rfl) (fun j v hj=>by rw [Addr.add_lit];exact hc j v hj) (by simp [encE];omega) (by simp [encE,Value.oneCell'])
  refine ⟨_,this,?_,?_⟩
  · rw [spliceR_size (by simp [encE];omega),hsz]
  · simp [spliceR,encE]
 have HC:=Lib.hid hcp;have HC0:=Lib.hid hcp0
 clear hi0 hz0 hz1 hz2 hcp hcp0
 obtain ⟨b,off,rfl,hb,hc⟩:=h.2.2 (by omega)
 have hc':Hid (∀ j v,(encE x)[j]?=some v→w.cell? ⟨b,off+j,none⟩=some v):=Lib.hid fun j v hj=>by
  have:=hc 0 j (encE x) v (by rfl) hj
  simpa using this
 clear hc h
 go_enter Tryz.func69,Tryz.ntmps69
 go_wp2_with fail
 refine Calls.mono (Mul_calls _) ?_
 rintro e w1 ⟨rfl,o1⟩
 go_upto_region 7 with fail
 have hg:(w1.alloc (.cells (madeCells (Value.agg #[.int .i64 0,.int .i64 0,.int .i64 0,.int .i64 0,.int .i64 0]).cells 300) 46)).heap[w1.heap.size]?=some (.cells (madeCells (Value.agg #[.int .i64 0,.int .i64 0,.int .i64 0,.int .i64 0,.int .i64 0]).cells 300) 46 (0,0)):=hNew rfl
 have o2:Onto w (w1.alloc (.cells (madeCells (Value.agg #[.int .i64 0,.int .i64 0,.int .i64 0,.int .i64 0,.int .i64 0]).cells 300) 46)):=Onto.new o1 _
 have hsz0:=size_madeCells (Value.agg #[.int .i64 0,.int .i64 0,.int .i64 0,.int .i64 0,.int .i64 0]).cells 300
 have hwg:w.heap.size≤w1.heap.size:=o1.size
 change Code.wp _ _ _ _ (w1.alloc (.cells (madeCells (Value.agg #[.int .i64 0,.int .i64 0,.int .i64 0,.int .i64 0,.int .i64 0]).cells 300) 46))
 generalize (w1.alloc (.cells (madeCells (Value.agg #[.int .i64 0,.int .i64 0,.int .i64 0,.int .i64 0,.int .i64 0]).cells 300) 46))=w2 at *
 generalize madeCells (Value.agg #[.int .i64 0,.int .i64 0,.int .i64 0,.int .i64 0,.int .i64 0]).cells 300=cur0 at *
 generalize w1.heap.size=g at *
 obtain ⟨cur1,hr1,hs1,ht1⟩:=HC0.out w2 g b off cur0 hg hsz0 (fun j v hj=>cellB o2 (hc'.out j v hj))
 have HG:=Lib.hid hg;have HR1:=Lib.hid hr1;have HT:Hid (cur1.size=300∧cur1.toList.take (1*5)=(List.replicate 1 (encE x)).flatten):=Lib.hid ⟨hs1,ht1⟩
 clear hmk hg hr1 hs1 ht1 o1 hsz0
 go_wp2_with (with_reducible refine wpList_copy_run _ rfl (.tmp 31) (.tmp 32) _ _ rfl _ _ rfl rfl (HR1.out _ _ _) ?_)
 go_loopw [8] (fun s wr=>∃ (m:Nat) (cur:Array Value),1≤m∧m≤60∧s=.int .i64 m∧Hid (wr.heap[g]?=some (.cells cur 46 (0,0)))∧Hid (cur.size=300∧cur.toList.take (m*5)=(List.replicate m (encE x)).flatten)∧Onto w wr) (fun s _=>60 - (intOf s).toNat)
 case atStart=>exact ⟨1,cur1,Nat.le_refl _,by omega,rfl,setRow_heap _ _ _ _ _ _ HG.out,HT,below_grown o2 o2.size (grownBy_setRow _ _ _) (fun k hk=>by injection hk with hk;omega)⟩
 case round =>
  obtain ⟨m,cur,h1,h60,rfl,HG2,HT2,ob⟩:=hrel
  by_cases hlt:m<60
  · obtain ⟨cur',hr,hs',ht'⟩:=HC.out g m cur HT2.out.1 h1 h60 HT2.out.2
    have hle:min m (60 - m)≤60 - m:=Nat.min_le_right _ _
    have hge:1≤min m (60 - m):=by rw [Nat.le_min];omega
    have hsl:∀ w,(Instr.slice 26 (.slice (some ⟨g,0,none⟩) 60 60) (some (.int .i64 (m:Int))) none none).run Tryz.prog w=.ok (.slice (some ⟨g,m*5,none⟩) (60 - m) (60 - m)) w:=fun w=>by
     rw [run_slice_from (some ⟨g,0,none⟩) 60 60 m Tryz.underlying26 Tryz.sizeOf46 h60 w,if_neg (by omega)]
     simp [Addr.add];omega
    have hmi:(m:Int)≤60:=by omega
    have hmi2:(m:Int)<60:=by omega
    generalize min m (60 - m)=t at *
    have hwr:IntKind.i64.wrap ((m:Int)+(t:Int))=(m:Int)+(t:Int):=by rw [IntKind.wrap_i64];omega
    have HR:=Lib.hid hr;have HT':=Lib.hid (show cur'.size=300∧_ from ⟨hs',ht'⟩)
    clear hr hs' ht' HC HC0 HR1 HG HT
    go_wp2_with fail
    go_region_law (refine step_copy_run _ rfl _ _ 26 26 rfl _ _ (by simp [Act.eval,Act.put];rfl) (by simp [Act.eval,Act.put];rfl) (HR.out _ (by exact HG2.out) _ _ _) ?_)
    go_wp2_with fail
    go_frame
    go_roundw
    case measure=>simp [intOf] <;> omega
    case rel =>
     refine ⟨_,_,_,_,_,_,_,_,_,_,_,_,_,_,⟨m+t,cur',by omega,by omega,?_,setRow_heap _ g cur _ _ _ HG2.out,HT',below_grown (Onto.draw ob) ob.size (grownBy_setRow _ _ _) (fun k hk=>by injection hk with hk;omega)⟩,rfl⟩
     go_num
  · have hm:m=60:=by omega
    subst hm
    have hfin:S wr 5 (some ⟨g,0,none⟩) 60 ((List.replicate 60 x).map encE):=by
     have hlen:cur.toList=(List.replicate 60 (encE x)).flatten:=by
      rw [← HT2.out.2,List.take_of_length_le]
      have:=HT2.out.1
      simp;omega
     have:=Sl.block (k:=5) (List.replicate 60 (encE x)) HG2.out (fun r hr=>by rw [(List.mem_replicate.1 hr).2];rfl) hlen
     rw [rep_map]
     rw [List.length_replicate] at this
     exact this
    clear HC HC0 HR1 HG HT HG2 HT2
    go_wp2_with fail
    go_ret
    exact ⟨_,rfl,hfin,ob,fun a e=>by injection e with e;subst e;exact hwg⟩
set_option maxRecDepth 100000 in
theorem Fresh_calls (w:World):Calls Tryz.prog 44 #[] w fun e w'=>∃ A,e=.returned (.agg #[.int .i64 1,.slice A 60 60])∧S w' 5 A 60 (newU.cells.map encE)∧Onto w w'∧Fresh w.heap.size A:=by
 go_enter Tryz.func44,Tryz.ntmps44
 go_wp2_with fail
 refine Calls.mono (blank_calls _) ?_
 rintro e w1 ⟨rfl,o1⟩
 have p0:w1.cell? ⟨w.heap.size,0,none⟩=some (.int .i64 0):=cellB o1 (by simp [go_sem])
 have p1:w1.cell? ⟨w.heap.size,1,none⟩=some (.slice none 0 0):=cellB o1 (by simp [go_sem])
 have f0:w1.frozen? ⟨w.heap.size,0,none⟩=false:=frozB (v:=.int .i64 0) o1 (by simp [go_sem]) (by simp [go_sem])
 have f1:w1.frozen? ⟨w.heap.size,1,none⟩=false:=frozB (v:=.slice none 0 0) o1 (by simp [go_sem]) (by simp [go_sem])
 have o2:=Onto.to ((Onto.rfl' w).new _) o1
 clear o1
 go_wp2_with fail
 refine Calls.mono (Repeat_calls _ 1 blank _ (by
  have:=Sl.one (w:=w1) (t:=46) blank
  exact S.of this (by simp))) ?_
 rintro e w3 ⟨A',rfl,hs,o3,hf⟩
 have hz1:=World.block_lt_of_cell? _ _ p0
 simp only at hz1
 replace o3:=Onto.to ((Onto.rfl' w1).new _) o3
 replace f0:=frozB o3 p0 f0;replace f1:=frozB o3 p1 f1;replace p0:=cellB o3 p0;replace p1:=cellB o3 p1
 replace o2:=Onto.to o2 o3
 have hz:=World.block_lt_of_cell? _ _ p0
 simp only at hz
 have ho:OffN 60 w.heap.size A':=hf.offN (by simp;omega)
 clear o3
 go_wp2_with fail
 refine bodyPost_ret (v:=.agg #[.int .i64 1,.slice A' 60 60]) (by simp [results,Tryz.results44,go_sem,p0,p1]) rfl ⟨A',rfl,(S.off hs ho _).off ho _,Onto.put (Onto.put o2 (by simp only;omega) _) (by simp only;omega) _,fun a e=>by have:=hf a e;simp at this;omega⟩
end
section
open Go.RowKit
set_option maxHeartbeats 4000000 in
set_option maxRecDepth 100000 in
theorem RUOf_calls (A : Option Addr) (n c : Nat) (l : List Rec) (w : World) (h : S w 8 A n (l.map encQ)) :
    Calls Tryz.prog 20 #[.slice A n c] w (URPost w (unitL l).1 (unitL l).2):=by
 have hl:l.length=n:=by have:=h.len;simpa using this
 by_cases hbig:160<n
 · have hs:unitL l=(⟨0,[]⟩,2):=by unfold unitL;rw [if_pos (by omega)]
   have HS:=Lib.hid hs
   have hd:decide ((160:Int)<(n:Int))=true:=by simp;omega
   have hd':(160:Int)<(n:Int):=by omega
   clear h hs hl
   go_enter Tryz.func20,Tryz.ntmps20
   go_wp2
   refine bodyPost_ret (v:=.tuple #[.agg #[.int .i64 0,.slice none 0 0],.int .i64 2]) (by simp [results,Tryz.results20,go_sem]) rfl ?_
   rw [HS.out]
   refine ⟨none,0,0,rfl,Sl.nil,?_,Fresh.none_ _⟩
   repeat (first | exact Onto.rfl' _ | refine Onto.put ?_ (by simp <;> omega) _ | refine Onto.new ?_ _)
 · have hs:unitL l=unitGo newU l:=by unfold unitL;rw [if_neg (by omega)]
   have hn60:n≤160:=by omega
   have hd:decide ((160:Int)<(n:Int))=false:=by simp;omega
   have hd':¬ (160:Int)<(n:Int):=by omega
   have HS:=Lib.hid hs;have HL:=Lib.hid hl
   clear hs hl hbig
   have h0:=h
   go_enter Tryz.func20,Tryz.ntmps20
   go_wp2_with fail
   refine Calls.mono (Fresh_calls _) ?_
   rintro e w1 ⟨A1,rfl,s1,o1,hfr⟩
   have r0:w1.cell? ⟨w.heap.size,0,none⟩=some (.int .i64 0):=cellB o1 (by simp [go_sem])
   have r1:w1.cell? ⟨w.heap.size,1,none⟩=some (.slice none 0 0):=cellB o1 (by simp [go_sem])
   have g0:w1.frozen? ⟨w.heap.size,0,none⟩=false:=frozB (v:=.int .i64 0) o1 (by simp [go_sem]) (by simp [go_sem])
   have g1:w1.frozen? ⟨w.heap.size,1,none⟩=false:=frozB (v:=.slice none 0 0) o1 (by simp [go_sem]) (by simp [go_sem])
   have hzr:w.heap.size<w1.heap.size:=World.block_lt_of_cell? _ _ r0
   have hf1:Fresh (w.heap.size+1) A1:=by simpa using hfr
   have hof1:Offs w1.heap.size A1:=Sl.offN s1 (Nat.le_refl _) (by omega)
   replace o1:Onto w w1:=Onto.to ((Onto.rfl' w).new _) o1
   replace h:=S.onto h o1
   go_upto_region 4 with fail
   have hO:Onto w1 (w1.alloc (Obj.cells #[.int .i64 1,.slice A1 60 60] 51)):=(Onto.rfl' w1).new _
   have p0:(w1.alloc (Obj.cells #[.int .i64 1,.slice A1 60 60] 51)).cell? ⟨w1.heap.size,0,none⟩=some (.int .i64 1):=by simp [go_sem]
   have p1:(w1.alloc (Obj.cells #[.int .i64 1,.slice A1 60 60] 51)).cell? ⟨w1.heap.size,1,none⟩=some (.slice A1 60 60):=by simp [go_sem]
   have f0:(w1.alloc (Obj.cells #[.int .i64 1,.slice A1 60 60] 51)).frozen? ⟨w1.heap.size,0,none⟩=false:=by simp [go_sem]
   have f1:(w1.alloc (Obj.cells #[.int .i64 1,.slice A1 60 60] 51)).frozen? ⟨w1.heap.size,1,none⟩=false:=by simp [go_sem]
   replace g0:=frozB hO r0 g0;replace g1:=frozB hO r1 g1;replace r0:=cellB hO r0;replace r1:=cellB hO r1
   replace s1:=S.onto s1 hO;replace h:=S.onto h hO;replace o1:=Onto.to o1 hO
   have hzz:w1.heap.size<(w1.alloc (Obj.cells #[.int .i64 1,.slice A1 60 60] 51)).heap.size:=by simp
   have ofb:Offs w1.heap.size A1:=hof1
   have ofr:Offs w.heap.size A1:=hf1.offs (by omega)
   have ohb:OffN n w1.heap.size A:=h0.offN (by omega)
   have ohr:OffN n w.heap.size A:=h0.offN (Nat.le_refl _)
   have hfw:Fresh w.heap.size A1:=fun a e=>by have:=hf1 a e;omega
   clear hO hf1 hfr hof1
   change Code.wp _ _ _ _ (w1.alloc (Obj.cells #[.int .i64 1,.slice A1 60 60] 51))
   generalize (w1.alloc (Obj.cells #[.int .i64 1,.slice A1 60 60] 51))=w2 at *
   generalize w1.heap.size=zb at *
   have hne:zb≠w.heap.size:=by omega
   go_wp2_with fail
   go_loopw [16] (fun s wr => ∃ (k : Nat) (u : Uni) (A1 : Option Addr) (n1 c1 : Nat), k ≤ n ∧ s = .int .i64 k ∧ wr.cell? ⟨zb, 0, none⟩ = some (.int .i64 u.ep) ∧ wr.cell? ⟨zb, 1, none⟩ = some (.slice A1 n1 c1) ∧ wr.frozen? ⟨zb, 0, none⟩ = false ∧ wr.frozen? ⟨zb, 1, none⟩ = false ∧
       wr.cell? ⟨w.heap.size,0,none⟩=some (.int .i64 0)∧wr.cell? ⟨w.heap.size,1,none⟩=some (.slice none 0 0)∧wr.frozen? ⟨w.heap.size,0,none⟩=false∧wr.frozen? ⟨w.heap.size,1,none⟩=false ∧
       S wr 5 A1 n1 (u.cells.map encE)∧Offs zb A1∧Offs w.heap.size A1∧Fresh w.heap.size A1∧S wr 8 A n (l.map encQ)∧zb<wr.heap.size∧Onto w wr∧Hid (unitGo newU l=unitGo u (l.drop k))) (fun s _=>n - (intOf s).toNat)
   case atStart=>exact ⟨0,newU,A1,60,60,Nat.zero_le _,rfl,p0,p1,f0,f1,r0,r1,g0,g1,s1,ofb,ofr,hfw,h,hzz,o1,rfl⟩
   case round =>
    obtain ⟨k,u,A1,n1,c1,hk,rfl,p0,p1,f0,f1,r0,r1,g0,g1,s1,ofb,ofr,hfw,h,hzz,o1,HG⟩:=hrel
    by_cases hlt:k<n
    · obtain ⟨bb,off,x,rfl,hbb,hx,d0,d1,d2,d3,d4,d5,d6,d7⟩:=h.atQ hlt
      have hat:=unitGo_at (u:=u) hx
      have HAT:=Lib.hid hat
      clear hat hx
      go_upto_region 7 with fail
      have hO:Onto wr (wr.alloc (Obj.cells #[.int .i64 x.kind,.int .i64 x.at_,.int .i64 x.epoch,.int .i64 x.e.kind,.int .i64 x.e.job,.int .i64 x.e.every,.int .i64 x.e.time,.int .i64 x.e.client] 96)):=(Onto.rfl' wr).new _
      have e0:(wr.alloc (Obj.cells #[.int .i64 x.kind,.int .i64 x.at_,.int .i64 x.epoch,.int .i64 x.e.kind,.int .i64 x.e.job,.int .i64 x.e.every,.int .i64 x.e.time,.int .i64 x.e.client] 96)).cell? ⟨wr.heap.size,0,none⟩=some (.int .i64 x.kind):=by simp [go_sem]
      have e1:(wr.alloc (Obj.cells #[.int .i64 x.kind,.int .i64 x.at_,.int .i64 x.epoch,.int .i64 x.e.kind,.int .i64 x.e.job,.int .i64 x.e.every,.int .i64 x.e.time,.int .i64 x.e.client] 96)).cell? ⟨wr.heap.size,1,none⟩=some (.int .i64 x.at_):=by simp [go_sem]
      have e2:(wr.alloc (Obj.cells #[.int .i64 x.kind,.int .i64 x.at_,.int .i64 x.epoch,.int .i64 x.e.kind,.int .i64 x.e.job,.int .i64 x.e.every,.int .i64 x.e.time,.int .i64 x.e.client] 96)).cell? ⟨wr.heap.size,2,none⟩=some (.int .i64 x.epoch):=by simp [go_sem]
      have e3:(wr.alloc (Obj.cells #[.int .i64 x.kind,.int .i64 x.at_,.int .i64 x.epoch,.int .i64 x.e.kind,.int .i64 x.e.job,.int .i64 x.e.every,.int .i64 x.e.time,.int .i64 x.e.client] 96)).cell? ⟨wr.heap.size,3,none⟩=some (.int .i64 x.e.kind):=by simp [go_sem]
      have e4:(wr.alloc (Obj.cells #[.int .i64 x.kind,.int .i64 x.at_,.int .i64 x.epoch,.int .i64 x.e.kind,.int .i64 x.e.job,.int .i64 x.e.every,.int .i64 x.e.time,.int .i64 x.e.client] 96)).cell? ⟨wr.heap.size,4,none⟩=some (.int .i64 x.e.job):=by simp [go_sem]
      have e5:(wr.alloc (Obj.cells #[.int .i64 x.kind,.int .i64 x.at_,.int .i64 x.epoch,.int .i64 x.e.kind,.int .i64 x.e.job,.int .i64 x.e.every,.int .i64 x.e.time,.int .i64 x.e.client] 96)).cell? ⟨wr.heap.size,5,none⟩=some (.int .i64 x.e.every):=by simp [go_sem]
      have e6:(wr.alloc (Obj.cells #[.int .i64 x.kind,.int .i64 x.at_,.int .i64 x.epoch,.int .i64 x.e.kind,.int .i64 x.e.job,.int .i64 x.e.every,.int .i64 x.e.time,.int .i64 x.e.client] 96)).cell? ⟨wr.heap.size,6,none⟩=some (.int .i64 x.e.time):=by simp [go_sem]
      have e7:(wr.alloc (Obj.cells #[.int .i64 x.kind,.int .i64 x.at_,.int .i64 x.epoch,.int .i64 x.e.kind,.int .i64 x.e.job,.int .i64 x.e.every,.int .i64 x.e.time,.int .i64 x.e.client] 96)).cell? ⟨wr.heap.size,7,none⟩=some (.int .i64 x.e.client):=by simp [go_sem]
      clear d0 d1 d2 d3 d4 d5 d6 d7 hbb
      replace g0:=frozB hO r0 g0;replace g1:=frozB hO r1 g1;replace r0:=cellB hO r0;replace r1:=cellB hO r1
      replace f0:=frozB hO p0 f0;replace f1:=frozB hO p1 f1;replace p0:=cellB hO p0;replace p1:=cellB hO p1
      replace s1:=S.onto s1 hO;replace h:=S.onto h hO;replace o1:=Onto.to o1 hO
      have hz3:zb<(wr.alloc (Obj.cells #[.int .i64 x.kind,.int .i64 x.at_,.int .i64 x.epoch,.int .i64 x.e.kind,.int .i64 x.e.job,.int .i64 x.e.every,.int .i64 x.e.time,.int .i64 x.e.client] 96)).heap.size:=by simp;omega
      clear hO hzz
      change Code.wp _ _ _ _ (wr.alloc (Obj.cells #[.int .i64 x.kind,.int .i64 x.at_,.int .i64 x.epoch,.int .i64 x.e.kind,.int .i64 x.e.job,.int .i64 x.e.every,.int .i64 x.e.time,.int .i64 x.e.client] 96))
      generalize (wr.alloc (Obj.cells #[.int .i64 x.kind,.int .i64 x.at_,.int .i64 x.epoch,.int .i64 x.e.kind,.int .i64 x.e.job,.int .i64 x.e.every,.int .i64 x.e.time,.int .i64 x.e.client] 96))=w3 at *
      generalize wr.heap.size=be at *
      obtain ⟨r,hr⟩:∃ r,r=nextU u x:=⟨_,rfl⟩
      have HR:=Lib.hid hr
      clear hr
      go_wp2_with fail
      refine Calls.mono (RUNext2_calls u.ep A1 n1 c1 u.cells x.kind x.at_ x.epoch x.e _ s1) ?_
      rw [show nextU ⟨u.ep,u.cells⟩ ⟨x.kind,x.at_,x.epoch,x.e⟩=r from HR.out.symm]
      rintro e w4 ⟨A2,n2,c2,rfl,s2,hO,aw⟩
      have of2b:Offs zb A2:=by
       rcases aw with rfl | fr
       · exact ofb
       · exact fun a e=>by have:=fr a e;omega
      have of2r:Offs w.heap.size A2:=by
       rcases aw with rfl | fr
       · exact ofr
       · exact fun a e=>by have:=fr a e;omega
      have fw2:Fresh w.heap.size A2:=by
       rcases aw with rfl | fr
       · exact hfw
       · exact fun a e=>by have:=fr a e;omega
      clear aw
      replace g0:=frozB hO r0 g0;replace g1:=frozB hO r1 g1;replace r0:=cellB hO r0;replace r1:=cellB hO r1
      replace f0:=frozB hO p0 f0;replace f1:=frozB hO p1 f1;replace p0:=cellB hO p0;replace p1:=cellB hO p1
      replace s1:=S.onto s1 hO;replace h:=S.onto h hO;replace o1:=Onto.to o1 hO
      have hz4:zb<w4.heap.size:=World.block_lt_of_cell? _ _ p0
      clear hO e0 e1 e2 e3 e4 e5 e6 e7 s1 ofb ofr hfw hz3
      obtain ⟨q,hq⟩:∃ q,q=r.2:=⟨_,rfl⟩
      rw [← hq]
      have HQ:=Lib.hid hq
      clear hq
      go_upto_region 8 with fail
      have hO:Onto w4 (w4.alloc (Obj.cells #[.int .i64 r.1.ep,.slice A2 n2 c2] 51)):=(Onto.rfl' w4).new _
      have q0:(w4.alloc (Obj.cells #[.int .i64 r.1.ep,.slice A2 n2 c2] 51)).cell? ⟨w4.heap.size,0,none⟩=some (.int .i64 r.1.ep):=by simp [go_sem]
      have q1:(w4.alloc (Obj.cells #[.int .i64 r.1.ep,.slice A2 n2 c2] 51)).cell? ⟨w4.heap.size,1,none⟩=some (.slice A2 n2 c2):=by simp [go_sem]
      replace s2:S (w4.alloc (Obj.cells #[.int .i64 r.1.ep,.slice A2 n2 c2] 51)) 5 A2 n2 (r.1.cells.map encE):=S.onto s2 hO
      have hz5:zb<(w4.alloc (Obj.cells #[.int .i64 r.1.ep,.slice A2 n2 c2] 51)).heap.size:=by simp;omega
      replace g0:=frozB hO r0 g0;replace g1:=frozB hO r1 g1;replace r0:=cellB hO r0;replace r1:=cellB hO r1
      replace f0:=frozB hO p0 f0;replace f1:=frozB hO p1 f1;replace p0:=cellB hO p0;replace p1:=cellB hO p1
      replace h:=S.onto h hO;replace o1:=Onto.to o1 hO
      clear hO hz4
      change Code.wp _ _ _ _ (w4.alloc (Obj.cells #[.int .i64 r.1.ep,.slice A2 n2 c2] 51))
      generalize (w4.alloc (Obj.cells #[.int .i64 r.1.ep,.slice A2 n2 c2] 51))=w5 at *
      by_cases hq0:q=0
      · subst hq0
        have HG2:Hid (unitGo newU l=unitGo r.1 (l.drop (k+1))):=Lib.hid (by rw [HG.out,HAT.out,← HR.out,if_neg (by simp [← HQ.out])])
        go_wp2_with fail
        go_roundw
        case measure=>simp [intOf] <;> omega
        case rel =>
         refine ⟨k+1,r.1,A2,n2,c2,by omega,by go_num,?_,?_,?_,?_,?_,?_,?_,?_,?_,of2b,of2r,fw2,?_,?_,?_,HG2⟩
         · simp [go_sem,p0,p1]
         · simp [go_sem,p0,p1]
         · simp [go_sem,f0]
         · simp [go_sem,f1]
         · simp [go_sem,r0,hne]
         · simp [go_sem,r1,hne]
         · simp [go_sem,g0]
         · simp [go_sem,g1]
         · exact S.off (S.off s2 of2b.n _) of2b.n _
         · exact S.off (S.off h ohb _) ohb _
         · simp;omega
         · exact Onto.put (Onto.put o1 (by simp only;omega) _) (by simp only;omega) _
      · have hqd:(q !=0)=true:=by simpa using hq0
        have hres:unitL l=(⟨0,[]⟩,q):=by rw [HS.out,HG.out,HAT.out,← HR.out,if_pos (by rw [← HQ.out];exact hq0),HQ.out]
        have HRES:=Lib.hid hres
        clear hres
        go_wp2_with fail
        refine bodyPost_ret (v:=.tuple #[.agg #[.int .i64 0,.slice none 0 0],.int .i64 q]) (by simp [results,Tryz.results20,go_sem,r0,r1,hne]) rfl ?_
        rw [HRES.out]
        refine ⟨none,0,0,rfl,Sl.nil,?_,Fresh.none_ _⟩
        repeat (first | exact o1 | refine Onto.put ?_ (by simp <;> omega) _ | refine Onto.new ?_ _)
    · have hkn:k=n:=by omega
      subst hkn
      have hres:unitL l=(u,0):=by
       rw [HS.out,HG.out,List.drop_eq_nil_of_le (by have:=HL.out;omega)]
       rfl
      have HRES:=Lib.hid hres
      clear hres h
      go_wp2_with fail
      refine bodyPost_ret (v:=.tuple #[.agg #[.int .i64 u.ep,.slice A1 n1 c1],.int .i64 0]) (by simp [results,Tryz.results20,go_sem,r0,r1,g0,g1]) rfl ?_
      rw [HRES.out]
      exact ⟨A1,n1,c1,rfl,S.off (S.off s1 ofr.n _) ofr.n _,Onto.put (Onto.put o1 (by simp only;omega) _) (by simp only;omega) _,hfw⟩
end
section
open Go.RowKit
set_option maxHeartbeats 4000000 in
set_option maxRecDepth 100000 in
theorem RBCheck_calls (A A' : Option Addr) (n c m d : Nat) (jobs : List Job) (rung : List Rung) (w : World) (h : S w 3 A n (jobs.map encJ)) (h' : S w 3 A' m (rung.map encR)) :
    Calls Tryz.prog 47 #[.agg #[.slice A n c,.slice A' m d]] w fun e w'=>e=.returned (.int .i64 (checkB ⟨jobs,rung⟩))∧Onto w w':=by
 have hn:=h.len;have hm:=h'.len
 simp only [List.length_map] at hn hm
 obtain ⟨r,hr⟩:∃ r,r=checkB ⟨jobs,rung⟩:=⟨_,rfl⟩
 rw [← hr]
 unfold checkB at hr
 have h01:Onto w (w.alloc (Obj.cells #[.slice A n c,.slice A' m d] 33)):=(Below.refl _ _).alloc (Nat.le_refl _) _
 by_cases hbig:6<n∨60<m
 · rw [if_pos (by simp only;omega)] at hr
   subst hr
   clear h h' hn hm
   by_cases h6:6<n
   all_goals
    go_enter Tryz.func47,Tryz.ntmps47
    go_wp2_with fail
    any_goals
     go_ret
     exact ⟨rfl,by first | exact h01 | exact Onto.draws h01 _⟩
   all_goals (exfalso;omega)
 · rw [if_neg (by simp only;omega)] at hr
   dsimp only at hr
   have hn6:n≤6:=by omega
   have hm6:m≤60:=by omega
   have hd1:decide (6<n)=false:=by simp;omega
   have hd2:decide (60<m)=false:=by simp;omega
   have HS:=Lib.hid hr;have HN:=Lib.hid hn;have HM:=Lib.hid hm
   clear hr hbig hn hm
   have q1:(w.alloc (Obj.cells #[.slice A n c,.slice A' m d] 33)).cell? ⟨w.heap.size,1,none⟩=some (.slice A' m d):=by simp [go_sem]
   have h1:=h.new (Obj.cells #[.slice A n c,.slice A' m d] 33)
   have h1':=h'.new (Obj.cells #[.slice A n c,.slice A' m d] 33)
   go_enter Tryz.func47,Tryz.ntmps47
   go_wp2_with fail
   go_loopw [3,21] (fun s3 s wr=>∃ (k:Nat) (la:Int),k≤n∧s=.int .i64 k∧s3=.int .i64 la∧Onto (w.alloc (Obj.cells #[.slice A n c,.slice A' m d] 33)) wr∧Hid (checkJs (-1) jobs=checkJs la (jobs.drop k))) (fun _ s _=>n - (intOf s).toNat)
   case atStart=>exact ⟨0,-1,by omega,rfl,rfl,Below.refl _ _,by simp [Hid]⟩
   case round =>
    obtain ⟨k,la,hk,rfl,rfl,hbr,HJ⟩:=hrel
    by_cases hlt:k<n
    · obtain ⟨b,off,x,rfl,hb,hx,e0,e1,e2⟩:=(S.onto h1 hbr).atJ hlt
      have HX:=Lib.hid hx
      have hal:Onto wr (wr.alloc (Obj.cells #[.int .i64 x.id,.int .i64 x.every,.int .i64 x.next] 82)):=(Below.refl _ _).alloc (Nat.le_refl _) _
      clear hx
      by_cases hb1:¬ (0≤x.id∧x.id≤5)
      · have i1:(decide (0≤x.id) && decide (x.id≤5))=false:=by simp;omega
        have i2:(0:Int)=0:=rfl;have i3:(0:Int)=0:=rfl
        have hbj:badJ x:=by unfold badJ;omega
        have hfin:(3:Int)=r:=by rw [HS.out,HJ.out,checkJs_at HX.out,if_pos hbj];simp
        have HF:=Lib.hid hfin
        clear hfin hbj
        go_wp2_with (go_at_call 17;refine Calls.mono (in_calls _ _ _ _) ?_;rintro e w' ⟨rfl,rfl⟩;first | rw [i1] | rw [i2] | rw [i3])
        go_ret
        exact ⟨ret_int HF.out,Onto.to h01 (Onto.to hbr hal)⟩
      · have i1:(decide (0≤x.id) && decide (x.id≤5))=true:=by simp;omega
        by_cases hb2:¬ (1≤x.every∧x.every≤100)
        · have i2:(decide (1≤x.every) && decide (x.every≤100))=false:=by simp;omega
          have i3:(0:Int)=0:=rfl
          have hbj:badJ x:=by unfold badJ;omega
          have hfin:(3:Int)=r:=by rw [HS.out,HJ.out,checkJs_at HX.out,if_pos hbj];simp
          have HF:=Lib.hid hfin
          clear hfin hbj
          go_wp2_with (go_at_call 17;refine Calls.mono (in_calls _ _ _ _) ?_;rintro e w' ⟨rfl,rfl⟩;first | rw [i1] | rw [i2] | rw [i3])
          go_ret
          exact ⟨ret_int HF.out,Onto.to h01 (Onto.to hbr hal)⟩
        · have i2:(decide (1≤x.every) && decide (x.every≤100))=true:=by simp;omega
          by_cases hb3:¬ (0≤x.next∧x.next≤100100)
          · have i3:(decide (0≤x.next) && decide (x.next≤100100))=false:=by simp;omega
            have hbj:badJ x:=by unfold badJ;omega
            have hfin:(3:Int)=r:=by rw [HS.out,HJ.out,checkJs_at HX.out,if_pos hbj];simp
            have HF:=Lib.hid hfin
            clear hfin hbj
            go_wp2_with (go_at_call 17;refine Calls.mono (in_calls _ _ _ _) ?_;rintro e w' ⟨rfl,rfl⟩;first | rw [i1] | rw [i2] | rw [i3])
            go_ret
            exact ⟨ret_int HF.out,Onto.to h01 (Onto.to hbr hal)⟩
          · have i3:(decide (0≤x.next) && decide (x.next≤100100))=true:=by simp;omega
            have hbj:¬ badJ x:=by unfold badJ;omega
            by_cases hle:x.id≤la
            · have hfin:(6:Int)=r:=by rw [HS.out,HJ.out,checkJs_at HX.out,if_neg hbj,if_pos hle];simp
              have HF:=Lib.hid hfin
              clear hfin hbj
              go_wp2_with (go_at_call 17;refine Calls.mono (in_calls _ _ _ _) ?_;rintro e w' ⟨rfl,rfl⟩;first | rw [i1] | rw [i2] | rw [i3])
              go_ret
              exact ⟨ret_int HF.out,Onto.to h01 (Onto.to hbr hal)⟩
            · have hd:decide (x.id≤la)=false:=by simpa using hle
              have HST:=Lib.hid (show checkJs la (jobs.drop k)=checkJs x.id (jobs.drop (k+1)) by rw [checkJs_at HX.out,if_neg hbj,if_neg hle])
              clear hbj
              go_wp2_with (go_at_call 17;refine Calls.mono (in_calls _ _ _ _) ?_;rintro e w' ⟨rfl,rfl⟩;first | rw [i1] | rw [i2] | rw [i3])
              go_roundw
              case measure=>simp [intOf] <;> omega
              case rel=>exact ⟨k+1,x.id,by omega,by go_num,rfl,Onto.to hbr hal,by show _=_;rw [HJ.out,HST.out]⟩
    · obtain rfl:k=n:=by omega
      have q2:=cellB hbr q1
      have hz2:=World.block_lt_of_cell? _ _ q2
      simp only at hz2
      have hj:r=checkRs rung:=by
       have h0:checkJs (-1) jobs=0:=by rw [HJ.out,List.drop_eq_nil_of_le (by rw [HN.out];omega)];rfl
       rw [HS.out,h0];rfl
      have HK:=Lib.hid hj
      clear hj HJ HS
      go_wp2_with fail
      go_loopw [51] (fun s ws=>∃ j:Nat,j≤m∧s=.int .i64 j∧Onto (w.alloc (Obj.cells #[.slice A k c,.slice A' m d] 33)) ws∧Hid (checkRs rung=checkRs (rung.drop j))) (fun s _=>m - (intOf s).toNat)
      case atStart=>exact ⟨0,by omega,rfl,hbr,by simp [Hid]⟩
      case round =>
       obtain ⟨j,hj,rfl,hbs,HR2⟩:=hrel
       by_cases hlt':j<m
       · obtain ⟨b,off,x,rfl,hb,hx,e0,e1,e2⟩:=(S.onto h1' hbs).atR hlt'
         have HX:=Lib.hid hx
         have hal:Onto wr (wr.alloc (Obj.cells #[.int .i64 x.job,.int .i64 x.time,.int .i64 x.client] 85)):=(Below.refl _ _).alloc (Nat.le_refl _) _
         clear hx hlt q2 hz2 hbr
         by_cases hb1:¬ (0≤x.job∧x.job≤5)
         · have i1:(decide (0≤x.job) && decide (x.job≤5))=false:=by simp;omega
           have i2:(0:Int)=0:=rfl;have i3:(0:Int)=0:=rfl
           have hbr2:badR x:=by unfold badR;omega
           have hfin:(3:Int)=r:=by rw [HK.out,HR2.out,checkRs_bad HX.out hbr2]
           have HF:=Lib.hid hfin
           clear hfin hbr2
           go_wp2_with (go_at_call 17;refine Calls.mono (in_calls _ _ _ _) ?_;rintro e w' ⟨rfl,rfl⟩;first | rw [i1] | rw [i2] | rw [i3])
           go_ret
           exact ⟨ret_int HF.out,Onto.to h01 (Onto.to hbs hal)⟩
         · have i1:(decide (0≤x.job) && decide (x.job≤5))=true:=by simp;omega
           by_cases hb2:¬ (0≤x.time∧x.time≤100000)
           · have i2:(decide (0≤x.time) && decide (x.time≤100000))=false:=by simp;omega
             have i3:(0:Int)=0:=rfl
             have hbr2:badR x:=by unfold badR;omega
             have hfin:(3:Int)=r:=by rw [HK.out,HR2.out,checkRs_bad HX.out hbr2]
             have HF:=Lib.hid hfin
             clear hfin hbr2
             go_wp2_with (go_at_call 17;refine Calls.mono (in_calls _ _ _ _) ?_;rintro e w' ⟨rfl,rfl⟩;first | rw [i1] | rw [i2] | rw [i3])
             go_ret
             exact ⟨ret_int HF.out,Onto.to h01 (Onto.to hbs hal)⟩
           · have i2:(decide (0≤x.time) && decide (x.time≤100000))=true:=by simp;omega
             by_cases hb3:¬ (0≤x.client∧x.client≤2)
             · have i3:(decide (0≤x.client) && decide (x.client≤2))=false:=by simp;omega
               have hbr2:badR x:=by unfold badR;omega
               have hfin:(3:Int)=r:=by rw [HK.out,HR2.out,checkRs_bad HX.out hbr2]
               have HF:=Lib.hid hfin
               clear hfin hbr2
               go_wp2_with (go_at_call 17;refine Calls.mono (in_calls _ _ _ _) ?_;rintro e w' ⟨rfl,rfl⟩;first | rw [i1] | rw [i2] | rw [i3])
               go_ret
               exact ⟨ret_int HF.out,Onto.to h01 (Onto.to hbs hal)⟩
             · have i3:(decide (0≤x.client) && decide (x.client≤2))=true:=by simp;omega
               have hbr2:¬ badR x:=by unfold badR;omega
               have HST:=Lib.hid (checkRs_good HX.out hbr2)
               clear hbr2
               go_wp2_with (go_at_call 17;refine Calls.mono (in_calls _ _ _ _) ?_;rintro e w' ⟨rfl,rfl⟩;first | rw [i1] | rw [i2] | rw [i3])
               go_roundw
               case measure=>simp [intOf] <;> omega
               case rel=>exact ⟨j+1,by omega,by go_num,Onto.to hbs hal,by show _=_;rw [HR2.out,HST.out]⟩
       · obtain rfl:j=m:=by omega
         have hfin:(0:Int)=r:=by rw [HK.out,HR2.out,List.drop_eq_nil_of_le (by rw [HM.out];omega)];rfl
         have HF:=Lib.hid hfin
         clear hfin
         go_wp2_with fail
         go_ret
         exact ⟨ret_int HF.out,Onto.to h01 hbs⟩
end
section
open Go.RowKit
set_option maxHeartbeats 1000000 in
theorem RBSame_calls (A A' D D' : Option Addr) (n c m d n' c' m' d' B : Nat) (jobs jobs' : List Job) (rung rung' : List Rung) (w : World) (h1 : Sl w B 3 A n (jobs.map encJ)) (h2 : Sl w B 3 A' m (rung.map encR))
    (h3:Sl w B 3 D n' (jobs'.map encJ)) (h4:Sl w B 3 D' m' (rung'.map encR)) (hB:B≤w.heap.size) (hn:n≤9223372036854775807) (hm:m≤9223372036854775807) :
    Calls Tryz.prog 9 #[.agg #[.slice A n c,.slice A' m d],.agg #[.slice D n' c',.slice D' m' d']] w fun e w'=>e=.returned (.bool (decide ((⟨jobs,rung⟩:Book)=⟨jobs',rung'⟩)))∧Below w.heap.size w w':=by
 have HN:=Lib.hid hn;have HM:=Lib.hid hm
 clear hn hm
 have hdec:decide ((⟨jobs,rung⟩:Book)=⟨jobs',rung'⟩)=(decide (jobs=jobs') && decide (rung=rung')):=by simp
 have HD:=Lib.hid hdec
 clear hdec
 go_enter Tryz.func9,Tryz.ntmps9
 go_wp2_with fail
 refine Calls.mono (EqualJ_calls A D n n' c c' B jobs jobs' _ ((h1.alloc hB _).alloc (by simp;omega) _) ((h3.alloc hB _).alloc (by simp;omega) _) HN.out) ?_
 rintro e w' ⟨rfl,q,rfl⟩
 cases hj:decide (jobs=jobs') with
 | true =>
   have HJ:=Lib.hid hj
   clear hj
   go_wp2_with fail
   refine Calls.mono (EqualR_calls A' D' m m' d d' B rung rung' _ (((h2.alloc hB _).alloc (by simp;omega) _).drewN q) (((h4.alloc hB _).alloc (by simp;omega) _).drewN q) HM.out) ?_
   rintro e w' ⟨rfl,q',rfl⟩
   go_wp2
   go_ret
   refine ⟨ret_bool (by rw [HD.out,HJ.out];simp),?_⟩
   repeat (first | exact Below.refl _ _ | refine below_drewN ?_ _ | refine Below.alloc ?_ (by simp) _)
 | false =>
   have HJ:=Lib.hid hj
   clear hj
   go_wp2
   go_ret
   refine ⟨ret_bool (by rw [HD.out,HJ.out];simp),?_⟩
   repeat (first | exact Below.refl _ _ | refine below_drewN ?_ _ | refine Below.alloc ?_ (by simp) _)
end
section
open Go.RowKit
set_option maxHeartbeats 8000000 in
set_option maxRecDepth 100000 in
theorem RClCheck_calls (ep dg at_ ln pl : Int) (x : Entry) (A A' : Option Addr) (n c m d : Nat) (b : Book) (w : World) (h : S w 3 A n (b.jobs.map encJ)) (h' : S w 3 A' m (b.rung.map encR)) :
    Calls Tryz.prog 23 #[.agg #[.int .i64 ep,.int .i64 dg,.int .i64 x.kind,.int .i64 x.job,.int .i64 x.every,.int .i64 x.time,.int .i64 x.client,.int .i64 at_,.int .i64 ln,.int .i64 pl,.slice A n c,.slice A' m d]] w fun e w'=>e=.returned (.int .i64 (checkCl ⟨ep,dg,x,at_,ln,pl,b⟩))∧Onto w w':=by
 obtain ⟨r,hr⟩:∃ r,r=checkCl ⟨ep,dg,x,at_,ln,pl,b⟩:=⟨_,rfl⟩
 rw [← hr]
 unfold checkCl at hr
 simp only [ne_eq,entry_eq_iff,zeroE] at hr
 obtain ⟨q,hq⟩:∃ q,q=checkE x:=⟨_,rfl⟩
 obtain ⟨qb,hqb⟩:∃ q,q=checkB b:=⟨_,rfl⟩
 rw [← hq,← hqb] at hr
 have HQ:=Lib.hid hq;have HQB:=Lib.hid hqb
 go_enter Tryz.func23,Tryz.ntmps23
 have hne:=neqE
 have HR:=Lib.hid hr
 have HS:=Lib.hid h;have HS':=Lib.hid h'
 clear hr hq hqb h h'
 go_wp2_with (first
  | (go_at_call 17;refine Calls.mono (in_calls _ _ _ _) ?_;rintro e w' ⟨rfl,rfl⟩)
  | (go_at_call 46;refine Calls.mono (RCE_calls x.kind x.job x.every x.time x.client _) ?_;rw [show checkE ⟨x.kind,x.job,x.every,x.time,x.client⟩=q from HQ.out.symm];rintro e w2 ⟨rfl,hb2⟩;have b0:w2.cell? ⟨w.heap.size,0,none⟩=some (.int .i64 ep):=cellB hb2 (by simp [go_sem]);have b1:w2.cell? ⟨w.heap.size,1,none⟩=some (.int .i64 dg):=cellB hb2 (by simp [go_sem]);have b2:w2.cell? ⟨w.heap.size,2,none⟩=some (.int .i64 x.kind):=cellB hb2 (by simp [go_sem]);have b3:w2.cell? ⟨w.heap.size,3,none⟩=some (.int .i64 x.job):=cellB hb2 (by simp [go_sem]);have b4:w2.cell? ⟨w.heap.size,4,none⟩=some (.int .i64 x.every):=cellB hb2 (by simp [go_sem]);have b5:w2.cell? ⟨w.heap.size,5,none⟩=some (.int .i64 x.time):=cellB hb2 (by simp [go_sem]);have b6:w2.cell? ⟨w.heap.size,6,none⟩=some (.int .i64 x.client):=cellB hb2 (by simp [go_sem]);have b7:w2.cell? ⟨w.heap.size,7,none⟩=some (.int .i64 at_):=cellB hb2 (by simp [go_sem]);have b8:w2.cell? ⟨w.heap.size,8,none⟩=some (.int .i64 ln):=cellB hb2 (by simp [go_sem]);have b9:w2.cell? ⟨w.heap.size,9,none⟩=some (.int .i64 pl):=cellB hb2 (by simp [go_sem]);have b10:w2.cell? ⟨w.heap.size,10,none⟩=some (.slice A n c):=cellB hb2 (by simp [go_sem]);have b11:w2.cell? ⟨w.heap.size,11,none⟩=some (.slice A' m d):=cellB hb2 (by simp [go_sem]);have h02:Onto w w2:=Onto.to (Onto.new (Onto.rfl' w) (Obj.cells #[.int .i64 ep,.int .i64 dg,.int .i64 x.kind,.int .i64 x.job,.int .i64 x.every,.int .i64 x.time,.int .i64 x.client,.int .i64 at_,.int .i64 ln,.int .i64 pl,.slice A n c,.slice A' m d] 66)) hb2;clear hb2)
  | (go_at_call 47;refine Calls.mono (RBCheck_calls A A' n c m d b.jobs b.rung _ (S.onto HS.out h02) (S.onto HS'.out h02)) ?_;rw [show checkB ⟨b.jobs,b.rung⟩=qb from HQB.out.symm];rintro e w3 ⟨rfl,hb3⟩;have h03:=Onto.to h02 hb3;clear hb3 b0 b1 b2 b3 b4 b5 b6 b7 b8 b9 b10 b11))
 all_goals
  go_ret
  refine ⟨ret_int ?_,?_⟩
  · rw [HR.out]
    clear HR hne HS HS' HQ HQB
    (try simp only [beq_iff_eq,beq_eq_false_iff_ne,bne_iff_ne,bne_eq_false_iff_eq,ne_eq,Bool.and_eq_true,Bool.and_eq_false_iff,Bool.not_eq_true',Bool.not_eq_false',Bool.or_eq_true,Bool.or_eq_false_iff,decide_eq_true_eq,decide_eq_false_iff_not] at *)
    (try unfold wrap64 at *)
    (repeat' split) <;> first | rfl | omega
  · first | exact h03 | exact h02 | exact (Below.refl _ _).alloc (Nat.le_refl _) _
end
end Go.Proofs.YtidlffepdcldkaaGreatDoor
