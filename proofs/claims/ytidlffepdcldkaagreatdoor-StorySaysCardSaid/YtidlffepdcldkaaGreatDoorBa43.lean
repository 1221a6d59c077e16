/- Part 43 of the proof: RLog, RHoles. -/
import Derived.Test.YtidlffepdcldkaaGreatDoorBa21
import Derived.Test.YtidlffepdcldkaaGreatDoorBa22
import Derived.Test.YtidlffepdcldkaaGreatDoorBa07
import Derived.Test.YtidlffepdcldkaaGreatDoorBa16
import Derived.Test.YtidlffepdcldkaaGreatDoorBa31
import Derived.Test.YtidlffepdcldkaaGreatDoorBa04
import Derived.Test.YtidlffepdcldkaaGreatDoorBa26
import Derived.Deep.QuietTactic
import Derived.Test.YtidlffepdcldkaaGreatDoorBa41
import Derived.Test.YtidlffepdcldkaaGreatDoorBa17
import Derived.Test.YtidlffepdcldkaaGreatDoorBa02
namespace Go.Proofs.YtidlffepdcldkaaGreatDoor
set_option linter.unusedSimpArgs false
set_option linter.unusedVariables false
section
open Go.RowKit
attribute [local go_sem ↓] Go.wp_at_zero Go.wp_at_succ
theorem eqlX (x y:Entry) (w:World):(binOp .eql 46 (.agg #[.int .i64 x.kind,.int .i64 x.job,.int .i64 x.every,.int .i64 x.time,.int .i64 x.client]) (.agg #[.int .i64 y.kind,.int .i64 y.job,.int .i64 y.every,.int .i64 y.time,.int .i64 y.client])).run Tryz.prog w=.ok (.bool (decide (x=y))) w:=by
 rw [eqlE]
 congr 2
 rw [Bool.eq_iff_iff]
 simp [entry_eq_iff,and_assoc]
theorem run_slice_to {P : Program} {t e : TypeId} {size : Nat} (A : Option Addr) (n c m : Nat) (ht : P.underlying t = some (.slice e)) (hz : ∀ w, (sizeOf e).run P w = .ok size w) (hm : m ≤ n) (hn : n ≤ c) (w : World) :
    (Instr.slice t (.slice A n c) none (some (.int .i64 (m:Int))) none).run P w=.ok (.slice A m c) w:=by
 have h1:(m:Int)≤(c:Int):=by omega
 have h2:(0:Int)≤(m:Int):=by omega
 simp [Instr.slice,run_underlying ht,Instr.sliceBounds,hz,go_sem,h1,h2]
set_option maxHeartbeats 4000000 in
set_option maxRecDepth 100000 in
theorem IndexE_calls (A : Option Addr) (n c : Nat) (l : List Entry) (x0 : Entry) (w : World) (h : S w 5 A n (l.map encE)) (hn : n ≤ 1000000000000) :
    Calls Tryz.prog 34 #[.slice A n c,.agg #[.int .i64 x0.kind,.int .i64 x0.job,.int .i64 x0.every,.int .i64 x0.time,.int .i64 x0.client]] w fun e w'=>e=.returned (.int .i64 (idxI (fun y=>decide (x0=y)) l))∧Onto w w':=by
 go_enter Tryz.func34,Tryz.ntmps34
 go_upto_region 1 with fail
 refine wp_box1 (v1:=[.int .i64 x0.kind,.int .i64 x0.job,.int .i64 x0.every,.int .i64 x0.time,.int .i64 x0.client]) rfl fun w1 on X=>?_
 replace h:=h.onto on
 generalize w.heap.size=zx at X ⊢
 go_wp2_with fail
 go_loopg [5,8] n (fun g s5 s8 wr=>∃ i:Nat,i≤n∧n - i≤g∧s8=.int .i64 i∧Onto w1 wr∧Hid (∀ j y,j<i→l[j]?=some y→decide (x0=y)=false))
 case atStart=>exact ⟨0,Nat.zero_le _,Nat.le_refl _,rfl,Onto.rfl' _,fun j y hj=>absurd hj (Nat.not_lt_zero _)⟩
 case round =>
  obtain ⟨i,hi,hg,rfl,bw,H⟩:=hrel
  by_cases hlt:i<n
  · obtain ⟨b,off,x,rfl,hb,hx,d0,d1,d2,d3,d4⟩:=(h.onto bw).atE hlt
    have HX:=Lib.hid hx
    have X':=X.onto bw
    have x0':=X'.at_ 0 rfl;have x1':=X'.at_ 1 rfl;have x2':=X'.at_ 2 rfl;have x3':=X'.at_ 3 rfl;have x4':=X'.at_ 4 rfl
    have hlt':(i:Int)<(n:Int):=by omega
    clear hx X'
    by_cases hpx:x0=x
    · have he:∀ w,(binOp .eql 46 (.agg #[.int .i64 x0.kind,.int .i64 x0.job,.int .i64 x0.every,.int .i64 x0.time,.int .i64 x0.client]) (.agg #[.int .i64 x.kind,.int .i64 x.job,.int .i64 x.every,.int .i64 x.time,.int .i64 x.client])).run Tryz.prog w=.ok (.bool true) w:=fun w=>by rw [eqlX];simp [hpx]
      have HPX:=Lib.hid hpx
      clear hpx
      go_upto_region 4 with fail
      go_quiet (fail)
      go_wp2_with fail
      go_ret
      exact ⟨ret_int (idxI_at HX.out (by simpa using HPX.out) H.out).symm,on.to (bw.draws _)⟩
    · have he:∀ w,(binOp .eql 46 (.agg #[.int .i64 x0.kind,.int .i64 x0.job,.int .i64 x0.every,.int .i64 x0.time,.int .i64 x0.client]) (.agg #[.int .i64 x.kind,.int .i64 x.job,.int .i64 x.every,.int .i64 x.time,.int .i64 x.client])).run Tryz.prog w=.ok (.bool false) w:=fun w=>by rw [eqlX];simp [hpx]
      have HPX:=Lib.hid hpx
      clear hpx
      go_upto_region 4 with fail
      go_quiet (fail)
      go_wp2_with fail
      go_roundg (n - (i+1))
      case measure=>omega
      case rel =>
       refine ⟨i+1,by omega,Nat.le_refl _,by go_num,bw.draws _,fun j y hj hy=>?_⟩
       by_cases e:j=i
       · subst e
         have:=HX.out.symm.trans hy
         injection this with this
         subst this
         simpa using HPX.out
       · exact H.out j y (by omega) hy
  · obtain rfl:i=n:=by omega
    have hl:l.length=i:=by have:=h.len;simpa using this
    have hfin:idxI (fun y=>decide (x0=y)) l=-1:=idxI_none (fun j y hy=>H.out j y (by have:=(List.getElem?_eq_some_iff.1 hy).1;omega) hy)
    have HF:=Lib.hid hfin
    clear hl hfin
    go_wp2_with fail
    go_ret
    exact ⟨ret_int HF.out.symm,on.to bw⟩
theorem take_first {l:List Entry} {p:Entry→Bool}:∀ {j:Nat},j≤l.length→(∀ e∈l.take j,p e=true)→(∀ e,l[j]?=some e→p e=false)→l.takeWhile p=l.take j:=by
 induction l with
 | nil=>intro j hj h1 h2;simp
 | cons x l ih =>
   intro j hj h1 h2
   cases j with
   | zero=>have:=h2 x rfl;simp [List.takeWhile,this]
   | succ j =>
     have hx:=h1 x (by simp)
     simp only [List.takeWhile,hx,List.take_succ_cons]
     rw [ih (by simpa using hj) (fun e he=>h1 e (by simp [he])) (fun e he=>h2 e (by simpa using he))]
theorem log_idx {cs : List Entry} (hok : ∀ c ∈ cs, okC c) : (idxI (fun y => decide (blank = y)) cs = -1 ∧ cs.takeWhile (fun c => decide (c.kind ≠ 4)) = cs) ∨
    ∃ i:Nat,i≤cs.length∧idxI (fun y=>decide (blank=y)) cs=i∧cs.takeWhile (fun c=>decide (c.kind≠4))=cs.take i:=by
 rcases idxI_cases (fun y=>decide (blank=y)) cs with ⟨h1,h2⟩ | ⟨i,x,h1,h2,h3,h4⟩
 · left
   refine ⟨h1,?_⟩
   rw [take_first (j:=cs.length) (Nat.le_refl _) (fun e he=>?_) (fun e he=>by rw [List.getElem?_eq_none (Nat.le_refl _)] at he;cases he),List.take_of_length_le (Nat.le_refl _)]
   obtain ⟨j,hj⟩:=List.mem_iff_getElem?.1 (List.mem_of_mem_take he)
   have hb:=h2 j e hj
   have hk:=(okC_kind (hok e (List.mem_of_mem_take he))).2.2
   simp only [decide_eq_false_iff_not] at hb
   simp only [decide_eq_true_eq]
   exact fun h=>hb (hk.1 h).symm
 · right
   have hi:=(List.getElem?_eq_some_iff.1 h2).1
   refine ⟨i,Nat.le_of_lt hi,h1,take_first (Nat.le_of_lt hi) (fun e he=>?_) (fun e he=>?_)⟩
   · obtain ⟨j,hj⟩:=List.mem_iff_getElem?.1 he
     rw [List.getElem?_take] at hj
     split at hj
     · rename_i hlt
       have hb:=h4 j e hlt hj
       have hk:=(okC_kind (hok e (List.mem_of_getElem? hj))).2.2
       simp only [decide_eq_false_iff_not] at hb
       simp only [decide_eq_true_eq]
       exact fun h=>hb (hk.1 h).symm
     · cases hj
   · rw [h2] at he
     injection he with he
     subst he
     have hb:blank=x:=by simpa using h3
     simp [← hb,blank]
set_option maxHeartbeats 4000000 in
set_option maxRecDepth 100000 in
theorem RLogOf_calls (A : Option Addr) (n c : Nat) (tip : Int) (C : Option Addr) (m d : Nat) (time : Int) (ns : List NV) (cs : List CV) (w : World) (R : WR w A n C m ns cs) (hg : GoodW (wor ns tip cs time)) :
    Calls Tryz.prog 11 #[.agg #[.slice A n c,.int .i64 tip,.slice C m d,.int .i64 time]] w fun e w'=>∃ B b y,e=.returned (.slice B b y)∧S w' 5 B b ((logOf (wor ns tip cs time)).map encE)∧b≤60∧Onto w w':=by
 have hnl:=R.nlen;have hcl:=R.clen
 obtain rfl:n=3:=by have:=hg.n3;simp [wor,nods] at this;omega
 obtain rfl:m=3:=by have:=hg.c3;simp [wor,clis] at this;omega
 obtain ⟨b0,off0,u,hA,hb0,hu,vi,a0,a1,a2,a3,a4⟩:=R.atN (i:=2) (by omega)
 subst hA
 have hun:u.n=60:=by
  have h1:=(hg.unitOk (k:=2) (by omega)).len
  rw [show nodAt (wor ns tip cs time).n 2=u.x from nodAt_ns hu] at h1
  have h2:=vi.cells.len
  simp at h2
  omega
 have hlog:logOf (wor ns tip cs time)=u.x.u.cells.takeWhile fun c=>decide (c.kind≠4):=by
  show ((nodAt (wor ns tip cs time).n 2).u.cells.takeWhile _)=_
  rw [show nodAt (wor ns tip cs time).n 2=u.x from nodAt_ns hu]
 have hok:∀ c∈u.x.u.cells,okC c:=by
  have:=(hg.unitOk (k:=2) (by omega)).ok
  rwa [show nodAt (wor ns tip cs time).n 2=u.x from nodAt_ns hu] at this
 have huc:60≤u.c:=by have:=vi.le;omega
 have hS:=vi.cells
 rw [hun] at hS a1
 have hlen:u.x.u.cells.length=60:=by have:=hS.len;simpa using this
 have HLOG:=Lib.hid hlog;have HOK:=Lib.hid hok;have HLEN:=Lib.hid hlen
 clear hnl hcl hlog hok hlen hu vi hun a0 a2 a3 a4 hb0 hg R
 go_enter Tryz.func11,Tryz.ntmps11
 go_upto_region 1 with fail
 refine wp_box1 (v1:=[.slice (some ⟨b0,off0,none⟩) 3 c,.int .i64 tip,.slice C 3 d,.int .i64 time]) rfl fun w1 on X=>?_
 replace a1:=cellB on a1;replace hS:=hS.onto on
 generalize w.heap.size=zx at X ⊢
 have x0:=X.at_ 0 rfl
 go_wp2_with fail
 refine Calls.mono (blank_calls _) ?_
 rintro e w2 ⟨rfl,b⟩
 replace on:=on.to b;replace hS:=hS.onto b
 clear b x0 a1 X
 go_wp2_with fail
 refine Calls.mono (IndexE_calls u.A 60 u.c u.x.u.cells blank _ hS (by omega)) ?_
 rintro e w3 ⟨rfl,b⟩
 replace on:=on.to b;replace hS:=hS.onto b
 clear b
 rcases log_idx HOK.out with ⟨h1,h2⟩ | ⟨i,h0,h1,h2⟩
 · rw [h1]
   have H2:=Lib.hid h2
   clear h1 h2
   go_wp2_with fail
   go_ret
   exact ⟨u.A,60,u.c,rfl,by rw [HLOG.out,H2.out];exact hS,Nat.le_refl _,on⟩
 · rw [h1]
   have hi:i≤60:=by rw [← HLEN.out];exact h0
   have H2:=Lib.hid h2
   have hrs:=run_slice_to (P:=Tryz.prog) (t:=26) u.A 60 u.c i Tryz.underlying26 (size:=5) (fun w=>by kernel_rfl) hi huc
   clear h1 h2 h0
   go_wp2_with fail
   go_ret
   exact ⟨u.A,i,u.c,rfl,by rw [HLOG.out,H2.out,List.map_take];exact Sl.take hS hi,hi,on⟩
end
section
open Go.RowKit
attribute [local go_sem ↓] Go.wp_at_zero Go.wp_at_succ
theorem infI:(Tryz.prog.info? 3).map (fun i=>(i.zero,i.size,i.bytes))=some (some (.int .i64 0),1,8):=by kernel_rfl
theorem tailG_eq:∀ (n:Nat) {cs:List Entry},cs.length=n→tailF cs=tailU cs
 | 0,cs,h=>by cases cs with | nil=>rfl | cons x l=>simp at h
 | n+1,cs,h=>by
   rcases List.eq_nil_or_concat cs with rfl | ⟨ds,c,rfl⟩
   · simp at h
   · have h9:=tailG_eq n (cs:=ds) (by simpa using h)
     simp only [List.concat_eq_append] at *
     rw [tailU_snoc,← h9]
     unfold tailF
     rw [tailG_snoc]
     by_cases h4:c.kind=4 <;> simp [h4]
set_option maxHeartbeats 8000000 in
set_option maxRecDepth 100000 in
theorem RHolesOf_calls (A : Option Addr) (n c : Nat) (tip : Int) (C : Option Addr) (m d : Nat) (time : Int) (ns : List NV) (cs : List CV) (w : World) (R : WR w A n C m ns cs) (hg : GoodW (wor ns tip cs time)) :
    Calls Tryz.prog 14 #[.agg #[.slice A n c,.int .i64 tip,.slice C m d,.int .i64 time]] w fun e w'=>∃ B b y,e=.returned (.slice B b y)∧S w' 1 B b ((holesOf (wor ns tip cs time)).map fun k:Nat=>encI k)∧b≤60∧Onto w w':=by
 have hnl:=R.nlen;have hcl:=R.clen
 obtain rfl:n=3:=by have:=hg.n3;simp [wor,nods] at this;omega
 obtain rfl:m=3:=by have:=hg.c3;simp [wor,clis] at this;omega
 obtain ⟨b0,off0,u,hA,hb0,hu,vi,a0,a1,a2,a3,a4⟩:=R.atN (i:=2) (by omega)
 obtain ⟨b0',off0',u0,hA',hb0',hu0,vi0,f0,f1,f2,f3,f4⟩:=R.atN (i:=0) (by omega)
 subst hA
 injection hA' with hA'
 injection hA' with h1 h2
 subst h1 h2
 have hun:u.n=60:=by
  have h1:=(hg.unitOk (k:=2) (by omega)).len
  rw [show nodAt (wor ns tip cs time).n 2=u.x from nodAt_ns hu] at h1
  have h2:=vi.cells.len
  simp at h2
  omega
 have hun0:u0.n=60:=by
  have h1:=(hg.unitOk (k:=0) (by omega)).len
  rw [show nodAt (wor ns tip cs time).n 0=u0.x from nodAt_ns hu0] at h1
  have h2:=vi0.cells.len
  simp at h2
  omega
 have hhol:holesOf (wor ns tip cs time)=(List.range (tailU u0.x.u.cells)).filter fun k=>decide ((cellAt u.x.u.cells k).kind=4):=by
  show (List.range (tailU (nodAt (wor ns tip cs time).n 0).u.cells)).filter (fun k=>decide ((cellAt (nodAt (wor ns tip cs time).n 2).u.cells k).kind=4))=_
  rw [show nodAt (wor ns tip cs time).n 2=u.x from nodAt_ns hu,show nodAt (wor ns tip cs time).n 0=u0.x from nodAt_ns hu0]
 have hok:∀ c∈u.x.u.cells,okC c:=by
  have:=(hg.unitOk (k:=2) (by omega)).ok
  rwa [show nodAt (wor ns tip cs time).n 2=u.x from nodAt_ns hu] at this
 have f0:w.cell? ⟨b0,off0,none⟩=some (.int .i64 u0.x.u.ep):=by simpa using f0
 have f1:w.cell? ⟨b0,off0+1,none⟩=some (.slice u0.A u0.n u0.c):=by simpa using f1
 have hS:=vi.cells
 have hS0:=vi0.cells
 rw [hun] at hS a1
 rw [hun0] at hS0 f1
 have hlen:u0.x.u.cells.length=60:=by have:=hS0.len;simpa using this
 obtain ⟨te,hte⟩:∃ te,te=tailU u0.x.u.cells:=⟨_,rfl⟩
 have hte3:te≤60:=by rw [hte,← hlen];exact tail_le
 rw [← hte] at hhol
 have HHOL:=Lib.hid hhol;have HOK:=Lib.hid hok;have HTE:=Lib.hid hte
 clear hhol hlen hu vi hun a0 a2 a3 a4 hu0 vi0 hun0 f2 f3 f4 hb0 hb0' hg R hnl hcl hok hte
 go_enter Tryz.func14,Tryz.ntmps14
 go_upto_region 1 with fail
 refine wp_box1 (v1:=[.slice (some ⟨b0,off0,none⟩) 3 c,.int .i64 tip,.slice C 3 d,.int .i64 time]) rfl fun w1 on X=>?_
 replace a1:=cellB on a1;replace f0:=cellB on f0;replace f1:=cellB on f1;replace hS:=hS.onto on;replace hS0:=hS0.onto on
 generalize w.heap.size=zx at X ⊢
 have x0:=X.at_ 0 rfl
 go_wp2_with fail
 refine Calls.mono (RTail_calls u0.x.u.ep u0.A 60 u0.c u0.x.u.cells _ hS0 (by omega)) ?_
 rw [tailG_eq _ rfl,← HTE.out]
 rintro e w6 ⟨rfl,ob⟩
 replace on:=on.to ob;replace a1:=cellB ob a1;replace hS:=hS.onto ob;replace X:=X.onto ob
 clear ob x0 f0 f1 hS0
 go_wp2_with fail
 go_loopg [3,4,11] te (fun g s3 s4 s11 wr=>∃ (j yc k:Nat) (B:Option Addr),j≤te∧te - j≤g∧s11=.int .i64 j∧s3=.slice B k yc∧k≤j∧Hid (Own wr w6.heap.size 3 1 (.slice B k yc) k (((List.range j).filter fun k=>decide ((cellAt u.x.u.cells k).kind=4)).map fun k:Nat=>encI k))∧Onto w6 wr)
 case atStart=>exact ⟨0,0,0,none,by omega,by omega,rfl,rfl,by omega,Own.nil _ _ _ _,Onto.rfl' _⟩
 case round =>
  obtain ⟨j,yc,k,B,hj,hg,rfl,rfl,hkj,HO,bw⟩:=hrel
  by_cases hlt:j<te
  · have hk3:(j:Int)<te:=by omega
    have hj6:(j:Int)<60:=by omega
    have hj6':j<60:=by omega
    obtain ⟨bc,oc,e,hA0,hbc,he,d0,d1,d2,d3,d4⟩:=(hS.onto bw).atE hj6'
    have hce:cellAt u.x.u.cells j=e:=by simp [cellAt,he]
    have hoe:=(okC_kind (HOK.out e (List.mem_of_getElem? he))).2.2
    have a1':=cellB bw a1
    rw [hA0] at a1'
    have x0:=(X.onto bw).at_ 0 rfl
    have ox0:=onto_cell x0;have oa1:=onto_cell a1';have od0:=onto_cell d0;have od1:=onto_cell d1;have od2:=onto_cell d2;have od3:=onto_cell d3;have od4:=onto_cell d4
    clear he hA0 hbc x0 a1' d0 d1 d2 d3 d4
    by_cases h4:e.kind=4
    · have hev:∀ w,(binOp .eql 46 (.agg #[.int .i64 e.kind,.int .i64 e.job,.int .i64 e.every,.int .i64 e.time,.int .i64 e.client]) (.agg #[.int .i64 4,.int .i64 0,.int .i64 0,.int .i64 0,.int .i64 0])).run Tryz.prog w=.ok (.bool true) w:=fun w=>by
       have:=eqlX e blank w
       rw [show decide (e=blank)=true from decide_eq_true (hoe.1 h4)] at this
       exact this
      have hfl:((List.range (j+1)).filter fun k=>decide ((cellAt u.x.u.cells k).kind=4)).map (fun k:Nat=>encI k)=((List.range j).filter fun k=>decide ((cellAt u.x.u.cells k).kind=4)).map (fun k:Nat=>encI k) ++[encI (j:Int)]:=by
       rw [List.range_succ,List.filter_append,List.map_append]
       simp [hce,h4]
      have HFL:=Lib.hid hfl
      clear hfl h4 hce hoe
      go_upto_region 5 with fail
      refine wp_region_onto (by kernel_rfl) (by kernel_rfl) ?_
      repeat (go_big_quiet_step ((go_at_call 35;exact calls_onto' (u:=(.agg #[.int .i64 4,.int .i64 0,.int .i64 0,.int .i64 0,.int .i64 0])) (blank_calls _) rfl)))
      refine wpQuiet_nil ?_
      intro w8 ob
      clear ox0 oa1 od0 od1 od2 od3 od4 hev
      replace bw:=bw.to ob
      replace HO:=Lib.hid (HO.out.below ob)
      clear ob
      obtain ⟨i0,hi0,hzz0,hzz1,hzz2⟩:=info_parts infI
      have HI0:=Lib.hid hi0;have HZ0:=Lib.hid hzz0;have HZ1:=Lib.hid hzz1;have HZ2:=Lib.hid hzz2
      clear hi0 hzz0 hzz1 hzz2
      have hnew:Sl (w8.alloc (Obj.cells #[.int .i64 j] 3)) (w8.heap.size+1) 1 (some ⟨w8.heap.size,0,none⟩) 1 [encI j]:=by
       have:=Sl.block (w:=w8.alloc (Obj.cells #[.int .i64 j] 3)) (k:=1) [encI j] (heap_alloc_new w8 _) (by simp [encI]) rfl
       simpa using this
      have HNEW:=Lib.hid hnew
      have hbw:=bw.size
      clear hnew
      go_wp2_with (at_builtin;refine wpList_append_sl _ rfl _ _ 36 rfl w6.heap.size 3 i0 _ 1 8 Tryz.underlying36 HI0.out HZ0.out HZ1.out HZ2.out rfl (by decide) (.slice B k yc) k (((List.range j).filter fun k=>decide ((cellAt u.x.u.cells k).kind=4)).map fun k:Nat=>encI k) (by rfl) (HO.out.alloc _) (w8.heap.size+1) (some ⟨w8.heap.size,0,none⟩) 1 1 [encI j] (by rfl) HNEW.out (by simp [encI,Value.oneCell']) (by unfold maxLen;omega) (by omega) (by simp;omega) ?_)
      intro v8 wa own8 grow8 hv8
      obtain ⟨A8,c8,rfl,_,_⟩:=own8.slice
      have ona:=(Onto.rfl' w8).new (Obj.cells #[.int .i64 j] 3)
      have bw3:Onto w6 wa:=below_grown (bw.to ona) (bw.to ona).size grow8 (fun g hg=>by have:=(HO.out.1.lt g hg).1;omega)
      have HOa:Hid (Own wa w6.heap.size 3 1 (.slice A8 (k+1) c8) (k+1) (((List.range (j+1)).filter fun k=>decide ((cellAt u.x.u.cells k).kind=4)).map fun k:Nat=>encI k)):=Lib.hid (by rw [HFL.out];exact own8)
      clear own8 grow8 hv8 HO HNEW HI0 HZ0 HZ1 HZ2 ona bw HFL
      go_wp2_with fail
      go_roundg (te - (j+1))
      case measure=>omega
      case rel=>exact ⟨j+1,c8,k+1,A8,by omega,Nat.le_refl _,by go_num,rfl,by omega,HOa,bw3⟩
    · have hev:∀ w,(binOp .eql 46 (.agg #[.int .i64 e.kind,.int .i64 e.job,.int .i64 e.every,.int .i64 e.time,.int .i64 e.client]) (.agg #[.int .i64 4,.int .i64 0,.int .i64 0,.int .i64 0,.int .i64 0])).run Tryz.prog w=.ok (.bool false) w:=fun w=>by
       have:=eqlX e blank w
       rw [show decide (e=blank)=false from decide_eq_false (fun h=>h4 (hoe.2 h))] at this
       exact this
      have hfl:((List.range (j+1)).filter fun k=>decide ((cellAt u.x.u.cells k).kind=4))=((List.range j).filter fun k=>decide ((cellAt u.x.u.cells k).kind=4)):=by
       rw [List.range_succ,List.filter_append]
       simp [hce,h4]
      go_upto_region 5 with fail
      refine wp_region_onto (by kernel_rfl) (by kernel_rfl) ?_
      repeat (go_big_quiet_step ((go_at_call 35;exact calls_onto' (u:=(.agg #[.int .i64 4,.int .i64 0,.int .i64 0,.int .i64 0,.int .i64 0])) (blank_calls _) rfl)))
      refine wpQuiet_nil ?_
      intro w8 ob
      clear ox0 oa1 od0 od1 od2 od3 od4 hev
      have HOa:Hid (Own w8 w6.heap.size 3 1 (.slice B k yc) k (((List.range (j+1)).filter fun k=>decide ((cellAt u.x.u.cells k).kind=4)).map fun k:Nat=>encI k)):=Lib.hid (by rw [hfl];exact HO.out.below ob)
      replace bw:=bw.to ob
      clear hfl h4 hce HO ob hoe
      go_wp2_with fail
      go_roundg (te - (j+1))
      case measure=>omega
      case rel=>exact ⟨j+1,yc,k,B,by omega,Nat.le_refl _,by go_num,rfl,by omega,HOa,bw⟩
  · obtain rfl:j=te:=by omega
    go_wp2_with fail
    go_ret
    exact ⟨B,k,yc,rfl,by rw [HHOL.out];exact HO.out.sl,by omega,on.to bw⟩
end
end Go.Proofs.YtidlffepdcldkaaGreatDoor
