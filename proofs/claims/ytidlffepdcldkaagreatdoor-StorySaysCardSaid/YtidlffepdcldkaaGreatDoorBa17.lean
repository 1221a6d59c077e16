/- Part 17 of the proof: ClB, Link, ReadC, USame. -/
import Derived.Test.YtidlffepdcldkaaGreatDoorBa14
import Derived.Test.YtidlffepdcldkaaGreatDoorBa16
import Derived.Test.YtidlffepdcldkaaGreatDoorBa06
import Derived.Test.YtidlffepdcldkaaGreatDoorBa13
import Derived.Test.YtidlffepdcldkaaGreatDoorBa02
import Derived.Test.YtidlffepdcldkaaGreatDoorBa09
namespace Go.Proofs.YtidlffepdcldkaaGreatDoor
set_option linter.unusedSimpArgs false
set_option linter.unusedVariables false
section
open Go.RowKit
theorem sizeC12:(Tryz.prog.info? 66).map (·.size)=some 12:=by kernel_rfl
abbrev cL (ep dg k j v t c at_ ln pl:Int) (A:Option Addr) (n y:Nat) (A':Option Addr) (m d:Nat):List Value:=[.int .i64 ep,.int .i64 dg,.int .i64 k,.int .i64 j,.int .i64 v,.int .i64 t,.int .i64 c,.int .i64 at_,.int .i64 ln,.int .i64 pl,.slice A n y,.slice A' m d]
abbrev zC:List Value:=cL 0 0 0 0 0 0 0 0 0 0 none 0 0 none 0 0
theorem res_cl {fn : Func} {ts : Array Value} {w : World} {z i j : Nat} {v : Value} {ep dg k jj vv t c at_ ln pl : Int} {A : Option Addr} {n y : Nat} {A' : Option Addr} {m d : Nat} (hr : fn.results = #[.cell i 66, .tmp j])
    (h1:ts[i]?=some (.pointer (some ⟨z,0,none⟩))) (h2:ts[j]?=some v) (B:Bx w z (cL ep dg k jj vv t c at_ ln pl A n y A' m d)):(results fn ts).run Tryz.prog w=.ok (.tuple #[.agg (cL ep dg k jj vv t c at_ ln pl A n y A' m d).toArray,v]) w:=by
 have z0:=B.at_ 0 rfl;have z1:=B.at_ 1 rfl;have z2:=B.at_ 2 rfl;have z3:=B.at_ 3 rfl;have z4:=B.at_ 4 rfl;have z5:=B.at_ 5 rfl;have z6:=B.at_ 6 rfl;have z7:=B.at_ 7 rfl;have z8:=B.at_ 8 rfl;have z9:=B.at_ 9 rfl;have z10:=B.at_ 10 rfl;have z11:=B.at_ 11 rfl
 simp [results,hr,h1,h2,go_sem,z0,z1,z2,z3,z4,z5,z6,z7,z8,z9,z10,z11]
def ClPost (w:World) (c:Cli) (err:Int) (e:Ending) (w':World):Prop :=
 ∃ A n k A' m d,e=.returned (.tuple #[.agg #[.int .i64 c.epoch,.int .i64 c.doing,.int .i64 c.e.kind,.int .i64 c.e.job,.int .i64 c.e.every,.int .i64 c.e.time,.int .i64 c.e.client,.int .i64 c.at_,.int .i64 c.link,.int .i64 c.played,.slice A n k,.slice A' m d],.int .i64 err]) ∧
  S w' 3 A n (c.b.jobs.map encJ)∧S w' 3 A' m (c.b.rung.map encR)∧Onto w w'∧n≤k∧m≤d∧Fresh w.heap.size A∧Fresh w.heap.size A'
theorem ClPost.bad {w w':World} {r:Cli × Int} {err:Int} (hr:r=(zeroCl,err)) (on:Onto w w'):ClPost w r.1 r.2 (.returned (.tuple #[.agg zC.toArray,.int .i64 err])) w':=by
 subst hr
 exact ⟨none,0,0,none,0,0,rfl,Sl.nil,Sl.nil,on,Nat.le_refl _,Nat.le_refl _,Fresh.none_ _,Fresh.none_ _⟩
end
section
open Go.RowKit
def LPost (w:World) (r:Rec × Entry × Int) (e:Ending) (w':World):Prop:=e=.returned (.tuple #[.agg #[.int .i64 r.1.kind,.int .i64 r.1.at_,.int .i64 r.1.epoch,.int .i64 r.1.e.kind,.int .i64 r.1.e.job,.int .i64 r.1.e.every,.int .i64 r.1.e.time,.int .i64 r.1.e.client],.agg #[.int .i64 r.2.1.kind,.int .i64 r.2.1.job,.int .i64 r.2.1.every,.int .i64 r.2.1.time,.int .i64 r.2.1.client],.int .i64 r.2.2])∧Onto w w'
theorem sizeR8:(Tryz.prog.info? 96).map (·.size)=some 8:=by kernel_rfl
theorem sizeE5:(Tryz.prog.info? 46).map (·.size)=some 5:=by kernel_rfl
abbrev cR (k a e kd j v t c:Int):List Value:=[.int .i64 k,.int .i64 a,.int .i64 e,.int .i64 kd,.int .i64 j,.int .i64 v,.int .i64 t,.int .i64 c]
abbrev cE (kd j v t c:Int):List Value:=[.int .i64 kd,.int .i64 j,.int .i64 v,.int .i64 t,.int .i64 c]
abbrev z8:List Value:=cR 0 0 0 0 0 0 0 0
abbrev z5:List Value:=cE 0 0 0 0 0
theorem wpList_zz {ops : Array Oper} {rest : List Oper} {op op' : Oper} {a : Act} {Q : Exit → Act → World → Prop} {w : World} {z z' : Nat} {x y x' y' : Operand} (R : Bx w z z8) (Y : Bx w z' z5) (ne : z ≠ z') (hgd : op.guard = none) (ho : op.op = .store 96 x y) (hx : a.eval x = .pointer (some ⟨z, 0, none⟩)) (hy : a.eval y = .agg z8.toArray)
    (hgd':op'.guard=none) (ho':op'.op=.store 46 x' y') (hx':(a.put op.dst undef).eval x'=.pointer (some ⟨z',0,none⟩)) (hy':(a.put op.dst undef).eval y'=.agg z5.toArray)
    (h:wpList Tryz.prog ops Q rest ((a.put op.dst undef).put op'.dst undef) ((w.setCells z 0 z8).setCells z' 0 z5)):wpList Tryz.prog ops Q (op ::op' ::rest) a w :=
 wpList_put R z8 96 x y hgd ho hx hy rfl sizeR8 rfl (wpList_put (Y.off (Ne.symm ne)) z5 46 x' y' hgd' ho' hx' hy' rfl sizeE5 rfl h)
theorem link_res {ts : Array Value} {w : World} {p q : Nat} {err : Int} {k a e kd j v t c kd' j' v' t' c' : Int} (h1 : ts[10]? = some (.pointer (some ⟨p, 0, none⟩))) (h2 : ts[11]? = some (.pointer (some ⟨q, 0, none⟩))) (h3 : ts[12]? = some (.int .i64 err)) (B : Bx w p (cR k a e kd j v t c)) (B' : Bx w q (cE kd' j' v' t' c')) :
    (results Tryz.f122 ts).run Tryz.prog w=.ok (.tuple #[.agg (cR k a e kd j v t c).toArray,.agg (cE kd' j' v' t' c').toArray,.int .i64 err]) w:=by
 have z0:=B.at_ 0 rfl;have z1:=B.at_ 1 rfl;have z2:=B.at_ 2 rfl;have z3:=B.at_ 3 rfl;have z4:=B.at_ 4 rfl;have z5:=B.at_ 5 rfl;have z6:=B.at_ 6 rfl;have z7:=B.at_ 7 rfl
 have y0:=B'.at_ 0 rfl;have y1:=B'.at_ 1 rfl;have y2:=B'.at_ 2 rfl;have y3:=B'.at_ 3 rfl;have y4:=B'.at_ 4 rfl
 simp [results,Tryz.results122,h1,h2,h3,go_sem,z0,z1,z2,z3,z4,z5,z6,z7,y0,y1,y2,y3,y4]
theorem link_end {w w4 W : World} {p q : Nat} {r : Rec × Entry × Int} {ts : Array Value} {k a e kd j v t c kd' j' v' t' c' err : Int} {o1 o2 : List Value} (hW : W = (w4.setCells p 0 (cR k a e kd j v t c)).setCells q 0 (cE kd' j' v' t' c')) (R : Bx w4 p o1) (Y : Bx w4 q o2) (l1 : o1.length = 8) (l2 : o2.length = 5) (ne : p ≠ q)
    (on:Onto w w4) (hp:w.heap.size≤p) (hq:w.heap.size≤q) (hr:r=(⟨k,a,e,⟨kd,j,v,t,c⟩⟩,⟨kd',j',v',t',c'⟩,err)) (h1:ts[10]?=some (.pointer (some ⟨p,0,none⟩))) (h2:ts[11]?=some (.pointer (some ⟨q,0,none⟩))) (h3:ts[12]?=some (.int .i64 err)):bodyPost Tryz.prog Tryz.f122 (LPost w r) .ret ⟨ts,[]⟩ W:=by
 subst hW hr
 exact bodyPost_ret (link_res h1 h2 h3 ((R.put (by rw [l1];rfl)).off ne) ((Y.off (Ne.symm ne)).put (by rw [l2];rfl))) rfl ⟨rfl,put_onto hq (put_onto hp on)⟩
theorem link_endD {w w4 W : World} {p q : Nat} {r : Rec × Entry × Int} {ts : Array Value} {k a e kd j v t c kd' j' v' t' c' err : Int} {o1 o2 : List Value} (hW : W = ((w4.setCells p 0 (cR k a e kd j v t c)).setCells q 0 (cE kd' j' v' t' c')).drew) (R : Bx w4 p o1) (Y : Bx w4 q o2) (l1 : o1.length = 8) (l2 : o2.length = 5) (ne : p ≠ q)
    (on:Onto w w4) (hp:w.heap.size≤p) (hq:w.heap.size≤q) (hr:r=(⟨k,a,e,⟨kd,j,v,t,c⟩⟩,⟨kd',j',v',t',c'⟩,err)) (h1:ts[10]?=some (.pointer (some ⟨p,0,none⟩))) (h2:ts[11]?=some (.pointer (some ⟨q,0,none⟩))) (h3:ts[12]?=some (.int .i64 err)):bodyPost Tryz.prog Tryz.f122 (LPost w r) .ret ⟨ts,[]⟩ W:=by
 subst hW hr
 exact bodyPost_ret (link_res h1 h2 h3 ((R.put (by rw [l1];rfl)).off ne).draw ((Y.off (Ne.symm ne)).put (by rw [l2];rfl)).draw) rfl ⟨rfl,(put_onto hq (put_onto hp on)).draw⟩
set_option maxHeartbeats 8000000 in
set_option maxRecDepth 100000 in
theorem Link_calls (A : Option Addr) (n c : Nat) (l : List UV) (k a : Int) (x : Entry) (ep : Int) (w : World) (h : Us w A n l) :
    Calls Tryz.prog 122 #[.slice A n c,.int .i64 k,.int .i64 a,.agg #[.int .i64 x.kind,.int .i64 x.job,.int .i64 x.every,.int .i64 x.time,.int .i64 x.client],.int .i64 ep] w (LPost w (linkC (unis l) k a x ep)):=by
 obtain ⟨q,hq⟩:∃ q,q=checkC (unis l):=⟨_,rfl⟩
 obtain ⟨q2,hq2⟩:∃ q2,q2=checkE x:=⟨_,rfl⟩
 obtain ⟨r,hr⟩:∃ r,r=linkC (unis l) k a x ep:=⟨_,rfl⟩
 rw [← hr]
 unfold linkC at hr
 rw [← hq,← hq2] at hr
 have HQ:=Lib.hid hq;have HQ2:=Lib.hid hq2;have HR0:=Lib.hid hr
 clear hq hq2 hr
 go_enter Tryz.func122,Tryz.ntmps122
 go_upto_region 1 with fail
 refine wp_box3 (v1:=cE x.kind x.job x.every x.time x.client) (v2:=z8) (v3:=z5) rfl rfl rfl fun w0 on X R Y=>?_
 replace h:=h.onto on
 generalize hz:w.heap.size=z at X R Y ⊢
 have hne:=neqE
 go_wp2_with fail
 refine Calls.mono (CCheck_calls A n c l _ h) ?_
 rw [← HQ.out]
 rintro e w1 ⟨rfl,b1⟩
 replace on:=on.to b1;replace X:=X.onto b1;replace R:=R.onto b1;replace Y:=Y.onto b1;replace h:=h.onto b1
 clear b1
 by_cases h0:q=0
 · have hg:=checkC_iff.1 (HQ.out.symm.trans h0)
   have hn:n=3:=by rw [← h.len,← List.length_map (f:=UV.u)];exact hg.len
   subst h0;subst hn
   have HG:=Lib.hid hg
   have hr:=HR0.out
   rw [if_neg (by simp)] at hr
   by_cases hbad:k<0∨3≤k∨a<0∨60≤a
   · rw [if_pos hbad] at hr
     have HR:=Lib.hid hr
     clear hr HR0 hg
     by_cases hb1:k<0
     · clear hbad
       go_wp2_with (refine wpList_zz R Y (by omega) (by rfl) (by rfl) (by rfl) (by rfl) (by rfl) (by rfl) (by rfl) (by rfl) ?_)
       exact link_end rfl R Y rfl rfl (by omega) on (by omega) (by omega) HR.out rfl rfl rfl
     · by_cases hb2:3≤k
       · clear hbad
         go_wp2_with (refine wpList_zz R Y (by omega) (by rfl) (by rfl) (by rfl) (by rfl) (by rfl) (by rfl) (by rfl) (by rfl) ?_)
         exact link_end rfl R Y rfl rfl (by omega) on (by omega) (by omega) HR.out rfl rfl rfl
       · by_cases hb3:a<0
         · clear hbad
           go_wp2_with (refine wpList_zz R Y (by omega) (by rfl) (by rfl) (by rfl) (by rfl) (by rfl) (by rfl) (by rfl) (by rfl) ?_)
           exact link_end rfl R Y rfl rfl (by omega) on (by omega) (by omega) HR.out rfl rfl rfl
         · have hb4:60≤a:=by omega
           clear hbad
           go_wp2_with (refine wpList_zz R Y (by omega) (by rfl) (by rfl) (by rfl) (by rfl) (by rfl) (by rfl) (by rfl) (by rfl) ?_)
           exact link_end rfl R Y rfl rfl (by omega) on (by omega) (by omega) HR.out rfl rfl rfl
   · rw [if_neg hbad] at hr
     obtain ⟨j,rfl⟩:∃ j:Nat,a=j:=⟨a.toNat,by omega⟩
     obtain ⟨i,rfl⟩:∃ i:Nat,k=i:=⟨k.toNat,by omega⟩
     have hi3:i<3:=by omega
     have hj60:j<60:=by omega
     have hn1:¬ (i:Int)<0:=by omega
     have hn2:¬ (3:Int)≤(i:Int):=by omega
     have hn3:¬ (j:Int)<0:=by omega
     have hn4:¬ (60:Int)≤(j:Int):=by omega
     have HR1:=Lib.hid hr
     clear hr hbad HR0 hg
     have x0:=X.at_ 0 rfl;have x1:=X.at_ 1 rfl;have x2:=X.at_ 2 rfl;have x3:=X.at_ 3 rfl;have x4:=X.at_ 4 rfl
     go_wp2_with fail
     refine Calls.mono (Check_calls x.kind x.job x.every x.time x.client _) ?_
     rw [show checkE ⟨x.kind,x.job,x.every,x.time,x.client⟩=q2 from HQ2.out.symm]
     rintro e w2 ⟨rfl,b2⟩
     clear x0 x1 x2 x3 x4
     replace b2:Onto w1 w2:=b2
     replace on:=on.to b2;replace X:=X.onto b2;replace R:=R.onto b2;replace Y:=Y.onto b2;replace h:=h.onto b2
     clear b2
     have hr:=HR1.out
     by_cases h20:q2=0
     · subst h20
       rw [if_neg (by simp)] at hr
       obtain ⟨b,off,u,rfl,hbz,hu,e0,e1,hs,hul⟩:=h.atU hi3
       have hgu:=HG.out.ok u.u (List.mem_map.2 ⟨u,List.mem_of_getElem? hu,rfl⟩)
       have hun:u.n=60:=by rw [← hul];exact hgu.len
       rw [Int.toNat_natCast,Int.toNat_natCast,uniAt_eq (unis_at hu)] at hr
       simp only [show u.u.ep=u.ep from rfl,show u.u.cells=u.cells from rfl] at hr
       rw [hun] at hs e1
       by_cases hep:ep≠u.ep
       · rw [if_pos hep] at hr
         have HR:=Lib.hid hr
         have hd:(ep !=u.ep)=true:=by simpa using hep
         clear hr HR1 hep hs hgu e1
         go_wp2_with (refine wpList_zz R Y (by omega) (by rfl) (by rfl) (by rfl) (by rfl) (by rfl) (by rfl) (by rfl) (by rfl) ?_)
         exact link_end rfl R Y rfl rfl (by omega) on (by omega) (by omega) HR.out rfl rfl rfl
       · rw [if_neg hep] at hr
         have hep':ep=u.ep:=by omega
         subst hep'
         have HR1:=Lib.hid hr
         clear hr hep hgu
         obtain ⟨b1,off1,y,hA1,hyz,hy,d0,d1,d2,d3,d4⟩:=hs.atE hj60
         rw [hA1] at e1
         have hj60':(j:Int)<60:=by omega
         have hi3':(i:Int)<3:=by omega
         have hr:=HR1.out
         rw [cellAt_eq hy] at hr
         clear hy HR1 hu
         rcases Nat.eq_zero_or_pos i with rfl | hpos
         · rw [if_neg (by omega)] at hr
           have HR1:=Lib.hid hr
           clear hr
           simp only [Nat.zero_mul,Nat.add_zero] at e0 e1
           have x0:=X.at_ 0 rfl;have x1:=X.at_ 1 rfl;have x2:=X.at_ 2 rfl;have x3:=X.at_ 3 rfl;have x4:=X.at_ 4 rfl
           go_wp2_with fail
           go_quiet (fail)
           obtain ⟨w3,hw3⟩:∃ w3,w3=w2.drewN nq:=⟨_,rfl⟩
           rw [← hw3]
           have b3:Onto w2 w3:=hw3 ▸ Onto.draws (Below.refl _ _) nq
           clear hw3
           replace e0:=cellB b3 e0;replace e1:=cellB b3 e1;replace d0:=cellB b3 d0;replace d1:=cellB b3 d1;replace d2:=cellB b3 d2;replace d3:=cellB b3 d3;replace d4:=cellB b3 d4
           clear x0 x1 x2 x3 x4
           clear hs h
           replace on:=on.to b3;replace X:=X.onto b3;replace R:=R.onto b3;replace Y:=Y.onto b3
           clear b3
           go_upto_region 14 with fail
           refine wp_box1 (v1:=cE y.kind y.job y.every y.time y.client) rfl fun w4 ob V=>?_
           generalize hv:w3.heap.size=zv at V ⊢
           have hxl:=X.lt;have hrl:=R.lt;have hyl:=Y.lt
           clear e0 e1 d0 d1 d2 d3 d4
           replace on:=on.to ob;replace X:=X.onto ob;replace R:=R.onto ob;replace Y:=Y.onto ob
           clear ob
           have v0:=V.at_ 0 rfl;have v1:=V.at_ 1 rfl;have v2:=V.at_ 2 rfl;have v3:=V.at_ 3 rfl;have v4:=V.at_ 4 rfl
           have HR2:=HR1.out
           clear HR1
           by_cases h4:y.kind≠4
           · rw [if_pos h4] at HR2
             have HR:=Lib.hid HR2
             have hd:(y.kind !=4)=true:=by simpa using h4
             clear HR2 h4
             have r0:=R.at_ 0 rfl;have s0:=R.froz 0;have r1:=R.at_ 1 rfl;have s1:=R.froz 1;have r2:=R.at_ 2 rfl;have s2:=R.froz 2;have r3:=R.at_ 3 rfl;have s3:=R.froz 3;have r4:=R.at_ 4 rfl;have s4:=R.froz 4;have r5:=R.at_ 5 rfl;have s5:=R.froz 5;have r6:=R.at_ 6 rfl;have s6:=R.froz 6;have r7:=R.at_ 7 rfl;have s7:=R.froz 7;have y0:=Y.at_ 0 rfl;have t0:=Y.froz 0;have y1:=Y.at_ 1 rfl;have t1:=Y.froz 1;have y2:=Y.at_ 2 rfl;have t2:=Y.froz 2;have y3:=Y.at_ 3 rfl;have t3:=Y.froz 3;have y4:=Y.at_ 4 rfl;have t4:=Y.froz 4
             go_upto_region 15 with fail
             go_region
             all_goals
              go_wp2_with fail
              exact link_endD (k:=0) (a:=0) (e:=0) (kd:=0) (j:=0) (v:=0) (t:=0) (c:=0) (kd':=y.kind) (j':=y.job) (v':=y.every) (t':=y.time) (c':=y.client) (w4:=w4) rfl R Y rfl rfl (by omega) on (by omega) (by omega) HR.out rfl rfl rfl
           · rw [if_neg h4] at HR2
             have HR:=Lib.hid HR2
             have hd:(y.kind !=4)=false:=by simpa using h4
             clear HR2 h4
             have r0:=R.at_ 0 rfl;have s0:=R.froz 0;have r1:=R.at_ 1 rfl;have s1:=R.froz 1;have r2:=R.at_ 2 rfl;have s2:=R.froz 2;have r3:=R.at_ 3 rfl;have s3:=R.froz 3;have r4:=R.at_ 4 rfl;have s4:=R.froz 4;have r5:=R.at_ 5 rfl;have s5:=R.froz 5;have r6:=R.at_ 6 rfl;have s6:=R.froz 6;have r7:=R.at_ 7 rfl;have s7:=R.froz 7;have y0:=Y.at_ 0 rfl;have t0:=Y.froz 0;have y1:=Y.at_ 1 rfl;have t1:=Y.froz 1;have y2:=Y.at_ 2 rfl;have t2:=Y.froz 2;have y3:=Y.at_ 3 rfl;have t3:=Y.froz 3;have y4:=Y.at_ 4 rfl;have t4:=Y.froz 4
             have x0:=X.at_ 0 rfl;have x1:=X.at_ 1 rfl;have x2:=X.at_ 2 rfl;have x3:=X.at_ 3 rfl;have x4:=X.at_ 4 rfl
             go_upto_region 16 with fail
             go_region
             all_goals
              go_wp2_with fail
              exact link_endD (k:=1) (a:=j) (e:=0) (kd:=x.kind) (j:=x.job) (v:=x.every) (t:=x.time) (c:=x.client) (kd':=x.kind) (j':=x.job) (v':=x.every) (t':=x.time) (c':=x.client) (w4:=w4) rfl R Y rfl rfl (by omega) on (by omega) (by omega) HR.out rfl rfl rfl
         · obtain ⟨b',off',v,hA',_,hv,g0,g1,hsv,hvl⟩:=h.atU (i:=i - 1) (by omega)
           injection hA' with hA'
           injection hA' with e1' e2' _
           subst e1';subst e2'
           have hgv:=HG.out.ok v.u (List.mem_map.2 ⟨v,List.mem_of_getElem? hv,rfl⟩)
           have hvn:v.n=60:=by rw [← hvl];exact hgv.len
           rw [hvn] at hsv g1
           obtain ⟨b2,off2,y',hA2,hyz',hy',f0,f1,f2,f3,f4⟩:=hsv.atE hj60
           rw [hA2] at g1
           rw [uniAt_eq (unis_at hv),show cellAt v.u.cells j=y' from cellAt_eq hy'] at hr
           have hpos':(0:Int)<(i:Int):=by omega
           clear hsv hv hy' hgv hA1 hA2
           by_cases hyx:y'=x
           · have hd2:(!(y'.kind ==x.kind && y'.job ==x.job && y'.every ==x.every && y'.time ==x.time && y'.client ==x.client))=false:=by simp [hyx]
             rw [if_neg (by simp [hyx])] at hr
             have HR1:=Lib.hid hr
             clear hr hyx
             have x0:=X.at_ 0 rfl;have x1:=X.at_ 1 rfl;have x2:=X.at_ 2 rfl;have x3:=X.at_ 3 rfl;have x4:=X.at_ 4 rfl
             go_wp2_with fail
             go_quiet (fail)
             obtain ⟨w3,hw3⟩:∃ w3,w3=w2.drewN nq:=⟨_,rfl⟩
             rw [← hw3]
             have b3:Onto w2 w3:=hw3 ▸ Onto.draws (Below.refl _ _) nq
             clear hw3
             replace e0:=cellB b3 e0;replace e1:=cellB b3 e1;replace d0:=cellB b3 d0;replace d1:=cellB b3 d1;replace d2:=cellB b3 d2;replace d3:=cellB b3 d3;replace d4:=cellB b3 d4
             clear f0 f1 f2 f3 f4 g0 g1 x0 x1 x2 x3 x4
             clear hs h
             replace on:=on.to b3;replace X:=X.onto b3;replace R:=R.onto b3;replace Y:=Y.onto b3
             clear b3
             go_upto_region 14 with fail
             refine wp_box1 (v1:=cE y.kind y.job y.every y.time y.client) rfl fun w4 ob V=>?_
             generalize hv:w3.heap.size=zv at V ⊢
             have hxl:=X.lt;have hrl:=R.lt;have hyl:=Y.lt
             clear e0 e1 d0 d1 d2 d3 d4
             replace on:=on.to ob;replace X:=X.onto ob;replace R:=R.onto ob;replace Y:=Y.onto ob
             clear ob
             have v0:=V.at_ 0 rfl;have v1:=V.at_ 1 rfl;have v2:=V.at_ 2 rfl;have v3:=V.at_ 3 rfl;have v4:=V.at_ 4 rfl
             have HR2:=HR1.out
             clear HR1
             by_cases h4:y.kind≠4
             · rw [if_pos h4] at HR2
               have HR:=Lib.hid HR2
               have hd:(y.kind !=4)=true:=by simpa using h4
               clear HR2 h4
               have r0:=R.at_ 0 rfl;have s0:=R.froz 0;have r1:=R.at_ 1 rfl;have s1:=R.froz 1;have r2:=R.at_ 2 rfl;have s2:=R.froz 2;have r3:=R.at_ 3 rfl;have s3:=R.froz 3;have r4:=R.at_ 4 rfl;have s4:=R.froz 4;have r5:=R.at_ 5 rfl;have s5:=R.froz 5;have r6:=R.at_ 6 rfl;have s6:=R.froz 6;have r7:=R.at_ 7 rfl;have s7:=R.froz 7;have y0:=Y.at_ 0 rfl;have t0:=Y.froz 0;have y1:=Y.at_ 1 rfl;have t1:=Y.froz 1;have y2:=Y.at_ 2 rfl;have t2:=Y.froz 2;have y3:=Y.at_ 3 rfl;have t3:=Y.froz 3;have y4:=Y.at_ 4 rfl;have t4:=Y.froz 4
               go_upto_region 15 with fail
               go_region
               all_goals
                go_wp2_with fail
                exact link_endD (k:=0) (a:=0) (e:=0) (kd:=0) (j:=0) (v:=0) (t:=0) (c:=0) (kd':=y.kind) (j':=y.job) (v':=y.every) (t':=y.time) (c':=y.client) (w4:=w4) rfl R Y rfl rfl (by omega) on (by omega) (by omega) HR.out rfl rfl rfl
             · rw [if_neg h4] at HR2
               have HR:=Lib.hid HR2
               have hd:(y.kind !=4)=false:=by simpa using h4
               clear HR2 h4
               have r0:=R.at_ 0 rfl;have s0:=R.froz 0;have r1:=R.at_ 1 rfl;have s1:=R.froz 1;have r2:=R.at_ 2 rfl;have s2:=R.froz 2;have r3:=R.at_ 3 rfl;have s3:=R.froz 3;have r4:=R.at_ 4 rfl;have s4:=R.froz 4;have r5:=R.at_ 5 rfl;have s5:=R.froz 5;have r6:=R.at_ 6 rfl;have s6:=R.froz 6;have r7:=R.at_ 7 rfl;have s7:=R.froz 7;have y0:=Y.at_ 0 rfl;have t0:=Y.froz 0;have y1:=Y.at_ 1 rfl;have t1:=Y.froz 1;have y2:=Y.at_ 2 rfl;have t2:=Y.froz 2;have y3:=Y.at_ 3 rfl;have t3:=Y.froz 3;have y4:=Y.at_ 4 rfl;have t4:=Y.froz 4
               have x0:=X.at_ 0 rfl;have x1:=X.at_ 1 rfl;have x2:=X.at_ 2 rfl;have x3:=X.at_ 3 rfl;have x4:=X.at_ 4 rfl
               go_upto_region 16 with fail
               go_region
               all_goals
                go_wp2_with fail
                exact link_endD (k:=1) (a:=j) (e:=0) (kd:=x.kind) (j:=x.job) (v:=x.every) (t:=x.time) (c:=x.client) (kd':=x.kind) (j':=x.job) (v':=x.every) (t':=x.time) (c':=x.client) (w4:=w4) rfl R Y rfl rfl (by omega) on (by omega) (by omega) HR.out rfl rfl rfl
           · have hd2:(!(y'.kind ==x.kind && y'.job ==x.job && y'.every ==x.every && y'.time ==x.time && y'.client ==x.client))=true:=by
              rw [entry_eq_iff] at hyx
              simp only [Bool.not_eq_true',Bool.and_eq_false_iff,beq_eq_false_iff_ne]
              omega
             rw [if_pos ⟨by omega,hyx⟩] at hr
             have HR:=Lib.hid hr
             clear hr hyx
             have x0:=X.at_ 0 rfl;have x1:=X.at_ 1 rfl;have x2:=X.at_ 2 rfl;have x3:=X.at_ 3 rfl;have x4:=X.at_ 4 rfl
             go_wp2_with fail
             go_quiet (fail)
             obtain ⟨w3,hw3⟩:∃ w3,w3=w2.drewN nq:=⟨_,rfl⟩
             rw [← hw3]
             have b3:Onto w2 w3:=hw3 ▸ Onto.draws (Below.refl _ _) nq
             clear hw3
             replace e0:=cellB b3 e0;replace e1:=cellB b3 e1;replace d0:=cellB b3 d0;replace d1:=cellB b3 d1;replace d2:=cellB b3 d2;replace d3:=cellB b3 d3;replace d4:=cellB b3 d4
             clear d0 d1 d2 d3 d4 f0 f1 f2 f3 f4 g0 g1 e0 e1 x0 x1 x2 x3 x4 hs h
             replace on:=on.to b3;replace X:=X.onto b3;replace R:=R.onto b3;replace Y:=Y.onto b3
             clear b3
             go_wp2_with (refine wpList_zz R Y (by omega) (by rfl) (by rfl) (by rfl) (by rfl) (by rfl) (by rfl) (by rfl) (by rfl) ?_)
             exact link_end rfl R Y rfl rfl (by omega) on (by omega) (by omega) HR.out rfl rfl rfl
     · rw [if_pos h20] at hr
       have HR:=Lib.hid hr
       have hd:(q2 !=0)=true:=by simpa using h20
       clear hr HR1 h20
       go_wp2_with (refine wpList_zz R Y (by omega) (by rfl) (by rfl) (by rfl) (by rfl) (by rfl) (by rfl) (by rfl) (by rfl) ?_)
       exact link_end rfl R Y rfl rfl (by omega) on (by omega) (by omega) HR.out rfl rfl rfl
 · have hr:=HR0.out
   rw [if_pos h0] at hr
   have HR:=Lib.hid hr
   have hd:(q !=0)=true:=by simpa using h0
   clear hr HR0 h0
   go_wp2_with (refine wpList_zz R Y (by omega) (by rfl) (by rfl) (by rfl) (by rfl) (by rfl) (by rfl) (by rfl) (by rfl) ?_)
   exact link_end rfl R Y rfl rfl (by omega) on (by omega) (by omega) HR.out rfl rfl rfl
end
section
open Go.RowKit
end
section
open Go.RowKit
def tailG:Nat→Nat→List Entry→Nat
 | _,a,[]=>a
 | k,a,c ::l=>tailG (k+1) (if c.kind≠4 then k+1 else a) l
def tailF (cs:List Entry):Nat:=tailG 0 0 cs
theorem tailG_snoc (l:List Entry) (c:Entry):∀ (k a:Nat),tailG k a (l ++[c])=if c.kind≠4 then k+l.length+1 else tailG k a l:=by
 induction l with
 | nil=>intro k a;simp [tailG]
 | cons x l ih =>
   intro k a
   simp only [List.cons_append,tailG,ih,List.length_cons]
   split <;> first | rfl | omega
theorem tailF_take {cs:List Entry} {k:Nat} {x:Entry} (hx:cs[k]?=some x):tailF (cs.take (k+1))=if x.kind≠4 then k+1 else tailF (cs.take k):=by
 obtain ⟨hk,rfl⟩:=List.getElem?_eq_some_iff.1 hx
 unfold tailF
 rw [List.take_succ_eq_append_getElem hk,tailG_snoc,List.length_take]
 split
 · omega
 · rfl
set_option maxHeartbeats 1000000 in
theorem USame_calls (ep ep' : Int) (A A' : Option Addr) (n c m d : Nat) (cs cs' : List Entry) (w : World) (h : S w 5 A n (cs.map encE)) (h' : S w 5 A' m (cs'.map encE)) (hn : n ≤ 9223372036854775807) :
    Calls Tryz.prog 57 #[.agg #[.int .i64 ep,.slice A n c],.agg #[.int .i64 ep',.slice A' m d]] w fun e w'=>e=.returned (.bool (decide ((⟨ep,cs⟩:Uni)=⟨ep',cs'⟩)))∧Onto w w':=by
 have HN:=Lib.hid hn
 clear hn
 by_cases hep:ep=ep'
 · have hd:(ep ==ep')=true:=by simpa using hep
   have hdec:decide (cs=cs')=decide ((⟨ep,cs⟩:Uni)=⟨ep',cs'⟩):=by subst hep;simp
   have HD:=Lib.hid hdec
   clear hdec hep
   go_enter Tryz.func57,Tryz.ntmps57
   go_wp2_with fail
   refine Calls.mono (EqualE_calls A A' n m c d _ cs cs' _ ((h.new _).new _) ((h'.new _).new _) HN.out) ?_
   rintro e w' ⟨rfl,q,rfl⟩
   rw [HD.out]
   clear h h'
   go_wp2_with fail
   go_ret
   refine ⟨ret_bool (by simp),?_⟩
   exact Onto.draws (((Below.refl _ _).alloc (Nat.le_refl _) _).alloc (by simp) _) q
 · have hd:(ep ==ep')=false:=by simpa using hep
   have hdec:decide ((⟨ep,cs⟩:Uni)=⟨ep',cs'⟩)=false:=by simp [hep]
   rw [hdec]
   clear h h' hep hdec
   go_enter Tryz.func57,Tryz.ntmps57
   go_wp2_with fail
   go_ret
   exact ⟨rfl,by first | exact ((Below.refl _ _).alloc (Nat.le_refl _) _).alloc (by simp) _ | exact Onto.draws (((Below.refl _ _).alloc (Nat.le_refl _) _).alloc (by simp) _) _⟩
end
end Go.Proofs.YtidlffepdcldkaaGreatDoor
