/- Part 26 of the proof: WStore, WLink, Client7, Client6, Sort, DelF, SpecD, Due, LawD, LawR, Ring3, WOfCL. -/
import Derived.Test.YtidlffepdcldkaaGreatDoorBa22
import Derived.Test.YtidlffepdcldkaaGreatDoorBa24
import Derived.Test.YtidlffepdcldkaaGreatDoorBa17
import Derived.Test.YtidlffepdcldkaaGreatDoorBa19
import Derived.Test.YtidlffepdcldkaaGreatDoorBa07
import Derived.Test.YtidlffepdcldkaaGreatDoorBa16
import Derived.Test.YtidlffepdcldkaaGreatDoorProg
import Derived.Test.YtidlffepdcldkaaGreatDoorBa02
import Derived.Test.YtidlffepdcldkaaGreatDoorBa14
import Derived.Test.YtidlffepdcldkaaGreatDoorBa06
import Derived.Test.YtidlffepdcldkaaGreatDoorBa18
namespace Go.Proofs.YtidlffepdcldkaaGreatDoor
set_option linter.unusedSimpArgs false
set_option linter.unusedVariables false
section
open Go.RowKit
attribute [local go_sem ↓] Go.wp_at_zero Go.wp_at_succ
theorem sizeRec:(Tryz.prog.info? 96).map (·.size)=some 8:=by kernel_rfl
theorem sizeEnt:(Tryz.prog.info? 46).map (·.size)=some 5:=by kernel_rfl
def stRec (p v:Value):Sem Unit:=Instr.storeAt 96 p v
theorem stRec_eq (p v:Value):Instr.storeAt 96 p v=stRec p v:=rfl
theorem run_stRec {w : World} {z o : Nat} {a b c d e f g h : Int} (ht : w.there z o 8) :
    (stRec (.pointer (some ⟨z,o,none⟩)) (.agg #[.int .i64 a,.int .i64 b,.int .i64 c,.int .i64 d,.int .i64 e,.int .i64 f,.int .i64 g,.int .i64 h])).run Tryz.prog w=.ok () (w.setCells z o [.int .i64 a,.int .i64 b,.int .i64 c,.int .i64 d,.int .i64 e,.int .i64 f,.int .i64 g,.int .i64 h]) :=
 run_storeAt_mid (P:=Tryz.prog) w z o 96 _ ht sizeRec (all_oneCell_toArray (List.all_eq_true.1 rfl))
def stEnt (p v:Value):Sem Unit:=Instr.storeAt 46 p v
theorem stEnt_eq (p v:Value):Instr.storeAt 46 p v=stEnt p v:=rfl
theorem run_stEnt {w : World} {z o : Nat} {a b c d e : Int} (ht : w.there z o 5) :
    (stEnt (.pointer (some ⟨z,o,none⟩)) (.agg #[.int .i64 a,.int .i64 b,.int .i64 c,.int .i64 d,.int .i64 e])).run Tryz.prog w=.ok () (w.setCells z o [.int .i64 a,.int .i64 b,.int .i64 c,.int .i64 d,.int .i64 e]) :=
 run_storeAt_mid (P:=Tryz.prog) w z o 46 _ ht sizeEnt (all_oneCell_toArray (List.all_eq_true.1 rfl))
theorem there_new {w:World} {z o n:Nat} (x:Obj) (h:w.there z o n):(w.alloc x).there z o n:=fun j hj=>by
 have hz:z<w.heap.size:=by
  obtain ⟨h1,_⟩:=h j hj
  obtain ⟨v,hv⟩:=Option.isSome_iff_exists.1 h1
  exact World.block_lt_of_cell? w _ hv
 rw [World.cell?_alloc_lt w x _ hz]
 refine ⟨(h j hj).1,?_⟩
 rw [((Onto.rfl' w).new x).frozen (p:=⟨z,o+j,none⟩) hz]
 exact (h j hj).2
theorem there_alloc {w:World} {z o n:Nat} {x:Obj} (h:w.there z o n):(w.alloc x).there z o n=True:=eq_true (there_new x h)
theorem there_put {w:World} {z o n:Nat} (h:w.there z o n) (p:Addr) (u:Value):(w.setCell p u).there z o n:=fun j hj=>by
 obtain ⟨h1,h2⟩:=h j hj
 obtain ⟨v,hv⟩:=Option.isSome_iff_exists.1 h1
 refine ⟨?_,by simpa using h2⟩
 by_cases e:p=⟨z,o+j,none⟩
 · subst e;rw [World.cell?_setCell_same w _ _ hv];rfl
 · rw [World.cell?_setCell_other w _ _ _ e];exact h1
theorem there_puts {z o n b:Nat}:∀ {us:List Value} {k:Nat} {w:World},w.there z o n→(w.setCells b k us).there z o n
 | [],_,_,h=>h
 | u ::r,k,w,h=>by rw [World.setCells];exact there_puts (there_put h _ _)
theorem there_setCells {w:World} {z o n b k:Nat} {us:List Value} (h:w.there z o n):(w.setCells b k us).there z o n=True:=eq_true (there_puts h)
theorem there_recW (w:World) {t:TypeId}:(w.alloc (.cells #[.int .i64 0,.int .i64 0,.int .i64 0,.int .i64 0,.int .i64 0,.int .i64 0,.int .i64 0,.int .i64 0] t)).there w.heap.size 0 8=True:=eq_true ((Bx.made w #[.int .i64 0,.int .i64 0,.int .i64 0,.int .i64 0,.int .i64 0,.int .i64 0,.int .i64 0,.int .i64 0] t).there (by simp))
theorem there_entW (w:World) {t:TypeId}:(w.alloc (.cells #[.int .i64 0,.int .i64 0,.int .i64 0,.int .i64 0,.int .i64 0] t)).there w.heap.size 0 5=True:=eq_true ((Bx.made w #[.int .i64 0,.int .i64 0,.int .i64 0,.int .i64 0,.int .i64 0] t).there (by simp))
theorem made1 (w:World) (x:Obj) (cs:Array Value) (t:TypeId):Bx ((w.alloc x).alloc (.cells cs t)) (w.heap.size+1) cs.toList:=by
 have:=Bx.made (w.alloc x) cs t
 simpa using this
theorem there_recW1 (w:World) (x:Obj) {t:TypeId}:((w.alloc x).alloc (.cells #[.int .i64 0,.int .i64 0,.int .i64 0,.int .i64 0,.int .i64 0,.int .i64 0,.int .i64 0,.int .i64 0] t)).there (w.heap.size+1) 0 8=True:=eq_true ((made1 w x #[.int .i64 0,.int .i64 0,.int .i64 0,.int .i64 0,.int .i64 0,.int .i64 0,.int .i64 0,.int .i64 0] t).there (by simp))
theorem there_entW1 (w:World) (x:Obj) {t:TypeId}:((w.alloc x).alloc (.cells #[.int .i64 0,.int .i64 0,.int .i64 0,.int .i64 0,.int .i64 0] t)).there (w.heap.size+1) 0 5=True:=eq_true ((made1 w x #[.int .i64 0,.int .i64 0,.int .i64 0,.int .i64 0,.int .i64 0] t).there (by simp))
theorem there_entWb (w:World) (x:Obj) {b k:Nat} {us:List Value} {t:TypeId}:(((w.alloc (.cells #[.int .i64 0,.int .i64 0,.int .i64 0,.int .i64 0,.int .i64 0] t)).alloc x).setCells b k us).there w.heap.size 0 5=True:=eq_true (there_puts (there_new x ((Bx.made w #[.int .i64 0,.int .i64 0,.int .i64 0,.int .i64 0,.int .i64 0] t).there (by simp))))
theorem there_c {w:World} {x:Obj} {z o n b k:Nat} {us:List Value} (h:w.there z o n):((w.alloc x).setCells b k us).there z o n=True:=eq_true (there_puts (there_new x h))
theorem two_box {X:World} {p p':Nat} {vs us vs' us':List Value} (h:Bx X p vs) (h':Bx X p' vs') (hne:p≠p') (hl:us.length=vs.length) (hl':us'.length=vs'.length):Bx ((X.setCells p 0 us).setCells p' 0 us') p us∧Bx ((X.setCells p 0 us).setCells p' 0 us') p' us' :=
 ⟨(h.put hl).off hne,(h'.off (Ne.symm hne)).put hl'⟩
theorem and3 {A B C:Prop} (h:A∧B) (c:C):A∧B∧C:=⟨h.1,h.2,c⟩
end
section
open Go.RowKit
attribute [local go_sem ↓] Go.wp_at_zero Go.wp_at_succ
attribute [local go_sem ↓] stCl_eq stRec_eq stEnt_eq
attribute [local go_sem] run_stCl there_clW run_stRec run_stEnt there_recW there_entW there_recW1 there_entW1 there_alloc there_setCells there_entWb there_c
end
section
open Go.RowKit
set_option maxHeartbeats 8000000 in
set_option maxRecDepth 100000 in
theorem ClWant_calls (ep dg at_ ln pl : Int) (x y : Entry) (A A' : Option Addr) (n c m d : Nat) (b : Book) (w : World) (h : S w 3 A n (b.jobs.map encJ)) (h' : S w 3 A' m (b.rung.map encR)) :
    Calls Tryz.prog 98 #[.agg #[.int .i64 ep,.int .i64 dg,.int .i64 x.kind,.int .i64 x.job,.int .i64 x.every,.int .i64 x.time,.int .i64 x.client,.int .i64 at_,.int .i64 ln,.int .i64 pl,.slice A n c,.slice A' m d],.agg #[.int .i64 y.kind,.int .i64 y.job,.int .i64 y.every,.int .i64 y.time,.int .i64 y.client]] w (ClPost w (wantCl ⟨ep,dg,x,at_,ln,pl,b⟩ y).1 (wantCl ⟨ep,dg,x,at_,ln,pl,b⟩ y).2):=by
 obtain ⟨q,hq⟩:∃ q,q=restsCl ⟨ep,dg,x,at_,ln,pl,b⟩:=⟨_,rfl⟩
 obtain ⟨r,hr⟩:∃ r,r=wantCl ⟨ep,dg,x,at_,ln,pl,b⟩ y:=⟨_,rfl⟩
 rw [← hr]
 unfold wantCl at hr
 rw [← hq] at hr
 dsimp only at hr
 have HQ:=Lib.hid hq;have HR:=Lib.hid hr
 clear hq hr
 go_enter Tryz.func98,Tryz.ntmps98
 go_upto_region 1 with fail
 refine wp_box3 (v1:=cL ep dg x.kind x.job x.every x.time x.client at_ ln pl A n c A' m d) (v2:=[.int .i64 y.kind,.int .i64 y.job,.int .i64 y.every,.int .i64 y.time,.int .i64 y.client]) (v3:=zC) rfl rfl rfl fun w1 on B Y Q=>?_
 replace h:=h.onto on;replace h':=h'.onto on
 generalize hz:w.heap.size=z at B Q Y ⊢
 have x0:=B.at_ 0 rfl;have x1:=B.at_ 1 rfl;have x2:=B.at_ 2 rfl;have x3:=B.at_ 3 rfl;have x4:=B.at_ 4 rfl;have x5:=B.at_ 5 rfl;have x6:=B.at_ 6 rfl;have x7:=B.at_ 7 rfl;have x8:=B.at_ 8 rfl;have x9:=B.at_ 9 rfl;have x10:=B.at_ 10 rfl;have x11:=B.at_ 11 rfl
 go_wp2_with fail
 refine Calls.mono (ClRests_calls ep dg at_ ln pl x A A' n c m d b _ h h') ?_
 rw [← HQ.out]
 rintro e w2 ⟨rfl,b2⟩
 clear x0 x1 x2 x3 x4 x5 x6 x7 x8 x9 x10 x11
 replace on:=on.to b2;replace B:=B.onto b2;replace Q:=Q.onto b2;replace h:=h.onto b2;replace h':=h'.onto b2;replace Y:=Y.onto b2
 clear b2
 have hr:=HR.out
 by_cases h0:q=0
 · subst h0
   rw [if_neg (by simp)] at hr
   clear HR
   have hgb:=restsCl_book (HQ.out.symm)
   have hn:n≤1000000:=by have h9:=hgb.nj;dsimp only at h9;have:=h.len;simp only [List.length_map] at this;omega
   have hm:m≤1000000:=by have h9:=hgb.nr;dsimp only at h9;have:=h'.len;simp only [List.length_map] at this;omega
   clear hgb
   obtain ⟨q2,hq2⟩:∃ q2,q2=checkE y:=⟨_,rfl⟩
   rw [← hq2] at hr
   have HQ2:=Lib.hid hq2
   have HRE:=Lib.hid hr
   clear hq2 hr
   have y0:=Y.at_ 0 rfl;have y1:=Y.at_ 1 rfl;have y2:=Y.at_ 2 rfl;have y3:=Y.at_ 3 rfl;have y4:=Y.at_ 4 rfl
   go_wp2_with fail
   refine Calls.mono (Check_calls y.kind y.job y.every y.time y.client _) ?_
   rw [show checkE ⟨y.kind,y.job,y.every,y.time,y.client⟩=q2 from HQ2.out.symm]
   rintro e w2b ⟨rfl,b2⟩
   clear y0 y1 y2 y3 y4
   replace on:=on.to b2;replace B:=B.onto b2;replace Q:=Q.onto b2;replace h:=h.onto b2;replace h':=h'.onto b2;replace Y:=Y.onto b2
   clear b2
   have hr:=HRE.out
   clear HRE
   by_cases h20:q2≠0
   · rw [if_pos h20] at hr
     have HR:=Lib.hid hr
     have hd:(q2 !=0)=true:=by simpa using h20
     clear h20
     clear hr
     go_wp2_with (refine wpList_put Q zC 66 _ _ (by rfl) (by rfl) (by rfl) (by rfl) (by rfl) sizeC12 (by rfl) ?_)
     exact bodyPost_ret (res_cl Tryz.results98 rfl rfl (Q.put rfl)) rfl (ClPost.bad HR.out (put_onto (by omega) on))
   · rw [if_neg h20] at hr
     obtain rfl:q2=0:=Decidable.not_not.1 h20
     clear h20
     by_cases hk:y.kind=0
     · rw [if_pos hk] at hr
       have HR:=Lib.hid hr
       have hd:(y.kind ==0)=true:=by simpa using hk
       clear hk
       clear hr
       have y0:=Y.at_ 0 rfl
       go_wp2_with (refine wpList_put Q zC 66 _ _ (by rfl) (by rfl) (by rfl) (by rfl) (by rfl) sizeC12 (by rfl) ?_)
       exact bodyPost_ret (res_cl Tryz.results98 rfl rfl (Q.put rfl)) rfl (ClPost.bad HR.out (put_onto (by omega) on))
     · rw [if_neg hk] at hr
       have HR:=Lib.hid hr
       have hd:(y.kind ==0)=false:=by simpa using hk
       clear hr hk
       have y0:=Y.at_ 0 rfl
       go_upto_region 9 with fail
       clear y0
       have x0:=B.at_ 0 rfl;have x1:=B.at_ 1 rfl;have x2:=B.at_ 2 rfl;have x3:=B.at_ 3 rfl;have x4:=B.at_ 4 rfl;have x5:=B.at_ 5 rfl;have x6:=B.at_ 6 rfl;have x7:=B.at_ 7 rfl;have x8:=B.at_ 8 rfl;have x9:=B.at_ 9 rfl;have x10:=B.at_ 10 rfl;have x11:=B.at_ 11 rfl
       have hzl:=B.lt;have hrl:=Q.lt
       go_wp2_with fail
       refine Calls.mono (ClCopy_calls ep dg at_ ln pl x A A' n c m d b _ h h' hn hm) ?_
       rintro e w3 ⟨A1,c1,A2,c2,rfl,s1,s2,b3,k1,k2,f1,f2⟩
       have o1:OffN n z A1:=f1.offN hzl;have o2:OffN m z A2:=f2.offN hzl
       have p1:OffN n (z+1+1) A1:=f1.offN hrl;have p2:OffN m (z+1+1) A2:=f2.offN hrl
       have g1:Fresh w.heap.size A1:=fun a e=>Nat.le_trans on.size (f1 a e);have g2:Fresh w.heap.size A2:=fun a e=>Nat.le_trans on.size (f2 a e)
       clear h h' hn hm f1 f2 hzl hrl
       clear x0 x1 x2 x3 x4 x5 x6 x7 x8 x9 x10 x11
       replace on:=on.to b3;replace B:=B.onto b3;replace Q:=Q.onto b3;replace Y:=Y.onto b3
       clear b3
       go_upto_region 10 with (refine wpList_put B (cL ep dg x.kind x.job x.every x.time x.client at_ ln pl A1 n c1 A2 m c2) 66 _ _ (by rfl) (by rfl) (by rfl) (by rfl) (by rfl) sizeC12 (by rfl) ?_)
       replace B:=B.put (us:=cL ep dg x.kind x.job x.every x.time x.client at_ ln pl A1 n c1 A2 m c2) rfl;replace Q:=Q.off (b:=z) (o:=0) (us:=cL ep dg x.kind x.job x.every x.time x.client at_ ln pl A1 n c1 A2 m c2) (by omega);replace Y:=Y.off (b:=z) (o:=0) (us:=cL ep dg x.kind x.job x.every x.time x.client at_ ln pl A1 n c1 A2 m c2) (by omega)
       replace s1:=put_S (w:=w3) o1 (vs:=cL ep dg x.kind x.job x.every x.time x.client at_ ln pl A1 n c1 A2 m c2) (o:=0) s1;replace s2:=put_S (w:=w3) o2 (vs:=cL ep dg x.kind x.job x.every x.time x.client at_ ln pl A1 n c1 A2 m c2) (o:=0) s2
       replace on:=Onto.puts (b:=z) (o:=0) (us:=cL ep dg x.kind x.job x.every x.time x.client at_ ln pl A1 n c1 A2 m c2) (by omega) on
       generalize World.setCells w3 z 0 _=w4 at *
       have y0:=Y.at_ 0 rfl;have y1:=Y.at_ 1 rfl;have y2:=Y.at_ 2 rfl;have y3:=Y.at_ 3 rfl;have y4:=Y.at_ 4 rfl
       have t1:=B.froz 1;have t2:=B.froz 2;have t3:=B.froz 3;have t4:=B.froz 4;have t5:=B.froz 5;have t6:=B.froz 6
       have x1:=B.at_ 1 rfl;have x2:=B.at_ 2 rfl;have x3:=B.at_ 3 rfl;have x4:=B.at_ 4 rfl;have x5:=B.at_ 5 rfl;have x6:=B.at_ 6 rfl
       go_region
       all_goals
        go_upto_region 11 with fail
        clear x1 x2 x3 x4 x5 x6
        clear t1 t2 t3 t4 t5 t6
        replace B:=B.put1 (j:=1) (by simp) (.int .i64 1);replace Q:=Q.off1 (p:=⟨z,1,none⟩) (by show _≠z;omega) (.int .i64 1);replace Y:=Y.off1 (p:=⟨z,1,none⟩) (by show _≠z;omega) (.int .i64 1);replace s1:=S.off s1 (p:=⟨z,1,none⟩) o1 (.int .i64 1);replace s2:=S.off s2 (p:=⟨z,1,none⟩) o2 (.int .i64 1);replace on:=on.put (p:=⟨z,1,none⟩) (by simp;omega) (.int .i64 1)
        replace B:=B.put1 (j:=2) (by simp) (.int .i64 y.kind);replace Q:=Q.off1 (p:=⟨z,2,none⟩) (by show _≠z;omega) (.int .i64 y.kind);replace Y:=Y.off1 (p:=⟨z,2,none⟩) (by show _≠z;omega) (.int .i64 y.kind);replace s1:=S.off s1 (p:=⟨z,2,none⟩) o1 (.int .i64 y.kind);replace s2:=S.off s2 (p:=⟨z,2,none⟩) o2 (.int .i64 y.kind);replace on:=on.put (p:=⟨z,2,none⟩) (by simp;omega) (.int .i64 y.kind)
        replace B:=B.put1 (j:=3) (by simp) (.int .i64 y.job);replace Q:=Q.off1 (p:=⟨z,3,none⟩) (by show _≠z;omega) (.int .i64 y.job);replace Y:=Y.off1 (p:=⟨z,3,none⟩) (by show _≠z;omega) (.int .i64 y.job);replace s1:=S.off s1 (p:=⟨z,3,none⟩) o1 (.int .i64 y.job);replace s2:=S.off s2 (p:=⟨z,3,none⟩) o2 (.int .i64 y.job);replace on:=on.put (p:=⟨z,3,none⟩) (by simp;omega) (.int .i64 y.job)
        replace B:=B.put1 (j:=4) (by simp) (.int .i64 y.every);replace Q:=Q.off1 (p:=⟨z,4,none⟩) (by show _≠z;omega) (.int .i64 y.every);replace Y:=Y.off1 (p:=⟨z,4,none⟩) (by show _≠z;omega) (.int .i64 y.every);replace s1:=S.off s1 (p:=⟨z,4,none⟩) o1 (.int .i64 y.every);replace s2:=S.off s2 (p:=⟨z,4,none⟩) o2 (.int .i64 y.every);replace on:=on.put (p:=⟨z,4,none⟩) (by simp;omega) (.int .i64 y.every)
        replace B:=B.put1 (j:=5) (by simp) (.int .i64 y.time);replace Q:=Q.off1 (p:=⟨z,5,none⟩) (by show _≠z;omega) (.int .i64 y.time);replace Y:=Y.off1 (p:=⟨z,5,none⟩) (by show _≠z;omega) (.int .i64 y.time);replace s1:=S.off s1 (p:=⟨z,5,none⟩) o1 (.int .i64 y.time);replace s2:=S.off s2 (p:=⟨z,5,none⟩) o2 (.int .i64 y.time);replace on:=on.put (p:=⟨z,5,none⟩) (by simp;omega) (.int .i64 y.time)
        replace B:=B.put1 (j:=6) (by simp) (.int .i64 y.client);replace Q:=Q.off1 (p:=⟨z,6,none⟩) (by show _≠z;omega) (.int .i64 y.client);replace Y:=Y.off1 (p:=⟨z,6,none⟩) (by show _≠z;omega) (.int .i64 y.client);replace s1:=S.off s1 (p:=⟨z,6,none⟩) o1 (.int .i64 y.client);replace s2:=S.off s2 (p:=⟨z,6,none⟩) o2 (.int .i64 y.client);replace on:=on.put (p:=⟨z,6,none⟩) (by simp;omega) (.int .i64 y.client)
        replace B:=B.draw;replace Q:=Q.draw;replace s1:=S.draw s1;replace s2:=S.draw s2;replace on:=on.draw
        clear Y y0 y1 y2 y3 y4
        generalize (((((((w4.setCell ⟨z,1,none⟩ (.int .i64 1)).setCell ⟨z,2,none⟩ (.int .i64 y.kind)).setCell ⟨z,3,none⟩ (.int .i64 y.job)).setCell ⟨z,4,none⟩ (.int .i64 y.every)).setCell ⟨z,5,none⟩ (.int .i64 y.time)).setCell ⟨z,6,none⟩ (.int .i64 y.client))).drew=w5 at *
        replace B:Bx _ z (cL ep 1 y.kind y.job y.every y.time y.client at_ ln pl A1 n c1 A2 m c2):=B
        have x0:=B.at_ 0 rfl;have x1:=B.at_ 1 rfl;have x2:=B.at_ 2 rfl;have x3:=B.at_ 3 rfl;have x4:=B.at_ 4 rfl;have x5:=B.at_ 5 rfl;have x6:=B.at_ 6 rfl;have x7:=B.at_ 7 rfl;have x8:=B.at_ 8 rfl;have x9:=B.at_ 9 rfl;have x10:=B.at_ 10 rfl;have x11:=B.at_ 11 rfl
        go_wp2_with (refine wpList_put Q (cL ep 1 y.kind y.job y.every y.time y.client at_ ln pl A1 n c1 A2 m c2) 66 _ _ (by rfl) (by rfl) (by rfl) (by rfl) (by rfl) sizeC12 (by rfl) ?_)
        rw [HR.out]
        exact bodyPost_ret (res_cl Tryz.results98 rfl rfl (Q.put rfl)) rfl ⟨A1,n,c1,A2,m,c2,rfl,put_S (w:=w) p1 s1,put_S (w:=w) p2 s2,put_onto (by omega) on,k1,k2,g1,g2⟩
 · rw [if_pos h0] at hr
   have HR:=Lib.hid hr
   have hd:(q !=0)=true:=by simpa using h0
   clear hr
   go_wp2_with (refine wpList_put Q zC 66 _ _ (by rfl) (by rfl) (by rfl) (by rfl) (by rfl) sizeC12 (by rfl) ?_)
   exact bodyPost_ret (res_cl Tryz.results98 rfl rfl (Q.put rfl)) rfl (ClPost.bad HR.out (put_onto (by omega) on))
end
section
open Go.RowKit
end
section
open Go.RowKit
end
section
open Go.RowKit
theorem M.clear {w : World} {base k n b off i : Nat} {rows : List (List Value)} {cur : Array Value} {t : TypeId} {cs : List Value} (h : M w base k (some ⟨b, off, none⟩) n rows) (hh : w.heap[b]? = some (.cells cur t (0, 0))) (hi : i ≤ n)
    (hfit:off+i*k+cs.length≤cur.size):M (w.setRow b (spliceR cur (off+i*k) cs)) base k (some ⟨b,off,none⟩) i (rows.take i):=by
 have hh':=setRow_heap w b cur (spliceR cur (off+i*k) cs) _ _ hh
 have hbl:b<w.heap.size:=(Array.getElem?_eq_some_iff.1 hh).1
 have hb0:0<i→base≤b:=fun hi0=>by
  obtain ⟨b',off',e,h1,_⟩:=h.2 (by omega)
  injection e with e;injection e with e1 e2 _
  omega
 refine ⟨⟨by have:=h.1.len;simp;omega,fun r hr=>h.1.2.1 r (List.mem_of_mem_take hr),fun hi0=>?_⟩,fun hi0=>⟨b,off,rfl,hb0 hi0,_,_,hh'⟩⟩
 obtain ⟨b',off',e,hb,hc⟩:=h.1.2.2 (by omega)
 injection e with e;injection e with e1 e2 _
 subst e1;subst e2
 refine ⟨b,off,rfl,by simpa using hbl,fun i0 j r u hr hu=>?_⟩
 rw [List.getElem?_take] at hr
 split at hr
 · rename_i hlt
   have:=hc i0 j r u hr hu
   have hrk:r.length=k:=h.1.2.1 r (List.mem_of_getElem? hr)
   have hj:j<k:=by rw [← hrk];exact (List.getElem?_eq_some_iff.1 hu).1
   rw [cell_of_row _ b _ _ _ _ hh',← Array.getElem?_toList]
   rw [cell_of_row _ b _ _ _ _ hh,← Array.getElem?_toList] at this
   have hle:(i0+1)*k≤i*k:=Nat.mul_le_mul_right k hlt
   rw [Nat.add_mul] at hle
   show (cur.toList.take (off+i*k) ++cs ++_)[_]?=_
   rw [List.append_assoc,List.getElem?_append_left (by
    have h1:off+i0*k+j<cur.toList.length:=(List.getElem?_eq_some_iff.1 this).1
    rw [List.length_take];simp at h1 ⊢;omega),List.getElem?_take,if_pos (by omega)]
   exact this
 · cases hr
theorem idxI_cases {α:Type} (p:α→Bool) (l:List α):(idxI p l=-1∧∀ (j:Nat) y,l[j]?=some y→p y=false)∨∃ (i:Nat) (x:α),idxI p l=i∧l[i]?=some x∧p x=true∧∀ (j:Nat) y,j<i→l[j]?=some y→p y=false:=by
 unfold idxI
 cases hf:l.findIdx? p with
 | none =>
   left
   refine ⟨rfl,fun j y hy=>?_⟩
   have:=List.findIdx?_eq_none_iff.1 hf y (List.mem_of_getElem? hy)
   exact this
 | some i =>
   right
   obtain ⟨hi,hp,hlt⟩:=List.findIdx?_eq_some_iff_getElem.1 hf
   refine ⟨i,l[i],rfl,List.getElem?_eq_getElem hi,hp,fun j y hj hy=>?_⟩
   obtain ⟨hj',rfl⟩:=List.getElem?_eq_some_iff.1 hy
   simpa using hlt j hj
end
section
open Go.RowKit
end
section
open Go.RowKit
end
section
open Go.RowKit
attribute [local go_sem ↓] Go.wp_at_zero Go.wp_at_succ
attribute [local go_sem ↓] stCl_eq stEnt_eq
attribute [local go_sem] run_stCl there_clW run_stEnt
end
end Go.Proofs.YtidlffepdcldkaaGreatDoor
