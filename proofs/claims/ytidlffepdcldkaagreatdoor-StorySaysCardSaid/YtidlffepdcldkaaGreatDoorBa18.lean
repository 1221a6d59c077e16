/- Part 18 of the proof: Client4, ClNew, Client5. -/
import Derived.Test.YtidlffepdcldkaaGreatDoorBa17
namespace Go.Proofs.YtidlffepdcldkaaGreatDoor
set_option linter.unusedSimpArgs false
set_option linter.unusedVariables false
section
open Go.RowKit
end
section
open Go.RowKit
theorem ClNew_calls (w:World):Calls Tryz.prog 51 #[] w fun e w'=>e=.returned (.agg #[.int .i64 1,.int .i64 0,.int .i64 0,.int .i64 0,.int .i64 0,.int .i64 0,.int .i64 0,.int .i64 0,.int .i64 0,.int .i64 0,.slice none 0 0,.slice none 0 0])∧Onto w w':=by
 go_enter Tryz.func51,Tryz.ntmps51
 go_wp2_with fail
 refine bodyPost_ret (v:=.agg #[.int .i64 1,.int .i64 0,.int .i64 0,.int .i64 0,.int .i64 0,.int .i64 0,.int .i64 0,.int .i64 0,.int .i64 0,.int .i64 0,.slice none 0 0,.slice none 0 0]) (by simp [results,Tryz.results51,go_sem]) rfl ?_
 exact ⟨rfl,by repeat (first | exact Below.refl _ _ | refine Onto.put ?_ (by simp) _ | refine Onto.new ?_ _)⟩
end
section
open Go.RowKit
set_option maxHeartbeats 8000000 in
set_option maxRecDepth 100000 in
theorem ClPlace_calls (ep dg at_ ln pl : Int) (x : Entry) (A A' : Option Addr) (n c m d : Nat) (b : Book) (v : Int) (w : World) (h : S w 3 A n (b.jobs.map encJ)) (h' : S w 3 A' m (b.rung.map encR)) :
    Calls Tryz.prog 100 #[.agg #[.int .i64 ep,.int .i64 dg,.int .i64 x.kind,.int .i64 x.job,.int .i64 x.every,.int .i64 x.time,.int .i64 x.client,.int .i64 at_,.int .i64 ln,.int .i64 pl,.slice A n c,.slice A' m d],.int .i64 v] w (ClPost w (placeCl ⟨ep,dg,x,at_,ln,pl,b⟩ v).1 (placeCl ⟨ep,dg,x,at_,ln,pl,b⟩ v).2):=by
 obtain ⟨q,hq⟩:∃ q,q=checkCl ⟨ep,dg,x,at_,ln,pl,b⟩:=⟨_,rfl⟩
 obtain ⟨r,hr⟩:∃ r,r=placeCl ⟨ep,dg,x,at_,ln,pl,b⟩ v:=⟨_,rfl⟩
 rw [← hr]
 unfold placeCl at hr
 rw [← hq] at hr
 dsimp only at hr
 have HQ:=Lib.hid hq;have HR:=Lib.hid hr
 clear hq hr
 go_enter Tryz.func100,Tryz.ntmps100
 go_upto_region 1 with fail
 refine wp_box2 (v1:=cL ep dg x.kind x.job x.every x.time x.client at_ ln pl A n c A' m d) (v2:=zC) rfl rfl fun w1 on B Q=>?_
 replace h:=h.onto on;replace h':=h'.onto on
 generalize hz:w.heap.size=z at B Q ⊢
 have x0:=B.at_ 0 rfl;have x1:=B.at_ 1 rfl;have x2:=B.at_ 2 rfl;have x3:=B.at_ 3 rfl;have x4:=B.at_ 4 rfl;have x5:=B.at_ 5 rfl;have x6:=B.at_ 6 rfl;have x7:=B.at_ 7 rfl;have x8:=B.at_ 8 rfl;have x9:=B.at_ 9 rfl;have x10:=B.at_ 10 rfl;have x11:=B.at_ 11 rfl
 go_wp2_with fail
 refine Calls.mono (ClCheck_calls ep dg at_ ln pl x A A' n c m d b _ h h') ?_
 rw [← HQ.out]
 rintro e w2 ⟨rfl,b2⟩
 clear x0 x1 x2 x3 x4 x5 x6 x7 x8 x9 x10 x11
 replace on:=on.to b2;replace B:=B.onto b2;replace Q:=Q.onto b2;replace h:=h.onto b2;replace h':=h'.onto b2
 clear b2
 have hr:=HR.out
 by_cases h0:q=0
 · subst h0
   rw [if_neg (by simp)] at hr
   clear HR
   have hgb:=checkCl_book (HQ.out.symm)
   have hn:n≤1000000:=by have h9:=hgb.nj;dsimp only at h9;have:=h.len;simp only [List.length_map] at this;omega
   have hm:m≤1000000:=by have h9:=hgb.nr;dsimp only at h9;have:=h'.len;simp only [List.length_map] at this;omega
   clear hgb
   by_cases h1:dg=1
   · rw [if_neg (by simp [h1])] at hr
     have hd1:(dg !=1)=false:=by simp [h1]
     clear h1
     by_cases h2:v<0
     · rw [if_pos (.inl h2)] at hr
       have HR:=Lib.hid hr
       clear hr
       have x1:=B.at_ 1 rfl
       go_wp2_with (refine wpList_put Q zC 66 _ _ (by rfl) (by rfl) (by rfl) (by rfl) (by rfl) sizeC12 (by rfl) ?_)
       exact bodyPost_ret (res_cl Tryz.results100 rfl rfl (Q.put rfl)) rfl (ClPost.bad HR.out (put_onto (by omega) on))
     · by_cases h3:60≤v
       · rw [if_pos (.inr h3)] at hr
         have HR:=Lib.hid hr
         clear hr
         have x1:=B.at_ 1 rfl
         go_wp2_with (refine wpList_put Q zC 66 _ _ (by rfl) (by rfl) (by rfl) (by rfl) (by rfl) sizeC12 (by rfl) ?_)
         exact bodyPost_ret (res_cl Tryz.results100 rfl rfl (Q.put rfl)) rfl (ClPost.bad HR.out (put_onto (by omega) on))
       · rw [if_neg (by omega)] at hr
         have HR:=Lib.hid hr
         clear hr
         have x1:=B.at_ 1 rfl
         go_upto_region 8 with fail
         clear x1
         have x0:=B.at_ 0 rfl;have x1:=B.at_ 1 rfl;have x2:=B.at_ 2 rfl;have x3:=B.at_ 3 rfl;have x4:=B.at_ 4 rfl;have x5:=B.at_ 5 rfl;have x6:=B.at_ 6 rfl;have x7:=B.at_ 7 rfl;have x8:=B.at_ 8 rfl;have x9:=B.at_ 9 rfl;have x10:=B.at_ 10 rfl;have x11:=B.at_ 11 rfl
         have hzl:=B.lt;have hrl:=Q.lt
         go_wp2_with fail
         refine Calls.mono (ClCopy_calls ep dg at_ ln pl x A A' n c m d b _ h h' hn hm) ?_
         rintro e w3 ⟨A1,c1,A2,c2,rfl,s1,s2,b3,k1,k2,f1,f2⟩
         have o1:OffN n z A1:=f1.offN hzl;have o2:OffN m z A2:=f2.offN hzl
         have p1:OffN n (z+1) A1:=f1.offN hrl;have p2:OffN m (z+1) A2:=f2.offN hrl
         have g1:Fresh w.heap.size A1:=fun a e=>Nat.le_trans on.size (f1 a e);have g2:Fresh w.heap.size A2:=fun a e=>Nat.le_trans on.size (f2 a e)
         clear h h' hn hm f1 f2 hzl hrl
         clear x0 x1 x2 x3 x4 x5 x6 x7 x8 x9 x10 x11
         replace on:=on.to b3;replace B:=B.onto b3;replace Q:=Q.onto b3
         clear b3
         go_upto_region 9 with (refine wpList_put B (cL ep dg x.kind x.job x.every x.time x.client at_ ln pl A1 n c1 A2 m c2) 66 _ _ (by rfl) (by rfl) (by rfl) (by rfl) (by rfl) sizeC12 (by rfl) ?_)
         replace B:=B.put (us:=cL ep dg x.kind x.job x.every x.time x.client at_ ln pl A1 n c1 A2 m c2) rfl;replace Q:=Q.off (b:=z) (o:=0) (us:=cL ep dg x.kind x.job x.every x.time x.client at_ ln pl A1 n c1 A2 m c2) (by omega)
         replace s1:=put_S (w:=w3) o1 (vs:=cL ep dg x.kind x.job x.every x.time x.client at_ ln pl A1 n c1 A2 m c2) (o:=0) s1;replace s2:=put_S (w:=w3) o2 (vs:=cL ep dg x.kind x.job x.every x.time x.client at_ ln pl A1 n c1 A2 m c2) (o:=0) s2
         replace on:=Onto.puts (b:=z) (o:=0) (us:=cL ep dg x.kind x.job x.every x.time x.client at_ ln pl A1 n c1 A2 m c2) (by omega) on
         generalize World.setCells w3 z 0 _=w4 at *
         have t1:=B.froz 1;have t7:=B.froz 7
         have x1:=B.at_ 1 rfl;have x7:=B.at_ 7 rfl
         go_upto_region 10 with fail
         clear x1 x7
         clear t1 t7
         replace B:=B.put1 (j:=1) (by simp) (.int .i64 2);replace Q:=Q.off1 (p:=⟨z,1,none⟩) (by show _≠z;omega) (.int .i64 2);replace s1:=S.off s1 (p:=⟨z,1,none⟩) o1 (.int .i64 2);replace s2:=S.off s2 (p:=⟨z,1,none⟩) o2 (.int .i64 2);replace on:=on.put (p:=⟨z,1,none⟩) (by simp;omega) (.int .i64 2)
         replace B:=B.put1 (j:=7) (by simp) (.int .i64 v);replace Q:=Q.off1 (p:=⟨z,7,none⟩) (by show _≠z;omega) (.int .i64 v);replace s1:=S.off s1 (p:=⟨z,7,none⟩) o1 (.int .i64 v);replace s2:=S.off s2 (p:=⟨z,7,none⟩) o2 (.int .i64 v);replace on:=on.put (p:=⟨z,7,none⟩) (by simp;omega) (.int .i64 v)
         generalize ((w4.setCell ⟨z,1,none⟩ (.int .i64 2)).setCell ⟨z,7,none⟩ (.int .i64 v))=w5 at *
         replace B:Bx _ z (cL ep 2 x.kind x.job x.every x.time x.client v ln pl A1 n c1 A2 m c2):=B
         have x0:=B.at_ 0 rfl;have x1:=B.at_ 1 rfl;have x2:=B.at_ 2 rfl;have x3:=B.at_ 3 rfl;have x4:=B.at_ 4 rfl;have x5:=B.at_ 5 rfl;have x6:=B.at_ 6 rfl;have x7:=B.at_ 7 rfl;have x8:=B.at_ 8 rfl;have x9:=B.at_ 9 rfl;have x10:=B.at_ 10 rfl;have x11:=B.at_ 11 rfl
         go_wp2_with (refine wpList_put Q (cL ep 2 x.kind x.job x.every x.time x.client v ln pl A1 n c1 A2 m c2) 66 _ _ (by rfl) (by rfl) (by rfl) (by rfl) (by rfl) sizeC12 (by rfl) ?_)
         rw [HR.out]
         exact bodyPost_ret (res_cl Tryz.results100 rfl rfl (Q.put rfl)) rfl ⟨A1,n,c1,A2,m,c2,rfl,put_S (w:=w) p1 s1,put_S (w:=w) p2 s2,put_onto (by omega) on,k1,k2,g1,g2⟩
   · rw [if_pos h1] at hr
     have HR:=Lib.hid hr
     have hd1:(dg !=1)=true:=by simpa using h1
     clear hr
     have x1:=B.at_ 1 rfl
     go_wp2_with (refine wpList_put Q zC 66 _ _ (by rfl) (by rfl) (by rfl) (by rfl) (by rfl) sizeC12 (by rfl) ?_)
     exact bodyPost_ret (res_cl Tryz.results100 rfl rfl (Q.put rfl)) rfl (ClPost.bad HR.out (put_onto (by omega) on))
 · rw [if_pos h0] at hr
   have HR:=Lib.hid hr
   have hd:(q !=0)=true:=by simpa using h0
   clear hr
   go_wp2_with (refine wpList_put Q zC 66 _ _ (by rfl) (by rfl) (by rfl) (by rfl) (by rfl) sizeC12 (by rfl) ?_)
   exact bodyPost_ret (res_cl Tryz.results100 rfl rfl (Q.put rfl)) rfl (ClPost.bad HR.out (put_onto (by omega) on))
set_option maxHeartbeats 8000000 in
set_option maxRecDepth 100000 in
theorem ClFill_calls (ep dg at_ ln pl : Int) (x : Entry) (A A' : Option Addr) (n c m d : Nat) (b : Book) (v : Int) (w : World) (h : S w 3 A n (b.jobs.map encJ)) (h' : S w 3 A' m (b.rung.map encR)) :
    Calls Tryz.prog 101 #[.agg #[.int .i64 ep,.int .i64 dg,.int .i64 x.kind,.int .i64 x.job,.int .i64 x.every,.int .i64 x.time,.int .i64 x.client,.int .i64 at_,.int .i64 ln,.int .i64 pl,.slice A n c,.slice A' m d],.int .i64 v] w (ClPost w (fillCl ⟨ep,dg,x,at_,ln,pl,b⟩ v).1 (fillCl ⟨ep,dg,x,at_,ln,pl,b⟩ v).2):=by
 obtain ⟨q,hq⟩:∃ q,q=restsCl ⟨ep,dg,x,at_,ln,pl,b⟩:=⟨_,rfl⟩
 obtain ⟨r,hr⟩:∃ r,r=fillCl ⟨ep,dg,x,at_,ln,pl,b⟩ v:=⟨_,rfl⟩
 rw [← hr]
 unfold fillCl at hr
 rw [← hq] at hr
 dsimp only at hr
 have HQ:=Lib.hid hq;have HR:=Lib.hid hr
 clear hq hr
 go_enter Tryz.func101,Tryz.ntmps101
 go_upto_region 1 with fail
 refine wp_box2 (v1:=cL ep dg x.kind x.job x.every x.time x.client at_ ln pl A n c A' m d) (v2:=zC) rfl rfl fun w1 on B Q=>?_
 replace h:=h.onto on;replace h':=h'.onto on
 generalize hz:w.heap.size=z at B Q ⊢
 have x0:=B.at_ 0 rfl;have x1:=B.at_ 1 rfl;have x2:=B.at_ 2 rfl;have x3:=B.at_ 3 rfl;have x4:=B.at_ 4 rfl;have x5:=B.at_ 5 rfl;have x6:=B.at_ 6 rfl;have x7:=B.at_ 7 rfl;have x8:=B.at_ 8 rfl;have x9:=B.at_ 9 rfl;have x10:=B.at_ 10 rfl;have x11:=B.at_ 11 rfl
 go_wp2_with fail
 refine Calls.mono (ClRests_calls ep dg at_ ln pl x A A' n c m d b _ h h') ?_
 rw [← HQ.out]
 rintro e w2 ⟨rfl,b2⟩
 clear x0 x1 x2 x3 x4 x5 x6 x7 x8 x9 x10 x11
 replace on:=on.to b2;replace B:=B.onto b2;replace Q:=Q.onto b2;replace h:=h.onto b2;replace h':=h'.onto b2
 clear b2
 have hr:=HR.out
 by_cases h0:q=0
 · subst h0
   rw [if_neg (by simp)] at hr
   clear HR
   have hgb:=restsCl_book (HQ.out.symm)
   have hn:n≤1000000:=by have h9:=hgb.nj;dsimp only at h9;have:=h.len;simp only [List.length_map] at this;omega
   have hm:m≤1000000:=by have h9:=hgb.nr;dsimp only at h9;have:=h'.len;simp only [List.length_map] at this;omega
   clear hgb
   by_cases h2:v<0
   · rw [if_pos (.inl h2)] at hr
     have HR:=Lib.hid hr
     clear hr
     go_wp2_with (refine wpList_put Q zC 66 _ _ (by rfl) (by rfl) (by rfl) (by rfl) (by rfl) sizeC12 (by rfl) ?_)
     exact bodyPost_ret (res_cl Tryz.results101 rfl rfl (Q.put rfl)) rfl (ClPost.bad HR.out (put_onto (by omega) on))
   · by_cases h3:60≤v
     · rw [if_pos (.inr h3)] at hr
       have HR:=Lib.hid hr
       clear hr
       go_wp2_with (refine wpList_put Q zC 66 _ _ (by rfl) (by rfl) (by rfl) (by rfl) (by rfl) sizeC12 (by rfl) ?_)
       exact bodyPost_ret (res_cl Tryz.results101 rfl rfl (Q.put rfl)) rfl (ClPost.bad HR.out (put_onto (by omega) on))
     · rw [if_neg (by omega)] at hr
       have HR:=Lib.hid hr
       clear hr
       go_upto_region 6 with fail
       have x0:=B.at_ 0 rfl;have x1:=B.at_ 1 rfl;have x2:=B.at_ 2 rfl;have x3:=B.at_ 3 rfl;have x4:=B.at_ 4 rfl;have x5:=B.at_ 5 rfl;have x6:=B.at_ 6 rfl;have x7:=B.at_ 7 rfl;have x8:=B.at_ 8 rfl;have x9:=B.at_ 9 rfl;have x10:=B.at_ 10 rfl;have x11:=B.at_ 11 rfl
       have hzl:=B.lt;have hrl:=Q.lt
       go_wp2_with fail
       refine Calls.mono (ClCopy_calls ep dg at_ ln pl x A A' n c m d b _ h h' hn hm) ?_
       rintro e w3 ⟨A1,c1,A2,c2,rfl,s1,s2,b3,k1,k2,f1,f2⟩
       have o1:OffN n z A1:=f1.offN hzl;have o2:OffN m z A2:=f2.offN hzl
       have p1:OffN n (z+1) A1:=f1.offN hrl;have p2:OffN m (z+1) A2:=f2.offN hrl
       have g1:Fresh w.heap.size A1:=fun a e=>Nat.le_trans on.size (f1 a e);have g2:Fresh w.heap.size A2:=fun a e=>Nat.le_trans on.size (f2 a e)
       clear h h' hn hm f1 f2 hzl hrl
       clear x0 x1 x2 x3 x4 x5 x6 x7 x8 x9 x10 x11
       replace on:=on.to b3;replace B:=B.onto b3;replace Q:=Q.onto b3
       clear b3
       go_upto_region 7 with (refine wpList_put B (cL ep dg x.kind x.job x.every x.time x.client at_ ln pl A1 n c1 A2 m c2) 66 _ _ (by rfl) (by rfl) (by rfl) (by rfl) (by rfl) sizeC12 (by rfl) ?_)
       replace B:=B.put (us:=cL ep dg x.kind x.job x.every x.time x.client at_ ln pl A1 n c1 A2 m c2) rfl;replace Q:=Q.off (b:=z) (o:=0) (us:=cL ep dg x.kind x.job x.every x.time x.client at_ ln pl A1 n c1 A2 m c2) (by omega)
       replace s1:=put_S (w:=w3) o1 (vs:=cL ep dg x.kind x.job x.every x.time x.client at_ ln pl A1 n c1 A2 m c2) (o:=0) s1;replace s2:=put_S (w:=w3) o2 (vs:=cL ep dg x.kind x.job x.every x.time x.client at_ ln pl A1 n c1 A2 m c2) (o:=0) s2
       replace on:=Onto.puts (b:=z) (o:=0) (us:=cL ep dg x.kind x.job x.every x.time x.client at_ ln pl A1 n c1 A2 m c2) (by omega) on
       generalize World.setCells w3 z 0 _=w4 at *
       have t1:=B.froz 1;have t7:=B.froz 7
       have x1:=B.at_ 1 rfl;have x7:=B.at_ 7 rfl
       go_upto_region 8 with fail
       clear x1 x7
       clear t1 t7
       replace B:=B.put1 (j:=1) (by simp) (.int .i64 2);replace Q:=Q.off1 (p:=⟨z,1,none⟩) (by show _≠z;omega) (.int .i64 2);replace s1:=S.off s1 (p:=⟨z,1,none⟩) o1 (.int .i64 2);replace s2:=S.off s2 (p:=⟨z,1,none⟩) o2 (.int .i64 2);replace on:=on.put (p:=⟨z,1,none⟩) (by simp;omega) (.int .i64 2)
       replace B:=B.put1 (j:=7) (by simp) (.int .i64 v);replace Q:=Q.off1 (p:=⟨z,7,none⟩) (by show _≠z;omega) (.int .i64 v);replace s1:=S.off s1 (p:=⟨z,7,none⟩) o1 (.int .i64 v);replace s2:=S.off s2 (p:=⟨z,7,none⟩) o2 (.int .i64 v);replace on:=on.put (p:=⟨z,7,none⟩) (by simp;omega) (.int .i64 v)
       generalize ((w4.setCell ⟨z,1,none⟩ (.int .i64 2)).setCell ⟨z,7,none⟩ (.int .i64 v))=w5 at *
       replace B:Bx _ z (cL ep 2 x.kind x.job x.every x.time x.client v ln pl A1 n c1 A2 m c2):=B
       have x0:=B.at_ 0 rfl;have x1:=B.at_ 1 rfl;have x2:=B.at_ 2 rfl;have x3:=B.at_ 3 rfl;have x4:=B.at_ 4 rfl;have x5:=B.at_ 5 rfl;have x6:=B.at_ 6 rfl;have x7:=B.at_ 7 rfl;have x8:=B.at_ 8 rfl;have x9:=B.at_ 9 rfl;have x10:=B.at_ 10 rfl;have x11:=B.at_ 11 rfl
       go_wp2_with (refine wpList_put Q (cL ep 2 x.kind x.job x.every x.time x.client v ln pl A1 n c1 A2 m c2) 66 _ _ (by rfl) (by rfl) (by rfl) (by rfl) (by rfl) sizeC12 (by rfl) ?_)
       rw [HR.out]
       exact bodyPost_ret (res_cl Tryz.results101 rfl rfl (Q.put rfl)) rfl ⟨A1,n,c1,A2,m,c2,rfl,put_S (w:=w) p1 s1,put_S (w:=w) p2 s2,put_onto (by omega) on,k1,k2,g1,g2⟩
 · rw [if_pos h0] at hr
   have HR:=Lib.hid hr
   have hd:(q !=0)=true:=by simpa using h0
   clear hr
   go_wp2_with (refine wpList_put Q zC 66 _ _ (by rfl) (by rfl) (by rfl) (by rfl) (by rfl) sizeC12 (by rfl) ?_)
   exact bodyPost_ret (res_cl Tryz.results101 rfl rfl (Q.put rfl)) rfl (ClPost.bad HR.out (put_onto (by omega) on))
end
end Go.Proofs.YtidlffepdcldkaaGreatDoor
