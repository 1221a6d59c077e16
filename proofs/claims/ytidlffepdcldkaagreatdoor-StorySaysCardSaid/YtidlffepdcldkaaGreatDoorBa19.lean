/- Part 19 of the proof: Client8. -/
import Derived.Test.YtidlffepdcldkaaGreatDoorBa17
import Derived.Test.YtidlffepdcldkaaGreatDoorBa04
namespace Go.Proofs.YtidlffepdcldkaaGreatDoor
set_option linter.unusedSimpArgs false
set_option linter.unusedVariables false
section
open Go.RowKit
set_option maxHeartbeats 8000000 in
set_option maxRecDepth 100000 in
theorem ClHeard_calls (ep dg at_ ln pl : Int) (x y : Entry) (A A' : Option Addr) (n c m d : Nat) (b : Book) (w : World) (h : S w 3 A n (b.jobs.map encJ)) (h' : S w 3 A' m (b.rung.map encR)) :
    Calls Tryz.prog 124 #[.agg #[.int .i64 ep,.int .i64 dg,.int .i64 x.kind,.int .i64 x.job,.int .i64 x.every,.int .i64 x.time,.int .i64 x.client,.int .i64 at_,.int .i64 ln,.int .i64 pl,.slice A n c,.slice A' m d],.agg #[.int .i64 y.kind,.int .i64 y.job,.int .i64 y.every,.int .i64 y.time,.int .i64 y.client]] w (ClPost w (heardCl ⟨ep,dg,x,at_,ln,pl,b⟩ y).1 (heardCl ⟨ep,dg,x,at_,ln,pl,b⟩ y).2):=by
 obtain ⟨q,hq⟩:∃ q,q=checkCl ⟨ep,dg,x,at_,ln,pl,b⟩:=⟨_,rfl⟩
 obtain ⟨r,hr⟩:∃ r,r=heardCl ⟨ep,dg,x,at_,ln,pl,b⟩ y:=⟨_,rfl⟩
 rw [← hr]
 unfold heardCl at hr
 rw [← hq] at hr
 dsimp only at hr
 have HQ:=Lib.hid hq;have HR:=Lib.hid hr
 clear hq hr
 go_enter Tryz.func124,Tryz.ntmps124
 go_upto_region 1 with fail
 refine wp_box3 (v1:=cL ep dg x.kind x.job x.every x.time x.client at_ ln pl A n c A' m d) (v2:=[.int .i64 y.kind,.int .i64 y.job,.int .i64 y.every,.int .i64 y.time,.int .i64 y.client]) (v3:=zC) rfl rfl rfl fun w1 on B Y Q=>?_
 replace h:=h.onto on;replace h':=h'.onto on
 generalize hz:w.heap.size=z at B Q Y ⊢
 have x0:=B.at_ 0 rfl;have x1:=B.at_ 1 rfl;have x2:=B.at_ 2 rfl;have x3:=B.at_ 3 rfl;have x4:=B.at_ 4 rfl;have x5:=B.at_ 5 rfl;have x6:=B.at_ 6 rfl;have x7:=B.at_ 7 rfl;have x8:=B.at_ 8 rfl;have x9:=B.at_ 9 rfl;have x10:=B.at_ 10 rfl;have x11:=B.at_ 11 rfl
 go_wp2_with fail
 refine Calls.mono (ClCheck_calls ep dg at_ ln pl x A A' n c m d b _ h h') ?_
 rw [← HQ.out]
 rintro e w2 ⟨rfl,b2⟩
 clear x0 x1 x2 x3 x4 x5 x6 x7 x8 x9 x10 x11
 replace on:=on.to b2;replace B:=B.onto b2;replace Q:=Q.onto b2;replace h:=h.onto b2;replace h':=h'.onto b2;replace Y:=Y.onto b2
 clear b2
 have hr:=HR.out
 by_cases h0:q=0
 · subst h0
   rw [if_neg (by simp)] at hr
   clear HR
   have hlk:=checkCl_link (HQ.out.symm)
   dsimp only at hlk
   obtain ⟨hl0,hl1⟩:=hlk
   have hgb:=checkCl_book (HQ.out.symm)
   have hn:n≤1000000:=by have h9:=hgb.nj;dsimp only at h9;have:=h.len;simp only [List.length_map] at this;omega
   have hm:m≤1000000:=by have h9:=hgb.nr;dsimp only at h9;have:=h'.len;simp only [List.length_map] at this;omega
   clear hgb
   obtain ⟨q2,hq2⟩:∃ q2,q2=checkE y:=⟨_,rfl⟩
   rw [← hq2] at hr
   have HQ2:=Lib.hid hq2
   have HRE:=Lib.hid hr
   clear hq2 hr
   have y0:=Y.at_ 0 rfl;have y1:=Y.at_ 1 rfl;have y2:=Y.at_ 2 rfl;have y3:=Y.at_ 3 rfl;have y4:=Y.at_ 4 rfl
   go_wp2_with fail
   refine Calls.mono (Check_calls y.kind y.job y.every y.time y.client _) ?_
   rw [show checkE ⟨y.kind,y.job,y.every,y.time,y.client⟩=q2 from HQ2.out.symm]
   rintro e w2b ⟨rfl,b2⟩
   clear y0 y1 y2 y3 y4
   replace on:=on.to b2;replace B:=B.onto b2;replace Q:=Q.onto b2;replace h:=h.onto b2;replace h':=h'.onto b2;replace Y:=Y.onto b2
   clear b2
   have hr:=HRE.out
   clear HRE
   by_cases h20:q2≠0
   · rw [if_pos h20] at hr
     have HR:=Lib.hid hr
     have hd:(q2 !=0)=true:=by simpa using h20
     clear h20
     clear hr
     go_wp2_with (refine wpList_put Q zC 66 _ _ (by rfl) (by rfl) (by rfl) (by rfl) (by rfl) sizeC12 (by rfl) ?_)
     exact bodyPost_ret (res_cl Tryz.results124 rfl rfl (Q.put rfl)) rfl (ClPost.bad HR.out (put_onto (by omega) on))
   · rw [if_neg h20] at hr
     obtain rfl:q2=0:=Decidable.not_not.1 h20
     clear h20
     by_cases hk:dg≠2
     · rw [if_pos hk] at hr
       have HR:=Lib.hid hr
       have hd:(dg !=2)=true:=by simpa using hk
       clear hk
       clear hr
       have x1:=B.at_ 1 rfl
       go_wp2_with (refine wpList_put Q zC 66 _ _ (by rfl) (by rfl) (by rfl) (by rfl) (by rfl) sizeC12 (by rfl) ?_)
       exact bodyPost_ret (res_cl Tryz.results124 rfl rfl (Q.put rfl)) rfl (ClPost.bad HR.out (put_onto (by omega) on))
     · rw [if_neg hk] at hr
       have hd:(dg !=2)=false:=by simpa using hk
       clear hk
       have HRR:=Lib.hid hr
       clear hr
       have x1:=B.at_ 1 rfl
       go_upto_region 9 with fail
       clear x1
       have x0:=B.at_ 0 rfl;have x1:=B.at_ 1 rfl;have x2:=B.at_ 2 rfl;have x3:=B.at_ 3 rfl;have x4:=B.at_ 4 rfl;have x5:=B.at_ 5 rfl;have x6:=B.at_ 6 rfl;have x7:=B.at_ 7 rfl;have x8:=B.at_ 8 rfl;have x9:=B.at_ 9 rfl;have x10:=B.at_ 10 rfl;have x11:=B.at_ 11 rfl
       have hzl:=B.lt;have hrl:=Q.lt
       go_wp2_with fail
       refine Calls.mono (ClCopy_calls ep dg at_ ln pl x A A' n c m d b _ h h' hn hm) ?_
       rintro e w3 ⟨A1,c1,A2,c2,rfl,s1,s2,b3,k1,k2,f1,f2⟩
       have o1:OffN n z A1:=f1.offN hzl;have o2:OffN m z A2:=f2.offN hzl
       have p1:OffN n (z+1+1) A1:=f1.offN hrl;have p2:OffN m (z+1+1) A2:=f2.offN hrl
       have g1:Fresh w.heap.size A1:=fun a e=>Nat.le_trans on.size (f1 a e);have g2:Fresh w.heap.size A2:=fun a e=>Nat.le_trans on.size (f2 a e)
       clear h h' hn hm f1 f2 hzl hrl
       clear x0 x1 x2 x3 x4 x5 x6 x7 x8 x9 x10 x11
       replace on:=on.to b3;replace B:=B.onto b3;replace Q:=Q.onto b3;replace Y:=Y.onto b3
       clear b3
       go_upto_region 10 with (refine wpList_put B (cL ep dg x.kind x.job x.every x.time x.client at_ ln pl A1 n c1 A2 m c2) 66 _ _ (by rfl) (by rfl) (by rfl) (by rfl) (by rfl) sizeC12 (by rfl) ?_)
       replace B:=B.put (us:=cL ep dg x.kind x.job x.every x.time x.client at_ ln pl A1 n c1 A2 m c2) rfl;replace Q:=Q.off (b:=z) (o:=0) (us:=cL ep dg x.kind x.job x.every x.time x.client at_ ln pl A1 n c1 A2 m c2) (by omega);replace Y:=Y.off (b:=z) (o:=0) (us:=cL ep dg x.kind x.job x.every x.time x.client at_ ln pl A1 n c1 A2 m c2) (by omega)
       replace s1:=put_S (w:=w3) o1 (vs:=cL ep dg x.kind x.job x.every x.time x.client at_ ln pl A1 n c1 A2 m c2) (o:=0) s1;replace s2:=put_S (w:=w3) o2 (vs:=cL ep dg x.kind x.job x.every x.time x.client at_ ln pl A1 n c1 A2 m c2) (o:=0) s2
       replace on:=Onto.puts (b:=z) (o:=0) (us:=cL ep dg x.kind x.job x.every x.time x.client at_ ln pl A1 n c1 A2 m c2) (by omega) on
       generalize World.setCells w3 z 0 _=w4 at *
       have hne:=neqE
       have hr:=HRR.out
       by_cases hca:y≠x∧x.kind≠0
       · rw [if_pos hca] at hr
         have HR:=Lib.hid hr
         have hd3:(!(y.kind ==x.kind && y.job ==x.job && y.every ==x.every && y.time ==x.time && y.client ==x.client))=true:=by
          have h9:=hca.1
          rw [Ne,entry_eq_iff] at h9
          simp only [Bool.not_eq_true',Bool.and_eq_false_iff,beq_eq_false_iff_ne]
          omega
         have hd4:(x.kind !=0)=true:=by simpa using hca.2
         clear hr HRR hca
         have x1:=B.at_ 1 rfl;have x2:=B.at_ 2 rfl;have x3:=B.at_ 3 rfl;have x4:=B.at_ 4 rfl;have x5:=B.at_ 5 rfl;have x6:=B.at_ 6 rfl;have x7:=B.at_ 7 rfl;have x8:=B.at_ 8 rfl
         have y0:=Y.at_ 0 rfl;have y1:=Y.at_ 1 rfl;have y2:=Y.at_ 2 rfl;have y3:=Y.at_ 3 rfl;have y4:=Y.at_ 4 rfl
         have t1:=B.froz 1;have t7:=B.froz 7;have t8:=B.froz 8
         go_upto_region 12 with fail
         clear t1 t7 t8
         replace B:=B.put1 (j:=1) (by simp) (.int .i64 1);replace Q:=Q.off1 (p:=⟨z,1,none⟩) (by show _≠z;omega) (.int .i64 1);replace Y:=Y.off1 (p:=⟨z,1,none⟩) (by show _≠z;omega) (.int .i64 1);replace s1:=S.off s1 (p:=⟨z,1,none⟩) o1 (.int .i64 1);replace s2:=S.off s2 (p:=⟨z,1,none⟩) o2 (.int .i64 1);replace on:=on.put (p:=⟨z,1,none⟩) (by simp;omega) (.int .i64 1)
         replace B:=B.put1 (j:=7) (by simp) (.int .i64 0);replace Q:=Q.off1 (p:=⟨z,7,none⟩) (by show _≠z;omega) (.int .i64 0);replace Y:=Y.off1 (p:=⟨z,7,none⟩) (by show _≠z;omega) (.int .i64 0);replace s1:=S.off s1 (p:=⟨z,7,none⟩) o1 (.int .i64 0);replace s2:=S.off s2 (p:=⟨z,7,none⟩) o2 (.int .i64 0);replace on:=on.put (p:=⟨z,7,none⟩) (by simp;omega) (.int .i64 0)
         replace B:=B.put1 (j:=8) (by simp) (.int .i64 0);replace Q:=Q.off1 (p:=⟨z,8,none⟩) (by show _≠z;omega) (.int .i64 0);replace Y:=Y.off1 (p:=⟨z,8,none⟩) (by show _≠z;omega) (.int .i64 0);replace s1:=S.off s1 (p:=⟨z,8,none⟩) o1 (.int .i64 0);replace s2:=S.off s2 (p:=⟨z,8,none⟩) o2 (.int .i64 0);replace on:=on.put (p:=⟨z,8,none⟩) (by simp;omega) (.int .i64 0)
         generalize (((w4.setCell ⟨z,1,none⟩ (.int .i64 1)).setCell ⟨z,7,none⟩ (.int .i64 0)).setCell ⟨z,8,none⟩ (.int .i64 0))=w5 at *
         clear x1 x2 x3 x4 x5 x6 x7 x8
         clear y0 y1 y2 y3 y4
         replace B:Bx _ z (cL ep 1 x.kind x.job x.every x.time x.client 0 0 pl A1 n c1 A2 m c2):=B
         have x0:=B.at_ 0 rfl;have x1:=B.at_ 1 rfl;have x2:=B.at_ 2 rfl;have x3:=B.at_ 3 rfl;have x4:=B.at_ 4 rfl;have x5:=B.at_ 5 rfl;have x6:=B.at_ 6 rfl;have x7:=B.at_ 7 rfl;have x8:=B.at_ 8 rfl;have x9:=B.at_ 9 rfl;have x10:=B.at_ 10 rfl;have x11:=B.at_ 11 rfl
         go_wp2_with (refine wpList_put Q (cL ep 1 x.kind x.job x.every x.time x.client 0 0 pl A1 n c1 A2 m c2) 66 _ _ (by rfl) (by rfl) (by rfl) (by rfl) (by rfl) sizeC12 (by rfl) ?_)
         rw [HR.out]
         exact bodyPost_ret (res_cl Tryz.results124 rfl rfl (Q.put rfl)) rfl ⟨A1,n,c1,A2,m,c2,rfl,put_S (w:=w) p1 s1,put_S (w:=w) p2 s2,put_onto (by omega) on,k1,k2,g1,g2⟩
       · rw [if_neg hca] at hr
         have hwl:IntKind.i64.wrap (ln+1)=ln+1:=by rw [IntKind.wrap_i64];omega
         have hcb:(y=x∧(!(y.kind ==x.kind && y.job ==x.job && y.every ==x.every && y.time ==x.time && y.client ==x.client))=false)∨((!(y.kind ==x.kind && y.job ==x.job && y.every ==x.every && y.time ==x.time && y.client ==x.client))=true∧(x.kind !=0)=false):=by
          by_cases hyx:y=x
          · left;exact ⟨hyx,by simp [hyx]⟩
          · right
            refine ⟨?_,by simp;exact Decidable.byContradiction fun h=>hca ⟨hyx,h⟩⟩
            rw [entry_eq_iff] at hyx
            simp only [Bool.not_eq_true',Bool.and_eq_false_iff,beq_eq_false_iff_ne]
            omega
         have HRR2:=Lib.hid hr
         clear hca hr HRR
         rcases hcb with ⟨hyx,hd3⟩ | ⟨hd3,hd4⟩
         · subst hyx
           have x2:=B.at_ 2 rfl;have x3:=B.at_ 3 rfl;have x4:=B.at_ 4 rfl;have x5:=B.at_ 5 rfl;have x6:=B.at_ 6 rfl;have x8:=B.at_ 8 rfl
           have y0:=Y.at_ 0 rfl;have y1:=Y.at_ 1 rfl;have y2:=Y.at_ 2 rfl;have y3:=Y.at_ 3 rfl;have y4:=Y.at_ 4 rfl
           have t2:=B.froz 2;have t3:=B.froz 3;have t4:=B.froz 4;have t5:=B.froz 5;have t6:=B.froz 6;have t8:=B.froz 8
           go_upto_region 14 with fail
           clear t2 t3 t4 t5 t6 t8
           replace B:=B.put1 (j:=2) (by simp) (.int .i64 y.kind);replace Q:=Q.off1 (p:=⟨z,2,none⟩) (by show _≠z;omega) (.int .i64 y.kind);replace Y:=Y.off1 (p:=⟨z,2,none⟩) (by show _≠z;omega) (.int .i64 y.kind);replace s1:=S.off s1 (p:=⟨z,2,none⟩) o1 (.int .i64 y.kind);replace s2:=S.off s2 (p:=⟨z,2,none⟩) o2 (.int .i64 y.kind);replace on:=on.put (p:=⟨z,2,none⟩) (by simp;omega) (.int .i64 y.kind)
           replace B:=B.put1 (j:=3) (by simp) (.int .i64 y.job);replace Q:=Q.off1 (p:=⟨z,3,none⟩) (by show _≠z;omega) (.int .i64 y.job);replace Y:=Y.off1 (p:=⟨z,3,none⟩) (by show _≠z;omega) (.int .i64 y.job);replace s1:=S.off s1 (p:=⟨z,3,none⟩) o1 (.int .i64 y.job);replace s2:=S.off s2 (p:=⟨z,3,none⟩) o2 (.int .i64 y.job);replace on:=on.put (p:=⟨z,3,none⟩) (by simp;omega) (.int .i64 y.job)
           replace B:=B.put1 (j:=4) (by simp) (.int .i64 y.every);replace Q:=Q.off1 (p:=⟨z,4,none⟩) (by show _≠z;omega) (.int .i64 y.every);replace Y:=Y.off1 (p:=⟨z,4,none⟩) (by show _≠z;omega) (.int .i64 y.every);replace s1:=S.off s1 (p:=⟨z,4,none⟩) o1 (.int .i64 y.every);replace s2:=S.off s2 (p:=⟨z,4,none⟩) o2 (.int .i64 y.every);replace on:=on.put (p:=⟨z,4,none⟩) (by simp;omega) (.int .i64 y.every)
           replace B:=B.put1 (j:=5) (by simp) (.int .i64 y.time);replace Q:=Q.off1 (p:=⟨z,5,none⟩) (by show _≠z;omega) (.int .i64 y.time);replace Y:=Y.off1 (p:=⟨z,5,none⟩) (by show _≠z;omega) (.int .i64 y.time);replace s1:=S.off s1 (p:=⟨z,5,none⟩) o1 (.int .i64 y.time);replace s2:=S.off s2 (p:=⟨z,5,none⟩) o2 (.int .i64 y.time);replace on:=on.put (p:=⟨z,5,none⟩) (by simp;omega) (.int .i64 y.time)
           replace B:=B.put1 (j:=6) (by simp) (.int .i64 y.client);replace Q:=Q.off1 (p:=⟨z,6,none⟩) (by show _≠z;omega) (.int .i64 y.client);replace Y:=Y.off1 (p:=⟨z,6,none⟩) (by show _≠z;omega) (.int .i64 y.client);replace s1:=S.off s1 (p:=⟨z,6,none⟩) o1 (.int .i64 y.client);replace s2:=S.off s2 (p:=⟨z,6,none⟩) o2 (.int .i64 y.client);replace on:=on.put (p:=⟨z,6,none⟩) (by simp;omega) (.int .i64 y.client)
           replace B:=B.put1 (j:=8) (by simp) (.int .i64 (ln+1));replace Q:=Q.off1 (p:=⟨z,8,none⟩) (by show _≠z;omega) (.int .i64 (ln+1));replace Y:=Y.off1 (p:=⟨z,8,none⟩) (by show _≠z;omega) (.int .i64 (ln+1));replace s1:=S.off s1 (p:=⟨z,8,none⟩) o1 (.int .i64 (ln+1));replace s2:=S.off s2 (p:=⟨z,8,none⟩) o2 (.int .i64 (ln+1));replace on:=on.put (p:=⟨z,8,none⟩) (by simp;omega) (.int .i64 (ln+1))
           generalize ((((((w4.setCell ⟨z,2,none⟩ (.int .i64 y.kind)).setCell ⟨z,3,none⟩ (.int .i64 y.job)).setCell ⟨z,4,none⟩ (.int .i64 y.every)).setCell ⟨z,5,none⟩ (.int .i64 y.time)).setCell ⟨z,6,none⟩ (.int .i64 y.client)).setCell ⟨z,8,none⟩ (.int .i64 (ln+1)))=w5 at *
           clear x2 x3 x4 x5 x6 x8
           clear y0 y1 y2 y3 y4
           have hr:=HRR2.out
           by_cases hl3:ln+1=3
           · rw [if_pos hl3] at hr
             have HR:=Lib.hid hr
             have hd5:(ln+1 ==3)=true:=by simpa using hl3
             clear hr HRR2 hl3
             have x1:=B.at_ 1 rfl;have x2:=B.at_ 2 rfl;have x3:=B.at_ 3 rfl;have x4:=B.at_ 4 rfl;have x5:=B.at_ 5 rfl;have x6:=B.at_ 6 rfl;have x7:=B.at_ 7 rfl;have x8:=B.at_ 8 rfl
             have t1:=B.froz 1;have t2:=B.froz 2;have t3:=B.froz 3;have t4:=B.froz 4;have t5:=B.froz 5;have t6:=B.froz 6;have t7:=B.froz 7;have t8:=B.froz 8
             go_upto_region 16 with fail
             clear t1 t2 t3 t4 t5 t6 t7 t8
             replace B:=B.put1 (j:=1) (by simp) (.int .i64 0);replace Q:=Q.off1 (p:=⟨z,1,none⟩) (by show _≠z;omega) (.int .i64 0);replace Y:=Y.off1 (p:=⟨z,1,none⟩) (by show _≠z;omega) (.int .i64 0);replace s1:=S.off s1 (p:=⟨z,1,none⟩) o1 (.int .i64 0);replace s2:=S.off s2 (p:=⟨z,1,none⟩) o2 (.int .i64 0);replace on:=on.put (p:=⟨z,1,none⟩) (by simp;omega) (.int .i64 0)
             replace B:=B.put1 (j:=2) (by simp) (.int .i64 0);replace Q:=Q.off1 (p:=⟨z,2,none⟩) (by show _≠z;omega) (.int .i64 0);replace Y:=Y.off1 (p:=⟨z,2,none⟩) (by show _≠z;omega) (.int .i64 0);replace s1:=S.off s1 (p:=⟨z,2,none⟩) o1 (.int .i64 0);replace s2:=S.off s2 (p:=⟨z,2,none⟩) o2 (.int .i64 0);replace on:=on.put (p:=⟨z,2,none⟩) (by simp;omega) (.int .i64 0)
             replace B:=B.put1 (j:=3) (by simp) (.int .i64 0);replace Q:=Q.off1 (p:=⟨z,3,none⟩) (by show _≠z;omega) (.int .i64 0);replace Y:=Y.off1 (p:=⟨z,3,none⟩) (by show _≠z;omega) (.int .i64 0);replace s1:=S.off s1 (p:=⟨z,3,none⟩) o1 (.int .i64 0);replace s2:=S.off s2 (p:=⟨z,3,none⟩) o2 (.int .i64 0);replace on:=on.put (p:=⟨z,3,none⟩) (by simp;omega) (.int .i64 0)
             replace B:=B.put1 (j:=4) (by simp) (.int .i64 0);replace Q:=Q.off1 (p:=⟨z,4,none⟩) (by show _≠z;omega) (.int .i64 0);replace Y:=Y.off1 (p:=⟨z,4,none⟩) (by show _≠z;omega) (.int .i64 0);replace s1:=S.off s1 (p:=⟨z,4,none⟩) o1 (.int .i64 0);replace s2:=S.off s2 (p:=⟨z,4,none⟩) o2 (.int .i64 0);replace on:=on.put (p:=⟨z,4,none⟩) (by simp;omega) (.int .i64 0)
             replace B:=B.put1 (j:=5) (by simp) (.int .i64 0);replace Q:=Q.off1 (p:=⟨z,5,none⟩) (by show _≠z;omega) (.int .i64 0);replace Y:=Y.off1 (p:=⟨z,5,none⟩) (by show _≠z;omega) (.int .i64 0);replace s1:=S.off s1 (p:=⟨z,5,none⟩) o1 (.int .i64 0);replace s2:=S.off s2 (p:=⟨z,5,none⟩) o2 (.int .i64 0);replace on:=on.put (p:=⟨z,5,none⟩) (by simp;omega) (.int .i64 0)
             replace B:=B.put1 (j:=6) (by simp) (.int .i64 0);replace Q:=Q.off1 (p:=⟨z,6,none⟩) (by show _≠z;omega) (.int .i64 0);replace Y:=Y.off1 (p:=⟨z,6,none⟩) (by show _≠z;omega) (.int .i64 0);replace s1:=S.off s1 (p:=⟨z,6,none⟩) o1 (.int .i64 0);replace s2:=S.off s2 (p:=⟨z,6,none⟩) o2 (.int .i64 0);replace on:=on.put (p:=⟨z,6,none⟩) (by simp;omega) (.int .i64 0)
             replace B:=B.put1 (j:=7) (by simp) (.int .i64 0);replace Q:=Q.off1 (p:=⟨z,7,none⟩) (by show _≠z;omega) (.int .i64 0);replace Y:=Y.off1 (p:=⟨z,7,none⟩) (by show _≠z;omega) (.int .i64 0);replace s1:=S.off s1 (p:=⟨z,7,none⟩) o1 (.int .i64 0);replace s2:=S.off s2 (p:=⟨z,7,none⟩) o2 (.int .i64 0);replace on:=on.put (p:=⟨z,7,none⟩) (by simp;omega) (.int .i64 0)
             replace B:=B.put1 (j:=8) (by simp) (.int .i64 0);replace Q:=Q.off1 (p:=⟨z,8,none⟩) (by show _≠z;omega) (.int .i64 0);replace Y:=Y.off1 (p:=⟨z,8,none⟩) (by show _≠z;omega) (.int .i64 0);replace s1:=S.off s1 (p:=⟨z,8,none⟩) o1 (.int .i64 0);replace s2:=S.off s2 (p:=⟨z,8,none⟩) o2 (.int .i64 0);replace on:=on.put (p:=⟨z,8,none⟩) (by simp;omega) (.int .i64 0)
             generalize ((((((((w5.setCell ⟨z,1,none⟩ (.int .i64 0)).setCell ⟨z,2,none⟩ (.int .i64 0)).setCell ⟨z,3,none⟩ (.int .i64 0)).setCell ⟨z,4,none⟩ (.int .i64 0)).setCell ⟨z,5,none⟩ (.int .i64 0)).setCell ⟨z,6,none⟩ (.int .i64 0)).setCell ⟨z,7,none⟩ (.int .i64 0)).setCell ⟨z,8,none⟩ (.int .i64 0))=w6 at *
             clear x1 x2 x3 x4 x5 x6 x7 x8
             replace B:Bx _ z (cL ep 0 0 0 0 0 0 0 0 pl A1 n c1 A2 m c2):=B
             have x0:=B.at_ 0 rfl;have x1:=B.at_ 1 rfl;have x2:=B.at_ 2 rfl;have x3:=B.at_ 3 rfl;have x4:=B.at_ 4 rfl;have x5:=B.at_ 5 rfl;have x6:=B.at_ 6 rfl;have x7:=B.at_ 7 rfl;have x8:=B.at_ 8 rfl;have x9:=B.at_ 9 rfl;have x10:=B.at_ 10 rfl;have x11:=B.at_ 11 rfl
             go_wp2_with (refine wpList_put Q (cL ep 0 0 0 0 0 0 0 0 pl A1 n c1 A2 m c2) 66 _ _ (by rfl) (by rfl) (by rfl) (by rfl) (by rfl) sizeC12 (by rfl) ?_)
             rw [HR.out]
             exact bodyPost_ret (res_cl Tryz.results124 rfl rfl (Q.put rfl)) rfl ⟨A1,n,c1,A2,m,c2,rfl,put_S (w:=w) p1 s1,put_S (w:=w) p2 s2,put_onto (by omega) on,k1,k2,g1,g2⟩
           · rw [if_neg hl3] at hr
             have HR:=Lib.hid hr
             have hd5:(ln+1 ==3)=false:=by simpa using hl3
             clear hr HRR2 hl3
             have x8:=B.at_ 8 rfl
             go_upto_region 16 with fail
             clear x8
             replace B:Bx _ z (cL ep dg y.kind y.job y.every y.time y.client at_ (ln+1) pl A1 n c1 A2 m c2):=B
             have x0:=B.at_ 0 rfl;have x1:=B.at_ 1 rfl;have x2:=B.at_ 2 rfl;have x3:=B.at_ 3 rfl;have x4:=B.at_ 4 rfl;have x5:=B.at_ 5 rfl;have x6:=B.at_ 6 rfl;have x7:=B.at_ 7 rfl;have x8:=B.at_ 8 rfl;have x9:=B.at_ 9 rfl;have x10:=B.at_ 10 rfl;have x11:=B.at_ 11 rfl
             go_wp2_with (refine wpList_put Q (cL ep dg y.kind y.job y.every y.time y.client at_ (ln+1) pl A1 n c1 A2 m c2) 66 _ _ (by rfl) (by rfl) (by rfl) (by rfl) (by rfl) sizeC12 (by rfl) ?_)
             rw [HR.out]
             exact bodyPost_ret (res_cl Tryz.results124 rfl rfl (Q.put rfl)) rfl ⟨A1,n,c1,A2,m,c2,rfl,put_S (w:=w) p1 s1,put_S (w:=w) p2 s2,put_onto (by omega) on,k1,k2,g1,g2⟩
         · skip
           have x2:=B.at_ 2 rfl;have x3:=B.at_ 3 rfl;have x4:=B.at_ 4 rfl;have x5:=B.at_ 5 rfl;have x6:=B.at_ 6 rfl;have x8:=B.at_ 8 rfl
           have y0:=Y.at_ 0 rfl;have y1:=Y.at_ 1 rfl;have y2:=Y.at_ 2 rfl;have y3:=Y.at_ 3 rfl;have y4:=Y.at_ 4 rfl
           have t2:=B.froz 2;have t3:=B.froz 3;have t4:=B.froz 4;have t5:=B.froz 5;have t6:=B.froz 6;have t8:=B.froz 8
           go_upto_region 14 with fail
           clear t2 t3 t4 t5 t6 t8
           replace B:=B.put1 (j:=2) (by simp) (.int .i64 y.kind);replace Q:=Q.off1 (p:=⟨z,2,none⟩) (by show _≠z;omega) (.int .i64 y.kind);replace Y:=Y.off1 (p:=⟨z,2,none⟩) (by show _≠z;omega) (.int .i64 y.kind);replace s1:=S.off s1 (p:=⟨z,2,none⟩) o1 (.int .i64 y.kind);replace s2:=S.off s2 (p:=⟨z,2,none⟩) o2 (.int .i64 y.kind);replace on:=on.put (p:=⟨z,2,none⟩) (by simp;omega) (.int .i64 y.kind)
           replace B:=B.put1 (j:=3) (by simp) (.int .i64 y.job);replace Q:=Q.off1 (p:=⟨z,3,none⟩) (by show _≠z;omega) (.int .i64 y.job);replace Y:=Y.off1 (p:=⟨z,3,none⟩) (by show _≠z;omega) (.int .i64 y.job);replace s1:=S.off s1 (p:=⟨z,3,none⟩) o1 (.int .i64 y.job);replace s2:=S.off s2 (p:=⟨z,3,none⟩) o2 (.int .i64 y.job);replace on:=on.put (p:=⟨z,3,none⟩) (by simp;omega) (.int .i64 y.job)
           replace B:=B.put1 (j:=4) (by simp) (.int .i64 y.every);replace Q:=Q.off1 (p:=⟨z,4,none⟩) (by show _≠z;omega) (.int .i64 y.every);replace Y:=Y.off1 (p:=⟨z,4,none⟩) (by show _≠z;omega) (.int .i64 y.every);replace s1:=S.off s1 (p:=⟨z,4,none⟩) o1 (.int .i64 y.every);replace s2:=S.off s2 (p:=⟨z,4,none⟩) o2 (.int .i64 y.every);replace on:=on.put (p:=⟨z,4,none⟩) (by simp;omega) (.int .i64 y.every)
           replace B:=B.put1 (j:=5) (by simp) (.int .i64 y.time);replace Q:=Q.off1 (p:=⟨z,5,none⟩) (by show _≠z;omega) (.int .i64 y.time);replace Y:=Y.off1 (p:=⟨z,5,none⟩) (by show _≠z;omega) (.int .i64 y.time);replace s1:=S.off s1 (p:=⟨z,5,none⟩) o1 (.int .i64 y.time);replace s2:=S.off s2 (p:=⟨z,5,none⟩) o2 (.int .i64 y.time);replace on:=on.put (p:=⟨z,5,none⟩) (by simp;omega) (.int .i64 y.time)
           replace B:=B.put1 (j:=6) (by simp) (.int .i64 y.client);replace Q:=Q.off1 (p:=⟨z,6,none⟩) (by show _≠z;omega) (.int .i64 y.client);replace Y:=Y.off1 (p:=⟨z,6,none⟩) (by show _≠z;omega) (.int .i64 y.client);replace s1:=S.off s1 (p:=⟨z,6,none⟩) o1 (.int .i64 y.client);replace s2:=S.off s2 (p:=⟨z,6,none⟩) o2 (.int .i64 y.client);replace on:=on.put (p:=⟨z,6,none⟩) (by simp;omega) (.int .i64 y.client)
           replace B:=B.put1 (j:=8) (by simp) (.int .i64 (ln+1));replace Q:=Q.off1 (p:=⟨z,8,none⟩) (by show _≠z;omega) (.int .i64 (ln+1));replace Y:=Y.off1 (p:=⟨z,8,none⟩) (by show _≠z;omega) (.int .i64 (ln+1));replace s1:=S.off s1 (p:=⟨z,8,none⟩) o1 (.int .i64 (ln+1));replace s2:=S.off s2 (p:=⟨z,8,none⟩) o2 (.int .i64 (ln+1));replace on:=on.put (p:=⟨z,8,none⟩) (by simp;omega) (.int .i64 (ln+1))
           generalize ((((((w4.setCell ⟨z,2,none⟩ (.int .i64 y.kind)).setCell ⟨z,3,none⟩ (.int .i64 y.job)).setCell ⟨z,4,none⟩ (.int .i64 y.every)).setCell ⟨z,5,none⟩ (.int .i64 y.time)).setCell ⟨z,6,none⟩ (.int .i64 y.client)).setCell ⟨z,8,none⟩ (.int .i64 (ln+1)))=w5 at *
           clear x2 x3 x4 x5 x6 x8
           clear y0 y1 y2 y3 y4
           have hr:=HRR2.out
           by_cases hl3:ln+1=3
           · rw [if_pos hl3] at hr
             have HR:=Lib.hid hr
             have hd5:(ln+1 ==3)=true:=by simpa using hl3
             clear hr HRR2 hl3
             have x1:=B.at_ 1 rfl;have x2:=B.at_ 2 rfl;have x3:=B.at_ 3 rfl;have x4:=B.at_ 4 rfl;have x5:=B.at_ 5 rfl;have x6:=B.at_ 6 rfl;have x7:=B.at_ 7 rfl;have x8:=B.at_ 8 rfl
             have t1:=B.froz 1;have t2:=B.froz 2;have t3:=B.froz 3;have t4:=B.froz 4;have t5:=B.froz 5;have t6:=B.froz 6;have t7:=B.froz 7;have t8:=B.froz 8
             go_upto_region 16 with fail
             clear t1 t2 t3 t4 t5 t6 t7 t8
             replace B:=B.put1 (j:=1) (by simp) (.int .i64 0);replace Q:=Q.off1 (p:=⟨z,1,none⟩) (by show _≠z;omega) (.int .i64 0);replace Y:=Y.off1 (p:=⟨z,1,none⟩) (by show _≠z;omega) (.int .i64 0);replace s1:=S.off s1 (p:=⟨z,1,none⟩) o1 (.int .i64 0);replace s2:=S.off s2 (p:=⟨z,1,none⟩) o2 (.int .i64 0);replace on:=on.put (p:=⟨z,1,none⟩) (by simp;omega) (.int .i64 0)
             replace B:=B.put1 (j:=2) (by simp) (.int .i64 0);replace Q:=Q.off1 (p:=⟨z,2,none⟩) (by show _≠z;omega) (.int .i64 0);replace Y:=Y.off1 (p:=⟨z,2,none⟩) (by show _≠z;omega) (.int .i64 0);replace s1:=S.off s1 (p:=⟨z,2,none⟩) o1 (.int .i64 0);replace s2:=S.off s2 (p:=⟨z,2,none⟩) o2 (.int .i64 0);replace on:=on.put (p:=⟨z,2,none⟩) (by simp;omega) (.int .i64 0)
             replace B:=B.put1 (j:=3) (by simp) (.int .i64 0);replace Q:=Q.off1 (p:=⟨z,3,none⟩) (by show _≠z;omega) (.int .i64 0);replace Y:=Y.off1 (p:=⟨z,3,none⟩) (by show _≠z;omega) (.int .i64 0);replace s1:=S.off s1 (p:=⟨z,3,none⟩) o1 (.int .i64 0);replace s2:=S.off s2 (p:=⟨z,3,none⟩) o2 (.int .i64 0);replace on:=on.put (p:=⟨z,3,none⟩) (by simp;omega) (.int .i64 0)
             replace B:=B.put1 (j:=4) (by simp) (.int .i64 0);replace Q:=Q.off1 (p:=⟨z,4,none⟩) (by show _≠z;omega) (.int .i64 0);replace Y:=Y.off1 (p:=⟨z,4,none⟩) (by show _≠z;omega) (.int .i64 0);replace s1:=S.off s1 (p:=⟨z,4,none⟩) o1 (.int .i64 0);replace s2:=S.off s2 (p:=⟨z,4,none⟩) o2 (.int .i64 0);replace on:=on.put (p:=⟨z,4,none⟩) (by simp;omega) (.int .i64 0)
             replace B:=B.put1 (j:=5) (by simp) (.int .i64 0);replace Q:=Q.off1 (p:=⟨z,5,none⟩) (by show _≠z;omega) (.int .i64 0);replace Y:=Y.off1 (p:=⟨z,5,none⟩) (by show _≠z;omega) (.int .i64 0);replace s1:=S.off s1 (p:=⟨z,5,none⟩) o1 (.int .i64 0);replace s2:=S.off s2 (p:=⟨z,5,none⟩) o2 (.int .i64 0);replace on:=on.put (p:=⟨z,5,none⟩) (by simp;omega) (.int .i64 0)
             replace B:=B.put1 (j:=6) (by simp) (.int .i64 0);replace Q:=Q.off1 (p:=⟨z,6,none⟩) (by show _≠z;omega) (.int .i64 0);replace Y:=Y.off1 (p:=⟨z,6,none⟩) (by show _≠z;omega) (.int .i64 0);replace s1:=S.off s1 (p:=⟨z,6,none⟩) o1 (.int .i64 0);replace s2:=S.off s2 (p:=⟨z,6,none⟩) o2 (.int .i64 0);replace on:=on.put (p:=⟨z,6,none⟩) (by simp;omega) (.int .i64 0)
             replace B:=B.put1 (j:=7) (by simp) (.int .i64 0);replace Q:=Q.off1 (p:=⟨z,7,none⟩) (by show _≠z;omega) (.int .i64 0);replace Y:=Y.off1 (p:=⟨z,7,none⟩) (by show _≠z;omega) (.int .i64 0);replace s1:=S.off s1 (p:=⟨z,7,none⟩) o1 (.int .i64 0);replace s2:=S.off s2 (p:=⟨z,7,none⟩) o2 (.int .i64 0);replace on:=on.put (p:=⟨z,7,none⟩) (by simp;omega) (.int .i64 0)
             replace B:=B.put1 (j:=8) (by simp) (.int .i64 0);replace Q:=Q.off1 (p:=⟨z,8,none⟩) (by show _≠z;omega) (.int .i64 0);replace Y:=Y.off1 (p:=⟨z,8,none⟩) (by show _≠z;omega) (.int .i64 0);replace s1:=S.off s1 (p:=⟨z,8,none⟩) o1 (.int .i64 0);replace s2:=S.off s2 (p:=⟨z,8,none⟩) o2 (.int .i64 0);replace on:=on.put (p:=⟨z,8,none⟩) (by simp;omega) (.int .i64 0)
             generalize ((((((((w5.setCell ⟨z,1,none⟩ (.int .i64 0)).setCell ⟨z,2,none⟩ (.int .i64 0)).setCell ⟨z,3,none⟩ (.int .i64 0)).setCell ⟨z,4,none⟩ (.int .i64 0)).setCell ⟨z,5,none⟩ (.int .i64 0)).setCell ⟨z,6,none⟩ (.int .i64 0)).setCell ⟨z,7,none⟩ (.int .i64 0)).setCell ⟨z,8,none⟩ (.int .i64 0))=w6 at *
             clear x1 x2 x3 x4 x5 x6 x7 x8
             replace B:Bx _ z (cL ep 0 0 0 0 0 0 0 0 pl A1 n c1 A2 m c2):=B
             have x0:=B.at_ 0 rfl;have x1:=B.at_ 1 rfl;have x2:=B.at_ 2 rfl;have x3:=B.at_ 3 rfl;have x4:=B.at_ 4 rfl;have x5:=B.at_ 5 rfl;have x6:=B.at_ 6 rfl;have x7:=B.at_ 7 rfl;have x8:=B.at_ 8 rfl;have x9:=B.at_ 9 rfl;have x10:=B.at_ 10 rfl;have x11:=B.at_ 11 rfl
             go_wp2_with (refine wpList_put Q (cL ep 0 0 0 0 0 0 0 0 pl A1 n c1 A2 m c2) 66 _ _ (by rfl) (by rfl) (by rfl) (by rfl) (by rfl) sizeC12 (by rfl) ?_)
             rw [HR.out]
             exact bodyPost_ret (res_cl Tryz.results124 rfl rfl (Q.put rfl)) rfl ⟨A1,n,c1,A2,m,c2,rfl,put_S (w:=w) p1 s1,put_S (w:=w) p2 s2,put_onto (by omega) on,k1,k2,g1,g2⟩
           · rw [if_neg hl3] at hr
             have HR:=Lib.hid hr
             have hd5:(ln+1 ==3)=false:=by simpa using hl3
             clear hr HRR2 hl3
             have x8:=B.at_ 8 rfl
             go_upto_region 16 with fail
             clear x8
             replace B:Bx _ z (cL ep dg y.kind y.job y.every y.time y.client at_ (ln+1) pl A1 n c1 A2 m c2):=B
             have x0:=B.at_ 0 rfl;have x1:=B.at_ 1 rfl;have x2:=B.at_ 2 rfl;have x3:=B.at_ 3 rfl;have x4:=B.at_ 4 rfl;have x5:=B.at_ 5 rfl;have x6:=B.at_ 6 rfl;have x7:=B.at_ 7 rfl;have x8:=B.at_ 8 rfl;have x9:=B.at_ 9 rfl;have x10:=B.at_ 10 rfl;have x11:=B.at_ 11 rfl
             go_wp2_with (refine wpList_put Q (cL ep dg y.kind y.job y.every y.time y.client at_ (ln+1) pl A1 n c1 A2 m c2) 66 _ _ (by rfl) (by rfl) (by rfl) (by rfl) (by rfl) sizeC12 (by rfl) ?_)
             rw [HR.out]
             exact bodyPost_ret (res_cl Tryz.results124 rfl rfl (Q.put rfl)) rfl ⟨A1,n,c1,A2,m,c2,rfl,put_S (w:=w) p1 s1,put_S (w:=w) p2 s2,put_onto (by omega) on,k1,k2,g1,g2⟩
 · rw [if_pos h0] at hr
   have HR:=Lib.hid hr
   have hd:(q !=0)=true:=by simpa using h0
   clear hr
   go_wp2_with (refine wpList_put Q zC 66 _ _ (by rfl) (by rfl) (by rfl) (by rfl) (by rfl) sizeC12 (by rfl) ?_)
   exact bodyPost_ret (res_cl Tryz.results124 rfl rfl (Q.put rfl)) rfl (ClPost.bad HR.out (put_onto (by omega) on))
end
end Go.Proofs.YtidlffepdcldkaaGreatDoor
