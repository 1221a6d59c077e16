/- Part 27 of the proof: TLink. -/
import Derived.Test.YtidlffepdcldkaaGreatDoorBa26
namespace Go.Proofs.YtidlffepdcldkaaGreatDoor
set_option linter.unusedSimpArgs false
set_option linter.unusedVariables false
section
open Go.RowKit
attribute [local go_sem ↓] Go.wp_at_zero Go.wp_at_succ
attribute [local go_sem ↓] stCl_eq stRec_eq stEnt_eq
attribute [local go_sem] run_stCl there_clW run_stRec run_stEnt there_recW there_entW there_recW1 there_entW1 there_alloc there_setCells there_entWb there_c
set_option maxHeartbeats 16000000 in
set_option maxRecDepth 100000 in
theorem WLinkT_calls (K w0 : World) (z nb cN cb cC : Nat) (ns : List NV) (tip : Int) (cs : List CV) (time : Int) (kd nn jb ep : Int) (m : Nat) (y : Entry) (w : World) (E0 : Env w0) (H : WM K w0 w z nb cN cb cC ns tip cs time) (hok : ∀ v ∈ cs, checkCl v.x = 0) (hm : m < 3) (hk : kd = 4) :
    Calls Tryz.prog 97 #[.pointer (some ⟨z,0,none⟩),.agg #[.int .i64 kd,.int .i64 ↑m,.int .i64 nn,.int .i64 jb,.int .i64 ep,.int .i64 y.kind,.int .i64 y.job,.int .i64 y.every,.int .i64 y.time,.int .i64 y.client]] w (HPost K w0 z nb cN cb cC (linkW (wor ns tip cs time) ⟨kd,m,nn,jb,ep,y⟩)):=by
 have E:=E0.onto H.onAll
 have hzl0:=H.lts
 obtain ⟨c,hcv,J,on2,oc2,_⟩:=H.f.atC hm
 have oz2:=H.cz c (List.mem_of_getElem? hcv)
 have hcc:=checkCl_iff.1 (hok c (List.mem_of_getElem? hcv))
 obtain ⟨l,hl,hl3⟩:∃ l:Nat,c.x.link=(l:Int)∧l<3:=⟨c.x.link.toNat,by omega,by omega⟩
 obtain ⟨v,hv,I,on1,oc,_⟩:=H.f.atN hl3
 have oz:=H.nz v (List.mem_of_getElem? hv)
 have FV:=Lib.hid (H.fN v (List.mem_of_getElem? hv))
 obtain ⟨q,hq⟩:∃ q,q=linkW (wor ns tip cs time) ⟨kd,m,nn,jb,ep,y⟩:=⟨_,rfl⟩
 rw [← hq]
 have htm:((m:Nat):Int).toNat=m:=by omega
 have htl:((l:Nat):Int).toNat=l:=by omega
 obtain ⟨r,hr⟩:∃ r,r=linkC (unitsN (nods ns)) c.x.link c.x.at_ c.x.e c.x.epoch:=⟨_,rfl⟩
 unfold linkW at hq
 simp only [htm,show (wor ns tip cs time).c=clis cs from rfl,show (wor ns tip cs time).n=nods ns from rfl,cliAt_cs hcv,hl,htl,nodAt_ns hv] at hq
 rw [hl] at hr
 rw [← hr] at hq
 have HQ:=Lib.hid hq;have HV:=Lib.hid hv;have HCV:=Lib.hid hcv;have HR:=Lib.hid hr;have HK:=Lib.hid hk;have HL:=Lib.hid hl;have HOK:=Lib.hid hok
 have hm3:(m:Int)<3:=by omega
 have hl3':(l:Int)<3:=by omega
 clear hq hv hcv hr hk hl htm htl hcc hok
 go_enter Tryz.func97,Tryz.ntmps97
 go_upto_region 1 with fail
 refine wp_box1 (v1:=[.int .i64 kd,.int .i64 ↑m,.int .i64 nn,.int .i64 jb,.int .i64 ep,.int .i64 y.kind,.int .i64 y.job,.int .i64 y.every,.int .i64 y.time,.int .i64 y.client]) rfl fun w1 b X=>?_
 replace H:=H.onto b;replace E:=E.onto b;replace I:=I.onto b;replace J:=J.onto b
 generalize hzx:w.heap.size=zx at X hzl0
 clear hzx b
 have x1:=X.at_ 1 rfl
 have z2:=H.bx.at_ 2 rfl
 have c1:=(CV.cells_at H.f.cr (encC_len cs) (row_cs HCV.out)).2.1
 go_quiet (fail)
 go_upto_region 2 with fail
 generalize hd:World.drewN w1 _=w2
 have od:Onto w1 w2:=by rw [← hd];exact (Onto.rfl' w1).draws _
 clear hd
 replace H:=H.onto od;replace E:=E.onto od;replace X:=X.onto od
 replace I:=I.onto od;replace J:=J.onto od
 clear x1 z2
 by_cases hd:c.x.doing=2
 · have hq:=HQ.out
   rw [if_neg (by simp [hd])] at hq
   replace HQ:=Lib.hid hq
   replace c1:=cellB od c1
   rw [hd] at c1
   clear hq hd od
   go_upto_region 4 with fail
   clear c1
   have z0:=H.bx.at_ 0 rfl
   have c8:=(CV.cells_at H.f.cr (encC_len cs) (row_cs HCV.out)).2.2.2.2.2.2.2.2.1
   rw [HL.out] at c8
   go_quiet (fail)
   go_upto_region 5 with fail
   generalize hd:World.drewN w2 _=w3
   have od:Onto w2 w3:=by rw [← hd];exact (Onto.rfl' w2).draws _
   clear hd
   replace H:=H.onto od;replace E:=E.onto od;replace X:=X.onto od
   replace I:=I.onto od;replace J:=J.onto od
   have n4:=(NV.cells_at H.f.nr (encN_len ns) (row_ns HV.out)).2.2.2.2
   clear od z0 c8
   rcases Bool.eq_false_or_eq_true v.x.up with hu | hu
   · have hq:=HQ.out
     rw [hu,if_neg (by decide)] at hq
     replace HQ:=Lib.hid hq
     rw [hu] at n4
     clear hq
     have HU:=Lib.hid hu
     clear hu
     go_upto_region 7 with fail
     clear n4
     have z0:=H.bx.at_ 0 rfl;have z1:=H.bx.at_ 1 rfl;have z2:=H.bx.at_ 2 rfl;have z3:=H.bx.at_ 3 rfl
     obtain ⟨c0,c1,c2,c3,c4,c5,c6,c7,c8,c9,c10,c11⟩:=CV.cells_at H.f.cr (encC_len cs) (row_cs HCV.out)
     rw [HL.out] at c8
     clear c1 c9 c10 c11
     have hz4w:=H.onAll.size;have hz4:=H.lts;have hxl:=X.lt
     have hz0:∀ w',Onto w3 w'→w'.cell? ⟨z,0,none⟩=some (.slice (some ⟨nb,0,none⟩) 3 cN):=fun w' h=>cellB h z0;have hz1:∀ w',Onto w3 w'→w'.cell? ⟨z,1,none⟩=some (.int .i64 tip):=fun w' h=>cellB h z1;have hz2:∀ w',Onto w3 w'→w'.cell? ⟨z,2,none⟩=some (.slice (some ⟨cb,0,none⟩) 3 cC):=fun w' h=>cellB h z2;have hz3:∀ w',Onto w3 w'→w'.cell? ⟨z,3,none⟩=some (.int .i64 time):=fun w' h=>cellB h z3;have hc0:∀ w',Onto w3 w'→w'.cell? ⟨cb,m*12,none⟩=some (.int .i64 c.x.epoch):=fun w' h=>cellB h c0;have hc2:∀ w',Onto w3 w'→w'.cell? ⟨cb,m*12+2,none⟩=some (.int .i64 c.x.e.kind):=fun w' h=>cellB h c2;have hc3:∀ w',Onto w3 w'→w'.cell? ⟨cb,m*12+3,none⟩=some (.int .i64 c.x.e.job):=fun w' h=>cellB h c3;have hc4:∀ w',Onto w3 w'→w'.cell? ⟨cb,m*12+4,none⟩=some (.int .i64 c.x.e.every):=fun w' h=>cellB h c4;have hc5:∀ w',Onto w3 w'→w'.cell? ⟨cb,m*12+5,none⟩=some (.int .i64 c.x.e.time):=fun w' h=>cellB h c5;have hc6:∀ w',Onto w3 w'→w'.cell? ⟨cb,m*12+6,none⟩=some (.int .i64 c.x.e.client):=fun w' h=>cellB h c6;have hc7:∀ w',Onto w3 w'→w'.cell? ⟨cb,m*12+7,none⟩=some (.int .i64 c.x.at_):=fun w' h=>cellB h c7;have hc8:∀ w',Onto w3 w'→w'.cell? ⟨cb,m*12+8,none⟩=some (.int .i64 l):=fun w' h=>cellB h c8
     clear c0 c2 c3 c4 c5 c6 c7 c8 z0 z1 z2 z3
     have W4:=H.f.wr
     go_cut [7,8,9] (fun s7 s8 s9 wx=>∃ (p p':Nat),s7=.pointer (some ⟨p,0,none⟩)∧s8=.pointer (some ⟨p',0,none⟩)∧s9=.int .i64 r.2.2∧Bx wx p [.int .i64 r.1.kind,.int .i64 r.1.at_,.int .i64 r.1.epoch,.int .i64 r.1.e.kind,.int .i64 r.1.e.job,.int .i64 r.1.e.every,.int .i64 r.1.e.time,.int .i64 r.1.e.client]∧Bx wx p' [.int .i64 r.2.1.kind,.int .i64 r.2.1.job,.int .i64 r.2.1.every,.int .i64 r.2.1.time,.int .i64 r.2.1.client]∧Onto w3 wx∧w3.heap.size≤p')
     case first =>
      have hpz3:w3.heap.size≤w3.heap.size:=Nat.le_refl _
      have hpz4:w3.heap.size≤w3.heap.size+1:=Nat.le_succ _
      go_region_held3 (fun w'=>Onto w3 w')
       (((with_reducible (repeat (first | exact Onto.rfl' _ | exact b6 | exact b5 | refine Onto.draw ?_ | refine Onto.new ?_ _ | refine Onto.puts hpz1 ?_ | refine Onto.puts hpz2 ?_ | refine Onto.puts hpz3 ?_ | refine Onto.puts hpz4 ?_ | refine Onto.puts hpz5 ?_ | refine Onto.puts hpz6 ?_)));done))
       (first
       | (go_at_call 103;refine Calls.mono (units_calls (some ⟨nb,0,none⟩) 3 cN tip (some ⟨cb,0,none⟩) 3 cC time ns cs _ (W4.onto (by with_reducible (first | exact Onto.rfl' _ | exact (Onto.rfl' _).draw | exact ((Onto.rfl' _).new _).draw | exact (((Onto.rfl' _).new _).new _).draw | exact (Onto.rfl' _).new _ | exact ((Onto.rfl' _).new _).new _))) (by omega)) ?_;rintro e w5 ⟨U0,un,uy,rfl,HU,ob⟩;have b5:Onto w3 w5:=Onto.to (by with_reducible (first | exact Onto.rfl' _ | exact (Onto.rfl' _).draw | exact ((Onto.rfl' _).new _).draw | exact (((Onto.rfl' _).new _).new _).draw | exact (Onto.rfl' _).new _ | exact ((Onto.rfl' _).new _).new _)) ob;have hpz1:w3.heap.size≤w5.heap.size:=b5.size;have hpz2:w3.heap.size≤w5.heap.size+1:=Nat.le_succ_of_le hpz1;(first | (have ZR:Bx w5 w3.heap.size [.int .i64 0,.int .i64 0,.int .i64 0,.int .i64 0,.int .i64 0,.int .i64 0,.int .i64 0,.int .i64 0]:=?_;rotate_left 1;focus (refine Bx.onto ?_ ob;with_reducible (first | exact (Bx.made w3 #[.int .i64 0,.int .i64 0,.int .i64 0,.int .i64 0,.int .i64 0,.int .i64 0,.int .i64 0,.int .i64 0] 96).draw | exact ((Bx.made w3 #[.int .i64 0,.int .i64 0,.int .i64 0,.int .i64 0,.int .i64 0,.int .i64 0,.int .i64 0,.int .i64 0] 96).new _).draw | exact Bx.made w3 #[.int .i64 0,.int .i64 0,.int .i64 0,.int .i64 0,.int .i64 0,.int .i64 0,.int .i64 0,.int .i64 0] 96 | exact (Bx.made w3 #[.int .i64 0,.int .i64 0,.int .i64 0,.int .i64 0,.int .i64 0,.int .i64 0,.int .i64 0,.int .i64 0] 96).new _);done)) | (have ZR:Bx w5 (w3.heap.size+1) [.int .i64 0,.int .i64 0,.int .i64 0,.int .i64 0,.int .i64 0,.int .i64 0,.int .i64 0,.int .i64 0]:=?_;rotate_left 1;focus (refine Bx.onto ?_ ob;with_reducible (first | exact (made1 w3 _ #[.int .i64 0,.int .i64 0,.int .i64 0,.int .i64 0,.int .i64 0,.int .i64 0,.int .i64 0,.int .i64 0] 96).draw | exact made1 w3 _ #[.int .i64 0,.int .i64 0,.int .i64 0,.int .i64 0,.int .i64 0,.int .i64 0,.int .i64 0,.int .i64 0] 96);done)) | skip);(first | (have ZE:Bx w5 w3.heap.size [.int .i64 0,.int .i64 0,.int .i64 0,.int .i64 0,.int .i64 0]:=?_;rotate_left 1;focus (refine Bx.onto ?_ ob;with_reducible (first | exact (Bx.made w3 #[.int .i64 0,.int .i64 0,.int .i64 0,.int .i64 0,.int .i64 0] 46).draw | exact ((Bx.made w3 #[.int .i64 0,.int .i64 0,.int .i64 0,.int .i64 0,.int .i64 0] 46).new _).draw | exact Bx.made w3 #[.int .i64 0,.int .i64 0,.int .i64 0,.int .i64 0,.int .i64 0] 46 | exact (Bx.made w3 #[.int .i64 0,.int .i64 0,.int .i64 0,.int .i64 0,.int .i64 0] 46).new _);done)) | (have ZE:Bx w5 (w3.heap.size+1) [.int .i64 0,.int .i64 0,.int .i64 0,.int .i64 0,.int .i64 0]:=?_;rotate_left 1;focus (refine Bx.onto ?_ ob;with_reducible (first | exact (made1 w3 _ #[.int .i64 0,.int .i64 0,.int .i64 0,.int .i64 0,.int .i64 0] 46).draw | exact made1 w3 _ #[.int .i64 0,.int .i64 0,.int .i64 0,.int .i64 0,.int .i64 0] 46);done)) | skip);(first | (have lR5:=ZR.lt) | skip);(first | (have lE5:=ZE.lt) | skip))
       | (go_at_call 122;refine Calls.mono (Link_calls U0 un uy (ns.map NV.uv) (l:Int) c.x.at_ c.x.e c.x.epoch _ (HU.onto (by with_reducible (first | exact Onto.rfl' _ | exact (Onto.rfl' _).draw | exact ((Onto.rfl' _).new _).draw | exact (((Onto.rfl' _).new _).new _).draw | exact (Onto.rfl' _).new _ | exact ((Onto.rfl' _).new _).new _)))) ?_;rw [uv_unis,show linkC (unitsN (nods ns)) (l:Int) c.x.at_ c.x.e c.x.epoch=r from HR.out.symm];unfold LPost;rintro e w6 ⟨rfl,ob⟩;have b6:Onto w3 w6:=Onto.to b5 (Onto.to (by with_reducible (first | exact Onto.rfl' _ | exact (Onto.rfl' _).draw | exact ((Onto.rfl' _).new _).draw | exact (((Onto.rfl' _).new _).new _).draw | exact (Onto.rfl' _).new _ | exact ((Onto.rfl' _).new _).new _)) ob);have b56:Onto w5 w6:=Onto.to (by with_reducible (first | exact Onto.rfl' _ | exact (Onto.rfl' _).draw | exact ((Onto.rfl' _).new _).draw | exact (((Onto.rfl' _).new _).new _).draw | exact (Onto.rfl' _).new _ | exact ((Onto.rfl' _).new _).new _)) ob;have hpz7:w5.heap.size≤w6.heap.size:=b56.size;have hpz5:w3.heap.size≤w6.heap.size:=b6.size;have hpz6:w3.heap.size≤w6.heap.size+1:=Nat.le_succ_of_le hpz5;(first | (replace ZR:=ZR.onto b56) | (first | (have ZR:Bx w6 w5.heap.size [.int .i64 0,.int .i64 0,.int .i64 0,.int .i64 0,.int .i64 0,.int .i64 0,.int .i64 0,.int .i64 0]:=?_;rotate_left 1;focus (refine Bx.onto ?_ ob;with_reducible (first | exact (Bx.made w5 #[.int .i64 0,.int .i64 0,.int .i64 0,.int .i64 0,.int .i64 0,.int .i64 0,.int .i64 0,.int .i64 0] 96).draw | exact ((Bx.made w5 #[.int .i64 0,.int .i64 0,.int .i64 0,.int .i64 0,.int .i64 0,.int .i64 0,.int .i64 0,.int .i64 0] 96).new _).draw | exact Bx.made w5 #[.int .i64 0,.int .i64 0,.int .i64 0,.int .i64 0,.int .i64 0,.int .i64 0,.int .i64 0,.int .i64 0] 96 | exact (Bx.made w5 #[.int .i64 0,.int .i64 0,.int .i64 0,.int .i64 0,.int .i64 0,.int .i64 0,.int .i64 0,.int .i64 0] 96).new _);done)) | (have ZR:Bx w6 (w5.heap.size+1) [.int .i64 0,.int .i64 0,.int .i64 0,.int .i64 0,.int .i64 0,.int .i64 0,.int .i64 0,.int .i64 0]:=?_;rotate_left 1;focus (refine Bx.onto ?_ ob;with_reducible (first | exact (made1 w5 _ #[.int .i64 0,.int .i64 0,.int .i64 0,.int .i64 0,.int .i64 0,.int .i64 0,.int .i64 0,.int .i64 0] 96).draw | exact made1 w5 _ #[.int .i64 0,.int .i64 0,.int .i64 0,.int .i64 0,.int .i64 0,.int .i64 0,.int .i64 0,.int .i64 0] 96);done)) | skip));(first | (replace ZE:=ZE.onto b56) | (first | (have ZE:Bx w6 w5.heap.size [.int .i64 0,.int .i64 0,.int .i64 0,.int .i64 0,.int .i64 0]:=?_;rotate_left 1;focus (refine Bx.onto ?_ ob;with_reducible (first | exact (Bx.made w5 #[.int .i64 0,.int .i64 0,.int .i64 0,.int .i64 0,.int .i64 0] 46).draw | exact ((Bx.made w5 #[.int .i64 0,.int .i64 0,.int .i64 0,.int .i64 0,.int .i64 0] 46).new _).draw | exact Bx.made w5 #[.int .i64 0,.int .i64 0,.int .i64 0,.int .i64 0,.int .i64 0] 46 | exact (Bx.made w5 #[.int .i64 0,.int .i64 0,.int .i64 0,.int .i64 0,.int .i64 0] 46).new _);done)) | (have ZE:Bx w6 (w5.heap.size+1) [.int .i64 0,.int .i64 0,.int .i64 0,.int .i64 0,.int .i64 0]:=?_;rotate_left 1;focus (refine Bx.onto ?_ ob;with_reducible (first | exact (made1 w5 _ #[.int .i64 0,.int .i64 0,.int .i64 0,.int .i64 0,.int .i64 0] 46).draw | exact made1 w5 _ #[.int .i64 0,.int .i64 0,.int .i64 0,.int .i64 0,.int .i64 0] 46);done)) | skip));(first | (have tR:=ZR.there (n:=8) (by simp);have lR:=ZR.lt) | skip);(first | (have tE:=ZE.there (n:=5) (by simp);have lE:=ZE.lt) | skip))
       | fail)
      all_goals
       go_wp2_with fail
       go_meet
       with_reducible refine ⟨_,_,rfl,rfl,rfl,and3 (two_box (vs:=[.int .i64 0,.int .i64 0,.int .i64 0,.int .i64 0,.int .i64 0,.int .i64 0,.int .i64 0,.int .i64 0]) (vs':=[.int .i64 0,.int .i64 0,.int .i64 0,.int .i64 0,.int .i64 0]) ?b1 ?b2 ?ne ?l1 ?l2) ⟨?on,?le⟩⟩
       case le=>first | exact hpz1 | exact hpz2 | exact hpz3 | exact hpz4 | exact hpz5 | exact hpz6
       case b1=>with_reducible (first | exact ZR | exact ZR.new _ | exact (ZR.new _).new _ | exact Bx.made _ _ _ | exact (Bx.made _ _ _).new _ | exact made1 _ _ _ _)
       case b2=>with_reducible (first | exact ZE | exact ZE.new _ | exact (ZE.new _).new _ | exact Bx.made _ _ _ | exact (Bx.made _ _ _).new _ | exact made1 _ _ _ _)
       case ne=>first | omega | (simp only [World.size_alloc];omega)
       case l1=>rfl
       case l2=>rfl
       case on=>with_reducible (repeat (first | exact b6 | refine Onto.new ?_ _ | refine Onto.puts hpz1 ?_ | refine Onto.puts hpz2 ?_ | refine Onto.puts hpz3 ?_ | refine Onto.puts hpz4 ?_ | refine Onto.puts hpz5 ?_ | refine Onto.puts hpz6 ?_))
     case rest =>
      obtain ⟨p,p',rfl,rfl,rfl,PR,PE,b,hpp⟩:=hcut
      clear hz0 hz1 hz2 hz3 hc0 hc2 hc3 hc4 hc5 hc6 hc7 hc8 W4 hxl
      replace H:=H.onto b;replace E:=E.onto b;replace X:=X.onto b;replace I:=I.onto b;replace J:=J.onto b
      clear b
      generalize wc=w4 at *
      have hq:=HQ.out
      unfold linkQ at hq
      dsimp only at hq
      replace HQ:=Lib.hid hq
      clear hq
      by_cases hr0:r.2.2=0
      · have hq:=HQ.out
        rw [if_neg (by simp [hr0])] at hq
        replace HQ:=Lib.hid hq
        rw [hr0]
        clear hq hr0
        go_upto_region 10 with fail
        have x0:=X.at_ 0 rfl;have x2:=X.at_ 2 rfl
        have e0:=PR.at_ 0 rfl;have e1:=PR.at_ 1 rfl;have e2:=PR.at_ 2 rfl;have e3:=PR.at_ 3 rfl;have e4:=PR.at_ 4 rfl;have e5:=PR.at_ 5 rfl;have e6:=PR.at_ 6 rfl;have e7:=PR.at_ 7 rfl
        have hk:=HK.out
        · subst hk
          have hq:=HQ.out
          rw [if_neg (by decide)] at hq
          have htl:((l:Nat):Int).toNat=l:=by omega
          rw [HL.out,htl] at hq
          replace HQ:=Lib.hid hq
          clear hq HK
          by_cases hz0:r.1.kind=0
          · have hq:=HQ.out
            rw [if_neg (by simp [hz0])] at hq
            simp only [hz0,ne_eq,not_true_eq_false,if_false] at hq
            replace HQ:=Lib.hid hq
            rw [hz0] at e0
            clear hq hz0
            go_upto_region 16 with fail
            clear e0 e1 e2 e3 e4 e5 e6 e7
            obtain ⟨ns2,hns2⟩:∃ l2,l2=ns:=⟨_,rfl⟩
            have HW:Hid (wor ns tip cs time=wor ns2 tip cs time):=Lib.hid (by rw [hns2])
            rw [← hns2] at H
            have hq:=HQ.out
            rw [HW.out] at hq
            replace HQ:=Lib.hid hq
            clear hq hns2 HW
            generalize hw5:w4=w5 at *
            clear hw5
            have hq:=HQ.out
            rw [if_neg (by decide)] at hq
            replace HQ:=Lib.hid hq
            clear hq
            go_upto_region 18 with fail
            obtain ⟨s,hs⟩:∃ s,s=heardCl c.x r.2.1:=⟨_,rfl⟩
            have hq:=HQ.out
            rw [← hs] at hq
            replace HQ:=Lib.hid hq
            have HS:=Lib.hid hs
            clear hq hs
            obtain ⟨c0,c1,c2,c3,c4,c5,c6,c7,c8,c9,c10,c11⟩:=CV.cells_at H.f.cr (encC_len cs) (row_cs HCV.out)
            have e0:=PE.at_ 0 rfl;have e1:=PE.at_ 1 rfl;have e2:=PE.at_ 2 rfl;have e3:=PE.at_ 3 rfl;have e4:=PE.at_ 4 rfl
            have hz5w:=H.onAll.size;have hz5:=H.lts
            have hc0:∀ w',Onto w5 w'→w'.cell? ⟨cb,m*12,none⟩=some (.int .i64 c.x.epoch):=fun w' h=>cellB h c0;have hc1:∀ w',Onto w5 w'→w'.cell? ⟨cb,m*12+1,none⟩=some (.int .i64 c.x.doing):=fun w' h=>cellB h c1;have hc2:∀ w',Onto w5 w'→w'.cell? ⟨cb,m*12+2,none⟩=some (.int .i64 c.x.e.kind):=fun w' h=>cellB h c2;have hc3:∀ w',Onto w5 w'→w'.cell? ⟨cb,m*12+3,none⟩=some (.int .i64 c.x.e.job):=fun w' h=>cellB h c3;have hc4:∀ w',Onto w5 w'→w'.cell? ⟨cb,m*12+4,none⟩=some (.int .i64 c.x.e.every):=fun w' h=>cellB h c4;have hc5:∀ w',Onto w5 w'→w'.cell? ⟨cb,m*12+5,none⟩=some (.int .i64 c.x.e.time):=fun w' h=>cellB h c5;have hc6:∀ w',Onto w5 w'→w'.cell? ⟨cb,m*12+6,none⟩=some (.int .i64 c.x.e.client):=fun w' h=>cellB h c6;have hc7:∀ w',Onto w5 w'→w'.cell? ⟨cb,m*12+7,none⟩=some (.int .i64 c.x.at_):=fun w' h=>cellB h c7;have hc8:∀ w',Onto w5 w'→w'.cell? ⟨cb,m*12+8,none⟩=some (.int .i64 c.x.link):=fun w' h=>cellB h c8;have hc9:∀ w',Onto w5 w'→w'.cell? ⟨cb,m*12+9,none⟩=some (.int .i64 c.x.played):=fun w' h=>cellB h c9;have hc10:∀ w',Onto w5 w'→w'.cell? ⟨cb,m*12+10,none⟩=some (.slice c.A c.n c.c):=fun w' h=>cellB h c10;have hc11:∀ w',Onto w5 w'→w'.cell? ⟨cb,m*12+11,none⟩=some (.slice c.G c.m c.d):=fun w' h=>cellB h c11;have he0:∀ w',Onto w5 w'→w'.cell? ⟨p',0,none⟩=some (.int .i64 r.2.1.kind):=fun w' h=>cellB h e0;have he1:∀ w',Onto w5 w'→w'.cell? ⟨p',1,none⟩=some (.int .i64 r.2.1.job):=fun w' h=>cellB h e1;have he2:∀ w',Onto w5 w'→w'.cell? ⟨p',2,none⟩=some (.int .i64 r.2.1.every):=fun w' h=>cellB h e2;have he3:∀ w',Onto w5 w'→w'.cell? ⟨p',3,none⟩=some (.int .i64 r.2.1.time):=fun w' h=>cellB h e3;have he4:∀ w',Onto w5 w'→w'.cell? ⟨p',4,none⟩=some (.int .i64 r.2.1.client):=fun w' h=>cellB h e4
            clear c0 c1 c2 c3 c4 c5 c6 c7 c8 c9 c10 c11 e0 e1 e2 e3 e4 PE X
            go_cut [9,11] (fun s9 s11 wx=>∃ (p:Nat) (A1:Option Addr) (n1 k1:Nat) (A2:Option Addr) (n2 k2:Nat),s11=.pointer (some ⟨p,0,none⟩)∧s9=.int .i64 s.2∧Bx wx p [.int .i64 s.1.epoch,.int .i64 s.1.doing,.int .i64 s.1.e.kind,.int .i64 s.1.e.job,.int .i64 s.1.e.every,.int .i64 s.1.e.time,.int .i64 s.1.e.client,.int .i64 s.1.at_,.int .i64 s.1.link,.int .i64 s.1.played,.slice A1 n1 k1,.slice A2 n2 k2]∧S wx 3 A1 n1 (s.1.b.jobs.map encJ)∧S wx 3 A2 n2 (s.1.b.rung.map encR)∧n1≤k1∧n2≤k2∧Fresh w5.heap.size A1∧Fresh w5.heap.size A2∧Onto w5 wx)
            case first =>
             obtain ⟨zz,hzz⟩:∃ zz,w5.heap.size=zz:=⟨_,rfl⟩
             go_region_held3 (fun w'=>Onto w5 w')
              (((with_reducible (repeat (first | exact Onto.rfl' _ | exact b | refine Onto.draw ?_ | refine Onto.new ?_ _ | refine Onto.puts (Nat.le_of_eq hzz) ?_ | refine Onto.puts (Onto.sz b) ?_)));done))
              (first
              | (go_at_call 124;refine Calls.mono (ClHeard_calls c.x.epoch c.x.doing c.x.at_ c.x.link c.x.played c.x.e r.2.1 c.A c.G c.n c.c c.m c.d c.x.b _ (J.jobs.onto (by with_reducible (first | exact Onto.rfl' _ | exact (Onto.rfl' _).draw | exact ((Onto.rfl' _).new _).draw | exact ((Onto.rfl' _).draw).new _))) (J.rung.onto (by with_reducible (first | exact Onto.rfl' _ | exact (Onto.rfl' _).draw | exact ((Onto.rfl' _).new _).draw | exact ((Onto.rfl' _).draw).new _)))) ?_;rw [show heardCl ⟨c.x.epoch,c.x.doing,c.x.e,c.x.at_,c.x.link,c.x.played,c.x.b⟩ r.2.1=s from HS.out.symm];unfold ClPost;rintro e w6 ⟨A1,n1,k1,A2,n2,k2,rfl,s1,s2,ob,hk1,hk2,f1,f2⟩;have b:Onto w5 w6:=Onto.to (by with_reducible (first | exact Onto.rfl' _ | exact (Onto.rfl' _).draw | exact ((Onto.rfl' _).new _).draw | exact ((Onto.rfl' _).draw).new _)) ob;have f1':Fresh w5.heap.size A1:=(fun a e=>Nat.le_trans (Onto.sz (by with_reducible (first | exact Onto.rfl' _ | exact (Onto.rfl' _).draw | exact ((Onto.rfl' _).new _).draw | exact ((Onto.rfl' _).draw).new _))) (f1 a e));have f2':Fresh w5.heap.size A2:=(fun a e=>Nat.le_trans (Onto.sz (by with_reducible (first | exact Onto.rfl' _ | exact (Onto.rfl' _).draw | exact ((Onto.rfl' _).new _).draw | exact ((Onto.rfl' _).draw).new _))) (f2 a e));have P6:Bx ((w6.alloc (.cells #[.int .i64 0,.int .i64 0,.int .i64 0,.int .i64 0,.int .i64 0,.int .i64 0,.int .i64 0,.int .i64 0,.int .i64 0,.int .i64 0,.slice none 0 0,.slice none 0 0] 66)).setCells w6.heap.size 0 [.int .i64 s.1.epoch,.int .i64 s.1.doing,.int .i64 s.1.e.kind,.int .i64 s.1.e.job,.int .i64 s.1.e.every,.int .i64 s.1.e.time,.int .i64 s.1.e.client,.int .i64 s.1.at_,.int .i64 s.1.link,.int .i64 s.1.played,.slice A1 n1 k1,.slice A2 n2 k2]) w6.heap.size [.int .i64 s.1.epoch,.int .i64 s.1.doing,.int .i64 s.1.e.kind,.int .i64 s.1.e.job,.int .i64 s.1.e.every,.int .i64 s.1.e.time,.int .i64 s.1.e.client,.int .i64 s.1.at_,.int .i64 s.1.link,.int .i64 s.1.played,.slice A1 n1 k1,.slice A2 n2 k2]:=(Bx.made w6 #[.int .i64 0,.int .i64 0,.int .i64 0,.int .i64 0,.int .i64 0,.int .i64 0,.int .i64 0,.int .i64 0,.int .i64 0,.int .i64 0,.slice none 0 0,.slice none 0 0] 66).put rfl;have s16:=put_S (w:=w6) (s1.offN (Nat.le_refl _)) (vs:=[.int .i64 s.1.epoch,.int .i64 s.1.doing,.int .i64 s.1.e.kind,.int .i64 s.1.e.job,.int .i64 s.1.e.every,.int .i64 s.1.e.time,.int .i64 s.1.e.client,.int .i64 s.1.at_,.int .i64 s.1.link,.int .i64 s.1.played,.slice A1 n1 k1,.slice A2 n2 k2]) (o:=0) (s1.new (.cells #[.int .i64 0,.int .i64 0,.int .i64 0,.int .i64 0,.int .i64 0,.int .i64 0,.int .i64 0,.int .i64 0,.int .i64 0,.int .i64 0,.slice none 0 0,.slice none 0 0] 66));have s26:=put_S (w:=w6) (s2.offN (Nat.le_refl _)) (vs:=[.int .i64 s.1.epoch,.int .i64 s.1.doing,.int .i64 s.1.e.kind,.int .i64 s.1.e.job,.int .i64 s.1.e.every,.int .i64 s.1.e.time,.int .i64 s.1.e.client,.int .i64 s.1.at_,.int .i64 s.1.link,.int .i64 s.1.played,.slice A1 n1 k1,.slice A2 n2 k2]) (o:=0) (s2.new (.cells #[.int .i64 0,.int .i64 0,.int .i64 0,.int .i64 0,.int .i64 0,.int .i64 0,.int .i64 0,.int .i64 0,.int .i64 0,.int .i64 0,.slice none 0 0,.slice none 0 0] 66));have on6:Onto w5 ((w6.alloc (.cells #[.int .i64 0,.int .i64 0,.int .i64 0,.int .i64 0,.int .i64 0,.int .i64 0,.int .i64 0,.int .i64 0,.int .i64 0,.int .i64 0,.slice none 0 0,.slice none 0 0] 66)).setCells w6.heap.size 0 [.int .i64 s.1.epoch,.int .i64 s.1.doing,.int .i64 s.1.e.kind,.int .i64 s.1.e.job,.int .i64 s.1.e.every,.int .i64 s.1.e.time,.int .i64 s.1.e.client,.int .i64 s.1.at_,.int .i64 s.1.link,.int .i64 s.1.played,.slice A1 n1 k1,.slice A2 n2 k2]):=Onto.puts (Onto.sz b) (b.new _);(first | (have Z5:Bx w6 zz [.int .i64 0,.int .i64 0,.int .i64 0,.int .i64 0,.int .i64 0,.int .i64 0,.int .i64 0,.int .i64 0,.int .i64 0,.int .i64 0,.slice none 0 0,.slice none 0 0]:=hzz ▸ Bx.onto (Bx.draw (Bx.made w5 #[.int .i64 0,.int .i64 0,.int .i64 0,.int .i64 0,.int .i64 0,.int .i64 0,.int .i64 0,.int .i64 0,.int .i64 0,.int .i64 0,.slice none 0 0,.slice none 0 0] 66)) ob;have hst:=Z5.there (n:=12) (by simp);have oz:OffN n1 zz A1:=f1.offN (by simp;omega);have oz':OffN n2 zz A2:=f2.offN (by simp;omega);have P5:Bx (w6.setCells zz 0 [.int .i64 s.1.epoch,.int .i64 s.1.doing,.int .i64 s.1.e.kind,.int .i64 s.1.e.job,.int .i64 s.1.e.every,.int .i64 s.1.e.time,.int .i64 s.1.e.client,.int .i64 s.1.at_,.int .i64 s.1.link,.int .i64 s.1.played,.slice A1 n1 k1,.slice A2 n2 k2]) zz [.int .i64 s.1.epoch,.int .i64 s.1.doing,.int .i64 s.1.e.kind,.int .i64 s.1.e.job,.int .i64 s.1.e.every,.int .i64 s.1.e.time,.int .i64 s.1.e.client,.int .i64 s.1.at_,.int .i64 s.1.link,.int .i64 s.1.played,.slice A1 n1 k1,.slice A2 n2 k2]:=Z5.put rfl;have s15:=put_S (w:=w6) oz (vs:=[.int .i64 s.1.epoch,.int .i64 s.1.doing,.int .i64 s.1.e.kind,.int .i64 s.1.e.job,.int .i64 s.1.e.every,.int .i64 s.1.e.time,.int .i64 s.1.e.client,.int .i64 s.1.at_,.int .i64 s.1.link,.int .i64 s.1.played,.slice A1 n1 k1,.slice A2 n2 k2]) (o:=0) s1;have s25:=put_S (w:=w6) oz' (vs:=[.int .i64 s.1.epoch,.int .i64 s.1.doing,.int .i64 s.1.e.kind,.int .i64 s.1.e.job,.int .i64 s.1.e.every,.int .i64 s.1.e.time,.int .i64 s.1.e.client,.int .i64 s.1.at_,.int .i64 s.1.link,.int .i64 s.1.played,.slice A1 n1 k1,.slice A2 n2 k2]) (o:=0) s2;have on5':Onto w5 (w6.setCells zz 0 [.int .i64 s.1.epoch,.int .i64 s.1.doing,.int .i64 s.1.e.kind,.int .i64 s.1.e.job,.int .i64 s.1.e.every,.int .i64 s.1.e.time,.int .i64 s.1.e.client,.int .i64 s.1.at_,.int .i64 s.1.link,.int .i64 s.1.played,.slice A1 n1 k1,.slice A2 n2 k2]):=Onto.puts (Nat.le_of_eq hzz) b) | skip))
              | fail)
             all_goals
              go_wp2_with fail
              go_meet
              first
               | with_reducible exact ⟨_,A1,n1,k1,A2,n2,k2,rfl,rfl,P6,s16,s26,hk1,hk2,f1',f2',on6⟩
               | with_reducible exact ⟨_,A1,n1,k1,A2,n2,k2,rfl,rfl,P5,s15,s25,hk1,hk2,f1',f2',on5'⟩
            case rest =>
             obtain ⟨pv,A1,n1,k1,A2,n2,k2,rfl,rfl,V,s1,s2,hk1,hk2,f1,f2,b⟩:=hcut
             clear hc0 hc1 hc2 hc3 hc4 hc5 hc6 hc7 hc8 hc9 hc10 hc11 he0 he1 he2 he3 he4
             replace H:=H.onto b;replace E:=E.onto b
             clear b
             generalize wc=w6 at *
             by_cases hs0:s.2=0
             · have hq:=HQ.out
               rw [if_neg (by simp [hs0])] at hq
               have HQ2:=Lib.hid hq
               rw [hs0]
               clear hq HQ hs0
               go_upto_region 20 with fail
               have v0:=V.at_ 0 rfl;have v1:=V.at_ 1 rfl;have v2:=V.at_ 2 rfl;have v3:=V.at_ 3 rfl;have v4:=V.at_ 4 rfl;have v5:=V.at_ 5 rfl;have v6:=V.at_ 6 rfl;have v7:=V.at_ 7 rfl;have v8:=V.at_ 8 rfl;have v9:=V.at_ 9 rfl;have v10:=V.at_ 10 rfl;have v11:=V.at_ 11 rfl
               have hlen:m*12+12≤(cs.map encC).flatten.length:=by rw [flatten_length (encC_len cs),List.length_map,H.f.cl];omega
               have hth:w6.there cb (m*12) 12:=Bx.thereM H.f.cr hlen
               go_wp2_with fail
               refine bodyPost_ret (v:=.int .i64 0) (by simp [results,Tryz.results97,go_sem]) rfl ?_
               have hq:=HQ2.out
               have htm:((m:Nat):Int).toNat=m:=by omega
               rw [htm] at hq
               have H2:=H.storeC HCV.out (v:=⟨s.1,A1,n1,k1,A2,n2,k2⟩) ⟨s1,s2,hk1,hk2⟩ ⟨f1.offN hz5.2.1,f2.offN hz5.2.1⟩ ⟨f1.offN hz5.2.2,f2.offN hz5.2.2⟩ ⟨f1.offN hz5.1,f2.offN hz5.1⟩ (fun b hb=>⟨f1.offN (Nat.lt_of_lt_of_le hb hz5w),f2.offN (Nat.lt_of_lt_of_le hb hz5w)⟩) (us:=[.int .i64 s.1.epoch,.int .i64 s.1.doing,.int .i64 s.1.e.kind,.int .i64 s.1.e.job,.int .i64 s.1.e.every,.int .i64 s.1.e.time,.int .i64 s.1.e.client,.int .i64 s.1.at_,.int .i64 s.1.link,.int .i64 s.1.played,.slice A1 n1 k1,.slice A2 n2 k2]) rfl
               have hq3:q=(wor ns2 tip (cs.set m ⟨s.1,A1,n1,k1,A2,n2,k2⟩) time,0):=hq.trans (by rw [← wor_setC])
               exact HPost.ok H2 hq3
             · have hq:=HQ.out
               rw [if_pos hs0] at hq
               have HQ2:=Lib.hid hq
               have hd:(s.2 !=0)=true:=by simpa using hs0
               have hd2:(s.2 ==0)=false:=by simpa using hs0
               have h2':q.2≠0:=by rw [hq];exact hs0
               clear hq HQ hs0
               go_wp2_with fail
               go_ret
               exact HPost.bad' (by rw [HQ2.out]) h2' H.aw
          · have hq:=HQ.out
            simp only [show (r.1.kind≠0)=True from eq_true hz0,true_and,if_true] at hq
            replace HQ:=Lib.hid hq
            have hd:(r.1.kind !=0)=true:=by simpa using hz0
            clear hq hz0
            go_upto_region 13 with fail
            clear hd
            go_wp2_with fail
            refine Calls.mono (NWrite_calls v r.1 _ E nb l (ns.map encN) H.f.nr (encN_len ns) (row_ns HV.out) I on1) ?_
            unfold NPost
            rintro e w5 ⟨rfl,t,hk'⟩
            have hzlw:=H.onAll.size;have hzl:=H.lts
            have hpx:=PE.lt;have hpr:=PR.lt
            have aw5:=H.aw.upN t H.f.hn
            have on5:=aw5.on
            have ezx:zx≠nb:=by omega
            have epp:p'≠nb:=by omega
            have X5:=X.grown t (by intro e;injection e with e;exact ezx e)
            have PE5:=PE.grown t (by intro e;injection e with e;exact epp e)
            have J5:=J.grown t on2
            have hs5:=t.size
            by_cases hw0:(writeN v.x r.1).2=0
            · have hq:=HQ.out
              rw [if_neg (by simp [hw0])] at hq
              replace HQ:=Lib.hid hq
              obtain ⟨v',hx,hi',hrw,hoff⟩:=hk' hw0
              have H5:=H.nextN t hrw hi' (hoff nb hzl.2.1 on1) (hoff cb hzl.2.2 oc) (hoff z hzl.1 oz) (fun b hb=>hoff b (Nat.lt_of_lt_of_le hb hzlw) (FV.out b hb))
              have HW:Hid (setN (wor ns tip cs time) l (writeN v.x r.1).1=wor (ns.set l v') tip cs time):=Lib.hid (by rw [← hx];exact wor_setN)
              have hq:=HQ.out
              rw [HW.out] at hq
              replace HQ:=Lib.hid hq
              have E5:=E0.onto on5
              clear hq HW
              generalize ns.set l v'=ns2 at *
              rw [hw0]
              clear hw0 hk' hrw hi' hoff hx H X PE J PR I t e0 e1 e2 e3 e4 e5 e6 e7 x0 x2 hpx hpr hzl
              have H:=H5;have X:=X5;have PE:=PE5;have J:=J5;have E:=E5
              clear H5 X5 PE5 J5 E5
              have x0:=X.at_ 0 rfl
              go_upto_region 16 with fail
              have hq:=HQ.out
              rw [if_neg (by decide)] at hq
              replace HQ:=Lib.hid hq
              clear hq
              go_upto_region 18 with fail
              obtain ⟨s,hs⟩:∃ s,s=heardCl c.x r.2.1:=⟨_,rfl⟩
              have hq:=HQ.out
              rw [← hs] at hq
              replace HQ:=Lib.hid hq
              have HS:=Lib.hid hs
              clear hq hs
              obtain ⟨c0,c1,c2,c3,c4,c5,c6,c7,c8,c9,c10,c11⟩:=CV.cells_at H.f.cr (encC_len cs) (row_cs HCV.out)
              have e0:=PE.at_ 0 rfl;have e1:=PE.at_ 1 rfl;have e2:=PE.at_ 2 rfl;have e3:=PE.at_ 3 rfl;have e4:=PE.at_ 4 rfl
              have hz5w:=H.onAll.size;have hz5:=H.lts
              have hc0:∀ w',Onto w5 w'→w'.cell? ⟨cb,m*12,none⟩=some (.int .i64 c.x.epoch):=fun w' h=>cellB h c0;have hc1:∀ w',Onto w5 w'→w'.cell? ⟨cb,m*12+1,none⟩=some (.int .i64 c.x.doing):=fun w' h=>cellB h c1;have hc2:∀ w',Onto w5 w'→w'.cell? ⟨cb,m*12+2,none⟩=some (.int .i64 c.x.e.kind):=fun w' h=>cellB h c2;have hc3:∀ w',Onto w5 w'→w'.cell? ⟨cb,m*12+3,none⟩=some (.int .i64 c.x.e.job):=fun w' h=>cellB h c3;have hc4:∀ w',Onto w5 w'→w'.cell? ⟨cb,m*12+4,none⟩=some (.int .i64 c.x.e.every):=fun w' h=>cellB h c4;have hc5:∀ w',Onto w5 w'→w'.cell? ⟨cb,m*12+5,none⟩=some (.int .i64 c.x.e.time):=fun w' h=>cellB h c5;have hc6:∀ w',Onto w5 w'→w'.cell? ⟨cb,m*12+6,none⟩=some (.int .i64 c.x.e.client):=fun w' h=>cellB h c6;have hc7:∀ w',Onto w5 w'→w'.cell? ⟨cb,m*12+7,none⟩=some (.int .i64 c.x.at_):=fun w' h=>cellB h c7;have hc8:∀ w',Onto w5 w'→w'.cell? ⟨cb,m*12+8,none⟩=some (.int .i64 c.x.link):=fun w' h=>cellB h c8;have hc9:∀ w',Onto w5 w'→w'.cell? ⟨cb,m*12+9,none⟩=some (.int .i64 c.x.played):=fun w' h=>cellB h c9;have hc10:∀ w',Onto w5 w'→w'.cell? ⟨cb,m*12+10,none⟩=some (.slice c.A c.n c.c):=fun w' h=>cellB h c10;have hc11:∀ w',Onto w5 w'→w'.cell? ⟨cb,m*12+11,none⟩=some (.slice c.G c.m c.d):=fun w' h=>cellB h c11;have he0:∀ w',Onto w5 w'→w'.cell? ⟨p',0,none⟩=some (.int .i64 r.2.1.kind):=fun w' h=>cellB h e0;have he1:∀ w',Onto w5 w'→w'.cell? ⟨p',1,none⟩=some (.int .i64 r.2.1.job):=fun w' h=>cellB h e1;have he2:∀ w',Onto w5 w'→w'.cell? ⟨p',2,none⟩=some (.int .i64 r.2.1.every):=fun w' h=>cellB h e2;have he3:∀ w',Onto w5 w'→w'.cell? ⟨p',3,none⟩=some (.int .i64 r.2.1.time):=fun w' h=>cellB h e3;have he4:∀ w',Onto w5 w'→w'.cell? ⟨p',4,none⟩=some (.int .i64 r.2.1.client):=fun w' h=>cellB h e4
              clear c0 c1 c2 c3 c4 c5 c6 c7 c8 c9 c10 c11 e0 e1 e2 e3 e4 PE X
              go_cut [9,11] (fun s9 s11 wx=>∃ (p:Nat) (A1:Option Addr) (n1 k1:Nat) (A2:Option Addr) (n2 k2:Nat),s11=.pointer (some ⟨p,0,none⟩)∧s9=.int .i64 s.2∧Bx wx p [.int .i64 s.1.epoch,.int .i64 s.1.doing,.int .i64 s.1.e.kind,.int .i64 s.1.e.job,.int .i64 s.1.e.every,.int .i64 s.1.e.time,.int .i64 s.1.e.client,.int .i64 s.1.at_,.int .i64 s.1.link,.int .i64 s.1.played,.slice A1 n1 k1,.slice A2 n2 k2]∧S wx 3 A1 n1 (s.1.b.jobs.map encJ)∧S wx 3 A2 n2 (s.1.b.rung.map encR)∧n1≤k1∧n2≤k2∧Fresh w5.heap.size A1∧Fresh w5.heap.size A2∧Onto w5 wx)
              case first =>
               obtain ⟨zz,hzz⟩:∃ zz,w5.heap.size=zz:=⟨_,rfl⟩
               go_region_held3 (fun w'=>Onto w5 w')
                (((with_reducible (repeat (first | exact Onto.rfl' _ | exact b | refine Onto.draw ?_ | refine Onto.new ?_ _ | refine Onto.puts (Nat.le_of_eq hzz) ?_ | refine Onto.puts (Onto.sz b) ?_)));done))
                (first
                | (go_at_call 124;refine Calls.mono (ClHeard_calls c.x.epoch c.x.doing c.x.at_ c.x.link c.x.played c.x.e r.2.1 c.A c.G c.n c.c c.m c.d c.x.b _ (J.jobs.onto (by with_reducible (first | exact Onto.rfl' _ | exact (Onto.rfl' _).draw | exact ((Onto.rfl' _).new _).draw | exact ((Onto.rfl' _).draw).new _))) (J.rung.onto (by with_reducible (first | exact Onto.rfl' _ | exact (Onto.rfl' _).draw | exact ((Onto.rfl' _).new _).draw | exact ((Onto.rfl' _).draw).new _)))) ?_;rw [show heardCl ⟨c.x.epoch,c.x.doing,c.x.e,c.x.at_,c.x.link,c.x.played,c.x.b⟩ r.2.1=s from HS.out.symm];unfold ClPost;rintro e w6 ⟨A1,n1,k1,A2,n2,k2,rfl,s1,s2,ob,hk1,hk2,f1,f2⟩;have b:Onto w5 w6:=Onto.to (by with_reducible (first | exact Onto.rfl' _ | exact (Onto.rfl' _).draw | exact ((Onto.rfl' _).new _).draw | exact ((Onto.rfl' _).draw).new _)) ob;have f1':Fresh w5.heap.size A1:=(fun a e=>Nat.le_trans (Onto.sz (by with_reducible (first | exact Onto.rfl' _ | exact (Onto.rfl' _).draw | exact ((Onto.rfl' _).new _).draw | exact ((Onto.rfl' _).draw).new _))) (f1 a e));have f2':Fresh w5.heap.size A2:=(fun a e=>Nat.le_trans (Onto.sz (by with_reducible (first | exact Onto.rfl' _ | exact (Onto.rfl' _).draw | exact ((Onto.rfl' _).new _).draw | exact ((Onto.rfl' _).draw).new _))) (f2 a e));have P6:Bx ((w6.alloc (.cells #[.int .i64 0,.int .i64 0,.int .i64 0,.int .i64 0,.int .i64 0,.int .i64 0,.int .i64 0,.int .i64 0,.int .i64 0,.int .i64 0,.slice none 0 0,.slice none 0 0] 66)).setCells w6.heap.size 0 [.int .i64 s.1.epoch,.int .i64 s.1.doing,.int .i64 s.1.e.kind,.int .i64 s.1.e.job,.int .i64 s.1.e.every,.int .i64 s.1.e.time,.int .i64 s.1.e.client,.int .i64 s.1.at_,.int .i64 s.1.link,.int .i64 s.1.played,.slice A1 n1 k1,.slice A2 n2 k2]) w6.heap.size [.int .i64 s.1.epoch,.int .i64 s.1.doing,.int .i64 s.1.e.kind,.int .i64 s.1.e.job,.int .i64 s.1.e.every,.int .i64 s.1.e.time,.int .i64 s.1.e.client,.int .i64 s.1.at_,.int .i64 s.1.link,.int .i64 s.1.played,.slice A1 n1 k1,.slice A2 n2 k2]:=(Bx.made w6 #[.int .i64 0,.int .i64 0,.int .i64 0,.int .i64 0,.int .i64 0,.int .i64 0,.int .i64 0,.int .i64 0,.int .i64 0,.int .i64 0,.slice none 0 0,.slice none 0 0] 66).put rfl;have s16:=put_S (w:=w6) (s1.offN (Nat.le_refl _)) (vs:=[.int .i64 s.1.epoch,.int .i64 s.1.doing,.int .i64 s.1.e.kind,.int .i64 s.1.e.job,.int .i64 s.1.e.every,.int .i64 s.1.e.time,.int .i64 s.1.e.client,.int .i64 s.1.at_,.int .i64 s.1.link,.int .i64 s.1.played,.slice A1 n1 k1,.slice A2 n2 k2]) (o:=0) (s1.new (.cells #[.int .i64 0,.int .i64 0,.int .i64 0,.int .i64 0,.int .i64 0,.int .i64 0,.int .i64 0,.int .i64 0,.int .i64 0,.int .i64 0,.slice none 0 0,.slice none 0 0] 66));have s26:=put_S (w:=w6) (s2.offN (Nat.le_refl _)) (vs:=[.int .i64 s.1.epoch,.int .i64 s.1.doing,.int .i64 s.1.e.kind,.int .i64 s.1.e.job,.int .i64 s.1.e.every,.int .i64 s.1.e.time,.int .i64 s.1.e.client,.int .i64 s.1.at_,.int .i64 s.1.link,.int .i64 s.1.played,.slice A1 n1 k1,.slice A2 n2 k2]) (o:=0) (s2.new (.cells #[.int .i64 0,.int .i64 0,.int .i64 0,.int .i64 0,.int .i64 0,.int .i64 0,.int .i64 0,.int .i64 0,.int .i64 0,.int .i64 0,.slice none 0 0,.slice none 0 0] 66));have on6:Onto w5 ((w6.alloc (.cells #[.int .i64 0,.int .i64 0,.int .i64 0,.int .i64 0,.int .i64 0,.int .i64 0,.int .i64 0,.int .i64 0,.int .i64 0,.int .i64 0,.slice none 0 0,.slice none 0 0] 66)).setCells w6.heap.size 0 [.int .i64 s.1.epoch,.int .i64 s.1.doing,.int .i64 s.1.e.kind,.int .i64 s.1.e.job,.int .i64 s.1.e.every,.int .i64 s.1.e.time,.int .i64 s.1.e.client,.int .i64 s.1.at_,.int .i64 s.1.link,.int .i64 s.1.played,.slice A1 n1 k1,.slice A2 n2 k2]):=Onto.puts (Onto.sz b) (b.new _);(first | (have Z5:Bx w6 zz [.int .i64 0,.int .i64 0,.int .i64 0,.int .i64 0,.int .i64 0,.int .i64 0,.int .i64 0,.int .i64 0,.int .i64 0,.int .i64 0,.slice none 0 0,.slice none 0 0]:=hzz ▸ Bx.onto (Bx.draw (Bx.made w5 #[.int .i64 0,.int .i64 0,.int .i64 0,.int .i64 0,.int .i64 0,.int .i64 0,.int .i64 0,.int .i64 0,.int .i64 0,.int .i64 0,.slice none 0 0,.slice none 0 0] 66)) ob;have hst:=Z5.there (n:=12) (by simp);have oz:OffN n1 zz A1:=f1.offN (by simp;omega);have oz':OffN n2 zz A2:=f2.offN (by simp;omega);have P5:Bx (w6.setCells zz 0 [.int .i64 s.1.epoch,.int .i64 s.1.doing,.int .i64 s.1.e.kind,.int .i64 s.1.e.job,.int .i64 s.1.e.every,.int .i64 s.1.e.time,.int .i64 s.1.e.client,.int .i64 s.1.at_,.int .i64 s.1.link,.int .i64 s.1.played,.slice A1 n1 k1,.slice A2 n2 k2]) zz [.int .i64 s.1.epoch,.int .i64 s.1.doing,.int .i64 s.1.e.kind,.int .i64 s.1.e.job,.int .i64 s.1.e.every,.int .i64 s.1.e.time,.int .i64 s.1.e.client,.int .i64 s.1.at_,.int .i64 s.1.link,.int .i64 s.1.played,.slice A1 n1 k1,.slice A2 n2 k2]:=Z5.put rfl;have s15:=put_S (w:=w6) oz (vs:=[.int .i64 s.1.epoch,.int .i64 s.1.doing,.int .i64 s.1.e.kind,.int .i64 s.1.e.job,.int .i64 s.1.e.every,.int .i64 s.1.e.time,.int .i64 s.1.e.client,.int .i64 s.1.at_,.int .i64 s.1.link,.int .i64 s.1.played,.slice A1 n1 k1,.slice A2 n2 k2]) (o:=0) s1;have s25:=put_S (w:=w6) oz' (vs:=[.int .i64 s.1.epoch,.int .i64 s.1.doing,.int .i64 s.1.e.kind,.int .i64 s.1.e.job,.int .i64 s.1.e.every,.int .i64 s.1.e.time,.int .i64 s.1.e.client,.int .i64 s.1.at_,.int .i64 s.1.link,.int .i64 s.1.played,.slice A1 n1 k1,.slice A2 n2 k2]) (o:=0) s2;have on5':Onto w5 (w6.setCells zz 0 [.int .i64 s.1.epoch,.int .i64 s.1.doing,.int .i64 s.1.e.kind,.int .i64 s.1.e.job,.int .i64 s.1.e.every,.int .i64 s.1.e.time,.int .i64 s.1.e.client,.int .i64 s.1.at_,.int .i64 s.1.link,.int .i64 s.1.played,.slice A1 n1 k1,.slice A2 n2 k2]):=Onto.puts (Nat.le_of_eq hzz) b) | skip))
                | fail)
               all_goals
                go_wp2_with fail
                go_meet
                first
                 | with_reducible exact ⟨_,A1,n1,k1,A2,n2,k2,rfl,rfl,P6,s16,s26,hk1,hk2,f1',f2',on6⟩
                 | with_reducible exact ⟨_,A1,n1,k1,A2,n2,k2,rfl,rfl,P5,s15,s25,hk1,hk2,f1',f2',on5'⟩
              case rest =>
               obtain ⟨pv,A1,n1,k1,A2,n2,k2,rfl,rfl,V,s1,s2,hk1,hk2,f1,f2,b⟩:=hcut
               clear hc0 hc1 hc2 hc3 hc4 hc5 hc6 hc7 hc8 hc9 hc10 hc11 he0 he1 he2 he3 he4
               replace H:=H.onto b;replace E:=E.onto b
               clear b
               generalize wc=w6 at *
               by_cases hs0:s.2=0
               · have hq:=HQ.out
                 rw [if_neg (by simp [hs0])] at hq
                 have HQ2:=Lib.hid hq
                 rw [hs0]
                 clear hq HQ hs0
                 go_upto_region 20 with fail
                 have v0:=V.at_ 0 rfl;have v1:=V.at_ 1 rfl;have v2:=V.at_ 2 rfl;have v3:=V.at_ 3 rfl;have v4:=V.at_ 4 rfl;have v5:=V.at_ 5 rfl;have v6:=V.at_ 6 rfl;have v7:=V.at_ 7 rfl;have v8:=V.at_ 8 rfl;have v9:=V.at_ 9 rfl;have v10:=V.at_ 10 rfl;have v11:=V.at_ 11 rfl
                 have hlen:m*12+12≤(cs.map encC).flatten.length:=by rw [flatten_length (encC_len cs),List.length_map,H.f.cl];omega
                 have hth:w6.there cb (m*12) 12:=Bx.thereM H.f.cr hlen
                 go_wp2_with fail
                 refine bodyPost_ret (v:=.int .i64 0) (by simp [results,Tryz.results97,go_sem]) rfl ?_
                 have hq:=HQ2.out
                 have htm:((m:Nat):Int).toNat=m:=by omega
                 rw [htm] at hq
                 have H2:=H.storeC HCV.out (v:=⟨s.1,A1,n1,k1,A2,n2,k2⟩) ⟨s1,s2,hk1,hk2⟩ ⟨f1.offN hz5.2.1,f2.offN hz5.2.1⟩ ⟨f1.offN hz5.2.2,f2.offN hz5.2.2⟩ ⟨f1.offN hz5.1,f2.offN hz5.1⟩ (fun b hb=>⟨f1.offN (Nat.lt_of_lt_of_le hb hz5w),f2.offN (Nat.lt_of_lt_of_le hb hz5w)⟩) (us:=[.int .i64 s.1.epoch,.int .i64 s.1.doing,.int .i64 s.1.e.kind,.int .i64 s.1.e.job,.int .i64 s.1.e.every,.int .i64 s.1.e.time,.int .i64 s.1.e.client,.int .i64 s.1.at_,.int .i64 s.1.link,.int .i64 s.1.played,.slice A1 n1 k1,.slice A2 n2 k2]) rfl
                 have hq3:q=(wor ns2 tip (cs.set m ⟨s.1,A1,n1,k1,A2,n2,k2⟩) time,0):=hq.trans (by rw [← wor_setC])
                 exact HPost.ok H2 hq3
               · have hq:=HQ.out
                 rw [if_pos hs0] at hq
                 have HQ2:=Lib.hid hq
                 have hd:(s.2 !=0)=true:=by simpa using hs0
                 have hd2:(s.2 ==0)=false:=by simpa using hs0
                 have h2':q.2≠0:=by rw [hq];exact hs0
                 clear hq HQ hs0
                 go_wp2_with fail
                 go_ret
                 exact HPost.bad' (by rw [HQ2.out]) h2' H.aw
            · have hq:=HQ.out
              rw [if_pos hw0] at hq
              have HQ2:=Lib.hid hq
              have hd:((writeN v.x r.1).2 !=0)=true:=by simpa using hw0
              have h2':q.2≠0:=by rw [hq];exact hw0
              clear hq HQ hw0 hk'
              go_wp2_with fail
              go_ret
              exact HPost.bad' (by rw [HQ2.out]) h2' aw5
      · have hq:=HQ.out
        rw [if_pos hr0] at hq
        have HQ2:=Lib.hid hq
        have hd:(r.2.2 !=0)=true:=by simpa using hr0
        have h2':q.2≠0:=by rw [hq];exact hr0
        clear hq HQ hr0
        go_wp2_with fail
        go_ret
        exact HPost.bad' (by rw [HQ2.out]) h2' H.aw
   · have hq:=HQ.out
     rw [hu,if_pos rfl] at hq
     have HQ2:=Lib.hid hq
     rw [hu] at n4
     clear hq HQ hu
     go_wp2_with fail
     go_ret
     exact HPost.bad' (by rw [HQ2.out]) (by rw [HQ2.out];simp) H.aw
 · have hq:=HQ.out
   rw [if_pos hd] at hq
   have HQ2:=Lib.hid hq
   have hdd:(c.x.doing !=2)=true:=by simpa using hd
   replace c1:=cellB od c1
   clear hq HQ hd od
   go_wp2_with fail
   go_ret
   exact HPost.bad' (by rw [HQ2.out]) (by rw [HQ2.out];simp) H.aw
set_option maxHeartbeats 16000000 in
set_option maxRecDepth 100000 in
theorem WOfClientLT_calls (K w0 : World) (z nb cN cb cC : Nat) (ns : List NV) (tip : Int) (cs : List CV) (time : Int) (kd nn jb ep : Int) (m : Nat) (y : Entry) (w : World) (E0 : Env w0) (H : WM K w0 w z nb cN cb cC ns tip cs time) (hok : ∀ v ∈ cs, checkCl v.x = 0) (hm : m < 3) (hk : kd = 4) :
    Calls Tryz.prog 79 #[.pointer (some ⟨z,0,none⟩),.agg #[.int .i64 kd,.int .i64 ↑m,.int .i64 nn,.int .i64 jb,.int .i64 ep,.int .i64 y.kind,.int .i64 y.job,.int .i64 y.every,.int .i64 y.time,.int .i64 y.client]] w (HPost K w0 z nb cN cb cC (ofClientW (wor ns tip cs time) ⟨kd,m,nn,jb,ep,y⟩)):=by
 obtain ⟨c,hcv,J,on2,oc2,_⟩:=H.f.atC hm
 have oz2:=H.cz c (List.mem_of_getElem? hcv)
 have hcc:=hok c (List.mem_of_getElem? hcv)
 have hzl0:=H.lts
 obtain ⟨q,hq⟩:∃ q,q=ofClientW (wor ns tip cs time) ⟨kd,m,nn,jb,ep,y⟩:=⟨_,rfl⟩
 rw [← hq]
 have htm:((m:Nat):Int).toNat=m:=by omega
 unfold ofClientW at hq
 dsimp only at hq
 rw [if_neg (by omega)] at hq
 simp only [htm,show (wor ns tip cs time).c=clis cs from rfl,cliAt_cs hcv] at hq
 have HQ:=Lib.hid hq;have HCV:=Lib.hid hcv;have HK:=Lib.hid hk;have HOK:=Lib.hid hok;have HCC:=Lib.hid hcc
 have hm3:(m:Int)<3:=by omega
 clear hq hcv hk htm hcc hok
 go_enter Tryz.func79,Tryz.ntmps79
 go_upto_region 1 with fail
 refine wp_box1 (v1:=[.int .i64 kd,.int .i64 ↑m,.int .i64 nn,.int .i64 jb,.int .i64 ep,.int .i64 y.kind,.int .i64 y.job,.int .i64 y.every,.int .i64 y.time,.int .i64 y.client]) rfl fun w1 b X=>?_
 replace H:=H.onto b;replace J:=J.onto b
 generalize hzx:w.heap.size=zx at X hzl0
 clear hzx b
 have x1:=X.at_ 1 rfl
 have z2:=H.bx.at_ 2 rfl
 go_quiet (fail)
 go_upto_region 3 with fail
 generalize hd:World.drewN w1 _=w2
 have od:Onto w1 w2:=by rw [← hd];exact (Onto.rfl' w1).draws _
 clear hd x1 z2
 replace H:=H.onto od;replace X:=X.onto od;replace J:=J.onto od
 clear od
 have x1:=X.at_ 1 rfl
 have z2:=H.bx.at_ 2 rfl
 obtain ⟨c0,c1,c2,c3,c4,c5,c6,c7,c8,c9,c10,c11⟩:=CV.cells_at H.f.cr (encC_len cs) (row_cs HCV.out)
 have hz2:=H.lts;have hxl:=X.lt
 go_cut [5] (fun s5 wx=>∃ (p:Nat),s5=.pointer (some ⟨p,0,none⟩)∧Bx wx p [.int .i64 c.x.epoch,.int .i64 c.x.doing,.int .i64 c.x.e.kind,.int .i64 c.x.e.job,.int .i64 c.x.e.every,.int .i64 c.x.e.time,.int .i64 c.x.e.client,.int .i64 c.x.at_,.int .i64 c.x.link,.int .i64 c.x.played,.slice c.A c.n c.c,.slice c.G c.m c.d]∧Onto w2 wx∧w2.heap.size≤p)
 case first =>
  go_region
  all_goals
   go_wp2_with fail
   go_meet
   exact ⟨_,rfl,Bx.put (us:=[.int .i64 c.x.epoch,.int .i64 c.x.doing,.int .i64 c.x.e.kind,.int .i64 c.x.e.job,.int .i64 c.x.e.every,.int .i64 c.x.e.time,.int .i64 c.x.e.client,.int .i64 c.x.at_,.int .i64 c.x.link,.int .i64 c.x.played,.slice c.A c.n c.c,.slice c.G c.m c.d]) (vs:=[.int .i64 0,.int .i64 0,.int .i64 0,.int .i64 0,.int .i64 0,.int .i64 0,.int .i64 0,.int .i64 0,.int .i64 0,.int .i64 0,.slice none 0 0,.slice none 0 0]) ((Bx.made _ _ _).draw) rfl,Onto.puts (Nat.le_refl _) (((Onto.rfl' w2).new _).draw),Nat.le_refl _⟩
 case rest =>
  obtain ⟨pc,rfl,PC,b,hpc⟩:=hcut
  clear x1 z2 c0 c1 c2 c3 c4 c5 c6 c7 c8 c9 c10 c11
  have NOFF:∀ v∈ns,v.off pc:=fun v hv=>(H.f.ni v hv).1.away hpc
  have COFF:∀ v∈cs,v.off pc:=fun v hv=>(H.f.ci v hv).1.away hpc
  have hw0p:w0.heap.size≤pc:=Nat.le_trans H.onAll.size hpc
  have hkp:K.heap.size≤pc:=Nat.le_trans H.kp.size hpc
  replace H:=H.onto b;replace X:=X.onto b;replace J:=J.onto b
  clear b
  generalize wc=w3 at *
  have hpx:pc≠zx:=by omega
  have x0:=X.at_ 0 rfl
  have x1:=X.at_ 1 rfl;have x2:=X.at_ 2 rfl;have x3:=X.at_ 3 rfl;have x4:=X.at_ 4 rfl;have x5:=X.at_ 5 rfl;have x6:=X.at_ 6 rfl;have x7:=X.at_ 7 rfl;have x8:=X.at_ 8 rfl;have x9:=X.at_ 9 rfl
  have hk:=HK.out
  · subst hk
    have hq:=HQ.out
    rw [if_pos (by decide)] at hq
    replace HQ:=Lib.hid hq
    clear hq HK
    go_wp2_with fail
    refine Calls.mono (WLinkT_calls K w0 z nb cN cb cC ns tip cs time 4 nn jb ep m y _ E0 H HOK.out hm (by simp)) ?_
    rw [← HQ.out]
    rintro e w4 ⟨rfl,h1,h2⟩
    go_wp2_with fail
    go_ret
    exact ⟨rfl,h1,h2⟩
end
end Go.Proofs.YtidlffepdcldkaaGreatDoor
