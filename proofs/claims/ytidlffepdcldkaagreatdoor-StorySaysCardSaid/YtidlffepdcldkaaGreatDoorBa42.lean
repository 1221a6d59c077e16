/- Part 42 of the proof: TTold. -/
import Derived.Test.YtidlffepdcldkaaGreatDoorBa41
import Derived.Test.YtidlffepdcldkaaGreatDoorBa29
import Derived.Test.YtidlffepdcldkaaGreatDoorBa04
namespace Go.Proofs.YtidlffepdcldkaaGreatDoor
set_option linter.unusedSimpArgs false
set_option linter.unusedVariables false
section
open Go.RowKit
attribute [local go_sem ↓] Go.wp_at_zero Go.wp_at_succ
theorem z7:([0,0,0,0,0,0,0]:List Int).map encI=[encI 0,encI 0,encI 0,encI 0,encI 0,encI 0,encI 0]:=rfl
theorem tlA_kinds:∀ x∈tlA,x.kind=1∨x.kind=3∨x.kind=4∨x.kind=6:=by decide
theorem tlB_kinds:∀ x∈tlB,x.kind=1∨x.kind=3∨x.kind=4∨x.kind=6:=by decide
theorem goodtl:GoodW tlV:=by
 obtain ⟨_,h⟩:=runW_good (w:=newW) (l:=tlA) (by rw [tl_said])
 exact (runW_good (w:=tlW) (l:=tlB) (by rw [tl_more])).2
theorem encE_len (l:List Entry):∀ r∈l.map encE,r.length=5:=fun r hr=>by obtain ⟨v,_,rfl⟩:=List.mem_map.1 hr;rfl
theorem encI_len (l:List Int):∀ r∈l.map encI,r.length=1:=fun r hr=>by obtain ⟨v,_,rfl⟩:=List.mem_map.1 hr;rfl
theorem encI_uno (l:List Int):∀ r∈l.map encI,∀ u∈r,u.oneCell'=true:=fun r hr u hu=>by
 obtain ⟨v,_,rfl⟩:=List.mem_map.1 hr
 simp [encI] at hu
 subst hu;rfl
set_option maxHeartbeats 8000000 in
set_option maxRecDepth 100000 in
theorem told_calls (w:World) (E:Env w):Calls Tryz.prog 8 #[] w fun e w'=>e=.returned (.bool true)∧Onto w w':=by
 go_enter Tryz.func8,Tryz.ntmps8
 go_wp2_with fail
 refine Calls.mono (WNew_calls _) ?_
 rintro e w1 ⟨A,n,C,m,ns,cs,rfl,R,hW,on⟩
 have HW:=Lib.hid hW
 clear hW
 go_wp2_with fail
 refine Calls.mono (put_calls 2 5 3 _) ?_
 rintro e w2 ⟨rfl,b⟩
 replace b:Onto w1 w2:=b
 replace on:=on.to b
 replace R:=R.onto b
 clear b
 go_wp2_with fail
 refine Calls.mono (tlOf_calls 3 0 _) ?_
 rintro e w3 ⟨rfl,b⟩
 replace on:=on.to b
 replace R:=R.onto b
 clear b
 go_wp2_with fail
 refine Calls.mono (put_calls 1 5 3 _) ?_
 rintro e w4 ⟨rfl,b⟩
 replace b:Onto w3 w4:=b
 replace on:=on.to b
 replace R:=R.onto b
 clear b
 go_wp2_with fail
 refine Calls.mono (tlOf_calls 3 1 _) ?_
 rintro e w5 ⟨rfl,b⟩
 replace on:=on.to b
 replace R:=R.onto b
 clear b
 go_wp2_with fail
 refine Calls.mono (tlOf_calls 4 1 _) ?_
 rintro e w6 ⟨rfl,b⟩
 replace on:=on.to b
 replace R:=R.onto b
 clear b
 go_wp2_with fail
 refine Calls.mono (tlOf_calls 4 1 _) ?_
 rintro e w7 ⟨rfl,b⟩
 replace on:=on.to b
 replace R:=R.onto b
 clear b
 go_wp2_with fail
 refine Calls.mono (tlOf_calls 4 1 _) ?_
 rintro e w8 ⟨rfl,b⟩
 replace on:=on.to b
 replace R:=R.onto b
 clear b
 have oA:=(Onto.rfl' w8).new (Obj.cells #[.int .i64 1,.int .i64 0,.int .i64 0,.int .i64 0,.int .i64 0,.int .i64 1,.int .i64 2,.int .i64 5,.int .i64 3,.int .i64 0,.int .i64 3,.int .i64 0,.int .i64 0,.int .i64 0,.int .i64 0,.int .i64 0,.int .i64 0,.int .i64 0,.int .i64 0,.int .i64 0,.int .i64 1,.int .i64 1,.int .i64 0,.int .i64 0,.int .i64 0,.int .i64 1,.int .i64 1,.int .i64 5,.int .i64 3,.int .i64 0,.int .i64 3,.int .i64 1,.int .i64 0,.int .i64 0,.int .i64 0,.int .i64 0,.int .i64 0,.int .i64 0,.int .i64 0,.int .i64 0,.int .i64 4,.int .i64 1,.int .i64 0,.int .i64 0,.int .i64 0,.int .i64 0,.int .i64 0,.int .i64 0,.int .i64 0,.int .i64 0,.int .i64 4,.int .i64 1,.int .i64 0,.int .i64 0,.int .i64 0,.int .i64 0,.int .i64 0,.int .i64 0,.int .i64 0,.int .i64 0,.int .i64 4,.int .i64 1,.int .i64 0,.int .i64 0,.int .i64 0,.int .i64 0,.int .i64 0,.int .i64 0,.int .i64 0,.int .i64 0] 69)
 have SA:S (w8.alloc (Obj.cells #[.int .i64 1,.int .i64 0,.int .i64 0,.int .i64 0,.int .i64 0,.int .i64 1,.int .i64 2,.int .i64 5,.int .i64 3,.int .i64 0,.int .i64 3,.int .i64 0,.int .i64 0,.int .i64 0,.int .i64 0,.int .i64 0,.int .i64 0,.int .i64 0,.int .i64 0,.int .i64 0,.int .i64 1,.int .i64 1,.int .i64 0,.int .i64 0,.int .i64 0,.int .i64 1,.int .i64 1,.int .i64 5,.int .i64 3,.int .i64 0,.int .i64 3,.int .i64 1,.int .i64 0,.int .i64 0,.int .i64 0,.int .i64 0,.int .i64 0,.int .i64 0,.int .i64 0,.int .i64 0,.int .i64 4,.int .i64 1,.int .i64 0,.int .i64 0,.int .i64 0,.int .i64 0,.int .i64 0,.int .i64 0,.int .i64 0,.int .i64 0,.int .i64 4,.int .i64 1,.int .i64 0,.int .i64 0,.int .i64 0,.int .i64 0,.int .i64 0,.int .i64 0,.int .i64 0,.int .i64 0,.int .i64 4,.int .i64 1,.int .i64 0,.int .i64 0,.int .i64 0,.int .i64 0,.int .i64 0,.int .i64 0,.int .i64 0,.int .i64 0] 69)) 10 (some ⟨w8.heap.size,0,none⟩) 7 (tlA.map encH):=by
  have:=Sl.block (w:=(w8.alloc (Obj.cells #[.int .i64 1,.int .i64 0,.int .i64 0,.int .i64 0,.int .i64 0,.int .i64 1,.int .i64 2,.int .i64 5,.int .i64 3,.int .i64 0,.int .i64 3,.int .i64 0,.int .i64 0,.int .i64 0,.int .i64 0,.int .i64 0,.int .i64 0,.int .i64 0,.int .i64 0,.int .i64 0,.int .i64 1,.int .i64 1,.int .i64 0,.int .i64 0,.int .i64 0,.int .i64 1,.int .i64 1,.int .i64 5,.int .i64 3,.int .i64 0,.int .i64 3,.int .i64 1,.int .i64 0,.int .i64 0,.int .i64 0,.int .i64 0,.int .i64 0,.int .i64 0,.int .i64 0,.int .i64 0,.int .i64 4,.int .i64 1,.int .i64 0,.int .i64 0,.int .i64 0,.int .i64 0,.int .i64 0,.int .i64 0,.int .i64 0,.int .i64 0,.int .i64 4,.int .i64 1,.int .i64 0,.int .i64 0,.int .i64 0,.int .i64 0,.int .i64 0,.int .i64 0,.int .i64 0,.int .i64 0,.int .i64 4,.int .i64 1,.int .i64 0,.int .i64 0,.int .i64 0,.int .i64 0,.int .i64 0,.int .i64 0,.int .i64 0,.int .i64 0] 69))) (k:=10) (tlA.map encH) (heap_alloc_new w8 _) (encH_len _) rfl
  exact this
 have on1:=on.to oA;have R1:=R.onto oA
 have HS:=Lib.hid SA;have HR:=Lib.hid R1;have HON:=Lib.hid on1
 clear SA oA on1 R1 R on
 go_wp2_with fail
 refine Calls.mono (WRunT_calls A 3 n 0 C 3 m 0 ns cs (some ⟨w8.heap.size,0,none⟩) 7 7 tlA _ (E.onto HON.out) HR.out HS.out tlA_kinds) ?_
 rw [HW.out]
 rintro e w9 ⟨A1,n1,c1,C1,m1,d1,ns1,cs1,B,b,y,rfl,R,e1,e2,SE,hby,hym,b10,_⟩
 have on:=HON.out.to b10
 clear HS HR HON b10
 have hs1:(runW newW tlA).2.1=[0,0,0,0,0,0,0]:=by rw [tl_said]
 have hs2:(runW newW tlA).2.2=0:=by rw [tl_said]
 rw [hs1] at SE
 rw [hs2]
 have hb7:7=b:=by have:=SE.len;simpa using this
 subst hb7
 obtain ⟨tp,htp⟩:∃ t,t=(runW newW tlA).1.tip:=⟨_,rfl⟩
 obtain ⟨tm,htm⟩:∃ t,t=(runW newW tlA).1.time:=⟨_,rfl⟩
 rw [← htp,← htm]
 have hw:wor ns1 tp cs1 tm=tlW:=by rw [htp,htm];exact wor_of e1 e2
 have HWL:=Lib.hid hw
 have oSE:OffN 7 w9.heap.size B:=SE.offN (Nat.le_refl _)
 have hwz:=on.size
 clear htp htm hw e1 e2 hs1 hs2 HW
 go_upto_region 3 with fail
 have WZ:=WBox.made w9 A1 C1 n1 c1 m1 d1 tp tm 25
 have ob:=(Onto.rfl' w9).new (Obj.cells #[.slice A1 n1 c1,.int .i64 tp,.slice C1 m1 d1,.int .i64 tm] 25)
 have ZW:Bx (w9.alloc (Obj.cells #[.slice A1 n1 c1,.int .i64 tp,.slice C1 m1 d1,.int .i64 tm] 25)) w9.heap.size [.slice A1 n1 c1,.int .i64 tp,.slice C1 m1 d1,.int .i64 tm]:=Bx.made _ _ _
 replace on:=on.to ob
 replace R:=R.onto ob
 replace SE:=SE.onto ob
 clear ob
 try change Code.wp _ _ _ _ (w9.alloc (Obj.cells #[.slice A1 n1 c1,.int .i64 tp,.slice C1 m1 d1,.int .i64 tm] 25))
 generalize (w9.alloc (Obj.cells #[.slice A1 n1 c1,.int .i64 tp,.slice C1 m1 d1,.int .i64 tm] 25))=v10 at *
 generalize w9.heap.size=zw at *
 have hzw:=ZW.lt
 have z0:=ZW.at_ 0 rfl;have z1:=ZW.at_ 1 rfl;have z2:=ZW.at_ 2 rfl;have z3:=ZW.at_ 3 rfl
 go_wp2_with fail
 refine Calls.mono (SHoles_calls A1 n1 c1 tp C1 m1 d1 tm ns1 cs1 _ (E.onto on) R) ?_
 rw [HWL.out,tl_holes]
 rintro e v11 ⟨Bh,bh,yh,rfl,SH,hbh,hyh,b,hfh⟩
 replace on:=on.to b
 replace ZW:=ZW.onto b
 replace R:=R.onto b
 replace SE:=SE.onto b
 replace WZ:=WZ.onto b
 clear b
 clear z0 z1 z2 z3
 have hb1:1=bh:=by have:=SH.len;simpa using this
 subst hb1
 replace SH:S v11 1 Bh 1 (([0]:List Int).map encI):=by simpa using SH
 have oSH:OffN 1 zw Bh:=hfh.offN hzw
 clear hfh hzw hbh
 have z0:=ZW.at_ 0 rfl;have z1:=ZW.at_ 1 rfl;have z2:=ZW.at_ 2 rfl;have z3:=ZW.at_ 3 rfl
 go_wp2_with fail
 refine Calls.mono (SLog_calls A1 n1 c1 tp C1 m1 d1 tm ns1 cs1 _ (E.onto on) R) ?_
 rw [HWL.out,tl_log]
 rintro e v12 ⟨Bl,bl,yl,rfl,SLg,hbl,hyl,b,hfl⟩
 replace on:=on.to b
 replace ZW:=ZW.onto b
 replace R:=R.onto b
 replace SE:=SE.onto b
 replace WZ:=WZ.onto b
 replace SH:=SH.onto b
 clear b
 clear z0 z1 z2 z3
 have hb0:0=bl:=by have:=SLg.len;simpa using this
 subst hb0
 clear SLg hbl hyl hfl
 have z0:=ZW.at_ 0 rfl;have z1:=ZW.at_ 1 rfl;have z2:=ZW.at_ 2 rfl;have z3:=ZW.at_ 3 rfl
 have sB:∀ w':World,S (w'.alloc (Obj.cells #[.int .i64 6,.int .i64 1,.int .i64 0,.int .i64 0,.int .i64 0,.int .i64 0,.int .i64 0,.int .i64 0,.int .i64 0,.int .i64 0,.int .i64 4,.int .i64 1,.int .i64 0,.int .i64 0,.int .i64 0,.int .i64 0,.int .i64 0,.int .i64 0,.int .i64 0,.int .i64 0,.int .i64 4,.int .i64 1,.int .i64 0,.int .i64 0,.int .i64 0,.int .i64 0,.int .i64 0,.int .i64 0,.int .i64 0,.int .i64 0,.int .i64 4,.int .i64 1,.int .i64 0,.int .i64 0,.int .i64 0,.int .i64 0,.int .i64 0,.int .i64 0,.int .i64 0,.int .i64 0,.int .i64 4,.int .i64 0,.int .i64 0,.int .i64 0,.int .i64 0,.int .i64 0,.int .i64 0,.int .i64 0,.int .i64 0,.int .i64 0] 69)) 10 (some ⟨w'.heap.size,0,none⟩) 5 (tlB.map encH):=fun w'=>by
  have:=Sl.block (w:=(w'.alloc (Obj.cells #[.int .i64 6,.int .i64 1,.int .i64 0,.int .i64 0,.int .i64 0,.int .i64 0,.int .i64 0,.int .i64 0,.int .i64 0,.int .i64 0,.int .i64 4,.int .i64 1,.int .i64 0,.int .i64 0,.int .i64 0,.int .i64 0,.int .i64 0,.int .i64 0,.int .i64 0,.int .i64 0,.int .i64 4,.int .i64 1,.int .i64 0,.int .i64 0,.int .i64 0,.int .i64 0,.int .i64 0,.int .i64 0,.int .i64 0,.int .i64 0,.int .i64 4,.int .i64 1,.int .i64 0,.int .i64 0,.int .i64 0,.int .i64 0,.int .i64 0,.int .i64 0,.int .i64 0,.int .i64 0,.int .i64 4,.int .i64 0,.int .i64 0,.int .i64 0,.int .i64 0,.int .i64 0,.int .i64 0,.int .i64 0,.int .i64 0,.int .i64 0] 69))) (k:=10) (tlB.map encH) (heap_alloc_new w' _) (encH_len _) rfl
  exact this
 have HSB:=Lib.hid sB
 clear sB
 go_upto_region 5 with fail
 go_cut [9,10] (fun s9 s10 wx=>∃ (A2:Option Addr) (n2 c2:Nat) (C2:Option Addr) (m2 d2:Nat) (ns2:List NV) (cs2:List CV) (B2:Option Addr) (b2 y2:Nat),s9=.slice B2 b2 y2∧s10=.int .i64 0∧Bx wx zw [.slice A2 n2 c2,.int .i64 tlV.tip,.slice C2 m2 d2,.int .i64 tlV.time]∧WR wx A2 n2 C2 m2 ns2 cs2∧wor ns2 tlV.tip cs2 tlV.time=tlV∧S wx 1 B2 b2 (([0,0,0,0,0]:List Int).map encI)∧b2≤y2∧y2≤maxLen∧S wx 1 B 7 (([0,0,0,0,0,0,0]:List Int).map encI)∧S wx 1 Bh 1 (([0]:List Int).map encI)∧Onto w wx)
 case first =>
  go_region_law (first
   | (go_simp;go_at_call 24;refine Calls.mono (tlOf_calls _ _ _) ?_;rintro e wq ⟨rfl,ob⟩;have bb:Onto v12 wq:=Onto.to (by with_reducible (first | exact Onto.rfl' _ | assumption | (repeat (first | exact Onto.rfl' _ | assumption | refine Onto.draw ?_ | refine Onto.new ?_ _)))) ob;have u0:=cellB bb z0;have u1:=cellB bb z1;have u2:=cellB bb z2;have u3:=cellB bb z3;have hlq:zw<wq.heap.size:=Nat.lt_of_lt_of_le ZW.lt bb.size;clear ob)
   | (go_simp;go_at_call 25;go_loud (refine Calls.mono (WRunT_calls A1 n1 c1 tp C1 m1 d1 tm ns1 cs1 (some ⟨_,0,none⟩) 5 5 tlB _ (E.onto (on.to (by with_reducible (first | exact Onto.rfl' _ | assumption | (repeat (first | exact Onto.rfl' _ | assumption | refine Onto.draw ?_ | refine Onto.new ?_ _)))))) (R.onto (by with_reducible (first | exact Onto.rfl' _ | assumption | (repeat (first | exact Onto.rfl' _ | assumption | refine Onto.draw ?_ | refine Onto.new ?_ _))))) (by first | exact HSB.out _ | exact (HSB.out _).onto (Onto.rfl' _).draw) tlB_kinds) ?_);rw [HWL.out];rintro e w6 ⟨A2,n2,c2,C2,m2,d2,ns2,cs2,B2,b2,y2,rfl,R2,e1,e2,S2,hb2,hy2,ob,hf2⟩;rw [show (runW tlW tlB).2.2=0 by rw [tl_more],show (runW tlW tlB).1=tlV from rfl];rw [show (runW tlW tlB).1=tlV from rfl] at e1 e2;rw [show (runW tlW tlB).2.1=[0,0,0,0,0] by rw [tl_more]] at S2;have b6:Onto v12 w6:=Onto.to (by with_reducible (first | exact Onto.rfl' _ | assumption | (repeat (first | exact Onto.rfl' _ | assumption | refine Onto.draw ?_ | refine Onto.new ?_ _)))) ob;have V:=ZW.onto b6;have WV:=WZ.onto b6;have u0:=V.at_ 0 rfl;have u1:=V.at_ 1 rfl;have u2:=V.at_ 2 rfl;have u3:=V.at_ 3 rfl;have t0:=V.froz 0;have t1:=V.froz 1;have t2:=V.froz 2;have t3:=V.froz 3;have on6:=on.to b6;have SE6:=SE.onto b6;have SH6:=SH.onto b6;have o2:OffN b2 zw B2:=hf2.offN (Nat.lt_of_lt_of_le ZW.lt (by have h9:∀ w',Onto v12 w'→v12.heap.size≤w'.heap.size:=fun _ h=>h.size;exact h9 _ (by with_reducible (first | exact Onto.rfl' _ | assumption | (repeat (first | exact Onto.rfl' _ | assumption | refine Onto.draw ?_ | refine Onto.new ?_ _))))));clear ob hf2))
  all_goals
   go_wp2_with fail
   go_meet
   have t:=Turn.four (w:=w6) (z:=zw) (.slice A2 n2 c2) (.int .i64 tlV.tip) (.slice C2 m2 d2) (.int .i64 tlV.time)
   exact ⟨A2,n2,c2,C2,m2,d2,ns2,cs2,B2,b2,y2,rfl,rfl,V.four _ _ _ _,WV.all R2 t,wor_of e1 e2,S2.grown t (fun g hg=>by injection hg with hg;subst hg;exact o2),hb2,hy2,SE6.grown t (fun g hg=>by injection hg with hg;subst hg;exact oSE),SH6.grown t (fun g hg=>by injection hg with hg;subst hg;exact oSH),on6.four hwz _ _ _ _⟩
 case rest =>
  obtain ⟨A2,n2,c2,C2,m2,d2,ns2,cs2,B2,b2,y2,rfl,rfl,BW,R2,hw2,S2,hb2,hy2,SE2,SH2,on2⟩:=hcut
  clear z0 z1 z2 z3 ZW WZ R SE SH on HSB HWL oSE oSH
  have hb5:5=b2:=by have:=S2.len;simpa using this
  subst hb5
  have HW2:=Lib.hid hw2
  clear hw2
  have on:=on2
  clear on2
  generalize wc=x0 at *
  obtain ⟨tp2,htp2⟩:∃ t,t=tlV.tip:=⟨_,rfl⟩
  obtain ⟨tm2,htm2⟩:∃ t,t=tlV.time:=⟨_,rfl⟩
  rw [← htp2,← htm2] at BW
  have hwv:wor ns2 tp2 cs2 tm2=tlV:=by rw [htp2,htm2];exact HW2.out
  have HWV:=Lib.hid hwv
  clear hwv HW2 htp2 htm2
  have z0:=BW.at_ 0 rfl;have z1:=BW.at_ 1 rfl;have z2:=BW.at_ 2 rfl;have z3:=BW.at_ 3 rfl
  go_wp2_with fail
  refine Calls.mono (SLog_calls A2 n2 c2 tp2 C2 m2 d2 tm2 ns2 cs2 _ (E.onto on) R2) ?_
  rw [HWV.out,tl_log2]
  rintro e v101 ⟨B3,b3,y3,rfl,S3,hb3,hy3,b,_⟩
  replace on:=on.to b
  replace BW:=BW.onto b
  replace R2:=R2.onto b
  replace S2:=S2.onto b
  replace SE2:=SE2.onto b
  replace SH2:=SH2.onto b
  clear b
  clear z0 z1 z2 z3
  have hb2':2=b3:=by have:=S3.len;simpa using this
  subst hb2'
  have z0:=BW.at_ 0 rfl;have z1:=BW.at_ 1 rfl;have z2:=BW.at_ 2 rfl;have z3:=BW.at_ 3 rfl
  go_wp2_with fail
  refine Calls.mono (SBook_calls A2 n2 c2 tp2 C2 m2 d2 tm2 ns2 cs2 _ (E.onto on) R2) ?_
  rw [HWV.out]
  rintro e v102 ⟨A4,n4,c4,A5,n5,c5,rfl,s4,s5,b⟩
  replace on:=on.to b
  replace BW:=BW.onto b
  replace R2:=R2.onto b
  replace S2:=S2.onto b
  replace SE2:=SE2.onto b
  replace SH2:=SH2.onto b
  replace S3:=S3.onto b
  clear b
  clear z0 z1 z2 z3
  have hn4:1=n4:=by have:=s4.len;rw [List.length_map,tl_book.2] at this;exact this
  subst hn4
  rw [tl_book.1]
  have hl3:3=m2:=by
   have h8:tlV.c.length=3:=(goodtl).c3
   have h9:clis cs2=tlV.c:=by rw [← HWV.out]
   have h7:(clis cs2).length=cs2.length:=by simp [clis]
   rw [h9,h8] at h7
   exact h7.trans R2.clen
  subst hl3
  obtain ⟨bc,oc,vv,hC2,hbc,hv,vi,q0,q1,q2,q3,q4,q5,q6,q7,q8,q9,q10,q11⟩:=R2.atC (i:=0) (by omega)
  subst hC2
  have hvx:vv.x.doing=1:=by
   have h9:cliAt tlV.c 0=vv.x:=by rw [← HWV.out];exact cliAt_cs hv
   rw [← h9];exact tl_do
  rw [hvx] at q1
  simp only [Nat.zero_mul,Nat.add_zero] at q1
  clear q0 q2 q3 q4 q5 q6 q7 q8 q9 q10 q11 hv vi hvx hbc R2 s4 s5 HWV
  go_upto_region 8 with fail
  refine wp_box1 (v1:=[.slice A4 1 c4,.slice A5 n5 c5]) rfl fun x9 ox BB=>?_
  replace q1:=cellB ox q1
  replace on:=on.to ox
  replace BW:=BW.onto ox
  replace S2:=S2.onto ox
  replace SE2:=SE2.onto ox
  replace SH2:=SH2.onto ox
  replace S3:=S3.onto ox
  generalize v102.heap.size=zb at BB ⊢
  clear ox
  have oS:=(Onto.rfl' x9).new (Obj.cells #[.slice B 7 y,.slice B2 5 y2] 71)
  have HZ:Hid (∀ i p,([⟨B,7,y,([0,0,0,0,0,0,0]:List Int).map encI⟩,⟨B2,5,y2,([0,0,0,0,0]:List Int).map encI⟩]:List Pt)[i]?=some p→(x9.alloc (Obj.cells #[.slice B 7 y,.slice B2 5 y2] 71)).cell? ⟨x9.heap.size,i,none⟩=some (.slice p.A p.n p.c)):=Lib.hid fun i p hp=>by
   match i with
   | 0=>simp at hp;subst hp;simp [go_sem]
   | 1=>simp at hp;subst hp;simp [go_sem]
   | i+2=>simp at hp
  have HS:Hid (∀ p∈([⟨B,7,y,([0,0,0,0,0,0,0]:List Int).map encI⟩,⟨B2,5,y2,([0,0,0,0,0]:List Int).map encI⟩]:List Pt),Sl (x9.alloc (Obj.cells #[.slice B 7 y,.slice B2 5 y2] 71)) (x9.alloc (Obj.cells #[.slice B 7 y,.slice B2 5 y2] 71)).heap.size 1 p.A p.n p.rows):=Lib.hid fun p hp=>by
   simp only [List.mem_cons,List.not_mem_nil,or_false] at hp
   rcases hp with rfl | rfl
   · exact SE2.onto oS
   · exact S2.onto oS
  have H1:Hid (∀ p∈([⟨B,7,y,([0,0,0,0,0,0,0]:List Int).map encI⟩,⟨B2,5,y2,([0,0,0,0,0]:List Int).map encI⟩]:List Pt),∀ r∈p.rows,∀ u∈r,u.oneCell'=true):=Lib.hid fun p hp=>by
   simp only [List.mem_cons,List.not_mem_nil,or_false] at hp
   rcases hp with rfl | rfl
   all_goals exact encI_uno _
  clear SE2 S2
  replace q1:=cellB oS q1
  replace on:=on.to oS
  replace BW:=BW.onto oS
  replace BB:=BB.onto oS
  replace SH2:=SH2.onto oS
  replace S3:=S3.onto oS
  clear oS
  go_wp2_with fail
  refine Calls.mono (ConcatNN_calls _ [⟨B,7,y,([0,0,0,0,0,0,0]:List Int).map encI⟩,⟨B2,5,y2,([0,0,0,0,0]:List Int).map encI⟩] x9.heap.size 2 HZ.out HS.out H1.out (by simp) (by simp) (by simp [lenP])) ?_
  rintro e x10 ⟨A6,c6,rfl,ow,b⟩
  have SC:S x10 1 A6 12 (([0,0,0,0,0,0,0,0,0,0,0,0]:List Int).map encI):=ow.sl
  replace q1:=cellB b q1
  replace on:=on.to b
  replace BW:=BW.onto b
  replace BB:=BB.onto b
  replace SH2:=SH2.onto b
  replace S3:=S3.onto b
  clear b ow HZ HS H1
  go_wp2_with fail
  refine Calls.mono (ContainsFuncN_calls A6 12 c6 _ 28 (fun x=>decide (x≠0)) _ SC (by omega) (fun _ _=>by kernel_rfl) (fun x w' _=>tlBad_calls x w')) ?_
  rw [show decide (0≤idxI (fun x:Int=>decide (x≠0)) [0,0,0,0,0,0,0,0,0,0,0,0])=false by decide]
  rintro e x11 ⟨rfl,b⟩
  replace q1:=cellB b q1
  replace on:=on.to b
  replace BW:=BW.onto b
  replace BB:=BB.onto b
  replace SH2:=SH2.onto b
  replace S3:=S3.onto b
  clear b SC
  have oI:=(Onto.rfl' x11).new (Obj.cells #[.int .i64 0] 3)
  have SI:S (x11.alloc (Obj.cells #[.int .i64 0] 3)) 1 (some ⟨x11.heap.size,0,none⟩) 1 (([0]:List Int).map encI):=by
   have:=Sl.block (w:=(x11.alloc (Obj.cells #[.int .i64 0] 3))) (k:=1) (([0]:List Int).map encI) (heap_alloc_new x11 _) (encI_len _) rfl
   exact this
  replace q1:=cellB oI q1
  replace on:=on.to oI
  replace BW:=BW.onto oI
  replace BB:=BB.onto oI
  replace SH2:=SH2.onto oI
  replace S3:=S3.onto oI
  have HSI:=Lib.hid SI
  clear oI SI
  go_wp2_with fail
  refine Calls.mono (EqualI_calls Bh (some ⟨x11.heap.size,0,none⟩) 1 1 yh 1 _ [0] [0] _ SH2 HSI.out (by omega)) ?_
  rw [show decide (([0]:List Int)=[0])=true by decide]
  rintro e x12 ⟨rfl,qd,hqd⟩
  have b:Onto (x11.alloc (Obj.cells #[.int .i64 0] 3)) x12:=by rw [hqd];exact (Onto.rfl' _).draws _
  clear SH2 HSI
  replace q1:=cellB b q1
  replace on:=on.to b
  replace BW:=BW.onto b
  replace BB:=BB.onto b
  replace S3:=S3.onto b
  clear b hqd
  go_wp2_with fail
  refine Calls.mono (put_calls 1 5 3 _) ?_
  rintro e x13 ⟨rfl,b⟩
  replace b:Onto x12 x13:=b
  replace q1:=cellB b q1
  replace on:=on.to b
  replace BW:=BW.onto b
  replace BB:=BB.onto b
  replace S3:=S3.onto b
  clear b
  have oI:=(Onto.rfl' x13).new (Obj.cells #[.int .i64 0,.int .i64 0,.int .i64 0,.int .i64 0,.int .i64 0,.int .i64 1,.int .i64 1,.int .i64 5,.int .i64 3,.int .i64 0] 46)
  have SI:S (x13.alloc (Obj.cells #[.int .i64 0,.int .i64 0,.int .i64 0,.int .i64 0,.int .i64 0,.int .i64 1,.int .i64 1,.int .i64 5,.int .i64 3,.int .i64 0] 46)) 5 (some ⟨x13.heap.size,0,none⟩) 2 ([zeroE,tlE].map encE):=by
   have:=Sl.block (w:=(x13.alloc (Obj.cells #[.int .i64 0,.int .i64 0,.int .i64 0,.int .i64 0,.int .i64 0,.int .i64 1,.int .i64 1,.int .i64 5,.int .i64 3,.int .i64 0] 46))) (k:=5) ([zeroE,tlE].map encE) (heap_alloc_new x13 _) (encE_len _) rfl
   exact this
  replace q1:=cellB oI q1
  replace on:=on.to oI
  replace BW:=BW.onto oI
  replace BB:=BB.onto oI
  replace S3:=S3.onto oI
  have HSI:=Lib.hid SI
  clear oI SI
  go_wp2_with fail
  refine Calls.mono (EqualE_calls B3 (some ⟨x13.heap.size,0,none⟩) 2 2 y3 2 _ [zeroE,tlE] [zeroE,tlE] _ S3 HSI.out (by omega)) ?_
  rw [show decide ([zeroE,tlE]=[zeroE,tlE])=true by simp]
  rintro e x14 ⟨rfl,qd,hqd⟩
  have b:Onto (x13.alloc (Obj.cells #[.int .i64 0,.int .i64 0,.int .i64 0,.int .i64 0,.int .i64 0,.int .i64 1,.int .i64 1,.int .i64 5,.int .i64 3,.int .i64 0] 46)) x14:=by rw [hqd];exact (Onto.rfl' _).draws _
  clear S3 HSI
  replace q1:=cellB b q1
  replace on:=on.to b
  replace BW:=BW.onto b
  replace BB:=BB.onto b
  clear b hqd
  have r0:=BB.at_ 0 rfl;have z2:=BW.at_ 2 rfl
  go_wp2_with fail
  go_ret
  exact ⟨by first | rfl | simp,on⟩
end
end Go.Proofs.YtidlffepdcldkaaGreatDoor
