/- Part 23 of the proof: WCopy, WOff. -/
import Derived.Test.YtidlffepdcldkaaGreatDoorBa22
import Derived.Test.YtidlffepdcldkaaGreatDoorBa20
import Derived.Test.YtidlffepdcldkaaGreatDoorBa12
import Derived.Test.YtidlffepdcldkaaGreatDoorBa14
import Derived.Test.YtidlffepdcldkaaGreatDoorBa06
import Derived.Deep.DeepCutAuto
import Derived.Test.YtidlffepdcldkaaGreatDoorBa21
namespace Go.Proofs.YtidlffepdcldkaaGreatDoor
set_option linter.unusedSimpArgs false
set_option linter.unusedVariables false
section
open Go.RowKit
attribute [local go_sem ↓] Go.wp_at_zero Go.wp_at_succ
attribute [local go_sem ↓] stCl_eq
attribute [local go_sem] run_stCl there_clW
theorem encN_one (ns:List NV):∀ r∈ns.map encN,∀ u∈r,u.oneCell'=true:=fun r hr u hu=>by
 obtain ⟨v,_,rfl⟩:=List.mem_map.1 hr
 simp only [encN,List.mem_cons,List.not_mem_nil,or_false] at hu
 rcases hu with rfl | rfl | rfl | rfl | rfl <;> rfl
theorem encC_one (cs:List CV):∀ r∈cs.map encC,∀ u∈r,u.oneCell'=true:=fun r hr u hu=>by
 obtain ⟨v,_,rfl⟩:=List.mem_map.1 hr
 simp only [encC,List.mem_cons,List.not_mem_nil,or_false] at hu
 rcases hu with rfl | rfl | rfl | rfl | rfl | rfl | rfl | rfl | rfl | rfl | rfl | rfl <;> rfl
theorem Own.rx {w:World} {base E k n c:Nat} {A:Option Addr} {rows:List (List Value)} (h:Own w base E k (.slice A n c) n rows) (hn:0<n):∃ g,A=some ⟨g,0,none⟩∧base≤g∧g<w.heap.size∧Rx w g rows∧n≤c∧c≤maxLen:=by
 obtain ⟨g,cur,rfl,h1,h2,h3,_⟩:=h.open_ hn
 exact ⟨g,rfl,h1,(h.1.lt g rfl).2,⟨fun j v hv=>by simpa [Addr.add_lit] using h.1.cells (g:=g) rfl j v hv,⟨cur,E,h3⟩⟩,h.le_cap,h.cap_max⟩
structure Small (ns:List NV) (cs:List CV):Prop where
 n:∀ v∈ns,v.n=60∧v.k≤30000∧v.l≤30000
 c:∀ v∈cs,v.n≤1000000∧v.m≤1000000
set_option maxHeartbeats 16000000 in
set_option maxRecDepth 100000 in
theorem WCopy_calls (A : Option Addr) (c : Nat) (tip : Int) (C : Option Addr) (d : Nat) (time : Int) (ns : List NV) (cs : List CV) (w : World) (R : WR w A 3 C 3 ns cs) (hs : Small ns cs) :
    Calls Tryz.prog 48 #[.agg #[.slice A 3 c,.int .i64 tip,.slice C 3 d,.int .i64 time]] w fun e w'=>∃ nb cN cb cC ns' cs',e=.returned (.agg #[.slice (some ⟨nb,0,none⟩) 3 cN,.int .i64 tip,.slice (some ⟨cb,0,none⟩) 3 cC,.int .i64 time]) ∧
     nods ns'=nods ns∧clis cs'=clis cs∧WF w w' nb cN cb cC ns' cs'∧(∀ v∈ns',v.fresh w.heap.size)∧(∀ v∈cs',v.fresh w.heap.size):=by
 have HS:=Lib.hid hs
 have hnl:=R.nlen;have hcl:=R.clen
 have HNL:=Lib.hid hnl;have HCL:=Lib.hid hcl
 clear hs hnl hcl
 have ozn:∀ v∈ns,v.off w.heap.size:=fun v hv=>(R.ni v hv).away (Nat.le_refl _)
 have ozc:∀ v∈cs,v.off w.heap.size:=fun v hv=>(R.ci v hv).away (Nat.le_refl _)
 go_enter Tryz.func48,Tryz.ntmps48
 go_upto_region 1 with fail
 have on:=((Onto.rfl' w).new (Obj.cells #[.slice A 3 c,.int .i64 tip,.slice C 3 d,.int .i64 time] 25)).new (Obj.cells #[.slice none 0 0,.int .i64 0,.slice none 0 0,.int .i64 0] 25)
 have Z:Bx ((w.alloc (Obj.cells #[.slice A 3 c,.int .i64 tip,.slice C 3 d,.int .i64 time] 25)).alloc (Obj.cells #[.slice none 0 0,.int .i64 0,.slice none 0 0,.int .i64 0] 25)) w.heap.size [.slice A 3 c,.int .i64 tip,.slice C 3 d,.int .i64 time]:=(Bx.made _ _ _).new _
 have Q:Bx ((w.alloc (Obj.cells #[.slice A 3 c,.int .i64 tip,.slice C 3 d,.int .i64 time] 25)).alloc (Obj.cells #[.slice none 0 0,.int .i64 0,.slice none 0 0,.int .i64 0] 25)) (w.heap.size+1) [.slice none 0 0,.int .i64 0,.slice none 0 0,.int .i64 0]:=by
  have:=Bx.made (w.alloc (Obj.cells #[.slice A 3 c,.int .i64 tip,.slice C 3 d,.int .i64 time] 25)) #[.slice none 0 0,.int .i64 0,.slice none 0 0,.int .i64 0] 25
  simpa using this
 replace R:=R.onto on
 change Code.wp _ _ _ _ ((w.alloc (Obj.cells #[.slice A 3 c,.int .i64 tip,.slice C 3 d,.int .i64 time] 25)).alloc (Obj.cells #[.slice none 0 0,.int .i64 0,.slice none 0 0,.int .i64 0] 25))
 generalize ((w.alloc (Obj.cells #[.slice A 3 c,.int .i64 tip,.slice C 3 d,.int .i64 time] 25)).alloc (Obj.cells #[.slice none 0 0,.int .i64 0,.slice none 0 0,.int .i64 0] 25))=w1 at *
 obtain ⟨z,hz⟩:∃ z,z=w.heap.size:=⟨_,rfl⟩
 obtain ⟨z',hz'⟩:∃ z',z'=w.heap.size+1:=⟨_,rfl⟩
 rw [← hz] at Z;rw [← hz'] at Q
 rw [← hz] at ozn ozc
 have OZN:=Lib.hid ozn;have OZC:=Lib.hid ozc
 clear ozn ozc
 have hzw:w.heap.size≤z:=by omega
 have hzw':w.heap.size≤z':=by omega
 have hzz:z≠z':=by omega
 rw [← hz',← hz]
 clear hz hz'
 have hzl:=Z.lt;have hql:=Q.lt
 have z0:=Z.at_ 0 rfl;have z2:=Z.at_ 2 rfl
 have fz0:=Z.froz 0;have fz2:=Z.froz 2
 go_cut [] (fun wx=>∃ nb cN cb cC,Bx wx z [.slice (some ⟨nb,0,none⟩) 3 cN,.int .i64 tip,.slice (some ⟨cb,0,none⟩) 3 cC,.int .i64 time]∧Bx wx z' [.slice none 0 0,.int .i64 0,.slice none 0 0,.int .i64 0]∧WF w wx nb cN cb cC ns cs∧w1.heap.size≤nb∧w1.heap.size≤cb)
 case first =>
  go_region_law (first
   | (go_simp;go_at_call 74;refine Calls.mono (CloneD_calls _ A 3 c _ (Nat.le_refl _) (ns.map encN) (R.nr.onto (by with_reducible (first | exact Onto.rfl' _ | exact (Onto.rfl' _).draw))) (encN_one ns) (by omega)) ?_;rintro e w2 ⟨A1,c1,rfl,own1,ob⟩;have b2:Onto w1 w2:=Onto.to (by with_reducible (first | exact Onto.rfl' _ | exact (Onto.rfl' _).draw)) ob;have y0:=cellB b2 z0;have y2:=cellB b2 z2;have own1':=own1.lower (b':=w1.heap.size) (Onto.sz (by with_reducible (first | exact Onto.rfl' _ | exact (Onto.rfl' _).draw))))
   | (go_simp;go_at_call 75;refine Calls.mono (CloneC_calls _ C 3 d _ (Nat.le_refl _) (cs.map encC) ((R.cr.onto b2).onto (by with_reducible (first | exact Onto.rfl' _ | exact (Onto.rfl' _).draw))) (encC_one cs) (by omega)) ?_;rintro e w3 ⟨C1,d1,rfl,own2,ob2⟩;have b23:Onto w2 w3:=Onto.to (by with_reducible (first | exact Onto.rfl' _ | exact (Onto.rfl' _).draw)) ob2;have b3:Onto w1 w3:=Onto.to b2 b23;have x0:=cellB b3 z0;have x2:=cellB b3 z2;have g0:=frozB b3 z0 fz0;have g2:=frozB b3 z2 fz2;have own2':=own2.lower (b':=w2.heap.size) (Onto.sz (by with_reducible (first | exact Onto.rfl' _ | exact (Onto.rfl' _).draw)))))
  all_goals
   go_wp2_with fail
   go_meet
   obtain ⟨nb,rfl,hn1,hn2,rn,kn1,kn2⟩:=own1'.rx (by omega)
   obtain ⟨cb,rfl,hc1,hc2,rc,kc1,kc2⟩:=own2'.rx (by omega)
   have hs1:=on.size
   have hb2:=b2.size
   have hnz:nb≠z:=by omega
   have hcz:cb≠z:=by omega
   have hnc:nb≠cb:=by omega
   have AN:∀ b,w1.heap.size≤b→∀ v∈ns,v.off b:=fun b hb v hv=>(R.ni v hv).away hb
   have AC:∀ b,w1.heap.size≤b→∀ v∈cs,v.off b:=fun b hb v hv=>(R.ci v hv).away hb
   have OZ:∀ v∈ns,v.off z:=OZN.out
   have OC:∀ v∈cs,v.off z:=OZC.out
   have Z3:=((Z.onto b3).put1 (j:=0) (by simp) (.slice (some ⟨nb,0,none⟩) 3 c1)).put1 (j:=2) (by simp) (.slice (some ⟨cb,0,none⟩) 3 d1)
   have Q3:=((Q.onto b3).off1 (p:=⟨z,0,none⟩) (Ne.symm hzz) (.slice (some ⟨nb,0,none⟩) 3 c1)).off1 (p:=⟨z,2,none⟩) (Ne.symm hzz) (.slice (some ⟨cb,0,none⟩) 3 d1)
   have rn3:=((Bx.onto rn b23).off1 (p:=⟨z,0,none⟩) hnz (.slice (some ⟨nb,0,none⟩) 3 c1)).off1 (p:=⟨z,2,none⟩) hnz (.slice (some ⟨cb,0,none⟩) 3 d1)
   have rc3:=(Bx.off1 rc (p:=⟨z,0,none⟩) hcz (.slice (some ⟨nb,0,none⟩) 3 c1)).off1 (p:=⟨z,2,none⟩) hcz (.slice (some ⟨cb,0,none⟩) 3 d1)
   exact ⟨nb,c1,cb,d1,Z3,Q3,⟨rn3,rc3,HNL.out,HCL.out,fun v hv=>⟨(((R.ni v hv).onto b3).put (p:=⟨z,0,none⟩) (OZ v hv) _).put (p:=⟨z,2,none⟩) (OZ v hv) _,AN nb hn1 v hv,AN cb (by omega) v hv⟩,
    fun v hv=>⟨(((R.ci v hv).onto b3).put (p:=⟨z,0,none⟩) (OC v hv) _).put (p:=⟨z,2,none⟩) (OC v hv) _,AC nb hn1 v hv,AC cb (by omega) v hv⟩,by omega,by omega,hnc,⟨kn1,kn2⟩,⟨kc1,kc2⟩,((on.to b3).put hzw _).put hzw _⟩,hn1,by omega⟩
 case rest =>
  obtain ⟨nb,cN,cb,cC,Z2,Q2,F,hn1,hc1⟩:=hcut
  clear z0 z2 fz0 fz2 Z Q R on
  generalize wc=w4 at *
  have z0:=Z2.at_ 0 rfl
  go_wp2_with fail
  clear z0
  go_loopg [18] 3 (fun g s18 wr=>∃ (k:Nat) (ns1:List NV),k≤3∧3 - k≤g∧s18=.int .i64 k∧Hid (nods ns1=nods ns)∧Bx wr z [.slice (some ⟨nb,0,none⟩) 3 cN,.int .i64 tip,.slice (some ⟨cb,0,none⟩) 3 cC,.int .i64 time]∧Bx wr z' [.slice none 0 0,.int .i64 0,.slice none 0 0,.int .i64 0]∧WF w wr nb cN cb cC ns1 cs∧Hid (∀ j v,j<k→ns1[j]?=some v→v.fresh nb)∧Hid (∀ v∈ns1,v.n=60∧v.k≤30000∧v.l≤30000))
  case atStart=>exact ⟨0,ns,by omega,by omega,rfl,rfl,Z2,Q2,F,fun j v hj=>absurd hj (Nat.not_lt_zero _),HS.out.n⟩
  case round =>
   clear Z2 Q2 F
   obtain ⟨k,ns1,hk,hg,rfl,HNS,Z2,Q2,F,HF,HM⟩:=hrel
   by_cases hlt:k<3
   · obtain ⟨v,hv,I,on1,oc,n0,n1,n2,n3,n4⟩:=F.atN hlt
     have hsm:=HM.out v (List.mem_of_getElem? hv)
     have HV:=Lib.hid hv;have HSM:=Lib.hid hsm
     have hkn:k<(ns1.map encN).length:=by rw [List.length_map,F.nl];exact hlt
     clear hv hsm
     go_upto_region 5 with fail
     refine wp_box1 (v1:=[.int .i64 v.x.u.ep,.slice v.A v.n v.c,.slice v.F v.k v.i,.slice v.G v.l v.j,.bool v.x.up]) rfl fun w5 b B=>?_
     have hzr:=Z2.lt;have hnr:=Bx.lt F.nr;have hcr:=Bx.lt F.cr;have hqr:=Q2.lt
     replace Z2:=Z2.onto b;replace Q2:=Q2.onto b;replace F:=F.onto b;replace I:=I.onto b
     clear b n0 n1 n2 n3 n4
     generalize wr.heap.size=zb at *
     have z0:=Z2.at_ 0 rfl;have b0:=B.at_ 0 rfl;have b1:=B.at_ 1 rfl
     obtain ⟨n0,n1,n2,n3,n4⟩:=NV.cells_at F.nr (encN_len ns1) (row_ns HV.out)
     have f0:=Bx.froz F.nr (k*5);have f1:=Bx.froz F.nr (k*5+1)
     have hw5:=F.on.size;have hnw:=Bx.lt F.nr;have hzw5:=Z2.lt;have hbw5:=B.lt
     have CU:∀ w',Onto w5 w'→Calls Tryz.prog 76 #[.agg #[.int .i64 v.x.u.ep,.slice v.A v.n v.c]] w' fun e w2=>∃ A' c',e=.returned (.agg #[.int .i64 v.x.u.ep,.slice A' v.n c'])∧M w2 w'.heap.size 5 A' v.n (v.x.u.cells.map encE)∧Onto w' w2∧v.n≤c'∧c'≤maxLen:=fun w' h=>UCopy_calls v.x.u.ep v.A v.n v.c v.x.u.cells w' (I.cells.onto h) (by have:=HSM.out.1;omega)
     go_cut [] (fun wx=>∃ A2 c2,Bx wx z [.slice (some ⟨nb,0,none⟩) 3 cN,.int .i64 tip,.slice (some ⟨cb,0,none⟩) 3 cC,.int .i64 time]∧Bx wx z' [.slice none 0 0,.int .i64 0,.slice none 0 0,.int .i64 0]∧Bx wx zb [.int .i64 v.x.u.ep,.slice v.A v.n v.c,.slice v.F v.k v.i,.slice v.G v.l v.j,.bool v.x.up]∧WF w wx nb cN cb cC (ns1.set k ⟨v.x,A2,v.n,c2,v.F,v.k,v.i,v.G,v.l,v.j⟩) cs∧Fresh nb A2)
     case first =>
      have hz0:∀ w',Turn w5 w' nb→w'.cell? ⟨z,0,none⟩=some (.slice (some ⟨nb,0,none⟩) 3 cN):=fun w' h=>grow_cell h z0 (by intro e;injection e with e;simp only at e;omega);have hb0:∀ w',Turn w5 w' nb→w'.cell? ⟨zb,0,none⟩=some (.int .i64 v.x.u.ep):=fun w' h=>grow_cell h b0 (by intro e;injection e with e;simp only at e;omega);have hb1:∀ w',Turn w5 w' nb→w'.cell? ⟨zb,1,none⟩=some (.slice v.A v.n v.c):=fun w' h=>grow_cell h b1 (by intro e;injection e with e;simp only at e;omega)
      go_region_held3 (fun w'=>Turn w5 w' nb)
       (((with_reducible (repeat (first | exact Turn.rfl' _ _ | exact t6 | refine Turn.put ?_ rfl _ | refine Turn.onto ?_ ((Onto.rfl' _).draw))));done))
       (first
       | (go_at_call 76;with_reducible refine Calls.mono (CU _ (by with_reducible (first | exact Onto.rfl' _ | exact (Onto.rfl' _).draw))) ?_;rintro e w6 ⟨A2,c2,rfl,mA,ob,hc1',hc2'⟩;have b6:Onto w5 w6:=Onto.to (by with_reducible (first | exact Onto.rfl' _ | exact (Onto.rfl' _).draw)) ob;have y0:=cellB b6 z0;have m0:=cellB b6 n0;have m1:=cellB b6 n1;have g0:=frozB b6 n0 f0;have g1:=frozB b6 n1 f1;have fA:Fresh w5.heap.size A2:=mA.fresh (by have:=HSM.out.1;omega) (Onto.sz (by with_reducible (first | exact Onto.rfl' _ | exact (Onto.rfl' _).draw)));have t6:Turn w5 w6 nb:=Turn.of b6 nb)
       | fail)
      all_goals
       go_wp2_with fail
       go_meet
       have F6:=F.onto b6
       have B3:Rx w6 nb ((ns1.map encN).set k (encN v)):=by rw [set_self (row_ns HV.out)];exact F6.nr
       have B4:=Rx.cell1 (j:=0) B3 (encN_len ns1) hkn rfl (by omega) (.int .i64 v.x.u.ep)
       have B5:=Rx.cell1 (j:=1) B4 (encN_len ns1) hkn rfl (by omega) (.slice A2 v.n c2)
       have oA:OffN v.n nb A2:=fA.offN hnw
       have oAc:OffN v.n cb A2:=fA.offN (Bx.lt F.cr)
       have I6:=((I.onto b6).put (p:=⟨nb,k*5,none⟩) on1 (.int .i64 v.x.u.ep)).put (p:=⟨nb,k*5+1,none⟩) on1 (.slice A2 v.n c2)
       have s6:=S.off (S.off mA.sl (p:=⟨nb,k*5,none⟩) oA (.int .i64 v.x.u.ep)) (p:=⟨nb,k*5+1,none⟩) oA (.slice A2 v.n c2)
       have F7:=F6.setN (k:=k) (v:=⟨v.x,A2,v.n,c2,v.F,v.k,v.i,v.G,v.l,v.j⟩) (((Turn.rfl' _ nb).put rfl (.int .i64 v.x.u.ep)).put rfl (.slice A2 v.n c2)) (by rw [List.map_set];exact B5) ⟨⟨s6,I6.disk,hc1',hc2'⟩,⟨oA,on1.f,on1.g⟩,⟨oAc,oc.f,oc.g⟩⟩
       have Z7:=((Z2.onto b6).off1 (p:=⟨nb,k*5,none⟩) (by show z≠nb;omega) (.int .i64 v.x.u.ep)).off1 (p:=⟨nb,k*5+1,none⟩) (by show z≠nb;omega) (.slice A2 v.n c2)
       have Q7:=((Q2.onto b6).off1 (p:=⟨nb,k*5,none⟩) (by show z'≠nb;omega) (.int .i64 v.x.u.ep)).off1 (p:=⟨nb,k*5+1,none⟩) (by show z'≠nb;omega) (.slice A2 v.n c2)
       have B7:=((B.onto b6).off1 (p:=⟨nb,k*5,none⟩) (by show zb≠nb;omega) (.int .i64 v.x.u.ep)).off1 (p:=⟨nb,k*5+1,none⟩) (by show zb≠nb;omega) (.slice A2 v.n c2)
       have fAw:Fresh nb A2:=fun a e=>Nat.le_trans (Nat.le_of_lt hnw) (fA a e)
       first
        | with_reducible exact ⟨A2,c2,Z7,Q7,B7,F7,fAw⟩
        | exact ⟨A2,c2,Z7.draw,Q7.draw,B7.draw,F7.onto ((Onto.rfl' _).draw),fAw⟩
     case rest =>
      obtain ⟨A2,c2,Z7,Q7,B7,F7,fAw⟩:=hcut
      clear z0 b0 b1 n0 n1 n2 n3 n4 f0 f1 CU Z2 Q2 B F I hw5 hnw hzw5 hbw5
      generalize wc=w5' at *
      have Z2:=Z7;have Q2:=Q7;have B:=B7;have F:=F7
      clear Z7 Q7 B7 F7
      have hvs:(ns1.set k ⟨v.x,A2,v.n,c2,v.F,v.k,v.i,v.G,v.l,v.j⟩)[k]?=some ⟨v.x,A2,v.n,c2,v.F,v.k,v.i,v.G,v.l,v.j⟩:=by rw [List.getElem?_set,if_pos rfl,if_pos (by simpa using hkn)]
      have HVS:=Lib.hid hvs
      have hI:=(F.ni _ (List.mem_of_getElem? hvs)).1
      have hsm:=HSM.out
      have CF:∀ w',Onto w5' w'→Calls Tryz.prog 77 #[.slice v.F v.k v.i] w' fun e w2=>∃ A' c',e=.returned (.slice A' v.k c')∧Own w2 w'.heap.size 5 1 (.slice A' v.k c') v.k (v.x.d.safe.map encB)∧Onto w' w2:=fun w' h=>CloneB_calls w' v.F v.k v.i _ (Nat.le_refl _) (v.x.d.safe.map encB) (hI.disk.safe.onto h) (encB_one _) (by omega)
      have CG:∀ w',Onto w5' w'→Calls Tryz.prog 77 #[.slice v.G v.l v.j] w' fun e w2=>∃ A' c',e=.returned (.slice A' v.l c')∧Own w2 w'.heap.size 5 1 (.slice A' v.l c') v.l (v.x.d.wait.map encB)∧Onto w' w2:=fun w' h=>CloneB_calls w' v.G v.l v.j _ (Nat.le_refl _) (v.x.d.wait.map encB) (hI.disk.wait.onto h) (encB_one _) (by omega)
      clear hvs hI hsm
      go_upto_region 6 with fail
      have z0:=Z2.at_ 0 rfl;have b2:=B.at_ 2 rfl;have b3:=B.at_ 3 rfl
      obtain ⟨n0,n1,n2,n3,n4⟩:=NV.cells_at F.nr (encN_len _) (row_ns HVS.out)
      have f2:=Bx.froz F.nr (k*5+2);have f3:=Bx.froz F.nr (k*5+2+1)
      have hw5:=F.on.size;have hnw:=Bx.lt F.nr;have hzw5:=Z2.lt;have hbw5:=B.lt
      have hz0:∀ w',Turn w5' w' nb→w'.cell? ⟨z,0,none⟩=some (.slice (some ⟨nb,0,none⟩) 3 cN):=fun w' h=>grow_cell h z0 (by intro e;injection e with e;simp only at e;omega);have hb2:∀ w',Turn w5' w' nb→w'.cell? ⟨zb,2,none⟩=some (.slice v.F v.k v.i):=fun w' h=>grow_cell h b2 (by intro e;injection e with e;simp only at e;omega);have hb3:∀ w',Turn w5' w' nb→w'.cell? ⟨zb,3,none⟩=some (.slice v.G v.l v.j):=fun w' h=>grow_cell h b3 (by intro e;injection e with e;simp only at e;omega)
      go_region_held3 (fun w'=>Turn w5' w' nb)
       (((with_reducible (repeat (first | exact Turn.rfl' _ _ | exact t7 | exact t6 | refine Turn.put ?_ rfl _ | refine Turn.onto ?_ ((Onto.rfl' _).draw))));done))
       (first
       | (go_at_call 77;with_reducible refine Calls.mono (CF _ (by with_reducible (first | exact Onto.rfl' _ | exact (Onto.rfl' _).draw))) ?_;rintro e w6 ⟨F2,i2,rfl,own1,ob⟩;have b6:Onto w5' w6:=Onto.to (by with_reducible (first | exact Onto.rfl' _ | exact (Onto.rfl' _).draw)) ob;have y0:=cellB b6 z0;have y3:=cellB b6 b3;have fF:Fresh w5'.heap.size F2:=own1.fresh (Onto.sz (by with_reducible (first | exact Onto.rfl' _ | exact (Onto.rfl' _).draw)));have t6:Turn w5' w6 nb:=Turn.of b6 nb)
       | (go_at_call 77;with_reducible refine Calls.mono (CG _ (b6.to (by with_reducible (first | exact Onto.rfl' _ | exact (Onto.rfl' _).draw)))) ?_;rintro e w7 ⟨G2,j2,rfl,own2,ob7⟩;have b67:Onto w6 w7:=Onto.to (by with_reducible (first | exact Onto.rfl' _ | exact (Onto.rfl' _).draw)) ob7;have b7:Onto w5' w7:=Onto.to b6 b67;have x0:=cellB b7 z0;have m2:=cellB b7 n2;have m3:=cellB b7 n3;have g2:=frozB b7 n2 f2;have g3:=frozB b7 n3 f3;have fG:Fresh w5'.heap.size G2:=own2.fresh (by have:=b6.size;have:=Onto.sz (w:=w6) (by with_reducible (first | exact Onto.rfl' _ | exact (Onto.rfl' _).draw));omega);have t7:Turn w5' w7 nb:=Turn.of b7 nb)
       | fail)
      all_goals
       have hkn2:k<((ns1.set k ⟨v.x,A2,v.n,c2,v.F,v.k,v.i,v.G,v.l,v.j⟩).map encN).length:=by simpa using hkn
       have F6:=F.onto b7
       have B3:Rx w7 nb (((ns1.set k ⟨v.x,A2,v.n,c2,v.F,v.k,v.i,v.G,v.l,v.j⟩).map encN).set k (encN ⟨v.x,A2,v.n,c2,v.F,v.k,v.i,v.G,v.l,v.j⟩)):=by rw [set_self (row_ns HVS.out)];exact F6.nr
       have B4:=Rx.cell1 (j:=2) B3 (encN_len _) hkn2 rfl (by omega) (.slice F2 v.k i2)
       have B5:=Rx.cell1 (j:=3) B4 (encN_len _) hkn2 rfl (by omega) (.slice G2 v.l j2)
       have oF:OffN v.k nb F2:=fF.offN hnw
       have oG:OffN v.l nb G2:=fG.offN hnw
       have oFc:OffN v.k cb F2:=fF.offN (Bx.lt F.cr)
       have oGc:OffN v.l cb G2:=fG.offN (Bx.lt F.cr)
       have hI:=F6.ni _ (List.mem_of_getElem? HVS.out)
       have s1:=S.off (S.off (S.onto own1.sl b67) (p:=⟨nb,k*5+2,none⟩) oF (.slice F2 v.k i2)) (p:=⟨nb,k*5+2+1,none⟩) oF (.slice G2 v.l j2)
       have s2:=S.off (S.off own2.sl (p:=⟨nb,k*5+2,none⟩) oG (.slice F2 v.k i2)) (p:=⟨nb,k*5+2+1,none⟩) oG (.slice G2 v.l j2)
       have s3:=S.off (S.off hI.1.cells (p:=⟨nb,k*5+2,none⟩) hI.2.1.a (.slice F2 v.k i2)) (p:=⟨nb,k*5+2+1,none⟩) hI.2.1.a (.slice G2 v.l j2)
       have F7:=F6.setN (k:=k) (v:=⟨v.x,A2,v.n,c2,F2,v.k,i2,G2,v.l,j2⟩) (((Turn.rfl' _ nb).put rfl (.slice F2 v.k i2)).put rfl (.slice G2 v.l j2)) (by rw [List.map_set];exact B5) ⟨⟨s3,⟨s1,s2,own1.le_cap,own1.cap_max,own2.le_cap,own2.cap_max⟩,hI.1.le,hI.1.max⟩,⟨hI.2.1.a,oF,oG⟩,⟨hI.2.2.a,oFc,oGc⟩⟩
       rw [List.set_set] at F7
       have Z7:=((Z2.onto b7).off1 (p:=⟨nb,k*5+2,none⟩) (by show z≠nb;omega) (.slice F2 v.k i2)).off1 (p:=⟨nb,k*5+2+1,none⟩) (by show z≠nb;omega) (.slice G2 v.l j2)
       have Q7:=((Q2.onto b7).off1 (p:=⟨nb,k*5+2,none⟩) (by show z'≠nb;omega) (.slice F2 v.k i2)).off1 (p:=⟨nb,k*5+2+1,none⟩) (by show z'≠nb;omega) (.slice G2 v.l j2)
       have fFw:Fresh nb F2:=fun a e=>Nat.le_trans (Nat.le_of_lt hnw) (fF a e)
       have fGw:Fresh nb G2:=fun a e=>Nat.le_trans (Nat.le_of_lt hnw) (fG a e)
       clear hz0 hb2 hb3 t6 t7 z0 b2 b3 n0 n1 n2 n3 n4 f2 f3 CF CG Z2 Q2 B F y0 y3 x0 m2 m3 g2 g3 b6 b7 b67
       go_wp2_with fail
       go_roundg (3 - (k+1))
       case measure=>omega
       case rel =>
        refine ⟨k+1,ns1.set k ⟨v.x,A2,v.n,c2,F2,v.k,i2,G2,v.l,j2⟩,by omega,Nat.le_refl _,by go_num,Lib.hid ?_,Z7,Q7,F7,Lib.hid ?_,Lib.hid ?_⟩
        · rw [← HNS.out]
          simp only [nods,List.map_set]
          obtain ⟨h2,h3⟩:=List.getElem?_eq_some_iff.1 HV.out
          rw [← h3]
          have:(ns1.map NV.x).set k ((ns1.map NV.x)[k]'(by simpa using h2))=ns1.map NV.x:=List.set_getElem_self _
          simpa using this
        · intro j u hj hu
          rw [List.getElem?_set] at hu
          by_cases hjk:k=j
          · rw [if_pos hjk,if_pos (by simpa using hkn)] at hu
            injection hu with hu
            subst hu
            exact ⟨fAw,fFw,fGw⟩
          · rw [if_neg hjk] at hu
            exact HF.out j u (by omega) hu
        · intro u hu
          rcases List.mem_or_eq_of_mem_set hu with hu | rfl
          · exact HM.out u hu
          · exact HSM.out
   · obtain rfl:k=3:=by omega
     have hfr:∀ v∈ns1,v.fresh nb:=fun v hv=>by
      obtain ⟨i,hi,rfl⟩:=List.getElem_of_mem hv
      have h3:=F.nl
      exact HF.out i _ (by omega) (List.getElem?_eq_getElem hi)
     have HFR:=Lib.hid hfr
     clear hfr HF HM
     have z2:=Z2.at_ 2 rfl
     go_wp2_with fail
     clear z2
     go_loopg [49] 3 (fun g s49 wr=>∃ (k:Nat) (cs1:List CV),k≤3∧3 - k≤g∧s49=.int .i64 k∧Hid (clis cs1=clis cs)∧Bx wr z [.slice (some ⟨nb,0,none⟩) 3 cN,.int .i64 tip,.slice (some ⟨cb,0,none⟩) 3 cC,.int .i64 time]∧Bx wr z' [.slice none 0 0,.int .i64 0,.slice none 0 0,.int .i64 0]∧WF w wr nb cN cb cC ns1 cs1∧Hid (∀ j v,j<k→cs1[j]?=some v→v.fresh nb)∧Hid (∀ v∈cs1,v.n≤1000000∧v.m≤1000000))
     case atStart=>exact ⟨0,cs,by omega,by omega,rfl,rfl,Z2,Q2,F,fun j v hj=>absurd hj (Nat.not_lt_zero _),HS.out.c⟩
     case round =>
      clear Z2 Q2 F
      obtain ⟨k,cs1,hk,hg,rfl,HCS,Z2,Q2,F,HF,HM⟩:=hrel
      by_cases hlt:k<3
      · obtain ⟨v,hv,I,on1,oc,hcells⟩:=F.atC hlt
        have hsm:=HM.out v (List.mem_of_getElem? hv)
        have HV:=Lib.hid hv;have HSM:=Lib.hid hsm
        have hkn:k<(cs1.map encC).length:=by rw [List.length_map,F.cl];exact hlt
        clear hv hsm hcells
        obtain ⟨c0,c1,c2,c3,c4,c5,c6,c7,c8,c9,c10,c11⟩:=CV.cells_at F.cr (encC_len cs1) (row_cs HV.out)
        go_upto_region 11 with fail
        have b:Onto wr ((wr.alloc (Obj.cells #[.int .i64 0,.int .i64 0,.int .i64 0,.int .i64 0,.int .i64 0,.int .i64 0,.int .i64 0,.int .i64 0,.int .i64 0,.int .i64 0,.slice none 0 0,.slice none 0 0] 66)).setCells wr.heap.size 0 [.int .i64 v.x.epoch,.int .i64 v.x.doing,.int .i64 v.x.e.kind,.int .i64 v.x.e.job,.int .i64 v.x.e.every,.int .i64 v.x.e.time,.int .i64 v.x.e.client,.int .i64 v.x.at_,.int .i64 v.x.link,.int .i64 v.x.played,.slice v.A v.n v.c,.slice v.G v.m v.d]):=Onto.puts (Nat.le_refl _) ((Onto.rfl' wr).new _)
        have B:Bx ((wr.alloc (Obj.cells #[.int .i64 0,.int .i64 0,.int .i64 0,.int .i64 0,.int .i64 0,.int .i64 0,.int .i64 0,.int .i64 0,.int .i64 0,.int .i64 0,.slice none 0 0,.slice none 0 0] 66)).setCells wr.heap.size 0 [.int .i64 v.x.epoch,.int .i64 v.x.doing,.int .i64 v.x.e.kind,.int .i64 v.x.e.job,.int .i64 v.x.e.every,.int .i64 v.x.e.time,.int .i64 v.x.e.client,.int .i64 v.x.at_,.int .i64 v.x.link,.int .i64 v.x.played,.slice v.A v.n v.c,.slice v.G v.m v.d]) wr.heap.size [.int .i64 v.x.epoch,.int .i64 v.x.doing,.int .i64 v.x.e.kind,.int .i64 v.x.e.job,.int .i64 v.x.e.every,.int .i64 v.x.e.time,.int .i64 v.x.e.client,.int .i64 v.x.at_,.int .i64 v.x.link,.int .i64 v.x.played,.slice v.A v.n v.c,.slice v.G v.m v.d]:=Bx.put (us:=[.int .i64 v.x.epoch,.int .i64 v.x.doing,.int .i64 v.x.e.kind,.int .i64 v.x.e.job,.int .i64 v.x.e.every,.int .i64 v.x.e.time,.int .i64 v.x.e.client,.int .i64 v.x.at_,.int .i64 v.x.link,.int .i64 v.x.played,.slice v.A v.n v.c,.slice v.G v.m v.d]) (vs:=[.int .i64 0,.int .i64 0,.int .i64 0,.int .i64 0,.int .i64 0,.int .i64 0,.int .i64 0,.int .i64 0,.int .i64 0,.int .i64 0,.slice none 0 0,.slice none 0 0]) (Bx.made _ _ _) rfl
        have hzr:=Z2.lt;have hnr:=Bx.lt F.nr;have hcr:=Bx.lt F.cr;have hqr:=Q2.lt
        replace Z2:=Z2.onto b;replace Q2:=Q2.onto b;replace F:=F.onto b;replace I:=I.onto b
        clear b c0 c1 c2 c3 c4 c5 c6 c7 c8 c9 c10 c11
        try change Code.wp _ _ _ _ ((wr.alloc (Obj.cells #[.int .i64 0,.int .i64 0,.int .i64 0,.int .i64 0,.int .i64 0,.int .i64 0,.int .i64 0,.int .i64 0,.int .i64 0,.int .i64 0,.slice none 0 0,.slice none 0 0] 66)).setCells wr.heap.size 0 [.int .i64 v.x.epoch,.int .i64 v.x.doing,.int .i64 v.x.e.kind,.int .i64 v.x.e.job,.int .i64 v.x.e.every,.int .i64 v.x.e.time,.int .i64 v.x.e.client,.int .i64 v.x.at_,.int .i64 v.x.link,.int .i64 v.x.played,.slice v.A v.n v.c,.slice v.G v.m v.d])
        generalize ((wr.alloc (Obj.cells #[.int .i64 0,.int .i64 0,.int .i64 0,.int .i64 0,.int .i64 0,.int .i64 0,.int .i64 0,.int .i64 0,.int .i64 0,.int .i64 0,.slice none 0 0,.slice none 0 0] 66)).setCells wr.heap.size 0 [.int .i64 v.x.epoch,.int .i64 v.x.doing,.int .i64 v.x.e.kind,.int .i64 v.x.e.job,.int .i64 v.x.e.every,.int .i64 v.x.e.time,.int .i64 v.x.e.client,.int .i64 v.x.at_,.int .i64 v.x.link,.int .i64 v.x.played,.slice v.A v.n v.c,.slice v.G v.m v.d])=w5 at *
        generalize wr.heap.size=zb at *
        have z2:=Z2.at_ 2 rfl
        have b0:=B.at_ 0 rfl;have b1:=B.at_ 1 rfl;have b2:=B.at_ 2 rfl;have b3:=B.at_ 3 rfl;have b4:=B.at_ 4 rfl;have b5:=B.at_ 5 rfl;have b6:=B.at_ 6 rfl;have b7:=B.at_ 7 rfl;have b8:=B.at_ 8 rfl;have b9:=B.at_ 9 rfl;have b10:=B.at_ 10 rfl;have b11:=B.at_ 11 rfl
        have hw5:=F.on.size;have hcw:=Bx.lt F.cr;have hnw5:nb<w5.heap.size:=Bx.lt F.nr;have hzw5:=Z2.lt;have hbw5:=B.lt
        have hz2:∀ w',Turn w5 w' cb→w'.cell? ⟨z,2,none⟩=some (.slice (some ⟨cb,0,none⟩) 3 cC):=fun w' h=>grow_cell h z2 (by intro e;injection e with e;simp only at e;omega);have hb0:∀ w',Turn w5 w' cb→w'.cell? ⟨zb,0,none⟩=some (.int .i64 v.x.epoch):=fun w' h=>grow_cell h b0 (by intro e;injection e with e;simp only at e;omega);have hb1:∀ w',Turn w5 w' cb→w'.cell? ⟨zb,1,none⟩=some (.int .i64 v.x.doing):=fun w' h=>grow_cell h b1 (by intro e;injection e with e;simp only at e;omega);have hb2:∀ w',Turn w5 w' cb→w'.cell? ⟨zb,2,none⟩=some (.int .i64 v.x.e.kind):=fun w' h=>grow_cell h b2 (by intro e;injection e with e;simp only at e;omega);have hb3:∀ w',Turn w5 w' cb→w'.cell? ⟨zb,3,none⟩=some (.int .i64 v.x.e.job):=fun w' h=>grow_cell h b3 (by intro e;injection e with e;simp only at e;omega);have hb4:∀ w',Turn w5 w' cb→w'.cell? ⟨zb,4,none⟩=some (.int .i64 v.x.e.every):=fun w' h=>grow_cell h b4 (by intro e;injection e with e;simp only at e;omega);have hb5:∀ w',Turn w5 w' cb→w'.cell? ⟨zb,5,none⟩=some (.int .i64 v.x.e.time):=fun w' h=>grow_cell h b5 (by intro e;injection e with e;simp only at e;omega);have hb6:∀ w',Turn w5 w' cb→w'.cell? ⟨zb,6,none⟩=some (.int .i64 v.x.e.client):=fun w' h=>grow_cell h b6 (by intro e;injection e with e;simp only at e;omega);have hb7:∀ w',Turn w5 w' cb→w'.cell? ⟨zb,7,none⟩=some (.int .i64 v.x.at_):=fun w' h=>grow_cell h b7 (by intro e;injection e with e;simp only at e;omega);have hb8:∀ w',Turn w5 w' cb→w'.cell? ⟨zb,8,none⟩=some (.int .i64 v.x.link):=fun w' h=>grow_cell h b8 (by intro e;injection e with e;simp only at e;omega);have hb9:∀ w',Turn w5 w' cb→w'.cell? ⟨zb,9,none⟩=some (.int .i64 v.x.played):=fun w' h=>grow_cell h b9 (by intro e;injection e with e;simp only at e;omega);have hb10:∀ w',Turn w5 w' cb→w'.cell? ⟨zb,10,none⟩=some (.slice v.A v.n v.c):=fun w' h=>grow_cell h b10 (by intro e;injection e with e;simp only at e;omega);have hb11:∀ w',Turn w5 w' cb→w'.cell? ⟨zb,11,none⟩=some (.slice v.G v.m v.d):=fun w' h=>grow_cell h b11 (by intro e;injection e with e;simp only at e;omega)
        clear z2 b0 b1 b2 b3 b4 b5 b6 b7 b8 b9 b10 b11
        have hlen:k*12+12≤(cs1.map encC).flatten.length:=by rw [flatten_length (encC_len cs1),List.length_map,F.cl];omega
        go_region_held3 (fun w'=>Turn w5 w' cb)
         (((with_reducible (repeat (first | exact Turn.rfl' _ _ | exact t6 | refine Turn.puts ?_ | refine Turn.onto ?_ ((Onto.rfl' _).draw))));done))
         (first
         | (go_at_call 78;refine Calls.mono (ClCopy_calls v.x.epoch v.x.doing v.x.at_ v.x.link v.x.played v.x.e v.A v.G v.n v.c v.m v.d v.x.b _ (I.jobs.onto (by with_reducible (first | exact Onto.rfl' _ | exact (Onto.rfl' _).draw))) (I.rung.onto (by with_reducible (first | exact Onto.rfl' _ | exact (Onto.rfl' _).draw))) HSM.out.1 HSM.out.2) ?_;rintro e w6 ⟨A1,k1,A2,k2,rfl,s1,s2,ob,hk1,hk2,f1,f2⟩;have bb:Onto w5 w6:=Onto.to (by with_reducible (first | exact Onto.rfl' _ | exact (Onto.rfl' _).draw)) ob;have t6:Turn w5 w6 cb:=Turn.of bb cb;have hst:w6.there cb (k*12) 12:=Bx.thereM (Bx.onto F.cr bb) hlen)
         | fail)
        have F6:=F.onto bb
        have o1:OffN v.n cb A1:=f1.offN hcw
        have o2:OffN v.m cb A2:=f2.offN hcw
        have o1n:OffN v.n nb A1:=f1.offN hnw5
        have o2n:OffN v.m nb A2:=f2.offN hnw5
        have F7:=F6.setC (k:=k) (v:=⟨v.x,A1,v.n,k1,A2,v.m,k2⟩) ((Turn.rfl' _ cb).puts (us:=[.int .i64 v.x.epoch,.int .i64 v.x.doing,.int .i64 v.x.e.kind,.int .i64 v.x.e.job,.int .i64 v.x.e.every,.int .i64 v.x.e.time,.int .i64 v.x.e.client,.int .i64 v.x.at_,.int .i64 v.x.link,.int .i64 v.x.played,.slice A1 v.n k1,.slice A2 v.m k2]) (o:=k*12)) (by rw [List.map_set];exact Rx.put F6.cr (encC_len cs1) (row_cs HV.out) rfl) ⟨⟨put_S (w:=w6) o1 s1,put_S (w:=w6) o2 s2,hk1,hk2⟩,⟨o1n,o2n⟩,⟨o1,o2⟩⟩
        have Z7:=(Z2.onto bb).off (b:=cb) (o:=k*12) (us:=[.int .i64 v.x.epoch,.int .i64 v.x.doing,.int .i64 v.x.e.kind,.int .i64 v.x.e.job,.int .i64 v.x.e.every,.int .i64 v.x.e.time,.int .i64 v.x.e.client,.int .i64 v.x.at_,.int .i64 v.x.link,.int .i64 v.x.played,.slice A1 v.n k1,.slice A2 v.m k2]) (by show z≠cb;omega)
        have Q7:=(Q2.onto bb).off (b:=cb) (o:=k*12) (us:=[.int .i64 v.x.epoch,.int .i64 v.x.doing,.int .i64 v.x.e.kind,.int .i64 v.x.e.job,.int .i64 v.x.e.every,.int .i64 v.x.e.time,.int .i64 v.x.e.client,.int .i64 v.x.at_,.int .i64 v.x.link,.int .i64 v.x.played,.slice A1 v.n k1,.slice A2 v.m k2]) (by show z'≠cb;omega)
        have f1w:Fresh nb A1:=fun a e=>Nat.le_trans (Nat.le_of_lt hnw5) (f1 a e)
        have f2w:Fresh nb A2:=fun a e=>Nat.le_trans (Nat.le_of_lt hnw5) (f2 a e)
        clear Z2 Q2 B F F6 I t6 hst s1 s2 bb hz2 hb0 hb1 hb2 hb3 hb4 hb5 hb6 hb7 hb8 hb9 hb10 hb11
        try change Exit.inBlock _ _ _ _ (w6.setCells cb (k*12) [.int .i64 v.x.epoch,.int .i64 v.x.doing,.int .i64 v.x.e.kind,.int .i64 v.x.e.job,.int .i64 v.x.e.every,.int .i64 v.x.e.time,.int .i64 v.x.e.client,.int .i64 v.x.at_,.int .i64 v.x.link,.int .i64 v.x.played,.slice A1 v.n k1,.slice A2 v.m k2])
        generalize (w6.setCells cb (k*12) [.int .i64 v.x.epoch,.int .i64 v.x.doing,.int .i64 v.x.e.kind,.int .i64 v.x.e.job,.int .i64 v.x.e.every,.int .i64 v.x.e.time,.int .i64 v.x.e.client,.int .i64 v.x.at_,.int .i64 v.x.link,.int .i64 v.x.played,.slice A1 v.n k1,.slice A2 v.m k2])=w7 at *
        go_wp2_with fail
        go_roundg (3 - (k+1))
        case measure=>omega
        case rel =>
         refine ⟨k+1,cs1.set k ⟨v.x,A1,v.n,k1,A2,v.m,k2⟩,by omega,Nat.le_refl _,by go_num,Lib.hid ?_,Z7,Q7,F7,Lib.hid ?_,Lib.hid ?_⟩
         · rw [← HCS.out]
           simp only [clis,List.map_set]
           obtain ⟨h2,h3⟩:=List.getElem?_eq_some_iff.1 HV.out
           rw [← h3]
           have:(cs1.map CV.x).set k ((cs1.map CV.x)[k]'(by simpa using h2))=cs1.map CV.x:=List.set_getElem_self _
           simpa using this
         · intro j u hj hu
           rw [List.getElem?_set] at hu
           by_cases hjk:k=j
           · rw [if_pos hjk,if_pos (by simpa using hkn)] at hu
             injection hu with hu
             subst hu
             exact ⟨f1w,f2w⟩
           · rw [if_neg hjk] at hu
             exact HF.out j u (by omega) hu
         · intro u hu
           rcases List.mem_or_eq_of_mem_set hu with hu | rfl
           · exact HM.out u hu
           · exact HSM.out
      · obtain rfl:k=3:=by omega
        have hfc:∀ v∈cs1,v.fresh nb:=fun v hv=>by
         obtain ⟨i,hi,rfl⟩:=List.getElem_of_mem hv
         have h3:=F.cl
         exact HF.out i _ (by omega) (List.getElem?_eq_getElem hi)
        have HFC:=Lib.hid hfc
        clear hfc HF HM
        have z0:=Z2.at_ 0 rfl;have z1:=Z2.at_ 1 rfl;have z2:=Z2.at_ 2 rfl;have z3:=Z2.at_ 3 rfl
        have q0:=Q2.at_ 0 rfl;have q1:=Q2.at_ 1 rfl;have q2:=Q2.at_ 2 rfl;have q3:=Q2.at_ 3 rfl
        have g0:=Q2.froz 0;have g1:=Q2.froz 1;have g2:=Q2.froz 2;have g3:=Q2.froz 3
        have hnr:=Bx.lt F.nr;have hcr:=Bx.lt F.cr
        go_wp2_with fail
        have hzn:z'≠nb:=by omega
        have hzc:z'≠cb:=by omega
        have hzlt:z'<nb:=by omega
        have hwn:=F.hn
        have F9:=F.turn (z:=z') ((((Turn.rfl' wr z').put (p:=⟨z',0,none⟩) rfl (.slice (some ⟨nb,0,none⟩) 3 cN)).put (p:=⟨z',1,none⟩) rfl (.int .i64 tip)).put (p:=⟨z',2,none⟩) rfl (.slice (some ⟨cb,0,none⟩) 3 cC) |>.put (p:=⟨z',3,none⟩) rfl (.int .i64 time)) hzw' hzn hzc (fun v hv=>(HFR.out v hv).off hzlt) (fun v hv=>(HFC.out v hv).off hzlt)
        refine bodyPost_ret (v:=.agg #[.slice (some ⟨nb,0,none⟩) 3 cN,.int .i64 tip,.slice (some ⟨cb,0,none⟩) 3 cC,.int .i64 time]) (by simp [results,Tryz.results48,go_sem,q0,q1,q2,q3,g0,g1,g2,g3]) rfl ?_
        refine ⟨nb,cN,cb,cC,ns1,cs1,rfl,HNS.out,HCS.out,F9,fun v hv=>?_,fun v hv=>?_⟩
        · exact ⟨fun a e=>Nat.le_trans hwn ((HFR.out v hv).a a e),fun a e=>Nat.le_trans hwn ((HFR.out v hv).f a e),fun a e=>Nat.le_trans hwn ((HFR.out v hv).g a e)⟩
        · exact ⟨fun a e=>Nat.le_trans hwn ((HFC.out v hv).a a e),fun a e=>Nat.le_trans hwn ((HFC.out v hv).g a e)⟩
end
section
open Go.RowKit
def WBox (w:World) (e:Nat):Prop:=∃ A n c t C m d s T fr,w.heap[e]?=some (.cells #[.slice A n c,.int .i64 t,.slice C m d,.int .i64 s] T fr)
section
variable {w w':World} {e k n:Nat} {A:Option Addr} {rows:List (List Value)}
theorem WBox.onto (h:WBox w e) (b:Onto w w'):WBox w' e:=by
 obtain ⟨A,n,c,t,C,m,d,s,T,fr,h⟩:=h
 exact ⟨A,n,c,t,C,m,d,s,T,fr,(b.block e (Array.getElem?_eq_some_iff.1 h).1).trans h⟩
theorem WBox.made (w:World) (A C:Option Addr) (n c m d:Nat) (t s:Int) (T:TypeId):WBox (w.alloc (.cells #[.slice A n c,.int .i64 t,.slice C m d,.int .i64 s] T)) w.heap.size :=
 ⟨A,n,c,t,C,m,d,s,T,_,heap_alloc_new w _⟩
theorem WBox.turn {z:Nat} (h:WBox w e) (t:Turn w w' z) (hne:e≠z):WBox w' e:=by
 obtain ⟨A,n,c,t0,C,m,d,s,T,fr,h⟩:=h
 exact ⟨A,n,c,t0,C,m,d,s,T,fr,(t.block e (Array.getElem?_eq_some_iff.1 h).1 (by intro e';injection e' with e';exact hne e')).trans h⟩
theorem WBox.gr {row:Option Nat} (h:WBox w e) (t:w.grownBy w' row) (hne:some e≠row):WBox w' e:=by
 obtain ⟨A,n,c,t0,C,m,d,s,T,fr,h⟩:=h
 exact ⟨A,n,c,t0,C,m,d,s,T,fr,(t.block e (Array.getElem?_eq_some_iff.1 h).1 hne).trans h⟩
theorem NV.In.gr {row:Option Nat} {v:NV} (h:v.In w) (b:w.grownBy w' row) (f:∀ g,row=some g→v.off g):v.In w' :=
 ⟨h.cells.grown b (fun g e=>(f g e).a),h.disk.grown b (fun g e=>(f g e).f) (fun g e=>(f g e).g),h.le,h.max⟩
theorem CV.In.gr {row:Option Nat} {v:CV} (h:v.In w) (b:w.grownBy w' row) (f:∀ g,row=some g→v.off g):v.In w' :=
 ⟨h.jobs.grown b (fun g e=>(f g e).a),h.rung.grown b (fun g e=>(f g e).g),h.le,h.le'⟩
structure Away (b nb cb:Nat) (ns:List NV) (cs:List CV):Prop where
 n:nb≠b
 c:cb≠b
 ni:∀ v∈ns,v.off b
 ci:∀ v∈cs,v.off b
theorem WR.gr {row:Option Nat} {nb cb:Nat} {ns:List NV} {cs:List CV} (R:WR w (some ⟨nb,0,none⟩) 3 (some ⟨cb,0,none⟩) 3 ns cs) (t:w.grownBy w' row) (h:∀ b,row=some b→Away b nb cb ns cs):WR w' (some ⟨nb,0,none⟩) 3 (some ⟨cb,0,none⟩) 3 ns cs :=
 ⟨R.nr.grown t (fun g e=>by intro _ a ha;injection ha with ha;subst ha;exact (h g e).n),R.cr.grown t (fun g e=>by intro _ a ha;injection ha with ha;subst ha;exact (h g e).c),fun v hv=>(R.ni v hv).gr t (fun g e=>(h g e).ni v hv),fun v hv=>(R.ci v hv).gr t (fun g e=>(h g e).ci v hv)⟩
theorem WR.far {nb cb:Nat} {ns:List NV} {cs:List CV} (R:WR w (some ⟨nb,0,none⟩) 3 (some ⟨cb,0,none⟩) 3 ns cs) {b:Nat} (hb:w.heap.size≤b):Away b nb cb ns cs :=
 ⟨fun e=>R.nr.offN hb (by omega) _ rfl e,fun e=>R.cr.offN hb (by omega) _ rfl e,fun v hv=>(R.ni v hv).away hb,fun v hv=>(R.ci v hv).away hb⟩
theorem WBox.store (h:WBox w e) (A C:Option Addr) (n c m d:Nat) (t s:Int):WBox ((((w.setCell ⟨e,0,none⟩ (.slice A n c)).setCell ⟨e,1,none⟩ (.int .i64 t)).setCell ⟨e,2,none⟩ (.slice C m d)).setCell ⟨e,3,none⟩ (.int .i64 s)) e:=by
 obtain ⟨A',n',c',t',C',m',d',s',T,fr,h⟩:=h
 refine ⟨A,n,c,t,C,m,d,s,T,fr,?_⟩
 simp [World.setCell,Array.getElem?_modify,h]
theorem WBox.two (h:WBox w e) {o:Nat} {a b:Int} (h1:w.cell? ⟨e,o,none⟩=some (.int .i64 a)) (h2:w.cell? ⟨e,o+1,none⟩=some (.int .i64 b)):False:=by
 obtain ⟨A,n,c,t,C,m,d,s,T,fr,h⟩:=h
 rw [cell_of_row w e _ _ _ _ h] at h1 h2
 match o with
 | 0=>simp at h1
 | 1=>simp at h2
 | 2=>simp at h1
 | 3=>simp at h2
 | o+4=>simp at h1
theorem WBox.byte (h:WBox w e) {o:Nat} {a:Int} (h1:w.cell? ⟨e,o,none⟩=some (.int .u8 a)):False:=by
 obtain ⟨A,n,c,t,C,m,d,s,T,fr,h⟩:=h
 rw [cell_of_row w e _ _ _ _ h] at h1
 match o with
 | 0=>simp at h1
 | 1=>simp at h1
 | 2=>simp at h1
 | 3=>simp at h1
 | o+4=>simp at h1
theorem WBox.off2 (h:WBox w e) (hs:S w k A n rows) (hr:∀ r∈rows,∃ a b,r[0]?=some (.int .i64 a)∧r[1]?=some (.int .i64 b)):OffN n e A:=fun hn a ea hb=>by
 obtain ⟨b,off,e',_,hc⟩:=hs.2.2 hn
 rw [ea] at e';injection e' with e';subst e'
 simp only at hb;subst hb
 have h0:0<rows.length:=by rw [hs.1];exact hn
 obtain ⟨x,y,h1,h2⟩:=hr rows[0] (List.getElem_mem h0)
 have g1:=hc 0 0 _ _ (List.getElem?_eq_getElem h0) h1
 have g2:=hc 0 1 _ _ (List.getElem?_eq_getElem h0) h2
 simp only [Nat.zero_mul,Nat.add_zero] at g1 g2
 exact h.two g1 g2
theorem WBox.off1 (h:WBox w e) {l:List UInt8} (hs:S w 1 A n (l.map encB)):OffN n e A:=fun hn a ea hb=>by
 obtain ⟨b,off,e',_,hc⟩:=hs.2.2 hn
 rw [ea] at e';injection e' with e';subst e'
 simp only at hb;subst hb
 have hl:l.length=n:=by have:=hs.1;simpa using this
 have h0:0<l.length:=by omega
 have g1:=hc 0 0 (encB l[0]) _ (by rw [List.getElem?_map,List.getElem?_eq_getElem h0];rfl) rfl
 exact h.byte g1
theorem WBox.node (h:WBox w e) {v:NV} (I:v.In w):v.off e :=
 ⟨h.off2 I.cells (fun r hr=>by obtain ⟨x,_,rfl⟩:=List.mem_map.1 hr;exact ⟨_,_,rfl,rfl⟩),h.off1 I.disk.safe,h.off1 I.disk.wait⟩
theorem WBox.wr (h:WBox w e) {nb cb:Nat} {ns:List NV} {cs:List CV} (R:WR w (some ⟨nb,0,none⟩) 3 (some ⟨cb,0,none⟩) 3 ns cs) (t:Turn w w' e) (hn:nb≠e) (hc:cb≠e) (hN:∀ v∈ns,v.off e) (hC:∀ v∈cs,v.off e):WR w' (some ⟨nb,0,none⟩) 3 (some ⟨cb,0,none⟩) 3 ns cs :=
 ⟨R.nr.grown t (fun g e'=>by injection e' with e';subst e';intro _ a ha;injection ha with ha;subst ha;exact hn),R.cr.grown t (fun g e'=>by injection e' with e';subst e';intro _ a ha;injection ha with ha;subst ha;exact hc),fun v hv=>(R.ni v hv).grown t (hN v hv),fun v hv=>(R.ci v hv).grown t (hC v hv)⟩
theorem WBox.client (h:WBox w e) {v:CV} (I:v.In w):v.off e :=
 ⟨h.off2 I.jobs (fun r hr=>by obtain ⟨x,_,rfl⟩:=List.mem_map.1 hr;exact ⟨_,_,rfl,rfl⟩),h.off2 I.rung (fun r hr=>by obtain ⟨x,_,rfl⟩:=List.mem_map.1 hr;exact ⟨_,_,rfl,rfl⟩)⟩
end
end
end Go.Proofs.YtidlffepdcldkaaGreatDoor
