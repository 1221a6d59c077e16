/- Part 38. -/
import Derived.Test.YtpfkagghooihfaaGreatDoorBa33
import Derived.Test.YtpfkagghooihfaaGreatDoorBa24
namespace Go.Proofs.YtpfkagghooihfaaGreatDoor
set_option linter.unusedSimpArgs false
set_option linter.unusedVariables false
set_option maxHeartbeats 16000000
set_option maxRecDepth 100000
open Go.Proofs.Tryz
open Go.RowKit
section
attribute [local go_sem ↓] Go.wp_at_zero Go.wp_at_succ
attribute [local go_sem ↓] jH
attribute [local go_sem] gP gF
theorem kJ (ns:List NV):∀r∈ns.map bW,∀u∈r,u.oneCell'=true:=fun r hr u hu=>by
 obtain⟨v,_,rfl⟩:=List.mem_map.1 hr;simp only[bW,List.mem_cons,List.not_mem_nil,or_false]at hu;rcases hu with rfl|rfl|rfl|rfl|rfl<;>rfl
theorem kF (cs:List CV):∀r∈cs.map aE,∀u∈r,u.oneCell'=true:=fun r hr u hu=>by
 obtain⟨v,_,rfl⟩:=List.mem_map.1 hr;simp only[aE,List.mem_cons,List.not_mem_nil,or_false]at hu;rcases hu with rfl|rfl|rfl|rfl|rfl|rfl|rfl|rfl|rfl|rfl|rfl|rfl<;>rfl
theorem cH.rx {w:World}{base E k n c:Nat}{A:Option Addr}{rows:List (List Value)}(h:cH w base E k (.slice A n c) n rows)(hn:0<n):∃g,A=some ⟨g,0,none⟩∧base≤g∧g<w.heap.size∧Rx w g rows∧n≤c∧c≤maxLen:=by
 obtain⟨g,cur,rfl,h1,h2,h3,_⟩:=h.open_ hn;exact⟨g,rfl,h1,(h.1.lt g rfl).2,⟨fun j v hv=>by simpa[Addr.add_lit]using h.1.cells (g:=g) rfl j v hv,⟨cur,E,h3⟩⟩,h.Zs,h.cap_max⟩
structure OP (ns:List NV)(cs:List CV):Prop where
 n:∀v∈ns,v.n=60∧v.k≤30000∧v.l≤30000
 c:∀v∈cs,v.n≤1000000∧v.m≤1000000
theorem pO (A : Option Addr)(c : Nat)(tip : Int)(C : Option Addr)(d : Nat)(time : Int)(ns : List NV)(cs : List CV)(w : World)(R : WR w A 3 C 3 ns cs)(hs : OP ns cs) :
    Calls prog 16 #[.agg #[.slice A 3 c,tip,.slice C 3 d,time]] w fun e w'=>∃nb cN cb cC ns' cs',e=.returned (.agg #[.slice (some ⟨nb,0,none⟩) 3 cN,tip,.slice (some ⟨cb,0,none⟩) 3 cC,time]) ∧
     bC ns'=bC ns∧bL cs'=bL cs∧WF w w' nb cN cb cC ns' cs'∧(∀v∈ns',v.fresh w.heap.size)∧(∀v∈cs',v.fresh w.heap.size):=by
 have HS:=aH hs;have hnl:=R.nlen;have hcl:=R.clen;have HNL:=aH hnl;have HCL:=aH hcl;clear hs hnl hcl;have ozn:∀v∈ns,v.off w.heap.size:=fun v hv=>(R.ni v hv).Zn (Nat.le_refl _)
 have ozc:∀v∈cs,v.off w.heap.size:=fun v hv=>(R.ci v hv).Zn (Nat.le_refl _)
 go_enter func16,ntmps16;go_upto_region 1 with fail
 have on:=((aA.Zz w).new (Obj.cells #[.slice A 3 c,tip,.slice C 3 d,time] 25)).new (Obj.cells #[Nat,(),Nat,()] 25);have Z:Bx ((w.alloc (Obj.cells #[.slice A 3 c,tip,.slice C 3 d,time] 25)).alloc (Obj.cells #[Nat,(),Nat,()] 25)) w.heap.size [.slice A 3 c,tip,.slice C 3 d,time]:=(Bx.Zt _ _ _).new _
 have Q:Bx ((w.alloc (Obj.cells #[.slice A 3 c,tip,.slice C 3 d,time] 25)).alloc (Obj.cells #[Nat,(),Nat,()] 25)) (w.heap.size+1) [Nat,(),Nat,()]:=by
  have:=Bx.Zt (w.alloc (Obj.cells #[.slice A 3 c,tip,.slice C 3 d,time] 25)) #[Nat,(),Nat,()] 25;simpa using this
 replace R:=R.oe on;change Code.wp _ _ _ _ ((w.alloc (Obj.cells #[.slice A 3 c,tip,.slice C 3 d,time] 25)).alloc (Obj.cells #[Nat,(),Nat,()] 25));generalize((w.alloc (Obj.cells #[.slice A 3 c,tip,.slice C 3 d,time] 25)).alloc (Obj.cells #[Nat,(),Nat,()] 25))=w1 at *;obtain⟨z,hz⟩:∃z,z=w.heap.size:=⟨_,rfl⟩
 obtain⟨z',hz'⟩:∃z',z'=w.heap.size+1:=⟨_,rfl⟩
 rw[←hz]at Z;rw[←hz']at Q;rw[←hz]at ozn ozc;have OZN:=aH ozn;have OZC:=aH ozc;clear ozn ozc;have hzw:w.heap.size≤z:=by omega
 have hzw':w.heap.size≤z':=by omega
 have hzz:z≠z':=by omega
 rw[←hz',←hz];clear hz hz';have hzl:=Z.lt;have hql:=Q.lt;have z0:=Z.at_ 0 rfl;have z2:=Z.at_ 2 rfl;have fz0:=Z.Zy 0;have fz2:=Z.Zy 2;go_cut [] (fun wx=>∃nb cN cb cC,Bx wx z [.slice (some ⟨nb,0,none⟩) 3 cN,tip,.slice (some ⟨cb,0,none⟩) 3 cC,time]∧Bx wx z' [Nat,(),Nat,()]∧WF w wx nb cN cb cC ns cs∧w1.heap.size≤nb∧w1.heap.size≤cb)
 case first =>
  go_region_law (first
   | (go_simp;go_at_call 62;refine Calls.mono (zT _ A 3 c _ (Nat.le_refl _) (ns.map bW) (R.nr.oe (by with_reducible(first|exact aA.Zz _|exact(aA.Zz _).draw))) (kJ ns) (by omega)) ?_;rintro e w2⟨A1,c1,rfl,own1,ob⟩;have b2:aA w1 w2:=aA.to (by with_reducible(first|exact aA.Zz _|exact(aA.Zz _).draw)) ob;have y0:=aB b2 z0;have y2:=aB b2 z2;have own1':=own1.lower (b':=w1.heap.size) (aA.sz (by with_reducible(first|exact aA.Zz _|exact(aA.Zz _).draw))))
   | (go_simp;go_at_call 63;refine Calls.mono (AQ _ C 3 d _ (Nat.le_refl _) (cs.map aE) ((R.cr.oe b2).oe (by with_reducible(first|exact aA.Zz _|exact(aA.Zz _).draw))) (kF cs) (by omega)) ?_;rintro e w3⟨C1,d1,rfl,own2,ob2⟩;have b23:aA w2 w3:=aA.to (by with_reducible(first|exact aA.Zz _|exact(aA.Zz _).draw)) ob2;have b3:aA w1 w3:=aA.to b2 b23;have x0:=aB b3 z0;have x2:=aB b3 z2;have g0:=aJ b3 z0 fz0;have g2:=aJ b3 z2 fz2;have own2':=own2.lower (b':=w2.heap.size) (aA.sz (by with_reducible(first|exact aA.Zz _|exact(aA.Zz _).draw)))))
  all_goals
   go_wp2_with fail;go_meet;obtain⟨nb,rfl,hn1,hn2,rn,kn1,kn2⟩:=own1'.rx (by omega);obtain⟨cb,rfl,hc1,hc2,rc,kc1,kc2⟩:=own2'.rx (by omega);have hs1:=on.size;have hb2:=b2.size;have hnz:nb≠z:=by omega
   have hcz:cb≠z:=by omega
   have hnc:nb≠cb:=by omega
   have AN:∀b,w1.heap.size≤b→∀v∈ns,v.off b:=fun b hb v hv=>(R.ni v hv).Zn hb
   have AC:∀b,w1.heap.size≤b→∀v∈cs,v.off b:=fun b hb v hv=>(R.ci v hv).Zn hb
   have OZ:∀v∈ns,v.off z:=OZN.out;have OC:∀v∈cs,v.off z:=OZC.out;have Z3:=((Z.oe b3).Zq (j:=0) (by simp) (.slice (some ⟨nb,0,none⟩) 3 c1)).Zq (j:=2) (by simp) (.slice (some ⟨cb,0,none⟩) 3 d1);have Q3:=((Q.oe b3).Zr (p:=⟨z,0,none⟩) (Ne.symm hzz) (.slice (some ⟨nb,0,none⟩) 3 c1)).Zr (p:=⟨z,2,none⟩) (Ne.symm hzz) (.slice (some ⟨cb,0,none⟩) 3 d1);have rn3:=((Bx.oe rn b23).Zr (p:=⟨z,0,none⟩) hnz (.slice (some ⟨nb,0,none⟩) 3 c1)).Zr (p:=⟨z,2,none⟩) hnz (.slice (some ⟨cb,0,none⟩) 3 d1);have rc3:=(Bx.Zr rc (p:=⟨z,0,none⟩) hcz (.slice (some ⟨nb,0,none⟩) 3 c1)).Zr (p:=⟨z,2,none⟩) hcz (.slice (some ⟨cb,0,none⟩) 3 d1)
   exact⟨nb,c1,cb,d1,Z3,Q3,⟨rn3,rc3,HNL.out,HCL.out,fun v hv=>⟨(((R.ni v hv).oe b3).put (p:=⟨z,0,none⟩) (OZ v hv) _).put (p:=⟨z,2,none⟩) (OZ v hv) _,AN nb hn1 v hv,AN cb (by omega) v hv⟩,
    fun v hv=>⟨(((R.ci v hv).oe b3).put (p:=⟨z,0,none⟩) (OC v hv) _).put (p:=⟨z,2,none⟩) (OC v hv) _,AC nb hn1 v hv,AC cb (by omega) v hv⟩,by omega,by omega,hnc,⟨kn1,kn2⟩,⟨kc1,kc2⟩,((on.to b3).put hzw _).put hzw _⟩,hn1,by omega⟩
 case rest =>
  obtain⟨nb,cN,cb,cC,Z2,Q2,F,hn1,hc1⟩:=hcut;clear z0 z2 fz0 fz2 Z Q R on;generalize wc=w4 at *;have z0:=Z2.at_ 0 rfl;go_wp2_with fail;clear z0
  go_loopg [18] 3 (fun g s18 wr=>∃ (k:Nat) (ns1:List NV),k≤3∧3-k≤g∧s18=.int .i64 k∧Hid (bC ns1=bC ns)∧Bx wr z [.slice (some ⟨nb,0,none⟩) 3 cN,tip,.slice (some ⟨cb,0,none⟩) 3 cC,time]∧Bx wr z' [Nat,(),Nat,()]∧WF w wr nb cN cb cC ns1 cs∧Hid (∀j v,j<k→ns1[j]?=some v→v.fresh nb)∧Hid (∀v∈ns1,v.n=60∧v.k≤30000∧v.l≤30000))
  case atStart=>exact⟨0,ns,by omega,by omega,rfl,rfl,Z2,Q2,F,fun j v hj=>absurd hj (Nat.not_lt_zero _),HS.out.n⟩
  case round =>
   clear Z2 Q2 F;obtain⟨k,ns1,hk,hg,rfl,HNS,Z2,Q2,F,HF,HM⟩:=hrel;by_cases hlt:k<3
   · obtain⟨v,hv,I,on1,oc,n0,n1,n2,n3,n4⟩:=F.atN hlt;have hsm:=HM.out v (List.mem_of_getElem? hv);have HV:=aH hv;have HSM:=aH hsm;have hkn:k<(ns1.map bW).length:=by rw[List.length_map,F.nl];exact hlt
     clear hv hsm;go_upto_region 5 with fail
     refine aW (v1:=[v.x.u.ep,.slice v.A v.n v.c,.slice v.F v.k v.i,.slice v.G v.l v.j,.bool v.x.up]) rfl fun w5 b B=>?_
     have hzr:=Z2.lt;have hnr:=Bx.lt F.nr;have hcr:=Bx.lt F.cr;have hqr:=Q2.lt;replace Z2:=Z2.oe b;replace Q2:=Q2.oe b;replace F:=F.oe b;replace I:=I.oe b;clear b n0 n1 n2 n3 n4;generalize wr.heap.size=zb at *;have z0:=Z2.at_ 0 rfl;obtain⟨b0,b1⟩:=B.p2;obtain⟨n0,n1,n2,n3,n4⟩:=NV.Zu F.nr (bB ns1) (cV HV.out);have f0:=Bx.Zy F.nr (k*5);have f1:=Bx.Zy F.nr (k*5+1);have hw5:=F.on.size;have hnw:=Bx.lt F.nr;have hzw5:=Z2.lt;have hbw5:=B.lt;have CU:∀w',aA w5 w'→Calls prog 64 #[.agg #[v.x.u.ep,.slice v.A v.n v.c]] w' fun e w2=>∃A' c',e=.returned (.agg #[v.x.u.ep,.slice A' v.n c'])∧M w2 w'.heap.size 5 A' v.n (v.x.u.cells.map bA)∧aA w' w2∧v.n≤c'∧c'≤maxLen:=fun w' h=>uE v.x.u.ep v.A v.n v.c v.x.u.cells w' (I.cells.oe h) (by have:=HSM.out.1;omega)
     go_cut [] (fun wx=>∃A2 c2,Bx wx z [.slice (some ⟨nb,0,none⟩) 3 cN,tip,.slice (some ⟨cb,0,none⟩) 3 cC,time]∧Bx wx z' [Nat,(),Nat,()]∧Bx wx zb [v.x.u.ep,.slice v.A v.n v.c,.slice v.F v.k v.i,.slice v.G v.l v.j,.bool v.x.up]∧WF w wx nb cN cb cC (ns1.set k ⟨v.x,A2,v.n,c2,v.F,v.k,v.i,v.G,v.l,v.j⟩) cs∧aR nb A2)
     case first =>
      have hz0:∀w',aK w5 w' nb→w'.cell? ⟨z,0,none⟩=some (.slice (some ⟨nb,0,none⟩) 3 cN):=fun w' h=>aD h z0 (by intro e;injection e with e;simp only at e;omega);have hb0:∀w',aK w5 w' nb→w'.cell? ⟨zb,0,none⟩=some (.int .i64 v.x.u.ep):=fun w' h=>aD h b0 (by intro e;injection e with e;simp only at e;omega);have hb1:∀w',aK w5 w' nb→w'.cell? ⟨zb,1,none⟩=some (.slice v.A v.n v.c):=fun w' h=>aD h b1 (by intro e;injection e with e;simp only at e;omega)
      go_region_held3 (fun w'=>aK w5 w' nb)
       (((with_reducible(repeat(first|exact aK.Zz _ _|exact t6|refine aK.put ?_ rfl _|refine aK.oe ?_ ((aA.Zz _).draw))));done))
       (first
       | (go_at_call 64;with_reducible refine Calls.mono (CU _ (by with_reducible(first|exact aA.Zz _|exact(aA.Zz _).draw))) ?_;rintro e w6⟨A2,c2,rfl,mA,ob,hc1',hc2'⟩;have b6:aA w5 w6:=aA.to (by with_reducible(first|exact aA.Zz _|exact(aA.Zz _).draw)) ob;have y0:=aB b6 z0;have m0:=aB b6 n0;have m1:=aB b6 n1;have g0:=aJ b6 n0 f0;have g1:=aJ b6 n1 f1;have fA:aR w5.heap.size A2:=mA.fresh (by have:=HSM.out.1;omega) (aA.sz (by with_reducible(first|exact aA.Zz _|exact(aA.Zz _).draw)));have t6:aK w5 w6 nb:=aK.of b6 nb)
       |fail)
      all_goals
       go_wp2_with fail;go_meet;have F6:=F.oe b6;have B3:Rx w6 nb ((ns1.map bW).set k (bW v)):=by rw[mU (cV HV.out)];exact F6.nr
       have B4:=Rx.cell1 (j:=0) B3 (bB ns1) hkn rfl (by omega) (.int .i64 v.x.u.ep);have B5:=Rx.cell1 (j:=1) B4 (bB ns1) hkn rfl (by omega) (.slice A2 v.n c2);have oA:bQ v.n nb A2:=fA.Zx hnw;have oAc:bQ v.n cb A2:=fA.Zx (Bx.lt F.cr);have I6:=((I.oe b6).put (p:=⟨nb,k*5,none⟩) on1 (.int .i64 v.x.u.ep)).put (p:=⟨nb,k*5+1,none⟩) on1 (.slice A2 v.n c2);have s6:=S.off (S.off mA.sl (p:=⟨nb,k*5,none⟩) oA (.int .i64 v.x.u.ep)) (p:=⟨nb,k*5+1,none⟩) oA (.slice A2 v.n c2);have F7:=F6.setN (k:=k) (v:=⟨v.x,A2,v.n,c2,v.F,v.k,v.i,v.G,v.l,v.j⟩) (((aK.Zz _ nb).put rfl (.int .i64 v.x.u.ep)).put rfl (.slice A2 v.n c2)) (by rw[List.map_set];exact B5) ⟨⟨s6,I6.disk,hc1',hc2'⟩,⟨oA,on1.f,on1.g⟩,⟨oAc,oc.f,oc.g⟩⟩;have Z7:=((Z2.oe b6).Zr (p:=⟨nb,k*5,none⟩) (by show z≠nb;omega) (.int .i64 v.x.u.ep)).Zr (p:=⟨nb,k*5+1,none⟩) (by show z≠nb;omega) (.slice A2 v.n c2);have Q7:=((Q2.oe b6).Zr (p:=⟨nb,k*5,none⟩) (by show z'≠nb;omega) (.int .i64 v.x.u.ep)).Zr (p:=⟨nb,k*5+1,none⟩) (by show z'≠nb;omega) (.slice A2 v.n c2);have B7:=((B.oe b6).Zr (p:=⟨nb,k*5,none⟩) (by show zb≠nb;omega) (.int .i64 v.x.u.ep)).Zr (p:=⟨nb,k*5+1,none⟩) (by show zb≠nb;omega) (.slice A2 v.n c2);have fAw:aR nb A2:=fun a e=>Nat.le_trans (Nat.le_of_lt hnw) (fA a e)
       first
        |with_reducible exact⟨A2,c2,Z7,Q7,B7,F7,fAw⟩
        |exact⟨A2,c2,Z7.draw,Q7.draw,B7.draw,F7.oe ((aA.Zz _).draw),fAw⟩
     case rest =>
      obtain⟨A2,c2,Z7,Q7,B7,F7,fAw⟩:=hcut;clear z0 b0 b1 n0 n1 n2 n3 n4 f0 f1 CU Z2 Q2 B F I hw5 hnw hzw5 hbw5;generalize wc=w5' at *;have Z2:=Z7;have Q2:=Q7;have B:=B7;have F:=F7;clear Z7 Q7 B7 F7;have hvs:(ns1.set k ⟨v.x,A2,v.n,c2,v.F,v.k,v.i,v.G,v.l,v.j⟩)[k]?=some ⟨v.x,A2,v.n,c2,v.F,v.k,v.i,v.G,v.l,v.j⟩:=by rw[List.getElem?_set,if_pos rfl,if_pos (by simpa using hkn)]
      have HVS:=aH hvs;have hI:=(F.ni _ (List.mem_of_getElem? hvs)).1;have hsm:=HSM.out;have CF:∀w',aA w5' w'→Calls prog 65 #[.slice v.F v.k v.i] w' fun e w2=>∃A' c',e=.returned (.slice A' v.k c')∧cH w2 w'.heap.size 5 1 (.slice A' v.k c') v.k (v.x.d.safe.map cA)∧aA w' w2:=fun w' h=>nP w' v.F v.k v.i _ (Nat.le_refl _) (v.x.d.safe.map cA) (hI.disk.safe.oe h) (eY _) (by omega)
      have CG:∀w',aA w5' w'→Calls prog 65 #[.slice v.G v.l v.j] w' fun e w2=>∃A' c',e=.returned (.slice A' v.l c')∧cH w2 w'.heap.size 5 1 (.slice A' v.l c') v.l (v.x.d.wait.map cA)∧aA w' w2:=fun w' h=>nP w' v.G v.l v.j _ (Nat.le_refl _) (v.x.d.wait.map cA) (hI.disk.wait.oe h) (eY _) (by omega)
      clear hvs hI hsm;go_upto_region 6 with fail
      have z0:=Z2.at_ 0 rfl;have b2:=B.at_ 2 rfl;have b3:=B.at_ 3 rfl;obtain⟨n0,n1,n2,n3,n4⟩:=NV.Zu F.nr (bB _) (cV HVS.out);have f2:=Bx.Zy F.nr (k*5+2);have f3:=Bx.Zy F.nr (k*5+2+1);have hw5:=F.on.size;have hnw:=Bx.lt F.nr;have hzw5:=Z2.lt;have hbw5:=B.lt;have hz0:∀w',aK w5' w' nb→w'.cell? ⟨z,0,none⟩=some (.slice (some ⟨nb,0,none⟩) 3 cN):=fun w' h=>aD h z0 (by intro e;injection e with e;simp only at e;omega);have hb2:∀w',aK w5' w' nb→w'.cell? ⟨zb,2,none⟩=some (.slice v.F v.k v.i):=fun w' h=>aD h b2 (by intro e;injection e with e;simp only at e;omega);have hb3:∀w',aK w5' w' nb→w'.cell? ⟨zb,3,none⟩=some (.slice v.G v.l v.j):=fun w' h=>aD h b3 (by intro e;injection e with e;simp only at e;omega)
      go_region_held3 (fun w'=>aK w5' w' nb)
       (((with_reducible(repeat(first|exact aK.Zz _ _|exact t7|exact t6|refine aK.put ?_ rfl _|refine aK.oe ?_ ((aA.Zz _).draw))));done))
       (first
       | (go_at_call 65;with_reducible refine Calls.mono (CF _ (by with_reducible(first|exact aA.Zz _|exact(aA.Zz _).draw))) ?_;rintro e w6⟨F2,i2,rfl,own1,ob⟩;have b6:aA w5' w6:=aA.to (by with_reducible(first|exact aA.Zz _|exact(aA.Zz _).draw)) ob;have y0:=aB b6 z0;have y3:=aB b6 b3;have fF:aR w5'.heap.size F2:=own1.fresh (aA.sz (by with_reducible(first|exact aA.Zz _|exact(aA.Zz _).draw)));have t6:aK w5' w6 nb:=aK.of b6 nb)
       | (go_at_call 65;with_reducible refine Calls.mono (CG _ (b6.to (by with_reducible(first|exact aA.Zz _|exact(aA.Zz _).draw)))) ?_;rintro e w7⟨G2,j2,rfl,own2,ob7⟩;have b67:aA w6 w7:=aA.to (by with_reducible(first|exact aA.Zz _|exact(aA.Zz _).draw)) ob7;have b7:aA w5' w7:=aA.to b6 b67;have x0:=aB b7 z0;have m2:=aB b7 n2;have m3:=aB b7 n3;have g2:=aJ b7 n2 f2;have g3:=aJ b7 n3 f3;have fG:aR w5'.heap.size G2:=own2.fresh (by have:=b6.size;have:=aA.sz (w:=w6) (by with_reducible(first|exact aA.Zz _|exact(aA.Zz _).draw));omega);have t7:aK w5' w7 nb:=aK.of b7 nb)
       |fail)
      all_goals
       have hkn2:k<((ns1.set k ⟨v.x,A2,v.n,c2,v.F,v.k,v.i,v.G,v.l,v.j⟩).map bW).length:=by simpa using hkn
       have F6:=F.oe b7;have B3:Rx w7 nb (((ns1.set k ⟨v.x,A2,v.n,c2,v.F,v.k,v.i,v.G,v.l,v.j⟩).map bW).set k (bW ⟨v.x,A2,v.n,c2,v.F,v.k,v.i,v.G,v.l,v.j⟩)):=by rw[mU (cV HVS.out)];exact F6.nr
       have B4:=Rx.cell1 (j:=2) B3 (bB _) hkn2 rfl (by omega) (.slice F2 v.k i2);have B5:=Rx.cell1 (j:=3) B4 (bB _) hkn2 rfl (by omega) (.slice G2 v.l j2);have oF:bQ v.k nb F2:=fF.Zx hnw;have oG:bQ v.l nb G2:=fG.Zx hnw;have oFc:bQ v.k cb F2:=fF.Zx (Bx.lt F.cr);have oGc:bQ v.l cb G2:=fG.Zx (Bx.lt F.cr);have hI:=F6.ni _ (List.mem_of_getElem? HVS.out);have s1:=S.off (S.off (S.oe own1.sl b67) (p:=⟨nb,k*5+2,none⟩) oF (.slice F2 v.k i2)) (p:=⟨nb,k*5+2+1,none⟩) oF (.slice G2 v.l j2);have s2:=S.off (S.off own2.sl (p:=⟨nb,k*5+2,none⟩) oG (.slice F2 v.k i2)) (p:=⟨nb,k*5+2+1,none⟩) oG (.slice G2 v.l j2);have s3:=S.off (S.off hI.1.cells (p:=⟨nb,k*5+2,none⟩) hI.2.1.a (.slice F2 v.k i2)) (p:=⟨nb,k*5+2+1,none⟩) hI.2.1.a (.slice G2 v.l j2);have F7:=F6.setN (k:=k) (v:=⟨v.x,A2,v.n,c2,F2,v.k,i2,G2,v.l,j2⟩) (((aK.Zz _ nb).put rfl (.slice F2 v.k i2)).put rfl (.slice G2 v.l j2)) (by rw[List.map_set];exact B5) ⟨⟨s3,⟨s1,s2,own1.Zs,own1.cap_max,own2.Zs,own2.cap_max⟩,hI.1.le,hI.1.max⟩,⟨hI.2.1.a,oF,oG⟩,⟨hI.2.2.a,oFc,oGc⟩⟩;rw[List.set_set]at F7;have Z7:=((Z2.oe b7).Zr (p:=⟨nb,k*5+2,none⟩) (by show z≠nb;omega) (.slice F2 v.k i2)).Zr (p:=⟨nb,k*5+2+1,none⟩) (by show z≠nb;omega) (.slice G2 v.l j2);have Q7:=((Q2.oe b7).Zr (p:=⟨nb,k*5+2,none⟩) (by show z'≠nb;omega) (.slice F2 v.k i2)).Zr (p:=⟨nb,k*5+2+1,none⟩) (by show z'≠nb;omega) (.slice G2 v.l j2);have fFw:aR nb F2:=fun a e=>Nat.le_trans (Nat.le_of_lt hnw) (fF a e)
       have fGw:aR nb G2:=fun a e=>Nat.le_trans (Nat.le_of_lt hnw) (fG a e)
       clear hz0 hb2 hb3 t6 t7 z0 b2 b3 n0 n1 n2 n3 n4 f2 f3 CF CG Z2 Q2 B F y0 y3 x0 m2 m3 g2 g3 b6 b7 b67;go_wp2_with fail;go_roundg (3-(k+1))
       case measure=>omega
       case rel =>
        refine⟨k+1,ns1.set k ⟨v.x,A2,v.n,c2,F2,v.k,i2,G2,v.l,j2⟩,by omega,Nat.le_refl _,by go_num,aH ?_,Z7,Q7,F7,aH ?_,aH ?_⟩
        · rw[←HNS.out];simp only[bC,List.map_set];obtain⟨h2,h3⟩:=List.getElem?_eq_some_iff.1 HV.out;rw[←h3];have:(ns1.map NV.x).set k ((ns1.map NV.x)[k]'(by simpa using h2))=ns1.map NV.x:=List.set_getElem_self _;simpa using this
        · intro j u hj hu;rw[List.getElem?_set]at hu;by_cases hjk:k=j
          · rw[if_pos hjk,if_pos (by simpa using hkn)]at hu;injection hu with hu;subst hu;exact⟨fAw,fFw,fGw⟩
          rw[if_neg hjk]at hu;exact HF.out j u (by omega) hu
        intro u hu;rcases List.mem_or_eq_of_mem_set hu with hu|rfl
        · exact HM.out u hu
        exact HSM.out
   obtain rfl:k=3:=by omega
   have hfr:∀v∈ns1,v.fresh nb:=fun v hv=>by
    obtain⟨i,hi,rfl⟩:=List.getElem_of_mem hv;have h3:=F.nl;exact HF.out i _ (by omega) (List.getElem?_eq_getElem hi)
   have HFR:=aH hfr;clear hfr HF HM;have z2:=Z2.at_ 2 rfl;go_wp2_with fail;clear z2
   go_loopg [49] 3 (fun g s49 wr=>∃ (k:Nat) (cs1:List CV),k≤3∧3-k≤g∧s49=.int .i64 k∧Hid (bL cs1=bL cs)∧Bx wr z [.slice (some ⟨nb,0,none⟩) 3 cN,tip,.slice (some ⟨cb,0,none⟩) 3 cC,time]∧Bx wr z' [Nat,(),Nat,()]∧WF w wr nb cN cb cC ns1 cs1∧Hid (∀j v,j<k→cs1[j]?=some v→v.fresh nb)∧Hid (∀v∈cs1,v.n≤1000000∧v.m≤1000000))
   case atStart=>exact⟨0,cs,by omega,by omega,rfl,rfl,Z2,Q2,F,fun j v hj=>absurd hj (Nat.not_lt_zero _),HS.out.c⟩
   case round =>
    clear Z2 Q2 F;obtain⟨k,cs1,hk,hg,rfl,HCS,Z2,Q2,F,HF,HM⟩:=hrel;by_cases hlt:k<3
    · obtain⟨v,hv,I,on1,oc,hcells⟩:=F.atC hlt;have hsm:=HM.out v (List.mem_of_getElem? hv);have HV:=aH hv;have HSM:=aH hsm;have hkn:k<(cs1.map aE).length:=by rw[List.length_map,F.cl];exact hlt
      clear hv hsm hcells;obtain⟨c0,c1,c2,c3,c4,c5,c6,c7,c8,c9,c10,c11⟩:=CV.Zu F.cr (aX cs1) (dD HV.out);go_upto_region 11 with fail
      have b:aA wr ((wr.alloc (Obj.cells #[(),(),(),(),(),(),(),(),(),(),Nat,Nat] 68)).setCells wr.heap.size 0 [v.x.epoch,v.x.doing,v.x.e.kind,v.x.e.job,v.x.e.every,v.x.e.time,v.x.e.client,v.x.at_,v.x.link,v.x.played,.slice v.A v.n v.c,.slice v.G v.m v.d]):=aA.Zw (Nat.le_refl _) ((aA.Zz wr).new _);have B:Bx ((wr.alloc (Obj.cells #[(),(),(),(),(),(),(),(),(),(),Nat,Nat] 68)).setCells wr.heap.size 0 [v.x.epoch,v.x.doing,v.x.e.kind,v.x.e.job,v.x.e.every,v.x.e.time,v.x.e.client,v.x.at_,v.x.link,v.x.played,.slice v.A v.n v.c,.slice v.G v.m v.d]) wr.heap.size [v.x.epoch,v.x.doing,v.x.e.kind,v.x.e.job,v.x.e.every,v.x.e.time,v.x.e.client,v.x.at_,v.x.link,v.x.played,.slice v.A v.n v.c,.slice v.G v.m v.d]:=Bx.put (us:=[v.x.epoch,v.x.doing,v.x.e.kind,v.x.e.job,v.x.e.every,v.x.e.time,v.x.e.client,v.x.at_,v.x.link,v.x.played,.slice v.A v.n v.c,.slice v.G v.m v.d]) (vs:=[(),(),(),(),(),(),(),(),(),(),Nat,Nat]) (Bx.Zt _ _ _) rfl
      have hzr:=Z2.lt;have hnr:=Bx.lt F.nr;have hcr:=Bx.lt F.cr;have hqr:=Q2.lt;replace Z2:=Z2.oe b;replace Q2:=Q2.oe b;replace F:=F.oe b;replace I:=I.oe b;clear b c0 c1 c2 c3 c4 c5 c6 c7 c8 c9 c10 c11
      try change Code.wp _ _ _ _ ((wr.alloc (Obj.cells #[(),(),(),(),(),(),(),(),(),(),Nat,Nat] 68)).setCells wr.heap.size 0 [v.x.epoch,v.x.doing,v.x.e.kind,v.x.e.job,v.x.e.every,v.x.e.time,v.x.e.client,v.x.at_,v.x.link,v.x.played,.slice v.A v.n v.c,.slice v.G v.m v.d])
      generalize((wr.alloc (Obj.cells #[(),(),(),(),(),(),(),(),(),(),Nat,Nat] 68)).setCells wr.heap.size 0 [v.x.epoch,v.x.doing,v.x.e.kind,v.x.e.job,v.x.e.every,v.x.e.time,v.x.e.client,v.x.at_,v.x.link,v.x.played,.slice v.A v.n v.c,.slice v.G v.m v.d])=w5 at *;generalize wr.heap.size=zb at *;have z2:=Z2.at_ 2 rfl;obtain⟨b0,b1,b2,b3,b4,b5,b6,b7,b8,b9,b10,b11⟩:=B.p12;have hw5:=F.on.size;have hcw:=Bx.lt F.cr;have hnw5:nb<w5.heap.size:=Bx.lt F.nr;have hzw5:=Z2.lt;have hbw5:=B.lt;have hz2:∀w',aK w5 w' cb→w'.cell? ⟨z,2,none⟩=some (.slice (some ⟨cb,0,none⟩) 3 cC):=fun w' h=>aD h z2 (by intro e;injection e with e;simp only at e;omega);have hb0:∀w',aK w5 w' cb→w'.cell? ⟨zb,0,none⟩=some (.int .i64 v.x.epoch):=fun w' h=>aD h b0 (by intro e;injection e with e;simp only at e;omega);have hb1:∀w',aK w5 w' cb→w'.cell? ⟨zb,1,none⟩=some (.int .i64 v.x.doing):=fun w' h=>aD h b1 (by intro e;injection e with e;simp only at e;omega);have hb2:∀w',aK w5 w' cb→w'.cell? ⟨zb,2,none⟩=some (.int .i64 v.x.e.kind):=fun w' h=>aD h b2 (by intro e;injection e with e;simp only at e;omega);have hb3:∀w',aK w5 w' cb→w'.cell? ⟨zb,3,none⟩=some (.int .i64 v.x.e.job):=fun w' h=>aD h b3 (by intro e;injection e with e;simp only at e;omega);have hb4:∀w',aK w5 w' cb→w'.cell? ⟨zb,4,none⟩=some (.int .i64 v.x.e.every):=fun w' h=>aD h b4 (by intro e;injection e with e;simp only at e;omega);have hb5:∀w',aK w5 w' cb→w'.cell? ⟨zb,5,none⟩=some (.int .i64 v.x.e.time):=fun w' h=>aD h b5 (by intro e;injection e with e;simp only at e;omega);have hb6:∀w',aK w5 w' cb→w'.cell? ⟨zb,6,none⟩=some (.int .i64 v.x.e.client):=fun w' h=>aD h b6 (by intro e;injection e with e;simp only at e;omega);have hb7:∀w',aK w5 w' cb→w'.cell? ⟨zb,7,none⟩=some (.int .i64 v.x.at_):=fun w' h=>aD h b7 (by intro e;injection e with e;simp only at e;omega);have hb8:∀w',aK w5 w' cb→w'.cell? ⟨zb,8,none⟩=some (.int .i64 v.x.link):=fun w' h=>aD h b8 (by intro e;injection e with e;simp only at e;omega);have hb9:∀w',aK w5 w' cb→w'.cell? ⟨zb,9,none⟩=some (.int .i64 v.x.played):=fun w' h=>aD h b9 (by intro e;injection e with e;simp only at e;omega);have hb10:∀w',aK w5 w' cb→w'.cell? ⟨zb,10,none⟩=some (.slice v.A v.n v.c):=fun w' h=>aD h b10 (by intro e;injection e with e;simp only at e;omega);have hb11:∀w',aK w5 w' cb→w'.cell? ⟨zb,11,none⟩=some (.slice v.G v.m v.d):=fun w' h=>aD h b11 (by intro e;injection e with e;simp only at e;omega)
      clear z2 b0 b1 b2 b3 b4 b5 b6 b7 b8 b9 b10 b11;have hlen:k*12+12≤(cs1.map aE).flatten.length:=by rw[aN (aX cs1),List.length_map,F.cl];omega
      go_region_held3 (fun w'=>aK w5 w' cb)
       (((with_reducible(repeat(first|exact aK.Zz _ _|exact t6|refine aK.Zw ?_|refine aK.oe ?_ ((aA.Zz _).draw))));done))
       (first
       | (go_at_call 66;refine Calls.mono (gU v _ (I.oe (by with_reducible(first|exact aA.Zz _|exact(aA.Zz _).draw))) HSM.out.1 HSM.out.2) ?_;rintro e w6⟨A1,k1,A2,k2,rfl,⟨s1,s2,hk1,hk2⟩,ob,⟨f1,f2⟩⟩;dsimp only[aE];have bb:aA w5 w6:=aA.to (by with_reducible(first|exact aA.Zz _|exact(aA.Zz _).draw)) ob;have t6:aK w5 w6 cb:=aK.of bb cb;have hst:w6.there cb (k*12) 12:=Bx.thereM (Bx.oe F.cr bb) hlen)
       |fail)
      have F6:=F.oe bb;have o1:bQ v.n cb A1:=f1.Zx hcw;have o2:bQ v.m cb A2:=f2.Zx hcw;have o1n:bQ v.n nb A1:=f1.Zx hnw5;have o2n:bQ v.m nb A2:=f2.Zx hnw5;have F7:=F6.setC (k:=k) (v:=⟨v.x,A1,v.n,k1,A2,v.m,k2⟩) ((aK.Zz _ cb).Zw (us:=[v.x.epoch,v.x.doing,v.x.e.kind,v.x.e.job,v.x.e.every,v.x.e.time,v.x.e.client,v.x.at_,v.x.link,v.x.played,.slice A1 v.n k1,.slice A2 v.m k2]) (o:=k*12)) (by rw[List.map_set];exact Rx.put F6.cr (aX cs1) (dD HV.out) rfl) ⟨⟨dM (w:=w6) o1 s1,dM (w:=w6) o2 s2,hk1,hk2⟩,⟨o1n,o2n⟩,⟨o1,o2⟩⟩;have Z7:=(Z2.oe bb).off (b:=cb) (o:=k*12) (us:=[v.x.epoch,v.x.doing,v.x.e.kind,v.x.e.job,v.x.e.every,v.x.e.time,v.x.e.client,v.x.at_,v.x.link,v.x.played,.slice A1 v.n k1,.slice A2 v.m k2]) (by show z≠cb;omega);have Q7:=(Q2.oe bb).off (b:=cb) (o:=k*12) (us:=[v.x.epoch,v.x.doing,v.x.e.kind,v.x.e.job,v.x.e.every,v.x.e.time,v.x.e.client,v.x.at_,v.x.link,v.x.played,.slice A1 v.n k1,.slice A2 v.m k2]) (by show z'≠cb;omega);have f1w:aR nb A1:=fun a e=>Nat.le_trans (Nat.le_of_lt hnw5) (f1 a e)
      have f2w:aR nb A2:=fun a e=>Nat.le_trans (Nat.le_of_lt hnw5) (f2 a e)
      clear Z2 Q2 B F F6 I t6 hst s1 s2 bb hz2 hb0 hb1 hb2 hb3 hb4 hb5 hb6 hb7 hb8 hb9 hb10 hb11
      try change Exit.inBlock _ _ _ _ (w6.setCells cb (k*12) [v.x.epoch,v.x.doing,v.x.e.kind,v.x.e.job,v.x.e.every,v.x.e.time,v.x.e.client,v.x.at_,v.x.link,v.x.played,.slice A1 v.n k1,.slice A2 v.m k2])
      generalize(w6.setCells cb (k*12) [v.x.epoch,v.x.doing,v.x.e.kind,v.x.e.job,v.x.e.every,v.x.e.time,v.x.e.client,v.x.at_,v.x.link,v.x.played,.slice A1 v.n k1,.slice A2 v.m k2])=w7 at *;go_wp2_with fail;go_roundg (3-(k+1))
      case measure=>omega
      case rel =>
       refine⟨k+1,cs1.set k ⟨v.x,A1,v.n,k1,A2,v.m,k2⟩,by omega,Nat.le_refl _,by go_num,aH ?_,Z7,Q7,F7,aH ?_,aH ?_⟩
       · rw[←HCS.out];simp only[bL,List.map_set];obtain⟨h2,h3⟩:=List.getElem?_eq_some_iff.1 HV.out;rw[←h3];have:(cs1.map CV.x).set k ((cs1.map CV.x)[k]'(by simpa using h2))=cs1.map CV.x:=List.set_getElem_self _;simpa using this
       · intro j u hj hu;rw[List.getElem?_set]at hu;by_cases hjk:k=j
         · rw[if_pos hjk,if_pos (by simpa using hkn)]at hu;injection hu with hu;subst hu;exact⟨f1w,f2w⟩
         rw[if_neg hjk]at hu;exact HF.out j u (by omega) hu
       intro u hu;rcases List.mem_or_eq_of_mem_set hu with hu|rfl
       · exact HM.out u hu
       exact HSM.out
    obtain rfl:k=3:=by omega
    have hfc:∀v∈cs1,v.fresh nb:=fun v hv=>by
     obtain⟨i,hi,rfl⟩:=List.getElem_of_mem hv;have h3:=F.cl;exact HF.out i _ (by omega) (List.getElem?_eq_getElem hi)
    have HFC:=aH hfc;clear hfc HF HM;obtain⟨z0,z1,z2,z3⟩:=Z2.p4;obtain⟨q0,q1,q2,q3⟩:=Q2.p4;have g0:=Q2.Zy 0;have g1:=Q2.Zy 1;have g2:=Q2.Zy 2;have g3:=Q2.Zy 3;have hnr:=Bx.lt F.nr;have hcr:=Bx.lt F.cr;go_wp2_with fail;have hzn:z'≠nb:=by omega
    have hzc:z'≠cb:=by omega
    have hzlt:z'<nb:=by omega
    have hwn:=F.hn;have F9:=F.turn (z:=z') ((((aK.Zz wr z').put (p:=⟨z',0,none⟩) rfl (.slice (some ⟨nb,0,none⟩) 3 cN)).put (p:=⟨z',1,none⟩) rfl (.int .i64 tip)).put (p:=⟨z',2,none⟩) rfl (.slice (some ⟨cb,0,none⟩) 3 cC)|>.put (p:=⟨z',3,none⟩) rfl (.int .i64 time)) hzw' hzn hzc (fun v hv=>(HFR.out v hv).off hzlt) (fun v hv=>(HFC.out v hv).off hzlt);refine bodyPost_ret (v:=.agg #[.slice (some ⟨nb,0,none⟩) 3 cN,tip,.slice (some ⟨cb,0,none⟩) 3 cC,time]) (by simp[results,results16,go_sem,q0,q1,q2,q3,g0,g1,g2,g3]) rfl ?_;refine⟨nb,cN,cb,cC,ns1,cs1,rfl,HNS.out,HCS.out,F9,fun v hv=>?_,fun v hv=>?_⟩
    · exact⟨fun a e=>Nat.le_trans hwn ((HFR.out v hv).a a e),fun a e=>Nat.le_trans hwn ((HFR.out v hv).f a e),fun a e=>Nat.le_trans hwn ((HFR.out v hv).g a e)⟩
    exact⟨fun a e=>Nat.le_trans hwn ((HFC.out v hv).a a e),fun a e=>Nat.le_trans hwn ((HFC.out v hv).g a e)⟩
end
section
attribute [local go_sem ↓] Go.wp_at_zero Go.wp_at_succ
attribute [local go_sem ↓] jH kG
attribute [local go_sem] gP gF iV
theorem jR (K w0 : World)(z nb cN cb cC : Nat)(ns : List NV)(tip : Int)(cs : List CV)(time : Int)(kd nn jb ep : Int)(m : Nat)(y : aL)(w : World)(E0 : fR w0)(H : WM K w0 w z nb cN cb cC ns tip cs time)(hok : ∀v ∈ cs, aP v.x = 0)(hm : m < 3)(hk : kd = 4 ∨ kd = 5 ∨ kd = 15) :
    Calls prog 67 #[.pointer (some ⟨z,0,none⟩),.agg #[kd,.int .i64 ↑m,nn,jb,ep,y.kind,y.job,y.every,y.time,y.client]] w (bR K w0 z nb cN cb cC (aZ (aY ns tip cs time) ⟨kd,m,nn,jb,ep,y⟩)):=by
 obtain⟨c,hcv,J,on2,oc2,_⟩:=H.f.atC hm;have oz2:=H.cz c (List.mem_of_getElem? hcv);have hcc:=hok c (List.mem_of_getElem? hcv);have hzl0:=H.lts;obtain⟨q,hq⟩:∃q,q=aZ (aY ns tip cs time) ⟨kd,m,nn,jb,ep,y⟩:=⟨_,rfl⟩
 rw[←hq];have htm:((m:Nat):Int).toNat=m:=by omega
 unfold aZ at hq;dsimp only at hq;rw[if_neg (by omega)]at hq;simp only[htm,show(aY ns tip cs time).c=bL cs from rfl,cU hcv]at hq;have HQ:=aH hq;have HCV:=aH hcv;have HK:=aH hk;have HOK:=aH hok;have HCC:=aH hcc;have hm3:(m:Int)<3:=by omega
 clear hq hcv hk htm hcc hok;go_enter func67,ntmps67;go_upto_region 1 with fail
 refine aW (v1:=[kd,.int .i64 ↑m,nn,jb,ep,y.kind,y.job,y.every,y.time,y.client]) rfl fun w1 b X=>?_
 replace H:=H.oe b;replace J:=J.oe b;generalize hzx:w.heap.size=zx at X hzl0;clear hzx b;have x1:=X.at_ 1 rfl;have z2:=H.bx.at_ 2 rfl;go_quiet (fail);go_upto_region 3 with fail
 generalize hd:World.drewN w1 _=w2;have od:aA w1 w2:=by rw[←hd];exact(aA.Zz w1).Zv _
 clear hd x1 z2;replace H:=H.oe od;replace X:=X.oe od;replace J:=J.oe od;clear od;have x1:=X.at_ 1 rfl;have z2:=H.bx.at_ 2 rfl;obtain⟨c0,c1,c2,c3,c4,c5,c6,c7,c8,c9,c10,c11⟩:=CV.Zu H.f.cr (aX cs) (dD HCV.out);have hz2:=H.lts;have hxl:=X.lt;go_cut [5] (fun s5 wx=>∃ (p:Nat),s5=.pointer (some ⟨p,0,none⟩)∧Bx wx p [c.x.epoch,c.x.doing,c.x.e.kind,c.x.e.job,c.x.e.every,c.x.e.time,c.x.e.client,c.x.at_,c.x.link,c.x.played,.slice c.A c.n c.c,.slice c.G c.m c.d]∧aA w2 wx∧w2.heap.size≤p)
 case first =>
  go_region
  all_goals
   go_wp2_with fail;go_meet;exact⟨_,rfl,Bx.put (us:=[c.x.epoch,c.x.doing,c.x.e.kind,c.x.e.job,c.x.e.every,c.x.e.time,c.x.e.client,c.x.at_,c.x.link,c.x.played,.slice c.A c.n c.c,.slice c.G c.m c.d]) (vs:=[(),(),(),(),(),(),(),(),(),(),Nat,Nat]) ((Bx.Zt _ _ _).draw) rfl,aA.Zw (Nat.le_refl _) (((aA.Zz w2).new _).draw),Nat.le_refl _⟩
 case rest =>
  obtain⟨pc,rfl,PC,b,hpc⟩:=hcut;clear x1 z2 c0 c1 c2 c3 c4 c5 c6 c7 c8 c9 c10 c11;have NOFF:∀v∈ns,v.off pc:=fun v hv=>(H.f.ni v hv).1.Zn hpc
  have COFF:∀v∈cs,v.off pc:=fun v hv=>(H.f.ci v hv).1.Zn hpc
  have hw0p:w0.heap.size≤pc:=Nat.le_trans H.Zm.size hpc;have hkp:K.heap.size≤pc:=Nat.le_trans H.kp.size hpc;replace H:=H.oe b;replace X:=X.oe b;replace J:=J.oe b;clear b;generalize wc=w3 at *;have hpx:pc≠zx:=by omega
  obtain⟨x0,x1,x2,x3,x4,x5,x6,x7,x8,x9⟩:=X.p10;rcases HK.out with hk|hk|hk
  · subst hk;have hq:=HQ.out;rw[if_pos (by decide)]at hq;replace HQ:=aH hq;clear hq HK;go_wp2_with fail;refine Calls.mono (pP K w0 z nb cN cb cC ns tip cs time 4 nn jb ep m y _ E0 H HOK.out hm (by simp)) ?_;rw[←HQ.out];rintro e w4⟨rfl,h1,h2⟩;go_wp2_with fail;go_ret;exact⟨rfl,h1,h2⟩
  · subst hk;have hq:=HQ.out;rw[if_pos (by decide)]at hq;replace HQ:=aH hq;clear hq HK;go_wp2_with fail;refine Calls.mono (pP K w0 z nb cN cb cC ns tip cs time 5 nn jb ep m y _ E0 H HOK.out hm (by simp)) ?_;rw[←HQ.out];rintro e w4⟨rfl,h1,h2⟩;go_wp2_with fail;go_ret;exact⟨rfl,h1,h2⟩
  subst hk;have hq:=HQ.out;rw[if_pos (by decide)]at hq;replace HQ:=aH hq;clear hq HK;go_wp2_with fail;refine Calls.mono (pP K w0 z nb cN cb cC ns tip cs time 15 nn jb ep m y _ E0 H HOK.out hm (by simp)) ?_;rw[←HQ.out];rintro e w4⟨rfl,h1,h2⟩;go_wp2_with fail;go_ret;exact⟨rfl,h1,h2⟩
end
end Go.Proofs.YtpfkagghooihfaaGreatDoor
