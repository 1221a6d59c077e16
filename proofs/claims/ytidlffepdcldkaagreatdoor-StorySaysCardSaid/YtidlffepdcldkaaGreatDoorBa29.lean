/- Part 29 of the proof: WDoP, WRun, TRun. -/
import Derived.Test.YtidlffepdcldkaaGreatDoorBa23
import Derived.Test.YtidlffepdcldkaaGreatDoorBa28
import Derived.Test.YtidlffepdcldkaaGreatDoorBa25
import Derived.Test.YtidlffepdcldkaaGreatDoorBa21
import Derived.Test.YtidlffepdcldkaaGreatDoorBa20
namespace Go.Proofs.YtidlffepdcldkaaGreatDoor
set_option linter.unusedSimpArgs false
set_option linter.unusedVariables false
section
open Go.RowKit
theorem small_of {w:World} {A C:Option Addr} {n m:Nat} {ns:List NV} {cs:List CV} {tip time:Int} (R:WR w A n C m ns cs) (hg:GoodW (wor ns tip cs time)):n=3∧m=3∧Small ns cs:=by
 have h1:=R.nlen;have h2:=R.clen
 have h3:ns.length=3:=by have:=hg.n3;simpa [wor,nods] using this
 have h4:cs.length=3:=by have:=hg.c3;simpa [wor,clis] using this
 refine ⟨by omega,by omega,fun v hv=>?_,fun v hv=>?_⟩
 · obtain ⟨i,hi,rfl⟩:=List.getElem_of_mem hv
   have hn:=hg.node i (by omega)
   rw [show (wor ns tip cs time).n=nods ns from rfl,nodAt_ns (List.getElem?_eq_getElem hi)] at hn
   obtain ⟨l,k,hd⟩:=checkN_inv hn
   have I:=R.ni _ (List.getElem_mem hi)
   have e1:ns[i].x.u.cells.length=ns[i].n:=by have:=I.cells.len;simpa using this
   have e2:=I.disk.n_eq;have e3:=I.disk.m_eq
   have e4:=(checkK_iff.1 hd.chk).1
   have e5:=hd.good.1.len
   exact ⟨by omega,by omega,by omega⟩
 · have hc:=checks_of hg v hv
   have I:=R.ci v hv
   have e1:v.x.b.jobs.length=v.n:=by have:=I.jobs.len;simpa using this
   have e2:v.x.b.rung.length=v.m:=by have:=I.rung.len;simpa using this
   obtain ⟨_,_,_,_,_,hb⟩:=checkCl_iff.1 hc
   have hj:=hb.nj;have hr:=hb.nr
   exact ⟨by omega,by omega⟩
theorem WF.base {w0 w1 w:World} {nb cN cb cC:Nat} {ns:List NV} {cs:List CV} (h:WF w1 w nb cN cb cC ns cs) (b:Onto w0 w1):WF w0 w nb cN cb cC ns cs :=
 ⟨h.nr,h.cr,h.nl,h.cl,h.ni,h.ci,Nat.le_trans b.size h.hn,Nat.le_trans b.size h.hc,h.nc,h.kN,h.kC,b.to h.on⟩
end
section
open Go.RowKit
attribute [local go_sem ↓] Go.wp_at_zero Go.wp_at_succ
def RunPost (w:World) (q:Wor × List Int × Int) (e:Ending) (w':World):Prop :=
 ∃ A n c C m d ns cs B b y,e=.returned (.tuple #[.agg #[.slice A n c,.int .i64 q.1.tip,.slice C m d,.int .i64 q.1.time],.slice B b y,.int .i64 q.2.2])∧WR w' A n C m ns cs∧nods ns=q.1.n∧clis cs=q.1.c∧S w' 1 B b (q.2.1.map encI)∧b≤y∧y≤maxLen∧Onto w w'∧Fresh w.heap.size B
theorem RunPost.bad {w w':World} {e:Int} {v:Value} (h:v=.tuple #[.agg #[.slice none 0 0,.int .i64 0,.slice none 0 0,.int .i64 0],.slice none 0 0,.int .i64 e]) (on:Onto w w'):RunPost w (zeroW,[],e) (.returned v) w' :=
 ⟨none,0,0,none,0,0,[],[],none,0,0,by rw [h];rfl,⟨Sl.nil,Sl.nil,fun v hv=>absurd hv (by simp),fun v hv=>absurd hv (by simp)⟩,rfl,rfl,Sl.nil,by omega,by simp [maxLen],on,Fresh.none_ _⟩
end
section
open Go.RowKit
attribute [local go_sem ↓] Go.wp_at_zero Go.wp_at_succ
set_option maxHeartbeats 8000000 in
set_option maxRecDepth 100000 in
theorem WRunT_calls (A : Option Addr) (n c : Nat) (tip : Int) (C : Option Addr) (m d : Nat) (time : Int) (ns : List NV) (cs : List CV) (P : Option Addr) (k i : Nat) (l : List Hap) (w : World) (E : Env w) (R : WR w A n C m ns cs) (SL : S w 10 P k (l.map encH)) (hks : ∀ x ∈ l, x.kind = 1 ∨ x.kind = 3 ∨ x.kind = 4 ∨ x.kind = 6) :
    Calls Tryz.prog 25 #[.agg #[.slice A n c,.int .i64 tip,.slice C m d,.int .i64 time],.slice P k i] w (RunPost w (runW (wor ns tip cs time) l)):=by
 have HKS:=Lib.hid hks
 clear hks
 obtain ⟨g,hg⟩:∃ g,g=checkW (wor ns tip cs time):=⟨_,rfl⟩
 obtain ⟨q,hq⟩:∃ q,q=runW (wor ns tip cs time) l:=⟨_,rfl⟩
 have hl:l.length=k:=by have:=SL.len;simpa using this
 rw [← hq]
 unfold runW at hq
 rw [← hg,hl] at hq
 have HG:=Lib.hid hg;have HQ:=Lib.hid hq;have HL:=Lib.hid hl
 clear hg hq hl
 have oP:OffN k w.heap.size P:=SL.offN (Nat.le_refl _)
 have HOP:Hid (∀ b,w.heap.size≤b→OffN k b P):=Lib.hid fun b hb=>SL.offN hb
 go_enter Tryz.func25,Tryz.ntmps25
 go_upto_region 1 with fail
 have on:=((Onto.rfl' w).new (Obj.cells #[.slice A n c,.int .i64 tip,.slice C m d,.int .i64 time] 25)).new (Obj.cells #[.slice none 0 0,.int .i64 0,.slice none 0 0,.int .i64 0] 25)
 have Z:Bx ((w.alloc (Obj.cells #[.slice A n c,.int .i64 tip,.slice C m d,.int .i64 time] 25)).alloc (Obj.cells #[.slice none 0 0,.int .i64 0,.slice none 0 0,.int .i64 0] 25)) w.heap.size [.slice A n c,.int .i64 tip,.slice C m d,.int .i64 time]:=(Bx.made _ _ _).new _
 have Q:Bx ((w.alloc (Obj.cells #[.slice A n c,.int .i64 tip,.slice C m d,.int .i64 time] 25)).alloc (Obj.cells #[.slice none 0 0,.int .i64 0,.slice none 0 0,.int .i64 0] 25)) (w.heap.size+1) [.slice none 0 0,.int .i64 0,.slice none 0 0,.int .i64 0]:=made1 w _ #[.slice none 0 0,.int .i64 0,.slice none 0 0,.int .i64 0] _
 have WZ:WBox ((w.alloc (Obj.cells #[.slice A n c,.int .i64 tip,.slice C m d,.int .i64 time] 25)).alloc (Obj.cells #[.slice none 0 0,.int .i64 0,.slice none 0 0,.int .i64 0] 25)) w.heap.size:=(WBox.made w A C n c m d tip time 25).onto ((Onto.rfl' _).new _)
 have WB:WBox ((w.alloc (Obj.cells #[.slice A n c,.int .i64 tip,.slice C m d,.int .i64 time] 25)).alloc (Obj.cells #[.slice none 0 0,.int .i64 0,.slice none 0 0,.int .i64 0] 25)) (w.heap.size+1):=by
  have:=WBox.made (w.alloc (Obj.cells #[.slice A n c,.int .i64 tip,.slice C m d,.int .i64 time] 25)) none none 0 0 0 0 0 0 25
  simpa using this
 replace R:=R.onto on;replace SL:=SL.onto on
 change Code.wp _ _ _ _ ((w.alloc (Obj.cells #[.slice A n c,.int .i64 tip,.slice C m d,.int .i64 time] 25)).alloc (Obj.cells #[.slice none 0 0,.int .i64 0,.slice none 0 0,.int .i64 0] 25))
 generalize ((w.alloc (Obj.cells #[.slice A n c,.int .i64 tip,.slice C m d,.int .i64 time] 25)).alloc (Obj.cells #[.slice none 0 0,.int .i64 0,.slice none 0 0,.int .i64 0] 25))=w1 at *
 obtain ⟨z,hz⟩:∃ z,z=w.heap.size:=⟨_,rfl⟩
 obtain ⟨zr,hzr⟩:∃ z,z=w.heap.size+1:=⟨_,rfl⟩
 rw [← hz] at Z WZ oP;rw [← hzr] at Q WB
 have h1:w.heap.size≤z:=by omega
 have h2:w.heap.size≤zr:=by omega
 have h3:z≠zr:=by omega
 rw [← hzr,← hz]
 clear hz hzr
 have z0:=Z.at_ 0 rfl;have z1:=Z.at_ 1 rfl;have z2:=Z.at_ 2 rfl;have z3:=Z.at_ 3 rfl
 go_wp2_with fail
 refine Calls.mono (WCheck_calls A n c tip C m d time ns cs _ (E.onto on) R) ?_
 rw [← HG.out]
 rintro e w2 ⟨rfl,b⟩
 replace on:=on.to b;replace R:=R.onto b;replace SL:=SL.onto b;replace Z:=Z.onto b;replace Q:=Q.onto b;replace WB:=WB.onto b;replace WZ:=WZ.onto b
 clear z0 z1 z2 z3 b
 by_cases hg0:g=0
 · subst hg0
   have hgood:=checkW_iff.1 HG.out.symm
   obtain ⟨rfl,rfl,hsm⟩:=small_of R hgood
   have HGD:=Lib.hid hgood
   have hq:=HQ.out
   rw [if_neg (by simp)] at hq
   replace HQ:=Lib.hid hq
   clear hq hgood
   by_cases hk:150<k
   · have hq:=HQ.out
     rw [if_pos hk] at hq
     have HQ2:=Lib.hid hq
     have hk1:(150:Int)<(k:Int):=by omega
     have q0:=Q.at_ 0 rfl;have q1:=Q.at_ 1 rfl;have q2:=Q.at_ 2 rfl;have q3:=Q.at_ 3 rfl
     have f0:=Q.froz 0;have f1:=Q.froz 1;have f2:=Q.froz 2;have f3:=Q.froz 3
     clear hq HQ hk hsm
     go_wp2_with fail
     refine bodyPost_ret (v:=.tuple #[.agg #[.slice none 0 0,.int .i64 0,.slice none 0 0,.int .i64 0],.slice none 0 0,.int .i64 2]) (by simp [results,Tryz.results25,go_sem,q0,q1,q2,q3,f0,f1,f2,f3]) rfl ?_
     rw [HQ2.out]
     exact RunPost.bad rfl ((((on.put h2 _).put h2 _).put h2 _).put h2 _)
   · have hq:=HQ.out
     rw [if_neg hk] at hq
     replace HQ:=Lib.hid hq
     have hk1:¬ (150:Int)<(k:Int):=by omega
     clear hq
     go_upto_region 6 with fail
     have z0:=Z.at_ 0 rfl;have z1:=Z.at_ 1 rfl;have z2:=Z.at_ 2 rfl;have z3:=Z.at_ 3 rfl
     go_wp2_with fail
     refine Calls.mono (WCopy_calls A c tip C d time ns cs _ R hsm) ?_
     rintro e w3 ⟨nb,cN,cb,cC,ns2,cs2,rfl,e1,e2,F,f1,f2⟩
     have hzl2:=Z.lt;have hql2:=Q.lt
     have b:=F.on
     have hnb:=F.hn;have hcb:=F.hc
     have hw2:=on.size
     have F3:=F.base on
     replace on:=on.to b;replace SL:=SL.onto b;replace Z:=Z.onto b;replace Q:=Q.onto b;replace WB:=WB.onto b;replace WZ:=WZ.onto b
     clear R z0 z1 z2 z3 b hsm F
     have z0:=Z.at_ 0 rfl;have z1:=Z.at_ 1 rfl;have z2:=Z.at_ 2 rfl;have z3:=Z.at_ 3 rfl
     have g0:=Z.froz 0;have g1:=Z.froz 1;have g2:=Z.froz 2;have g3:=Z.froz 3
     have t:Turn w3 ((((w3.setCell ⟨z,0,none⟩ (.slice (some ⟨nb,0,none⟩) 3 cN)).setCell ⟨z,1,none⟩ (.int .i64 tip)).setCell ⟨z,2,none⟩ (.slice (some ⟨cb,0,none⟩) 3 cC)).setCell ⟨z,3,none⟩ (.int .i64 time)) z:=((((Turn.rfl' w3 z).put (p:=⟨z,0,none⟩) rfl (.slice (some ⟨nb,0,none⟩) 3 cN)).put (p:=⟨z,1,none⟩) rfl (.int .i64 tip)).put (p:=⟨z,2,none⟩) rfl (.slice (some ⟨cb,0,none⟩) 3 cC)).put (p:=⟨z,3,none⟩) rfl (.int .i64 time)
     have F4:=F3.turn t h1 (by omega) (by omega) (fun v hv=>(f1 v hv).off hzl2) (fun v hv=>(f2 v hv).off hzl2)
     have Z4:Bx ((((w3.setCell ⟨z,0,none⟩ (.slice (some ⟨nb,0,none⟩) 3 cN)).setCell ⟨z,1,none⟩ (.int .i64 tip)).setCell ⟨z,2,none⟩ (.slice (some ⟨cb,0,none⟩) 3 cC)).setCell ⟨z,3,none⟩ (.int .i64 time)) z [.slice (some ⟨nb,0,none⟩) 3 cN,.int .i64 tip,.slice (some ⟨cb,0,none⟩) 3 cC,.int .i64 time]:=(((Z.put1 (j:=0) (by simp) (.slice (some ⟨nb,0,none⟩) 3 cN)).put1 (j:=1) (by simp) (.int .i64 tip)).put1 (j:=2) (by simp) (.slice (some ⟨cb,0,none⟩) 3 cC)).put1 (j:=3) (by simp) (.int .i64 time)
     have Q4:=Q.grown t (by intro e;injection e with e;exact h3 e.symm)
     have WB4:=WB.turn t (Ne.symm h3)
     have WZ4:=WZ.store (some ⟨nb,0,none⟩) (some ⟨cb,0,none⟩) 3 cN 3 cC tip time
     have SL4:=SL.grown t (fun b' e=>by injection e with e;subst e;exact oP)
     have hgd:GoodW (wor ns2 tip cs2 time):=by
      have h:=HGD.out
      rwa [show wor ns tip cs time=wor ns2 tip cs2 time by simp [wor,e1,e2]] at h
     have hW0:wor ns tip cs time=wor ns2 tip cs2 time:=by simp [wor,e1,e2]
     have HGD2:=Lib.hid hgd;have HW0:=Lib.hid hW0
     clear hgd hW0 e1 e2
     go_upto_region 8 with fail
     clear z0 z1 z2 z3 g0 g1 g2 g3 t F3 Z Q WB WZ SL on f1 f2
     have R4:=F4.wr
     have on:=F4.on
     clear F4
     try change Code.wp _ _ _ _ ((((w3.setCell ⟨z,0,none⟩ (.slice (some ⟨nb,0,none⟩) 3 cN)).setCell ⟨z,1,none⟩ (.int .i64 tip)).setCell ⟨z,2,none⟩ (.slice (some ⟨cb,0,none⟩) 3 cC)).setCell ⟨z,3,none⟩ (.int .i64 time))
     generalize ((((w3.setCell ⟨z,0,none⟩ (.slice (some ⟨nb,0,none⟩) 3 cN)).setCell ⟨z,1,none⟩ (.int .i64 tip)).setCell ⟨z,2,none⟩ (.slice (some ⟨cb,0,none⟩) 3 cC)).setCell ⟨z,3,none⟩ (.int .i64 time))=w4 at *
     go_wp2_with fail
     have HK:=Lib.hid hk
     have hq4:zr<w4.heap.size:=Q4.lt
     have hz4:z<w4.heap.size:=Z4.lt
     have hw04:=on.size
     go_loopg [8,27] k (fun g s8 s27 wr=>∃ (j yc:Nat) (B:Option Addr) (ns1:List NV) (cs1:List CV) (tip1 time1:Int) (nb cN cb cC:Nat) (sd:List Int),j≤k∧k - j≤g∧s27=.int .i64 j∧s8=.slice B j yc∧Hid (Own wr w4.heap.size 27 1 (.slice B j yc) j (sd.map encI))∧w4.heap.size≤wr.heap.size∧nb≠z∧nb≠zr∧cb≠z∧cb≠zr∧Bx wr z [.slice (some ⟨nb,0,none⟩) 3 cN,.int .i64 tip1,.slice (some ⟨cb,0,none⟩) 3 cC,.int .i64 time1]∧WBox wr z∧Bx wr zr [.slice none 0 0,.int .i64 0,.slice none 0 0,.int .i64 0]∧WBox wr zr∧WR wr (some ⟨nb,0,none⟩) 3 (some ⟨cb,0,none⟩) 3 ns1 cs1∧Hid (GoodW (wor ns1 tip1 cs1 time1))∧Hid (runGo (wor ns tip cs time) l=((runGo (wor ns1 tip1 cs1 time1) (l.drop j)).1,sd ++(runGo (wor ns1 tip1 cs1 time1) (l.drop j)).2))∧S wr 10 P k (l.map encH)∧Onto w wr∧Hid (∀ b,(Value.slice B j yc).ownBlock=some b→Away b nb cb ns1 cs1))
     case atStart=>exact ⟨0,0,none,ns2,cs2,tip,time,nb,cN,cb,cC,[],Nat.zero_le _,Nat.le_refl _,rfl,rfl,Own.nil _ _ _ _,Nat.le_refl _,by omega,by omega,by omega,by omega,Z4,WZ4,Q4,WB4,R4,HGD2,Lib.hid (by rw [HW0.out];simp),SL4,on,Lib.hid fun b hb=>by cases hb⟩
     case round =>
      clear Z4 WZ4 Q4 WB4 R4 SL4 on HGD2
      obtain ⟨j,yc,B,ns1,cs1,tip1,time1,nb,cN,cb,cC,sd,hj,hg,rfl,rfl,HO,hw4,nz,nzr,cz,czr,Z,WZ,Q,WB,R,HGD2,HRG,SL,on,HB⟩:=hrel
      by_cases hlt:j<k
      · obtain ⟨b0,off0,x,rfl,hb0,hx,hcx⟩:=SL.at_ hlt
        have d0:wr.cell? ⟨b0,off0+j*10,none⟩=some (.int .i64 x.kind):=hcx 0 _ rfl;have d1:=hcx 1 _ rfl;have d2:=hcx 2 _ rfl;have d3:=hcx 3 _ rfl;have d4:=hcx 4 _ rfl;have d5:=hcx 5 _ rfl;have d6:=hcx 6 _ rfl;have d7:=hcx 7 _ rfl;have d8:=hcx 8 _ rfl;have d9:=hcx 9 _ rfl
        have HX:=Lib.hid hx
        obtain ⟨_,_,hsm⟩:=small_of R HGD2.out
        clear hcx hx
        go_upto_region 11 with fail
        refine wp_box1 (v1:=[.int .i64 x.kind,.int .i64 x.client,.int .i64 x.n,.int .i64 x.job,.int .i64 x.epoch,.int .i64 x.e.kind,.int .i64 x.e.job,.int .i64 x.e.every,.int .i64 x.e.time,.int .i64 x.e.client]) rfl fun w5 b X=>?_
        replace Z:=Z.onto b;replace WZ:=WZ.onto b;replace Q:=Q.onto b;replace WB:=WB.onto b;replace R:=R.onto b;replace SL:=SL.onto b
        replace HO:=Lib.hid (HO.out.below b)
        replace on:=on.to b
        replace hw4:=Nat.le_trans hw4 b.size
        clear b d0 d1 d2 d3 d4 d5 d6 d7 d8 d9 hb0
        generalize wr.heap.size=zx at *
        have HB5:Hid (∀ b,(Value.slice B j yc).ownBlock=some b→b<w5.heap.size):=Lib.hid fun b hb=>(HO.out.lt b hb).2
        have hz5l:=Z.lt;have hzr5l:=Q.lt
        have z0:=Z.at_ 0 rfl;have z1:=Z.at_ 1 rfl;have z2:=Z.at_ 2 rfl;have z3:=Z.at_ 3 rfl
        go_wp2_with fail
        refine Calls.mono (WCopy_calls (some ⟨nb,0,none⟩) cN tip1 (some ⟨cb,0,none⟩) cC time1 ns1 cs1 _ R hsm) ?_
        rintro e w6 ⟨nb2,cN2,cb2,cC2,ns3,cs3,rfl,e1,e2,F,f1,f2⟩
        have hx6:=X.onto F.on
        clear z0 z1 z2 z3
        go_upto_region 12 with fail
        have b:=(Onto.rfl' w6).new (Obj.cells #[.slice (some ⟨nb2,0,none⟩) 3 cN2,.int .i64 tip1,.slice (some ⟨cb2,0,none⟩) 3 cC2,.int .i64 time1] 25)
        have ZN:Bx (w6.alloc (Obj.cells #[.slice (some ⟨nb2,0,none⟩) 3 cN2,.int .i64 tip1,.slice (some ⟨cb2,0,none⟩) 3 cC2,.int .i64 time1] 25)) w6.heap.size [.slice (some ⟨nb2,0,none⟩) 3 cN2,.int .i64 tip1,.slice (some ⟨cb2,0,none⟩) 3 cC2,.int .i64 time1]:=Bx.made _ _ _
        have hn6:=Bx.lt F.nr;have hc6:=Bx.lt F.cr
        have HN:WM (w6.alloc (Obj.cells #[.slice (some ⟨nb2,0,none⟩) 3 cN2,.int .i64 tip1,.slice (some ⟨cb2,0,none⟩) 3 cC2,.int .i64 time1] 25)) w5 (w6.alloc (Obj.cells #[.slice (some ⟨nb2,0,none⟩) 3 cN2,.int .i64 tip1,.slice (some ⟨cb2,0,none⟩) 3 cC2,.int .i64 time1] 25)) w6.heap.size nb2 cN2 cb2 cC2 ns3 tip1 cs3 time1 :=
         ⟨ZN,F.onto b,fun v hv=>(F.ni v hv).1.away (Nat.le_refl _),fun v hv=>(F.ci v hv).1.away (Nat.le_refl _),F.on.size,by omega,by omega,Kp.rfl' _ _ _ _,fun v hv b hb=>(f1 v hv).off hb,fun v hv b hb=>(f2 v hv).off hb⟩
        replace hx6:=hx6.onto b
        clear ZN b hn6 hc6 F
        try change Code.wp _ _ _ _ (w6.alloc (Obj.cells #[.slice (some ⟨nb2,0,none⟩) 3 cN2,.int .i64 tip1,.slice (some ⟨cb2,0,none⟩) 3 cC2,.int .i64 time1] 25))
        generalize (w6.alloc (Obj.cells #[.slice (some ⟨nb2,0,none⟩) 3 cN2,.int .i64 tip1,.slice (some ⟨cb2,0,none⟩) 3 cC2,.int .i64 time1] 25))=w7 at *
        generalize w6.heap.size=zn at *
        have hgd3:GoodW (wor ns3 tip1 cs3 time1):=by
         have h:=HGD2.out
         rwa [show wor ns1 tip1 cs1 time1=wor ns3 tip1 cs3 time1 by simp [wor,e1,e2]] at h
        have x0:=hx6.at_ 0 rfl;have x1:=hx6.at_ 1 rfl;have x2:=hx6.at_ 2 rfl;have x3:=hx6.at_ 3 rfl;have x4:=hx6.at_ 4 rfl;have x5:=hx6.at_ 5 rfl;have x6:=hx6.at_ 6 rfl;have x7:=hx6.at_ 7 rfl;have x8:=hx6.at_ 8 rfl;have x9:=hx6.at_ 9 rfl
        go_wp2_with fail
        obtain ⟨r,hr⟩:∃ r,r=happenW (wor ns1 tip1 cs1 time1) x:=⟨_,rfl⟩
        have hr3:happenW (wor ns3 tip1 cs3 time1) ⟨x.kind,x.client,x.n,x.job,x.epoch,x.e⟩=r:=by rw [hr,show wor ns1 tip1 cs1 time1=wor ns3 tip1 cs3 time1 by simp [wor,e1,e2]]
        have HR:=Lib.hid hr
        clear hr
        refine Calls.mono (WHappenT_calls w7 w5 zn nb2 cN2 cb2 cC2 ns3 tip1 cs3 time1 x.kind x.client x.n x.job x.epoch x.e _ (E.onto on) HN hgd3 (HKS.out x (List.mem_of_getElem? HX.out))) ?_
        rw [hr3]
        rintro e w8 ⟨rfl,hon,hok⟩
        have b:=hon.on
        have hn5:=HN.f.hn;have hc5:=HN.f.hc
        replace Z:=Z.onto b;replace WZ:=WZ.onto b;replace Q:=Q.onto b;replace WB:=WB.onto b;replace R:=R.onto b;replace SL:=SL.onto b
        replace HO:=Lib.hid (HO.out.below b)
        replace on:=on.to b
        replace hw4:=Nat.le_trans hw4 b.size
        clear x0 x1 x2 x3 x4 x5 x6 x7 x8 x9 hx6 hon HN b hr3 hgd3 e1 e2 hsm X f1 f2
        by_cases h0:r.2=0
        · obtain ⟨ns4,cs4,HM,e3,e4⟩:=hok h0
          have hw4':wor ns4 r.1.tip cs4 r.1.time=r.1:=by unfold wor;rw [e3,e4]
          have hst:stepW (wor ns1 tip1 cs1 time1) x=r.1:=by unfold stepW;rw [← HR.out,if_pos h0]
          have hgd4:GoodW (wor ns4 r.1.tip cs4 r.1.time):=by
           rw [hw4',HR.out]
           exact HGD2.out.happen (by rw [← HR.out];exact h0)
          have hrg:=HRG.out
          rw [List.drop_eq_getElem_cons (by have:=HL.out;omega),show l[j]'(by have:=HL.out;omega)=x from (List.getElem?_eq_some_iff.1 HX.out).2,runGo,hst,← HR.out,← hw4'] at hrg
          have hrg2:runGo (wor ns tip cs time) l=((runGo (wor ns4 r.1.tip cs4 r.1.time) (l.drop (j+1))).1,(sd ++[0]) ++(runGo (wor ns4 r.1.tip cs4 r.1.time) (l.drop (j+1))).2):=by rw [hrg,h0];simp
          have HRG5:=Lib.hid hrg2
          clear hrg2
          have HGD5:=Lib.hid hgd4
          obtain ⟨tip5,ht5⟩:∃ t,t=r.1.tip:=⟨_,rfl⟩
          obtain ⟨time5,hs5⟩:∃ t,t=r.1.time:=⟨_,rfl⟩
          rw [← ht5,← hs5] at HM
          rw [← ht5,← hs5] at HRG5 HGD5
          have nz5:nb2≠z:=by omega
          have nzr5:nb2≠zr:=by omega
          have cz5:cb2≠z:=by omega
          have czr5:cb2≠zr:=by omega
          have n0:=HM.bx.at_ 0 rfl;have n1:=HM.bx.at_ 1 rfl;have n2:=HM.bx.at_ 2 rfl;have n3:=HM.bx.at_ 3 rfl
          have z0:=Z.at_ 0 rfl;have z1:=Z.at_ 1 rfl;have z2:=Z.at_ 2 rfl;have z3:=Z.at_ 3 rfl
          have g0:=Z.froz 0;have g1:=Z.froz 1;have g2:=Z.froz 2;have g3:=Z.froz 3
          have t:=((((Turn.rfl' w8 z).put (p:=⟨z,0,none⟩) rfl (.slice (some ⟨nb2,0,none⟩) 3 cN2)).put (p:=⟨z,1,none⟩) rfl (.int .i64 tip5)).put (p:=⟨z,2,none⟩) rfl (.slice (some ⟨cb2,0,none⟩) 3 cC2)).put (p:=⟨z,3,none⟩) rfl (.int .i64 time5)
          have R9:=WZ.wr HM.f.wr t nz5 cz5 (fun v hv=>WZ.node (HM.f.wr.ni v hv)) (fun v hv=>WZ.client (HM.f.wr.ci v hv))
          have Z9:Bx ((((w8.setCell ⟨z,0,none⟩ (.slice (some ⟨nb2,0,none⟩) 3 cN2)).setCell ⟨z,1,none⟩ (.int .i64 tip5)).setCell ⟨z,2,none⟩ (.slice (some ⟨cb2,0,none⟩) 3 cC2)).setCell ⟨z,3,none⟩ (.int .i64 time5)) z [.slice (some ⟨nb2,0,none⟩) 3 cN2,.int .i64 tip5,.slice (some ⟨cb2,0,none⟩) 3 cC2,.int .i64 time5]:=(((Z.put1 (j:=0) (by simp) (.slice (some ⟨nb2,0,none⟩) 3 cN2)).put1 (j:=1) (by simp) (.int .i64 tip5)).put1 (j:=2) (by simp) (.slice (some ⟨cb2,0,none⟩) 3 cC2)).put1 (j:=3) (by simp) (.int .i64 time5)
          have WZ9:=WZ.store (some ⟨nb2,0,none⟩) (some ⟨cb2,0,none⟩) 3 cN2 3 cC2 tip5 time5
          have Q9:=Q.grown t (by intro e;injection e with e;exact h3 e.symm)
          have WB9:=WB.turn t (Ne.symm h3)
          have SL9:=SL.grown t (fun b' e=>by injection e with e;subst e;exact oP)
          have HO9:=Lib.hid (HO.out.kept t (.inr (Ne.symm (HO.out.notBelow hz4))))
          have HB9:Hid (∀ b,(Value.slice B j yc).ownBlock=some b→Away b nb2 cb2 ns4 cs4):=Lib.hid fun b hb=>⟨by have:=HB5.out b hb;omega,by have:=HB5.out b hb;omega,fun v hv=>HM.fN v hv b (HB5.out b hb),fun v hv=>HM.fC v hv b (HB5.out b hb)⟩
          have on9:=(((on.put h1 (p:=⟨z,0,none⟩) (.slice (some ⟨nb2,0,none⟩) 3 cN2)).put h1 (p:=⟨z,1,none⟩) (.int .i64 tip5)).put h1 (p:=⟨z,2,none⟩) (.slice (some ⟨cb2,0,none⟩) 3 cC2)).put h1 (p:=⟨z,3,none⟩) (.int .i64 time5)
          have hw9':=Nat.le_trans hw4 t.size
          clear hok e3 e4 hw4' hst hgd4 hrg ht5 hs5 HM
          go_upto_region 15 with fail
          clear n0 n1 n2 n3 z0 z1 z2 z3 g0 g1 g2 g3 t Z WZ Q WB SL HO on R hw4 HGD2 HRG HB
          try change Code.wp _ _ _ _ ((((w8.setCell ⟨z,0,none⟩ (.slice (some ⟨nb2,0,none⟩) 3 cN2)).setCell ⟨z,1,none⟩ (.int .i64 tip5)).setCell ⟨z,2,none⟩ (.slice (some ⟨cb2,0,none⟩) 3 cC2)).setCell ⟨z,3,none⟩ (.int .i64 time5))
          generalize ((((w8.setCell ⟨z,0,none⟩ (.slice (some ⟨nb2,0,none⟩) 3 cN2)).setCell ⟨z,1,none⟩ (.int .i64 tip5)).setCell ⟨z,2,none⟩ (.slice (some ⟨cb2,0,none⟩) 3 cC2)).setCell ⟨z,3,none⟩ (.int .i64 time5))=w9 at *
          have on:=on9;have HO:=HO9;have hw4:=hw9'
          clear on9 HO9 hw9' h0
          obtain ⟨i0,hi0,hzz0,hzz1,hzz2⟩:=info_parts rinfoN
          have HI0:=Lib.hid hi0;have HZ0:=Lib.hid hzz0;have HZ1:=Lib.hid hzz1;have HZ2:=Lib.hid hzz2
          clear hi0 hzz0 hzz1 hzz2
          have hnew:Sl (w9.alloc (Obj.cells #[.int .i64 0] 27)) (w9.heap.size+1) 1 (some ⟨w9.heap.size,0,none⟩) 1 [encI 0]:=by
           have:=Sl.block (w:=w9.alloc (Obj.cells #[.int .i64 0] 27)) (k:=1) [encI 0] (heap_alloc_new w9 _) (by simp [encI]) rfl
           simpa using this
          have HNEW:=Lib.hid hnew
          have hw9:=hw4
          have hjk:j≤150:=by omega
          clear hnew
          go_wp2_with (at_builtin;refine wpList_append_sl _ rfl _ _ 71 rfl w4.heap.size 27 i0 _ 1 8 Tryz.underlying71 HI0.out HZ0.out HZ1.out HZ2.out rfl (by decide) (.slice B j yc) j (sd.map encI) (by rfl) (HO.out.alloc _) (w9.heap.size+1) (some ⟨w9.heap.size,0,none⟩) 1 1 [encI 0] (by rfl) HNEW.out (by simp [encI,Value.oneCell']) (by unfold maxLen;omega) (by omega) (by simp;omega) ?_)
          intro v8 wa own8 grow8 hv8
          obtain ⟨A8,c8,rfl,_,_⟩:=own8.slice
          have hlo:∀ b,b<w4.heap.size→some b≠Value.ownBlock (.slice B j yc):=fun b hb=>HO.out.notBelow hb
          have ona:=(Onto.rfl' w9).new (Obj.cells #[.int .i64 0] 27)
          replace on:Onto w wa:=below_grown (on.to ona) (on.to ona).size grow8 (fun g hg=>by have:=(HO.out.1.lt g hg).1;omega)
          have hwa:=Nat.le_trans hw4 (Nat.le_trans ona.size grow8.size)
          have nlo:∀ b,b<w4.heap.size→(some b:Option Nat)≠Value.ownBlock (.slice B j yc):=hlo
          have Za:=(Z9.onto ona).grown grow8 (hlo z hz4)
          have Qa:=(Q9.onto ona).grown grow8 (hlo zr hq4)
          have WZa:=WBox.gr (WZ9.onto ona) grow8 (hlo z hz4)
          have WBa:=WBox.gr (WB9.onto ona) grow8 (hlo zr hq4)
          have SLa:=(SL9.onto ona).grown grow8 (fun b hb=>HOP.out b (Nat.le_trans hw04 (HO.out.lt b hb).1))
          have Ra:=WR.gr (R9.onto ona) grow8 HB9.out
          have HBa:Hid (∀ b,(Value.slice A8 (j+1) c8).ownBlock=some b→Away b nb2 cb2 ns4 cs4):=Lib.hid fun b hb=>by
           rcases hv8 with h | h
           · exact HB9.out b (h.symm.trans hb)
           · rw [h] at hb;injection hb with hb;subst hb;exact (R9.onto ona).far (by simp)
          have HOa:=Lib.hid own8
          clear own8 grow8 hv8 HO HB9 HNEW HI0 HZ0 HZ1 HZ2 ona hlo nlo Z9 Q9 WZ9 WB9 SL9 R9
          go_wp2_with fail
          go_roundg (k - (j+1))
          case measure=>omega
          case rel=>exact ⟨j+1,c8,A8,ns4,cs4,tip5,time5,nb2,cN2,cb2,cC2,sd ++[0],by omega,Nat.le_refl _,by go_num,rfl,by simpa using HOa,hwa,nz5,nzr5,cz5,czr5,Za,WZa,Qa,WBa,Ra,HGD5,HRG5,SLa,on,HBa⟩
        · have hst:stepW (wor ns1 tip1 cs1 time1) x=wor ns1 tip1 cs1 time1:=by unfold stepW;rw [← HR.out,if_neg h0]
          have hrg:=HRG.out
          rw [List.drop_eq_getElem_cons (by have:=HL.out;omega),show l[j]'(by have:=HL.out;omega)=x from (List.getElem?_eq_some_iff.1 HX.out).2,runGo,hst,← HR.out] at hrg
          have hrg2:runGo (wor ns tip cs time) l=((runGo (wor ns1 tip1 cs1 time1) (l.drop (j+1))).1,(sd ++[r.2]) ++(runGo (wor ns1 tip1 cs1 time1) (l.drop (j+1))).2):=by rw [hrg];simp
          have HRG5:=Lib.hid hrg2
          clear hrg2
          have hd:(r.2 ==0)=false:=by simpa using h0
          clear hok hst hrg HRG
          obtain ⟨i0,hi0,hzz0,hzz1,hzz2⟩:=info_parts rinfoN
          have HI0:=Lib.hid hi0;have HZ0:=Lib.hid hzz0;have HZ1:=Lib.hid hzz1;have HZ2:=Lib.hid hzz2
          clear hi0 hzz0 hzz1 hzz2
          have hnew:Sl (w8.alloc (Obj.cells #[.int .i64 r.2] 27)) (w8.heap.size+1) 1 (some ⟨w8.heap.size,0,none⟩) 1 [encI r.2]:=by
           have:=Sl.block (w:=w8.alloc (Obj.cells #[.int .i64 r.2] 27)) (k:=1) [encI r.2] (heap_alloc_new w8 _) (by simp [encI]) rfl
           simpa using this
          have HNEW:=Lib.hid hnew
          have hw9:=hw4
          have hjk:j≤150:=by omega
          clear hnew
          go_wp2_with (at_builtin;refine wpList_append_sl _ rfl _ _ 71 rfl w4.heap.size 27 i0 _ 1 8 Tryz.underlying71 HI0.out HZ0.out HZ1.out HZ2.out rfl (by decide) (.slice B j yc) j (sd.map encI) (by rfl) (HO.out.alloc _) (w8.heap.size+1) (some ⟨w8.heap.size,0,none⟩) 1 1 [encI r.2] (by rfl) HNEW.out (by simp [encI,Value.oneCell']) (by unfold maxLen;omega) (by omega) (by simp;omega) ?_)
          intro v8 wa own8 grow8 hv8
          obtain ⟨A8,c8,rfl,_,_⟩:=own8.slice
          have hlo:∀ b,b<w4.heap.size→some b≠Value.ownBlock (.slice B j yc):=fun b hb=>HO.out.notBelow hb
          have ona:=(Onto.rfl' w8).new (Obj.cells #[.int .i64 r.2] 27)
          replace on:Onto w wa:=below_grown (on.to ona) (on.to ona).size grow8 (fun g hg=>by have:=(HO.out.1.lt g hg).1;omega)
          have hwa:=Nat.le_trans hw4 (Nat.le_trans ona.size grow8.size)
          have Za:=(Z.onto ona).grown grow8 (hlo z hz4)
          have Qa:=(Q.onto ona).grown grow8 (hlo zr hq4)
          have WZa:=WBox.gr (WZ.onto ona) grow8 (hlo z hz4)
          have WBa:=WBox.gr (WB.onto ona) grow8 (hlo zr hq4)
          have SLa:=(SL.onto ona).grown grow8 (fun b hb=>HOP.out b (Nat.le_trans hw04 (HO.out.lt b hb).1))
          have Ra:=WR.gr (R.onto ona) grow8 HB.out
          have HBa:Hid (∀ b,(Value.slice A8 (j+1) c8).ownBlock=some b→Away b nb cb ns1 cs1):=Lib.hid fun b hb=>by
           rcases hv8 with h | h
           · exact HB.out b (h.symm.trans hb)
           · rw [h] at hb;injection hb with hb;subst hb;exact (R.onto ona).far (by simp)
          have HOa:=Lib.hid own8
          clear own8 grow8 hv8 HO HB HNEW HI0 HZ0 HZ1 HZ2 ona hlo Z Q WZ WB SL R h0
          go_wp2_with fail
          go_roundg (k - (j+1))
          case measure=>omega
          case rel=>exact ⟨j+1,c8,A8,ns1,cs1,tip1,time1,nb,cN,cb,cC,sd ++[r.2],by omega,Nat.le_refl _,by go_num,rfl,by simpa using HOa,hwa,nz,nzr,cz,czr,Za,WZa,Qa,WBa,Ra,HGD2,HRG5,SLa,on,HBa⟩
      · obtain rfl:j=k:=by omega
        have hrg:=HRG.out
        rw [List.drop_eq_nil_of_le (by have:=HL.out;omega)] at hrg
        have HQ2:Hid (q=(wor ns1 tip1 cs1 time1,sd,0)):=Lib.hid (by rw [HQ.out,hrg];simp [runGo])
        have z0:=Z.at_ 0 rfl;have z1:=Z.at_ 1 rfl;have z2:=Z.at_ 2 rfl;have z3:=Z.at_ 3 rfl
        have q0:=Q.at_ 0 rfl;have q1:=Q.at_ 1 rfl;have q2:=Q.at_ 2 rfl;have q3:=Q.at_ 3 rfl
        have f0:=Q.froz 0;have f1:=Q.froz 1;have f2:=Q.froz 2;have f3:=Q.froz 3
        clear hrg HRG HQ
        go_wp2_with fail
        refine bodyPost_ret (v:=.tuple #[.agg #[.slice (some ⟨nb,0,none⟩) 3 cN,.int .i64 tip1,.slice (some ⟨cb,0,none⟩) 3 cC,.int .i64 time1],.slice B j yc,.int .i64 0]) (by simp [results,Tryz.results25,go_sem,q0,q1,q2,q3,f0,f1,f2,f3]) rfl ?_
        have t:=((((Turn.rfl' wr zr).put (p:=⟨zr,0,none⟩) rfl (.slice (some ⟨nb,0,none⟩) 3 cN)).put (p:=⟨zr,1,none⟩) rfl (.int .i64 tip1)).put (p:=⟨zr,2,none⟩) rfl (.slice (some ⟨cb,0,none⟩) 3 cC)).put (p:=⟨zr,3,none⟩) rfl (.int .i64 time1)
        have R9:=WB.wr R t nzr czr (fun v hv=>WB.node (R.ni v hv)) (fun v hv=>WB.client (R.ci v hv))
        have o9:OffN j zr B:=by
         have:=HO.out.fresh (Nat.le_refl _)
         exact this.offN hq4
        have s9:=S.grown HO.out.sl t (fun b' e=>by injection e with e;subst e;exact o9)
        rw [HQ2.out]
        exact ⟨_,3,cN,_,3,cC,ns1,cs1,B,j,yc,rfl,R9,rfl,rfl,s9,HO.out.le_cap,HO.out.cap_max,(((on.put h2 _).put h2 _).put h2 _).put h2 _,fun a e=>Nat.le_trans hw04 (HO.out.fresh (Nat.le_refl _) a e)⟩
 · have hq:=HQ.out
   rw [if_pos hg0] at hq
   have HQ2:=Lib.hid hq
   have hd:(g !=0)=true:=by simpa using hg0
   have q0:=Q.at_ 0 rfl;have q1:=Q.at_ 1 rfl;have q2:=Q.at_ 2 rfl;have q3:=Q.at_ 3 rfl
   have f0:=Q.froz 0;have f1:=Q.froz 1;have f2:=Q.froz 2;have f3:=Q.froz 3
   clear hq HQ hg0
   go_wp2_with fail
   refine bodyPost_ret (v:=.tuple #[.agg #[.slice none 0 0,.int .i64 0,.slice none 0 0,.int .i64 0],.slice none 0 0,.int .i64 g]) (by simp [results,Tryz.results25,go_sem,q0,q1,q2,q3,f0,f1,f2,f3]) rfl ?_
   rw [HQ2.out]
   exact RunPost.bad rfl ((((on.put h2 _).put h2 _).put h2 _).put h2 _)
end
end Go.Proofs.YtidlffepdcldkaaGreatDoor
