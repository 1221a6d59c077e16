/- Part 28 of the proof: WOfCW, WOfCR, WOfCP, WOfCF, WOfCY, WOfCN, WHappen, THappen. -/
import Derived.Test.YtidlffepdcldkaaGreatDoorBa26
import Derived.Test.YtidlffepdcldkaaGreatDoorBa22
import Derived.Test.YtidlffepdcldkaaGreatDoorBa18
import Derived.Test.YtidlffepdcldkaaGreatDoorBa17
import Derived.Test.YtidlffepdcldkaaGreatDoorBa27
namespace Go.Proofs.YtidlffepdcldkaaGreatDoor
set_option linter.unusedSimpArgs false
set_option linter.unusedVariables false
section
open Go.RowKit
attribute [local go_sem ↓] Go.wp_at_zero Go.wp_at_succ
attribute [local go_sem ↓] stCl_eq stEnt_eq
attribute [local go_sem] run_stCl there_clW run_stEnt
set_option maxHeartbeats 16000000 in
set_option maxRecDepth 100000 in
theorem WOfClientW_calls (K w0 : World) (z nb cN cb cC : Nat) (ns : List NV) (tip : Int) (cs : List CV) (time : Int) (kd nn jb ep : Int) (m : Nat) (y : Entry) (w : World) (E0 : Env w0) (H : WM K w0 w z nb cN cb cC ns tip cs time) (hok : ∀ v ∈ cs, checkCl v.x = 0) (hm : m < 3) (hk : kd = 1) :
    Calls Tryz.prog 79 #[.pointer (some ⟨z,0,none⟩),.agg #[.int .i64 kd,.int .i64 ↑m,.int .i64 nn,.int .i64 jb,.int .i64 ep,.int .i64 y.kind,.int .i64 y.job,.int .i64 y.every,.int .i64 y.time,.int .i64 y.client]] w (HPost K w0 z nb cN cb cC (ofClientW (wor ns tip cs time) ⟨kd,m,nn,jb,ep,y⟩)):=by
 obtain ⟨c,hcv,J,on2,oc2,_⟩:=H.f.atC hm
 have oz2:=H.cz c (List.mem_of_getElem? hcv)
 have hcc:=hok c (List.mem_of_getElem? hcv)
 have hzl0:=H.lts
 obtain ⟨q,hq⟩:∃ q,q=ofClientW (wor ns tip cs time) ⟨kd,m,nn,jb,ep,y⟩:=⟨_,rfl⟩
 rw [← hq]
 have htm:((m:Nat):Int).toNat=m:=by omega
 unfold ofClientW at hq
 dsimp only at hq
 rw [if_neg (by omega)] at hq
 simp only [htm,show (wor ns tip cs time).c=clis cs from rfl,cliAt_cs hcv] at hq
 have HQ:=Lib.hid hq;have HCV:=Lib.hid hcv;have HK:=Lib.hid hk;have HOK:=Lib.hid hok;have HCC:=Lib.hid hcc
 have hm3:(m:Int)<3:=by omega
 clear hq hcv hk htm hcc hok
 go_enter Tryz.func79,Tryz.ntmps79
 go_upto_region 1 with fail
 refine wp_box1 (v1:=[.int .i64 kd,.int .i64 ↑m,.int .i64 nn,.int .i64 jb,.int .i64 ep,.int .i64 y.kind,.int .i64 y.job,.int .i64 y.every,.int .i64 y.time,.int .i64 y.client]) rfl fun w1 b X=>?_
 replace H:=H.onto b;replace J:=J.onto b
 generalize hzx:w.heap.size=zx at X hzl0
 clear hzx b
 have x1:=X.at_ 1 rfl
 have z2:=H.bx.at_ 2 rfl
 go_quiet (fail)
 go_upto_region 3 with fail
 generalize hd:World.drewN w1 _=w2
 have od:Onto w1 w2:=by rw [← hd];exact (Onto.rfl' w1).draws _
 clear hd x1 z2
 replace H:=H.onto od;replace X:=X.onto od;replace J:=J.onto od
 clear od
 have x1:=X.at_ 1 rfl
 have z2:=H.bx.at_ 2 rfl
 obtain ⟨c0,c1,c2,c3,c4,c5,c6,c7,c8,c9,c10,c11⟩:=CV.cells_at H.f.cr (encC_len cs) (row_cs HCV.out)
 have hz2:=H.lts;have hxl:=X.lt
 go_cut [5] (fun s5 wx=>∃ (p:Nat),s5=.pointer (some ⟨p,0,none⟩)∧Bx wx p [.int .i64 c.x.epoch,.int .i64 c.x.doing,.int .i64 c.x.e.kind,.int .i64 c.x.e.job,.int .i64 c.x.e.every,.int .i64 c.x.e.time,.int .i64 c.x.e.client,.int .i64 c.x.at_,.int .i64 c.x.link,.int .i64 c.x.played,.slice c.A c.n c.c,.slice c.G c.m c.d]∧Onto w2 wx∧w2.heap.size≤p)
 case first =>
  go_region
  all_goals
   go_wp2_with fail
   go_meet
   exact ⟨_,rfl,Bx.put (us:=[.int .i64 c.x.epoch,.int .i64 c.x.doing,.int .i64 c.x.e.kind,.int .i64 c.x.e.job,.int .i64 c.x.e.every,.int .i64 c.x.e.time,.int .i64 c.x.e.client,.int .i64 c.x.at_,.int .i64 c.x.link,.int .i64 c.x.played,.slice c.A c.n c.c,.slice c.G c.m c.d]) (vs:=[.int .i64 0,.int .i64 0,.int .i64 0,.int .i64 0,.int .i64 0,.int .i64 0,.int .i64 0,.int .i64 0,.int .i64 0,.int .i64 0,.slice none 0 0,.slice none 0 0]) ((Bx.made _ _ _).draw) rfl,Onto.puts (Nat.le_refl _) (((Onto.rfl' w2).new _).draw),Nat.le_refl _⟩
 case rest =>
  obtain ⟨pc,rfl,PC,b,hpc⟩:=hcut
  clear x1 z2 c0 c1 c2 c3 c4 c5 c6 c7 c8 c9 c10 c11
  have NOFF:∀ v∈ns,v.off pc:=fun v hv=>(H.f.ni v hv).1.away hpc
  have COFF:∀ v∈cs,v.off pc:=fun v hv=>(H.f.ci v hv).1.away hpc
  have hw0p:w0.heap.size≤pc:=Nat.le_trans H.onAll.size hpc
  have hkp:K.heap.size≤pc:=Nat.le_trans H.kp.size hpc
  replace H:=H.onto b;replace X:=X.onto b;replace J:=J.onto b
  clear b
  generalize wc=w3 at *
  have hpx:pc≠zx:=by omega
  have x0:=X.at_ 0 rfl
  have hk:=HK.out
  subst hk
  have hq:=HQ.out
  rw [if_neg (by decide),if_pos rfl] at hq
  replace HQ:=Lib.hid hq
  clear hq HK
  have x5:=X.at_ 5 rfl;have x6:=X.at_ 6 rfl;have x7:=X.at_ 7 rfl;have x8:=X.at_ 8 rfl;have x9:=X.at_ 9 rfl
  by_cases hy:y.kind=3
  · have hq:=HQ.out
    rw [if_pos hy] at hq
    have HQ2:=Lib.hid hq
    rw [hy] at x5
    clear hq HQ hy
    go_wp2_with fail
    go_ret
    exact HPost.bad' (by rw [HQ2.out]) (by rw [HQ2.out];simp) H.aw
  · have hq:=HQ.out
    rw [if_neg hy] at hq
    replace HQ:=Lib.hid hq
    have hyd:(y.kind ==3)=false:=by simpa using hy
    clear hq
    obtain ⟨r,hr⟩:∃ r,r=wantCl c.x y:=⟨_,rfl⟩
    have hq:=HQ.out
    unfold putCl at hq
    rw [← hr] at hq
    replace HQ:=Lib.hid hq
    have HR:=Lib.hid hr
    clear hq hr
    go_upto_region 13 with fail
    have hzbw:=H.onAll.size;have hzb:=H.lts
    have v0:=PC.at_ 0 rfl;have v1:=PC.at_ 1 rfl;have v2:=PC.at_ 2 rfl;have v3:=PC.at_ 3 rfl;have v4:=PC.at_ 4 rfl;have v5:=PC.at_ 5 rfl;have v6:=PC.at_ 6 rfl;have v7:=PC.at_ 7 rfl;have v8:=PC.at_ 8 rfl;have v9:=PC.at_ 9 rfl;have v10:=PC.at_ 10 rfl;have v11:=PC.at_ 11 rfl
    have hst0:=PC.there (n:=12) (by simp)
    go_wp2_with fail
    refine Calls.mono (ClWant_calls c.x.epoch c.x.doing c.x.at_ c.x.link c.x.played c.x.e y c.A c.G c.n c.c c.m c.d c.x.b _ J.jobs J.rung) ?_
    rw [show wantCl ⟨c.x.epoch,c.x.doing,c.x.e,c.x.at_,c.x.link,c.x.played,c.x.b⟩ y=r from HR.out.symm]
    unfold ClPost
    rintro e w4 ⟨A1,n1,k1,A2,n2,k2,rfl,s1,s2,b,hk1,hk2,f1,f2⟩
    replace H:=H.onto b;replace X:=X.onto b;replace PC:=PC.onto b
    have hpl:pc<w3.heap.size:=by have:=World.block_lt_of_cell? _ _ v0;exact this
    have o1:OffN n1 pc A1:=f1.offN hpl
    have o2:OffN n2 pc A2:=f2.offN hpl
    clear b hst0 v0 v1 v2 v3 v4 v5 v6 v7 v8 v9 v10 v11
    have hst:=PC.there (n:=12) (by simp)
    go_upto_region 35 with fail
    have t:Turn w4 (w4.setCells pc 0 [.int .i64 r.1.epoch,.int .i64 r.1.doing,.int .i64 r.1.e.kind,.int .i64 r.1.e.job,.int .i64 r.1.e.every,.int .i64 r.1.e.time,.int .i64 r.1.e.client,.int .i64 r.1.at_,.int .i64 r.1.link,.int .i64 r.1.played,.slice A1 n1 k1,.slice A2 n2 k2]) pc:=(Turn.rfl' _ pc).puts
    have PC5:Bx (w4.setCells pc 0 [.int .i64 r.1.epoch,.int .i64 r.1.doing,.int .i64 r.1.e.kind,.int .i64 r.1.e.job,.int .i64 r.1.e.every,.int .i64 r.1.e.time,.int .i64 r.1.e.client,.int .i64 r.1.at_,.int .i64 r.1.link,.int .i64 r.1.played,.slice A1 n1 k1,.slice A2 n2 k2]) pc [.int .i64 r.1.epoch,.int .i64 r.1.doing,.int .i64 r.1.e.kind,.int .i64 r.1.e.job,.int .i64 r.1.e.every,.int .i64 r.1.e.time,.int .i64 r.1.e.client,.int .i64 r.1.at_,.int .i64 r.1.link,.int .i64 r.1.played,.slice A1 n1 k1,.slice A2 n2 k2]:=PC.put rfl
    have X5:=X.off (b:=pc) (o:=0) (us:=[.int .i64 r.1.epoch,.int .i64 r.1.doing,.int .i64 r.1.e.kind,.int .i64 r.1.e.job,.int .i64 r.1.e.every,.int .i64 r.1.e.time,.int .i64 r.1.e.client,.int .i64 r.1.at_,.int .i64 r.1.link,.int .i64 r.1.played,.slice A1 n1 k1,.slice A2 n2 k2]) (Ne.symm hpx)
    have H5:WM K w0 (w4.setCells pc 0 [.int .i64 r.1.epoch,.int .i64 r.1.doing,.int .i64 r.1.e.kind,.int .i64 r.1.e.job,.int .i64 r.1.e.every,.int .i64 r.1.e.time,.int .i64 r.1.e.client,.int .i64 r.1.at_,.int .i64 r.1.link,.int .i64 r.1.played,.slice A1 n1 k1,.slice A2 n2 k2]) z nb cN cb cC ns tip cs time:=⟨H.bx.off (by omega),H.f.turn t hw0p (by omega) (by omega) NOFF COFF,H.nz,H.cz,H.hz,H.zn,H.zc,H.kp.far t hkp,H.fN,H.fC⟩
    have s15:=put_S (w:=w4) o1 (vs:=[.int .i64 r.1.epoch,.int .i64 r.1.doing,.int .i64 r.1.e.kind,.int .i64 r.1.e.job,.int .i64 r.1.e.every,.int .i64 r.1.e.time,.int .i64 r.1.e.client,.int .i64 r.1.at_,.int .i64 r.1.link,.int .i64 r.1.played,.slice A1 n1 k1,.slice A2 n2 k2]) (o:=0) s1
    have s25:=put_S (w:=w4) o2 (vs:=[.int .i64 r.1.epoch,.int .i64 r.1.doing,.int .i64 r.1.e.kind,.int .i64 r.1.e.job,.int .i64 r.1.e.every,.int .i64 r.1.e.time,.int .i64 r.1.e.client,.int .i64 r.1.at_,.int .i64 r.1.link,.int .i64 r.1.played,.slice A1 n1 k1,.slice A2 n2 k2]) (o:=0) s2
    clear H X PC s1 s2 hst t o1 o2
    try change Code.wp _ _ _ _ (w4.setCells pc 0 [.int .i64 r.1.epoch,.int .i64 r.1.doing,.int .i64 r.1.e.kind,.int .i64 r.1.e.job,.int .i64 r.1.e.every,.int .i64 r.1.e.time,.int .i64 r.1.e.client,.int .i64 r.1.at_,.int .i64 r.1.link,.int .i64 r.1.played,.slice A1 n1 k1,.slice A2 n2 k2])
    generalize (w4.setCells pc 0 [.int .i64 r.1.epoch,.int .i64 r.1.doing,.int .i64 r.1.e.kind,.int .i64 r.1.e.job,.int .i64 r.1.e.every,.int .i64 r.1.e.time,.int .i64 r.1.e.client,.int .i64 r.1.at_,.int .i64 r.1.link,.int .i64 r.1.played,.slice A1 n1 k1,.slice A2 n2 k2])=w5 at *
    have H:=H5;have X:=X5;have PC:=PC5;have s1:=s15;have s2:=s25
    clear H5 X5 PC5 s15 s25
    have hcn:cb≠pc:=by omega
    by_cases h1:r.2=0
    · have hq:=HQ.out
      rw [if_neg (by simp [h1])] at hq
      have HQ2:=Lib.hid hq
      rw [h1]
      clear hq HQ h1
      go_upto_region 36 with fail
      have x1:=X.at_ 1 rfl;have z2:=H.bx.at_ 2 rfl
      have v0:=PC.at_ 0 rfl;have v1:=PC.at_ 1 rfl;have v2:=PC.at_ 2 rfl;have v3:=PC.at_ 3 rfl;have v4:=PC.at_ 4 rfl;have v5:=PC.at_ 5 rfl;have v6:=PC.at_ 6 rfl;have v7:=PC.at_ 7 rfl;have v8:=PC.at_ 8 rfl;have v9:=PC.at_ 9 rfl;have v10:=PC.at_ 10 rfl;have v11:=PC.at_ 11 rfl
      have hzlw:=H.onAll.size;have hzl:=H.lts;have hvl:=PC.lt
      have hlen:m*12+12≤(cs.map encC).flatten.length:=by rw [flatten_length (encC_len cs),List.length_map,H.f.cl];omega
      have hth:w5.there cb (m*12) 12:=Bx.thereM H.f.cr hlen
      go_region
      go_wp2_with fail
      refine bodyPost_ret (v:=.int .i64 0) (by simp [results,Tryz.results79,go_sem]) rfl ?_
      have hq:=HQ2.out
      have H1:=H.onto ((Onto.rfl' w5).draw)
      have H2:=H1.storeC HCV.out (v:=⟨r.1,A1,n1,k1,A2,n2,k2⟩) ⟨s1.draw,s2.draw,hk1,hk2⟩ ⟨f1.offN hzb.2.1,f2.offN hzb.2.1⟩ ⟨f1.offN hzb.2.2,f2.offN hzb.2.2⟩ ⟨f1.offN hzb.1,f2.offN hzb.1⟩ (fun b hb=>⟨f1.offN (Nat.lt_of_lt_of_le hb hzbw),f2.offN (Nat.lt_of_lt_of_le hb hzbw)⟩) (us:=[.int .i64 r.1.epoch,.int .i64 r.1.doing,.int .i64 r.1.e.kind,.int .i64 r.1.e.job,.int .i64 r.1.e.every,.int .i64 r.1.e.time,.int .i64 r.1.e.client,.int .i64 r.1.at_,.int .i64 r.1.link,.int .i64 r.1.played,.slice A1 n1 k1,.slice A2 n2 k2]) rfl
      have hq3:q=(wor ns tip (cs.set m ⟨r.1,A1,n1,k1,A2,n2,k2⟩) time,0):=hq.trans (by rw [← wor_setC])
      exact HPost.ok H2 hq3
    · have hq:=HQ.out
      rw [if_pos h1] at hq
      have HQ2:=Lib.hid hq
      have hd:(r.2 !=0)=true:=by simpa using h1
      have hd2:(r.2 ==0)=false:=by simpa using h1
      have h2':q.2≠0:=by rw [hq];exact h1
      clear hq HQ h1
      go_wp2_with fail
      go_ret
      exact HPost.bad' (by rw [HQ2.out]) h2' H.aw
end
section
open Go.RowKit
attribute [local go_sem ↓] Go.wp_at_zero Go.wp_at_succ
attribute [local go_sem ↓] stCl_eq stEnt_eq
attribute [local go_sem] run_stCl there_clW run_stEnt
end
section
open Go.RowKit
attribute [local go_sem ↓] Go.wp_at_zero Go.wp_at_succ
attribute [local go_sem ↓] stCl_eq stEnt_eq
attribute [local go_sem] run_stCl there_clW run_stEnt
set_option maxHeartbeats 16000000 in
set_option maxRecDepth 100000 in
theorem WOfClientP_calls (K w0 : World) (z nb cN cb cC : Nat) (ns : List NV) (tip : Int) (cs : List CV) (time : Int) (kd nn jb ep : Int) (m : Nat) (y : Entry) (w : World) (E0 : Env w0) (H : WM K w0 w z nb cN cb cC ns tip cs time) (hok : ∀ v ∈ cs, checkCl v.x = 0) (hm : m < 3) (ht0 : 0 ≤ tip) (ht1 : tip ≤ 60) (hk : kd = 3) :
    Calls Tryz.prog 79 #[.pointer (some ⟨z,0,none⟩),.agg #[.int .i64 kd,.int .i64 ↑m,.int .i64 nn,.int .i64 jb,.int .i64 ep,.int .i64 y.kind,.int .i64 y.job,.int .i64 y.every,.int .i64 y.time,.int .i64 y.client]] w (HPost K w0 z nb cN cb cC (ofClientW (wor ns tip cs time) ⟨kd,m,nn,jb,ep,y⟩)):=by
 obtain ⟨c,hcv,J,on2,oc2,_⟩:=H.f.atC hm
 have oz2:=H.cz c (List.mem_of_getElem? hcv)
 have hcc:=hok c (List.mem_of_getElem? hcv)
 have hzl0:=H.lts
 obtain ⟨q,hq⟩:∃ q,q=ofClientW (wor ns tip cs time) ⟨kd,m,nn,jb,ep,y⟩:=⟨_,rfl⟩
 rw [← hq]
 have htm:((m:Nat):Int).toNat=m:=by omega
 unfold ofClientW at hq
 dsimp only at hq
 rw [if_neg (by omega)] at hq
 simp only [htm,show (wor ns tip cs time).c=clis cs from rfl,cliAt_cs hcv] at hq
 have HQ:=Lib.hid hq;have HCV:=Lib.hid hcv;have HK:=Lib.hid hk;have HOK:=Lib.hid hok;have HCC:=Lib.hid hcc
 have hm3:(m:Int)<3:=by omega
 clear hq hcv hk htm hcc hok
 go_enter Tryz.func79,Tryz.ntmps79
 go_upto_region 1 with fail
 refine wp_box1 (v1:=[.int .i64 kd,.int .i64 ↑m,.int .i64 nn,.int .i64 jb,.int .i64 ep,.int .i64 y.kind,.int .i64 y.job,.int .i64 y.every,.int .i64 y.time,.int .i64 y.client]) rfl fun w1 b X=>?_
 replace H:=H.onto b;replace J:=J.onto b
 generalize hzx:w.heap.size=zx at X hzl0
 clear hzx b
 have x1:=X.at_ 1 rfl
 have z2:=H.bx.at_ 2 rfl
 go_quiet (fail)
 go_upto_region 3 with fail
 generalize hd:World.drewN w1 _=w2
 have od:Onto w1 w2:=by rw [← hd];exact (Onto.rfl' w1).draws _
 clear hd x1 z2
 replace H:=H.onto od;replace X:=X.onto od;replace J:=J.onto od
 clear od
 have x1:=X.at_ 1 rfl
 have z2:=H.bx.at_ 2 rfl
 obtain ⟨c0,c1,c2,c3,c4,c5,c6,c7,c8,c9,c10,c11⟩:=CV.cells_at H.f.cr (encC_len cs) (row_cs HCV.out)
 have hz2:=H.lts;have hxl:=X.lt
 go_cut [5] (fun s5 wx=>∃ (p:Nat),s5=.pointer (some ⟨p,0,none⟩)∧Bx wx p [.int .i64 c.x.epoch,.int .i64 c.x.doing,.int .i64 c.x.e.kind,.int .i64 c.x.e.job,.int .i64 c.x.e.every,.int .i64 c.x.e.time,.int .i64 c.x.e.client,.int .i64 c.x.at_,.int .i64 c.x.link,.int .i64 c.x.played,.slice c.A c.n c.c,.slice c.G c.m c.d]∧Onto w2 wx∧w2.heap.size≤p)
 case first =>
  go_region
  all_goals
   go_wp2_with fail
   go_meet
   exact ⟨_,rfl,Bx.put (us:=[.int .i64 c.x.epoch,.int .i64 c.x.doing,.int .i64 c.x.e.kind,.int .i64 c.x.e.job,.int .i64 c.x.e.every,.int .i64 c.x.e.time,.int .i64 c.x.e.client,.int .i64 c.x.at_,.int .i64 c.x.link,.int .i64 c.x.played,.slice c.A c.n c.c,.slice c.G c.m c.d]) (vs:=[.int .i64 0,.int .i64 0,.int .i64 0,.int .i64 0,.int .i64 0,.int .i64 0,.int .i64 0,.int .i64 0,.int .i64 0,.int .i64 0,.slice none 0 0,.slice none 0 0]) ((Bx.made _ _ _).draw) rfl,Onto.puts (Nat.le_refl _) (((Onto.rfl' w2).new _).draw),Nat.le_refl _⟩
 case rest =>
  obtain ⟨pc,rfl,PC,b,hpc⟩:=hcut
  clear x1 z2 c0 c1 c2 c3 c4 c5 c6 c7 c8 c9 c10 c11
  have NOFF:∀ v∈ns,v.off pc:=fun v hv=>(H.f.ni v hv).1.away hpc
  have COFF:∀ v∈cs,v.off pc:=fun v hv=>(H.f.ci v hv).1.away hpc
  have hw0p:w0.heap.size≤pc:=Nat.le_trans H.onAll.size hpc
  have hkp:K.heap.size≤pc:=Nat.le_trans H.kp.size hpc
  replace H:=H.onto b;replace X:=X.onto b;replace J:=J.onto b
  clear b
  generalize wc=w3 at *
  have hpx:pc≠zx:=by omega
  have x0:=X.at_ 0 rfl
  have hk:=HK.out
  subst hk
  have hq:=HQ.out
  rw [if_neg (by decide),if_neg (by decide),if_neg (by decide),if_pos rfl] at hq
  replace HQ:=Lib.hid hq
  clear hq HK
  have htm:((m:Nat):Int).toNat=m:=by omega
  have z1:=H.bx.at_ 1 rfl
  by_cases ht:tip=60
  · have hq:=HQ.out
    rw [if_pos ht] at hq
    have HQ2:=Lib.hid hq
    rw [ht] at z1
    clear hq HQ ht
    go_wp2_with fail
    go_ret
    exact HPost.bad' (by rw [HQ2.out]) (by rw [HQ2.out];simp) H.aw
  · have hq:=HQ.out
    rw [if_neg ht] at hq
    replace HQ:=Lib.hid hq
    have htd:(tip ==60)=false:=by simpa using ht
    clear hq
    obtain ⟨r,hr⟩:∃ r,r=placeCl c.x tip:=⟨_,rfl⟩
    have hq:=HQ.out
    rw [← hr] at hq
    replace HQ:=Lib.hid hq
    have HR:=Lib.hid hr
    clear hq hr
    go_upto_region 19 with fail
    clear x0
    have hzbw:=H.onAll.size;have hzb:=H.lts
    have v0:=PC.at_ 0 rfl;have v1:=PC.at_ 1 rfl;have v2:=PC.at_ 2 rfl;have v3:=PC.at_ 3 rfl;have v4:=PC.at_ 4 rfl;have v5:=PC.at_ 5 rfl;have v6:=PC.at_ 6 rfl;have v7:=PC.at_ 7 rfl;have v8:=PC.at_ 8 rfl;have v9:=PC.at_ 9 rfl;have v10:=PC.at_ 10 rfl;have v11:=PC.at_ 11 rfl
    have hpl:pc<w3.heap.size:=PC.lt
    go_region_law (first
     | (go_simp;go_at_call 100;refine Calls.mono (ClPlace_calls c.x.epoch c.x.doing c.x.at_ c.x.link c.x.played c.x.e c.A c.G c.n c.c c.m c.d c.x.b tip _ (J.jobs.onto (by with_reducible (first | exact Onto.rfl' _ | exact (Onto.rfl' _).draw))) (J.rung.onto (by with_reducible (first | exact Onto.rfl' _ | exact (Onto.rfl' _).draw)))) ?_;rw [show placeCl ⟨c.x.epoch,c.x.doing,c.x.e,c.x.at_,c.x.link,c.x.played,c.x.b⟩ tip=r from HR.out.symm];unfold ClPost;rintro e w4 ⟨A1,n1,k1,A2,n2,k2,rfl,s1,s2,ob,hk1,hk2,f1,f2⟩;have b:Onto w3 w4:=Onto.to (by with_reducible (first | exact Onto.rfl' _ | exact (Onto.rfl' _).draw)) ob;have tb:Turn w3 w4 pc:=Turn.of b pc;have PC4:=PC.onto b;have hst:=PC4.there (n:=12) (by simp);have o1:OffN n1 pc A1:=f1.offN (by first | exact hpl | (simp;omega));have o2:OffN n2 pc A2:=f2.offN (by first | exact hpl | (simp;omega));have P5:Bx (w4.setCells pc 0 [.int .i64 r.1.epoch,.int .i64 r.1.doing,.int .i64 r.1.e.kind,.int .i64 r.1.e.job,.int .i64 r.1.e.every,.int .i64 r.1.e.time,.int .i64 r.1.e.client,.int .i64 r.1.at_,.int .i64 r.1.link,.int .i64 r.1.played,.slice A1 n1 k1,.slice A2 n2 k2]) pc [.int .i64 r.1.epoch,.int .i64 r.1.doing,.int .i64 r.1.e.kind,.int .i64 r.1.e.job,.int .i64 r.1.e.every,.int .i64 r.1.e.time,.int .i64 r.1.e.client,.int .i64 r.1.at_,.int .i64 r.1.link,.int .i64 r.1.played,.slice A1 n1 k1,.slice A2 n2 k2]:=PC4.put rfl;have s15:=put_S (w:=w4) o1 (vs:=[.int .i64 r.1.epoch,.int .i64 r.1.doing,.int .i64 r.1.e.kind,.int .i64 r.1.e.job,.int .i64 r.1.e.every,.int .i64 r.1.e.time,.int .i64 r.1.e.client,.int .i64 r.1.at_,.int .i64 r.1.link,.int .i64 r.1.played,.slice A1 n1 k1,.slice A2 n2 k2]) (o:=0) s1;have s25:=put_S (w:=w4) o2 (vs:=[.int .i64 r.1.epoch,.int .i64 r.1.doing,.int .i64 r.1.e.kind,.int .i64 r.1.e.job,.int .i64 r.1.e.every,.int .i64 r.1.e.time,.int .i64 r.1.e.client,.int .i64 r.1.at_,.int .i64 r.1.link,.int .i64 r.1.played,.slice A1 n1 k1,.slice A2 n2 k2]) (o:=0) s2;have t:Turn w3 (w4.setCells pc 0 [.int .i64 r.1.epoch,.int .i64 r.1.doing,.int .i64 r.1.e.kind,.int .i64 r.1.e.job,.int .i64 r.1.e.every,.int .i64 r.1.e.time,.int .i64 r.1.e.client,.int .i64 r.1.at_,.int .i64 r.1.link,.int .i64 r.1.played,.slice A1 n1 k1,.slice A2 n2 k2]) pc:=Turn.puts tb))
    all_goals
     clear s1 s2
     have PC5:=P5;have s1:=s15;have s2:=s25
     replace f1:Fresh w3.heap.size A1:=f1
     replace f2:Fresh w3.heap.size A2:=f2
     clear z1 v0 v1 v2 v3 v4 v5 v6 v7 v8 v9 v10 v11 P5 s15 s25 tb b PC4 hst o1 o2
     have H5:WM K w0 (w4.setCells pc 0 [.int .i64 r.1.epoch,.int .i64 r.1.doing,.int .i64 r.1.e.kind,.int .i64 r.1.e.job,.int .i64 r.1.e.every,.int .i64 r.1.e.time,.int .i64 r.1.e.client,.int .i64 r.1.at_,.int .i64 r.1.link,.int .i64 r.1.played,.slice A1 n1 k1,.slice A2 n2 k2]) z nb cN cb cC ns tip cs time:=⟨H.bx.grown t (by intro e;injection e with e;omega),H.f.turn t hw0p (by omega) (by omega) NOFF COFF,H.nz,H.cz,H.hz,H.zn,H.zc,H.kp.far t hkp,H.fN,H.fC⟩
     have X5:=X.grown t (by intro e;injection e with e;omega)
     clear H X PC t
     try change Code.wp _ _ _ _ (w4.setCells pc 0 [.int .i64 r.1.epoch,.int .i64 r.1.doing,.int .i64 r.1.e.kind,.int .i64 r.1.e.job,.int .i64 r.1.e.every,.int .i64 r.1.e.time,.int .i64 r.1.e.client,.int .i64 r.1.at_,.int .i64 r.1.link,.int .i64 r.1.played,.slice A1 n1 k1,.slice A2 n2 k2])
     generalize (w4.setCells pc 0 [.int .i64 r.1.epoch,.int .i64 r.1.doing,.int .i64 r.1.e.kind,.int .i64 r.1.e.job,.int .i64 r.1.e.every,.int .i64 r.1.e.time,.int .i64 r.1.e.client,.int .i64 r.1.at_,.int .i64 r.1.link,.int .i64 r.1.played,.slice A1 n1 k1,.slice A2 n2 k2])=w5 at *
     have H:=H5;have X:=X5;have PC:=PC5
     clear H5 X5 PC5
     go_upto_region 20 with fail
     have hcn:cb≠pc:=by omega
     by_cases h1:r.2=0
     · have hq:=HQ.out
       rw [if_neg (by simp [h1])] at hq
       have HQ2:=Lib.hid hq
       rw [h1]
       clear hq HQ h1
       go_upto_region 21 with fail
       have z1:=H.bx.at_ 1 rfl
       have fz1:=H.bx.froz 1
       have hwt:IntKind.i64.wrap (tip+1)=tip+1:=IntWalk.i64_in _ (by omega)
       have tz:Turn w5 (w5.setCell ⟨z,1,none⟩ (.int .i64 (tip+1))) z:=(Turn.rfl' _ z).put rfl _
       have bz:=H.bx.put1 (j:=1) (by simp) (.int .i64 (tip+1))
       have H6:=H.setZ (tip':=tip+1) (time':=time) tz bz
       have PC6:=PC.off1 (p:=⟨z,1,none⟩) (by show pc≠z;omega) (.int .i64 (tip+1))
       have X6:=X.off1 (p:=⟨z,1,none⟩) (by show zx≠z;omega) (.int .i64 (tip+1))
       have o1z:OffN n1 z A1:=f1.offN hzb.1
       have o2z:OffN n2 z A2:=f2.offN hzb.1
       have s16:=S.off s1 (p:=⟨z,1,none⟩) o1z (.int .i64 (tip+1))
       have s26:=S.off s2 (p:=⟨z,1,none⟩) o2z (.int .i64 (tip+1))
       go_upto_region 36 with fail
       clear z1 fz1 tz bz H PC X s1 s2
       try change Code.wp _ _ _ _ (w5.setCell ⟨z,1,none⟩ (.int .i64 (tip+1)))
       generalize (w5.setCell ⟨z,1,none⟩ (.int .i64 (tip+1)))=w6 at *
       have H:=H6;have PC:=PC6;have X:=X6;have s1:=s16;have s2:=s26
       clear H6 PC6 X6 s16 s26
       have x1:=X.at_ 1 rfl;have z2:=H.bx.at_ 2 rfl
       have v0:=PC.at_ 0 rfl;have v1:=PC.at_ 1 rfl;have v2:=PC.at_ 2 rfl;have v3:=PC.at_ 3 rfl;have v4:=PC.at_ 4 rfl;have v5:=PC.at_ 5 rfl;have v6:=PC.at_ 6 rfl;have v7:=PC.at_ 7 rfl;have v8:=PC.at_ 8 rfl;have v9:=PC.at_ 9 rfl;have v10:=PC.at_ 10 rfl;have v11:=PC.at_ 11 rfl
       have hzlw:=H.onAll.size;have hzl:=H.lts;have hvl:=PC.lt
       have hlen:m*12+12≤(cs.map encC).flatten.length:=by rw [flatten_length (encC_len cs),List.length_map,H.f.cl];omega
       have hth:w6.there cb (m*12) 12:=Bx.thereM H.f.cr hlen
       go_region
       go_wp2_with fail
       refine bodyPost_ret (v:=.int .i64 0) (by simp [results,Tryz.results79,go_sem]) rfl ?_
       have hq:=HQ2.out
       have H1:=H.onto ((Onto.rfl' w6).draw)
       have H2:=H1.storeC HCV.out (v:=⟨r.1,A1,n1,k1,A2,n2,k2⟩) ⟨s1.draw,s2.draw,hk1,hk2⟩ ⟨f1.offN hzb.2.1,f2.offN hzb.2.1⟩ ⟨f1.offN hzb.2.2,f2.offN hzb.2.2⟩ ⟨f1.offN hzb.1,f2.offN hzb.1⟩ (fun b hb=>⟨f1.offN (Nat.lt_of_lt_of_le hb hzbw),f2.offN (Nat.lt_of_lt_of_le hb hzbw)⟩) (us:=[.int .i64 r.1.epoch,.int .i64 r.1.doing,.int .i64 r.1.e.kind,.int .i64 r.1.e.job,.int .i64 r.1.e.every,.int .i64 r.1.e.time,.int .i64 r.1.e.client,.int .i64 r.1.at_,.int .i64 r.1.link,.int .i64 r.1.played,.slice A1 n1 k1,.slice A2 n2 k2]) rfl
       have hq3:q=(wor ns (tip+1) (cs.set m ⟨r.1,A1,n1,k1,A2,n2,k2⟩) time,0):=hq.trans (by simp [wor,clis,List.map_set])
       exact HPost.ok H2 hq3
     · have hq:=HQ.out
       rw [if_pos h1] at hq
       have HQ2:=Lib.hid hq
       have hd:(r.2 !=0)=true:=by simpa using h1
       have hd2:(r.2 ==0)=false:=by simpa using h1
       have h2':q.2≠0:=by rw [hq];exact h1
       clear hq HQ h1
       go_wp2_with fail
       go_ret
       exact HPost.bad' (by rw [HQ2.out]) h2' H.aw
end
section
open Go.RowKit
attribute [local go_sem ↓] Go.wp_at_zero Go.wp_at_succ
attribute [local go_sem ↓] stCl_eq stEnt_eq
attribute [local go_sem] run_stCl there_clW run_stEnt
set_option maxHeartbeats 16000000 in
set_option maxRecDepth 100000 in
theorem WOfClientF_calls (K w0 : World) (z nb cN cb cC : Nat) (ns : List NV) (tip : Int) (cs : List CV) (time : Int) (kd nn jb ep : Int) (m : Nat) (y : Entry) (w : World) (E0 : Env w0) (H : WM K w0 w z nb cN cb cC ns tip cs time) (hok : ∀ v ∈ cs, checkCl v.x = 0) (hm : m < 3) (hk : kd = 6) :
    Calls Tryz.prog 79 #[.pointer (some ⟨z,0,none⟩),.agg #[.int .i64 kd,.int .i64 ↑m,.int .i64 nn,.int .i64 jb,.int .i64 ep,.int .i64 y.kind,.int .i64 y.job,.int .i64 y.every,.int .i64 y.time,.int .i64 y.client]] w (HPost K w0 z nb cN cb cC (ofClientW (wor ns tip cs time) ⟨kd,m,nn,jb,ep,y⟩)):=by
 obtain ⟨c,hcv,J,on2,oc2,_⟩:=H.f.atC hm
 have oz2:=H.cz c (List.mem_of_getElem? hcv)
 have hcc:=hok c (List.mem_of_getElem? hcv)
 have hzl0:=H.lts
 obtain ⟨q,hq⟩:∃ q,q=ofClientW (wor ns tip cs time) ⟨kd,m,nn,jb,ep,y⟩:=⟨_,rfl⟩
 rw [← hq]
 have htm:((m:Nat):Int).toNat=m:=by omega
 unfold ofClientW at hq
 dsimp only at hq
 rw [if_neg (by omega)] at hq
 simp only [htm,show (wor ns tip cs time).c=clis cs from rfl,cliAt_cs hcv] at hq
 have HQ:=Lib.hid hq;have HCV:=Lib.hid hcv;have HK:=Lib.hid hk;have HOK:=Lib.hid hok;have HCC:=Lib.hid hcc
 have hm3:(m:Int)<3:=by omega
 clear hq hcv hk htm hcc hok
 go_enter Tryz.func79,Tryz.ntmps79
 go_upto_region 1 with fail
 refine wp_box1 (v1:=[.int .i64 kd,.int .i64 ↑m,.int .i64 nn,.int .i64 jb,.int .i64 ep,.int .i64 y.kind,.int .i64 y.job,.int .i64 y.every,.int .i64 y.time,.int .i64 y.client]) rfl fun w1 b X=>?_
 replace H:=H.onto b;replace J:=J.onto b
 generalize hzx:w.heap.size=zx at X hzl0
 clear hzx b
 have x1:=X.at_ 1 rfl
 have z2:=H.bx.at_ 2 rfl
 go_quiet (fail)
 go_upto_region 3 with fail
 generalize hd:World.drewN w1 _=w2
 have od:Onto w1 w2:=by rw [← hd];exact (Onto.rfl' w1).draws _
 clear hd x1 z2
 replace H:=H.onto od;replace X:=X.onto od;replace J:=J.onto od
 clear od
 have x1:=X.at_ 1 rfl
 have z2:=H.bx.at_ 2 rfl
 obtain ⟨c0,c1,c2,c3,c4,c5,c6,c7,c8,c9,c10,c11⟩:=CV.cells_at H.f.cr (encC_len cs) (row_cs HCV.out)
 have hz2:=H.lts;have hxl:=X.lt
 go_cut [5] (fun s5 wx=>∃ (p:Nat),s5=.pointer (some ⟨p,0,none⟩)∧Bx wx p [.int .i64 c.x.epoch,.int .i64 c.x.doing,.int .i64 c.x.e.kind,.int .i64 c.x.e.job,.int .i64 c.x.e.every,.int .i64 c.x.e.time,.int .i64 c.x.e.client,.int .i64 c.x.at_,.int .i64 c.x.link,.int .i64 c.x.played,.slice c.A c.n c.c,.slice c.G c.m c.d]∧Onto w2 wx∧w2.heap.size≤p)
 case first =>
  go_region
  all_goals
   go_wp2_with fail
   go_meet
   exact ⟨_,rfl,Bx.put (us:=[.int .i64 c.x.epoch,.int .i64 c.x.doing,.int .i64 c.x.e.kind,.int .i64 c.x.e.job,.int .i64 c.x.e.every,.int .i64 c.x.e.time,.int .i64 c.x.e.client,.int .i64 c.x.at_,.int .i64 c.x.link,.int .i64 c.x.played,.slice c.A c.n c.c,.slice c.G c.m c.d]) (vs:=[.int .i64 0,.int .i64 0,.int .i64 0,.int .i64 0,.int .i64 0,.int .i64 0,.int .i64 0,.int .i64 0,.int .i64 0,.int .i64 0,.slice none 0 0,.slice none 0 0]) ((Bx.made _ _ _).draw) rfl,Onto.puts (Nat.le_refl _) (((Onto.rfl' w2).new _).draw),Nat.le_refl _⟩
 case rest =>
  obtain ⟨pc,rfl,PC,b,hpc⟩:=hcut
  clear x1 z2 c0 c1 c2 c3 c4 c5 c6 c7 c8 c9 c10 c11
  have NOFF:∀ v∈ns,v.off pc:=fun v hv=>(H.f.ni v hv).1.away hpc
  have COFF:∀ v∈cs,v.off pc:=fun v hv=>(H.f.ci v hv).1.away hpc
  have hw0p:w0.heap.size≤pc:=Nat.le_trans H.onAll.size hpc
  have hkp:K.heap.size≤pc:=Nat.le_trans H.kp.size hpc
  replace H:=H.onto b;replace X:=X.onto b;replace J:=J.onto b
  clear b
  generalize wc=w3 at *
  have hpx:pc≠zx:=by omega
  have x0:=X.at_ 0 rfl
  have hk:=HK.out
  subst hk
  have hq:=HQ.out
  rw [if_neg (by decide),if_neg (by decide),if_neg (by decide),if_neg (by decide),if_pos rfl] at hq
  replace HQ:=Lib.hid hq
  clear hq HK
  have x2:=X.at_ 2 rfl
  obtain ⟨r,hr⟩:∃ r,r=fillCl c.x nn:=⟨_,rfl⟩
  have hq:=HQ.out
  unfold putCl at hq
  rw [← hr] at hq
  replace HQ:=Lib.hid hq
  have HR:=Lib.hid hr
  clear hq hr
  go_upto_region 23 with fail
  have hzbw:=H.onAll.size;have hzb:=H.lts
  have v0:=PC.at_ 0 rfl;have v1:=PC.at_ 1 rfl;have v2:=PC.at_ 2 rfl;have v3:=PC.at_ 3 rfl;have v4:=PC.at_ 4 rfl;have v5:=PC.at_ 5 rfl;have v6:=PC.at_ 6 rfl;have v7:=PC.at_ 7 rfl;have v8:=PC.at_ 8 rfl;have v9:=PC.at_ 9 rfl;have v10:=PC.at_ 10 rfl;have v11:=PC.at_ 11 rfl
  have hst0:=PC.there (n:=12) (by simp)
  go_wp2_with fail
  refine Calls.mono (ClFill_calls c.x.epoch c.x.doing c.x.at_ c.x.link c.x.played c.x.e c.A c.G c.n c.c c.m c.d c.x.b nn _ J.jobs J.rung) ?_
  rw [show fillCl ⟨c.x.epoch,c.x.doing,c.x.e,c.x.at_,c.x.link,c.x.played,c.x.b⟩ nn=r from HR.out.symm]
  unfold ClPost
  rintro e w4 ⟨A1,n1,k1,A2,n2,k2,rfl,s1,s2,b,hk1,hk2,f1,f2⟩
  replace H:=H.onto b;replace X:=X.onto b;replace PC:=PC.onto b
  have hpl:pc<w3.heap.size:=by have:=World.block_lt_of_cell? _ _ v0;exact this
  have o1:OffN n1 pc A1:=f1.offN hpl
  have o2:OffN n2 pc A2:=f2.offN hpl
  clear b hst0 v0 v1 v2 v3 v4 v5 v6 v7 v8 v9 v10 v11
  have hst:=PC.there (n:=12) (by simp)
  go_upto_region 35 with fail
  have t:Turn w4 (w4.setCells pc 0 [.int .i64 r.1.epoch,.int .i64 r.1.doing,.int .i64 r.1.e.kind,.int .i64 r.1.e.job,.int .i64 r.1.e.every,.int .i64 r.1.e.time,.int .i64 r.1.e.client,.int .i64 r.1.at_,.int .i64 r.1.link,.int .i64 r.1.played,.slice A1 n1 k1,.slice A2 n2 k2]) pc:=(Turn.rfl' _ pc).puts
  have PC5:Bx (w4.setCells pc 0 [.int .i64 r.1.epoch,.int .i64 r.1.doing,.int .i64 r.1.e.kind,.int .i64 r.1.e.job,.int .i64 r.1.e.every,.int .i64 r.1.e.time,.int .i64 r.1.e.client,.int .i64 r.1.at_,.int .i64 r.1.link,.int .i64 r.1.played,.slice A1 n1 k1,.slice A2 n2 k2]) pc [.int .i64 r.1.epoch,.int .i64 r.1.doing,.int .i64 r.1.e.kind,.int .i64 r.1.e.job,.int .i64 r.1.e.every,.int .i64 r.1.e.time,.int .i64 r.1.e.client,.int .i64 r.1.at_,.int .i64 r.1.link,.int .i64 r.1.played,.slice A1 n1 k1,.slice A2 n2 k2]:=PC.put rfl
  have X5:=X.off (b:=pc) (o:=0) (us:=[.int .i64 r.1.epoch,.int .i64 r.1.doing,.int .i64 r.1.e.kind,.int .i64 r.1.e.job,.int .i64 r.1.e.every,.int .i64 r.1.e.time,.int .i64 r.1.e.client,.int .i64 r.1.at_,.int .i64 r.1.link,.int .i64 r.1.played,.slice A1 n1 k1,.slice A2 n2 k2]) (Ne.symm hpx)
  have H5:WM K w0 (w4.setCells pc 0 [.int .i64 r.1.epoch,.int .i64 r.1.doing,.int .i64 r.1.e.kind,.int .i64 r.1.e.job,.int .i64 r.1.e.every,.int .i64 r.1.e.time,.int .i64 r.1.e.client,.int .i64 r.1.at_,.int .i64 r.1.link,.int .i64 r.1.played,.slice A1 n1 k1,.slice A2 n2 k2]) z nb cN cb cC ns tip cs time:=⟨H.bx.off (by omega),H.f.turn t hw0p (by omega) (by omega) NOFF COFF,H.nz,H.cz,H.hz,H.zn,H.zc,H.kp.far t hkp,H.fN,H.fC⟩
  have s15:=put_S (w:=w4) o1 (vs:=[.int .i64 r.1.epoch,.int .i64 r.1.doing,.int .i64 r.1.e.kind,.int .i64 r.1.e.job,.int .i64 r.1.e.every,.int .i64 r.1.e.time,.int .i64 r.1.e.client,.int .i64 r.1.at_,.int .i64 r.1.link,.int .i64 r.1.played,.slice A1 n1 k1,.slice A2 n2 k2]) (o:=0) s1
  have s25:=put_S (w:=w4) o2 (vs:=[.int .i64 r.1.epoch,.int .i64 r.1.doing,.int .i64 r.1.e.kind,.int .i64 r.1.e.job,.int .i64 r.1.e.every,.int .i64 r.1.e.time,.int .i64 r.1.e.client,.int .i64 r.1.at_,.int .i64 r.1.link,.int .i64 r.1.played,.slice A1 n1 k1,.slice A2 n2 k2]) (o:=0) s2
  clear H X PC s1 s2 hst t o1 o2
  try change Code.wp _ _ _ _ (w4.setCells pc 0 [.int .i64 r.1.epoch,.int .i64 r.1.doing,.int .i64 r.1.e.kind,.int .i64 r.1.e.job,.int .i64 r.1.e.every,.int .i64 r.1.e.time,.int .i64 r.1.e.client,.int .i64 r.1.at_,.int .i64 r.1.link,.int .i64 r.1.played,.slice A1 n1 k1,.slice A2 n2 k2])
  generalize (w4.setCells pc 0 [.int .i64 r.1.epoch,.int .i64 r.1.doing,.int .i64 r.1.e.kind,.int .i64 r.1.e.job,.int .i64 r.1.e.every,.int .i64 r.1.e.time,.int .i64 r.1.e.client,.int .i64 r.1.at_,.int .i64 r.1.link,.int .i64 r.1.played,.slice A1 n1 k1,.slice A2 n2 k2])=w5 at *
  have H:=H5;have X:=X5;have PC:=PC5;have s1:=s15;have s2:=s25
  clear H5 X5 PC5 s15 s25
  have hcn:cb≠pc:=by omega
  by_cases h1:r.2=0
  · have hq:=HQ.out
    rw [if_neg (by simp [h1])] at hq
    have HQ2:=Lib.hid hq
    rw [h1]
    clear hq HQ h1
    go_upto_region 36 with fail
    have x1:=X.at_ 1 rfl;have z2:=H.bx.at_ 2 rfl
    have v0:=PC.at_ 0 rfl;have v1:=PC.at_ 1 rfl;have v2:=PC.at_ 2 rfl;have v3:=PC.at_ 3 rfl;have v4:=PC.at_ 4 rfl;have v5:=PC.at_ 5 rfl;have v6:=PC.at_ 6 rfl;have v7:=PC.at_ 7 rfl;have v8:=PC.at_ 8 rfl;have v9:=PC.at_ 9 rfl;have v10:=PC.at_ 10 rfl;have v11:=PC.at_ 11 rfl
    have hzlw:=H.onAll.size;have hzl:=H.lts;have hvl:=PC.lt
    have hlen:m*12+12≤(cs.map encC).flatten.length:=by rw [flatten_length (encC_len cs),List.length_map,H.f.cl];omega
    have hth:w5.there cb (m*12) 12:=Bx.thereM H.f.cr hlen
    go_region
    go_wp2_with fail
    refine bodyPost_ret (v:=.int .i64 0) (by simp [results,Tryz.results79,go_sem]) rfl ?_
    have hq:=HQ2.out
    have H1:=H.onto ((Onto.rfl' w5).draw)
    have H2:=H1.storeC HCV.out (v:=⟨r.1,A1,n1,k1,A2,n2,k2⟩) ⟨s1.draw,s2.draw,hk1,hk2⟩ ⟨f1.offN hzb.2.1,f2.offN hzb.2.1⟩ ⟨f1.offN hzb.2.2,f2.offN hzb.2.2⟩ ⟨f1.offN hzb.1,f2.offN hzb.1⟩ (fun b hb=>⟨f1.offN (Nat.lt_of_lt_of_le hb hzbw),f2.offN (Nat.lt_of_lt_of_le hb hzbw)⟩) (us:=[.int .i64 r.1.epoch,.int .i64 r.1.doing,.int .i64 r.1.e.kind,.int .i64 r.1.e.job,.int .i64 r.1.e.every,.int .i64 r.1.e.time,.int .i64 r.1.e.client,.int .i64 r.1.at_,.int .i64 r.1.link,.int .i64 r.1.played,.slice A1 n1 k1,.slice A2 n2 k2]) rfl
    have hq3:q=(wor ns tip (cs.set m ⟨r.1,A1,n1,k1,A2,n2,k2⟩) time,0):=hq.trans (by rw [← wor_setC])
    exact HPost.ok H2 hq3
  · have hq:=HQ.out
    rw [if_pos h1] at hq
    have HQ2:=Lib.hid hq
    have hd:(r.2 !=0)=true:=by simpa using h1
    have hd2:(r.2 ==0)=false:=by simpa using h1
    have h2':q.2≠0:=by rw [hq];exact h1
    clear hq HQ h1
    go_wp2_with fail
    go_ret
    exact HPost.bad' (by rw [HQ2.out]) h2' H.aw
end
section
open Go.RowKit
attribute [local go_sem ↓] Go.wp_at_zero Go.wp_at_succ
attribute [local go_sem ↓] stCl_eq stEnt_eq
attribute [local go_sem] run_stCl there_clW run_stEnt
end
section
open Go.RowKit
attribute [local go_sem ↓] Go.wp_at_zero Go.wp_at_succ
attribute [local go_sem ↓] stCl_eq stEnt_eq
attribute [local go_sem] run_stCl there_clW run_stEnt
end
section
open Go.RowKit
attribute [local go_sem ↓] Go.wp_at_zero Go.wp_at_succ
theorem checks_of {ns:List NV} {tip:Int} {cs:List CV} {time:Int} (h:GoodW (wor ns tip cs time)):∀ v∈cs,checkCl v.x=0:=fun v hv=>by
 obtain ⟨i,hi,rfl⟩:=List.getElem_of_mem hv
 have hc:cs.length=3:=by have:=h.c3;simpa [wor,clis] using this
 have:=(h.cli i (by omega)).1
 rwa [show (wor ns tip cs time).c=clis cs from rfl,cliAt_cs (List.getElem?_eq_getElem hi)] at this
end
section
open Go.RowKit
attribute [local go_sem ↓] Go.wp_at_zero Go.wp_at_succ
set_option maxHeartbeats 8000000 in
set_option maxRecDepth 100000 in
theorem WOfClientT_calls (K w0 : World) (z nb cN cb cC : Nat) (ns : List NV) (tip : Int) (cs : List CV) (time : Int) (kd cl nn jb ep : Int) (y : Entry) (w : World) (E0 : Env w0) (H : WM K w0 w z nb cN cb cC ns tip cs time) (hg : GoodW (wor ns tip cs time))
    (hk:kd=1∨kd=3∨kd=4∨kd=6) :
    Calls Tryz.prog 79 #[.pointer (some ⟨z,0,none⟩),.agg #[.int .i64 kd,.int .i64 cl,.int .i64 nn,.int .i64 jb,.int .i64 ep,.int .i64 y.kind,.int .i64 y.job,.int .i64 y.every,.int .i64 y.time,.int .i64 y.client]] w (HPost K w0 z nb cN cb cC (ofClientW (wor ns tip cs time) ⟨kd,cl,nn,jb,ep,y⟩)):=by
 by_cases hn:cl<0∨3≤cl
 · have hq:ofClientW (wor ns tip cs time) ⟨kd,cl,nn,jb,ep,y⟩=(wor ns tip cs time,5):=by unfold ofClientW;rw [if_pos hn]
   rw [hq]
   clear hq hk hg
   have z2:=H.bx.at_ 2 rfl
   have hz:=H.lts
   rcases Decidable.em (cl<0) with h1 | h1
   · clear hn
     go_enter Tryz.func79,Tryz.ntmps79
     go_upto_region 1 with fail
     go_quiet (fail)
     go_wp2_with fail
     go_ret
     exact HPost.bad' rfl (by simp) ((H.aw.new _).draws _)
   · have h2:3≤cl:=by omega
     clear hn
     go_enter Tryz.func79,Tryz.ntmps79
     go_upto_region 1 with fail
     go_quiet (fail)
     go_wp2_with fail
     go_ret
     exact HPost.bad' rfl (by simp) ((H.aw.new _).draws _)
 · obtain ⟨m,rfl⟩:∃ m:Nat,cl=(m:Int):=⟨cl.toNat,by omega⟩
   have hm:m<3:=by omega
   have hok:=checks_of hg
   rcases hk with h | h | h | h
   · exact WOfClientW_calls K w0 z nb cN cb cC ns tip cs time kd nn jb ep m y w E0 H hok hm h
   · exact WOfClientP_calls K w0 z nb cN cb cC ns tip cs time kd nn jb ep m y w E0 H hok hm hg.tip0 hg.tip1 h
   · exact WOfClientLT_calls K w0 z nb cN cb cC ns tip cs time kd nn jb ep m y w E0 H hok hm h
   · exact WOfClientF_calls K w0 z nb cN cb cC ns tip cs time kd nn jb ep m y w E0 H hok hm h
set_option maxHeartbeats 16000000 in
set_option maxRecDepth 100000 in
theorem WHappenT_calls (K w0 : World) (z nb cN cb cC : Nat) (ns : List NV) (tip : Int) (cs : List CV) (time : Int) (kd cl nn jb ep : Int) (y : Entry) (w : World) (E0 : Env w0) (H : WM K w0 w z nb cN cb cC ns tip cs time) (hg : GoodW (wor ns tip cs time)) (hk : kd = 1 ∨ kd = 3 ∨ kd = 4 ∨ kd = 6) :
    Calls Tryz.prog 49 #[.pointer (some ⟨z,0,none⟩),.agg #[.int .i64 kd,.int .i64 cl,.int .i64 nn,.int .i64 jb,.int .i64 ep,.int .i64 y.kind,.int .i64 y.job,.int .i64 y.every,.int .i64 y.time,.int .i64 y.client]] w (HPost K w0 z nb cN cb cC (happenW (wor ns tip cs time) ⟨kd,cl,nn,jb,ep,y⟩)):=by
 obtain ⟨q,hq⟩:∃ q,q=happenW (wor ns tip cs time) ⟨kd,cl,nn,jb,ep,y⟩:=⟨_,rfl⟩
 rw [← hq]
 have ht0:=hg.t0;have ht1:=hg.t1
 have HG:=Lib.hid hg
 unfold happenW at hq
 dsimp only at hq
 clear hg
 have hzl:=H.lts
 have hr:¬ (kd<1∨15<kd):=by omega
 rw [if_neg hr] at hq
 clear hr
 rcases hk with h | h | h | h
 · subst h
   rw [if_neg (by decide),if_neg (by decide),if_neg (by decide)] at hq
   have HQ:=Lib.hid hq
   clear hq ht0 ht1
   go_enter Tryz.func49,Tryz.ntmps49
   go_wp2_with fail
   refine Calls.mono (WOfClientT_calls K w0 z nb cN cb cC ns tip cs time 1 cl nn jb ep y _ E0 (H.onto ((Onto.rfl' w).new _)) HG.out (by simp)) ?_
   rw [← HQ.out]
   rintro e w3 ⟨rfl,h1,h2⟩
   go_wp2_with fail
   go_ret
   exact ⟨rfl,h1,h2⟩
 · subst h
   rw [if_neg (by decide),if_neg (by decide),if_neg (by decide)] at hq
   have HQ:=Lib.hid hq
   clear hq ht0 ht1
   go_enter Tryz.func49,Tryz.ntmps49
   go_wp2_with fail
   refine Calls.mono (WOfClientT_calls K w0 z nb cN cb cC ns tip cs time 3 cl nn jb ep y _ E0 (H.onto ((Onto.rfl' w).new _)) HG.out (by simp)) ?_
   rw [← HQ.out]
   rintro e w3 ⟨rfl,h1,h2⟩
   go_wp2_with fail
   go_ret
   exact ⟨rfl,h1,h2⟩
 · subst h
   rw [if_neg (by decide),if_neg (by decide),if_neg (by decide)] at hq
   have HQ:=Lib.hid hq
   clear hq ht0 ht1
   go_enter Tryz.func49,Tryz.ntmps49
   go_wp2_with fail
   refine Calls.mono (WOfClientT_calls K w0 z nb cN cb cC ns tip cs time 4 cl nn jb ep y _ E0 (H.onto ((Onto.rfl' w).new _)) HG.out (by simp)) ?_
   rw [← HQ.out]
   rintro e w3 ⟨rfl,h1,h2⟩
   go_wp2_with fail
   go_ret
   exact ⟨rfl,h1,h2⟩
 · subst h
   rw [if_neg (by decide),if_neg (by decide),if_neg (by decide)] at hq
   have HQ:=Lib.hid hq
   clear hq ht0 ht1
   go_enter Tryz.func49,Tryz.ntmps49
   go_wp2_with fail
   refine Calls.mono (WOfClientT_calls K w0 z nb cN cb cC ns tip cs time 6 cl nn jb ep y _ E0 (H.onto ((Onto.rfl' w).new _)) HG.out (by simp)) ?_
   rw [← HQ.out]
   rintro e w3 ⟨rfl,h1,h2⟩
   go_wp2_with fail
   go_ret
   exact ⟨rfl,h1,h2⟩
end
end Go.Proofs.YtidlffepdcldkaaGreatDoor
