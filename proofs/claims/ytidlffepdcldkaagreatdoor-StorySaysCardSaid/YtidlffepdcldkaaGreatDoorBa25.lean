/- Part 25 of the proof: WCheck. -/
import Derived.Test.YtidlffepdcldkaaGreatDoorBa24
import Derived.Test.YtidlffepdcldkaaGreatDoorBa06
import Derived.Test.YtidlffepdcldkaaGreatDoorBa14
namespace Go.Proofs.YtidlffepdcldkaaGreatDoor
set_option linter.unusedSimpArgs false
set_option linter.unusedVariables false
section
open Go.RowKit
attribute [local go_sem ↓] Go.wp_at_zero Go.wp_at_succ
def aheadN (l:List Nod):Nat→Option Uni
 | 0=>none
 | k+1=>l[k]?.map (·.u)
theorem checkNs_at {l : List Nod} {o : Option Uni} {k : Nat} {x : Nod} (hx : l[k]? = some x) : checkNs o (l.drop k) = if (checkN x).2 ≠ 0 then (checkN x).2 else
    match o with
    | none=>checkNs (some x.u) (l.drop (k+1))
    | some p=>if fitC p.cells (checkN x).1.cells then checkNs (some x.u) (l.drop (k+1)) else 4:=by
  obtain ⟨h,rfl⟩:=List.getElem?_eq_some_iff.1 hx
  rw [List.drop_eq_getElem_cons h];rfl
theorem checkCls_at {ns : List Nod} {l : List Cli} {k : Nat} {c : Cli} (hx : l[k]? = some c) : checkCls ns (l.drop k) = if checkCl c ≠ 0 then checkCl c
    else if c.doing=2∧0<c.link∧cellAt (nodAt ns (c.link.toNat - 1)).u.cells c.at_.toNat≠c.e then 4 else checkCls ns (l.drop (k+1)):=by
 obtain ⟨h,rfl⟩:=List.getElem?_eq_some_iff.1 hx
 rw [List.drop_eq_getElem_cons h];rfl
theorem checkN_lens {x:Nod} (h:(checkN x).2=0):x.u.cells.length=60∧(checkN x).1.cells.length=60:=by
 obtain ⟨l,m,hn⟩:=checkN_inv h
 exact ⟨hn.good.1.len,hn.good.2.len⟩
theorem checkW_of {w:Wor} (h1:w.n.length=3) (h2:w.c.length=3) (h3:¬ (w.tip<0∨60<w.tip∨w.time<0∨100000<w.time)):checkW w=if checkNs none w.n≠0 then checkNs none w.n else checkCls w.n w.c:=by
 unfold checkW
 rw [if_neg (by omega),if_neg h3]
set_option maxHeartbeats 16000000 in
set_option maxRecDepth 100000 in
theorem WCheck_calls (A : Option Addr) (n c : Nat) (tip : Int) (C : Option Addr) (m d : Nat) (time : Int) (ns : List NV) (cs : List CV) (w : World) (E : Env w) (R : WR w A n C m ns cs) :
    Calls Tryz.prog 15 #[.agg #[.slice A n c,.int .i64 tip,.slice C m d,.int .i64 time]] w fun e w'=>e=.returned (.int .i64 (checkW (wor ns tip cs time)))∧Onto w w':=by
 obtain ⟨r,hr⟩:∃ r,r=checkW (wor ns tip cs time):=⟨_,rfl⟩
 rw [← hr]
 have hnl:=R.nlen;have hcl:=R.clen
 have hne:=neqE
 by_cases h3:n=3∧m=3
 · obtain ⟨rfl,rfl⟩:=h3
   by_cases hrg:tip<0∨60<tip∨time<0∨100000<time
   · have hr3:(3:Int)=r:=by rw [hr];unfold checkW;rw [if_neg (by simp [hnl,hcl]),if_pos hrg]
     have HR:=Lib.hid hr3
     clear hr hr3 hnl hcl R
     rcases Decidable.em (tip<0) with h1 | h1
     · clear hrg
       go_enter Tryz.func15,Tryz.ntmps15
       go_wp2_with fail
       go_ret
       exact ⟨ret_int HR.out,by repeat (first | exact Onto.rfl' _ | refine Onto.new ?_ _)⟩
     rcases Decidable.em (60<tip) with h2 | h2
     · clear hrg
       go_enter Tryz.func15,Tryz.ntmps15
       go_wp2_with fail
       go_ret
       exact ⟨ret_int HR.out,by repeat (first | exact Onto.rfl' _ | refine Onto.new ?_ _)⟩
     rcases Decidable.em (time<0) with h4 | h4
     · clear hrg
       go_enter Tryz.func15,Tryz.ntmps15
       go_wp2_with fail
       go_ret
       exact ⟨ret_int HR.out,by repeat (first | exact Onto.rfl' _ | refine Onto.new ?_ _)⟩
     have h5:100000<time:=by omega
     clear hrg
     go_enter Tryz.func15,Tryz.ntmps15
     go_wp2_with fail
     go_ret
     exact ⟨ret_int HR.out,by repeat (first | exact Onto.rfl' _ | refine Onto.new ?_ _)⟩
   · obtain ⟨rN,hrN⟩:∃ q,q=checkNs none (nods ns):=⟨_,rfl⟩
     have hr2:=checkW_of (w:=wor ns tip cs time) (by simp [hnl]) (by simp [hcl]) hrg
     rw [← hr,show (wor ns tip cs time).n=nods ns from rfl,show (wor ns tip cs time).c=clis cs from rfl,← hrN] at hr2
     have HR:=Lib.hid hr2;have HN:=Lib.hid hrN;have HNL:=Lib.hid hnl;have HCL:=Lib.hid hcl
     have h1:¬ tip<0:=by omega
     have h2:¬ 60<tip:=by omega
     have h4:¬ time<0:=by omega
     have h5:¬ 100000<time:=by omega
     clear hr hr2 hrN hnl hcl hrg
     go_enter Tryz.func15,Tryz.ntmps15
     go_upto_region 5 with fail
     refine wp_box1 (v1:=[.slice A 3 c,.int .i64 tip,.slice C 3 d,.int .i64 time]) rfl fun w1 on Z=>?_
     replace R:=R.onto on
     generalize hzz:w.heap.size=z at Z
     clear hzz h1 h2 h4 h5
     have z0:=Z.at_ 0 rfl
     go_wp2_with fail
     go_loopw [41] (fun s wr=>∃ k:Nat,k≤3∧s=.int .i64 k∧Onto w wr∧Bx wr z [.slice A 3 c,.int .i64 tip,.slice C 3 d,.int .i64 time]∧WR wr A 3 C 3 ns cs∧Hid (rN=checkNs (aheadN (nods ns) k) ((nods ns).drop k))∧Hid (∀ j v,j<k→ns[j]?=some v→v.n=60∧v.x.u.cells.length=60)) (fun s _=>3 - (intOf s).toNat)
     case atStart=>exact ⟨0,by omega,rfl,on,Z,R,by show _=_;rw [HN.out];rfl,fun j v hj=>absurd hj (Nat.not_lt_zero _)⟩
     case round =>
      clear R Z on z0
      obtain ⟨i,hi,rfl,on,Z,R,HK,HL⟩:=hrel
      by_cases hlt:i<3
      · obtain ⟨b,off,v,rfl,hb,hv,I,d0,d1,d2,d3,d4⟩:=R.atN hlt
        have p0:0<i→∃ u,ns[i - 1]?=some u∧wr.cell? ⟨b,off+(i - 1)*5,none⟩=some (.int .i64 u.x.u.ep)∧wr.cell? ⟨b,off+(i - 1)*5+1,none⟩=some (.slice u.A u.n u.c)∧u.In wr∧u.n=60:=by
         intro hp
         obtain ⟨b',off',u,e',_,hu,Iu,e0,e1,_⟩:=R.atN (i:=i - 1) (by omega)
         injection e' with e';injection e' with e1' e2' _;subst e1';subst e2'
         exact ⟨u,hu,e0,e1,Iu,(HL.out _ u (by omega) hu).1⟩
        have hvn:(nods ns)[i]?=some v.x:=by simp [nods,hv]
        have hk:=HK.out
        rw [checkNs_at hvn] at hk
        obtain ⟨q,hq⟩:∃ q,q=(checkN v.x).2:=⟨_,rfl⟩
        rw [← hq] at hk
        have HK2:=Lib.hid hk;have HV:=Lib.hid hv;have HVN:=Lib.hid hvn;have HQ:=Lib.hid hq
        have hvl:v.x.u.cells.length=v.n:=by have:=I.cells.len;simpa using this
        have HVL:=Lib.hid hvl
        clear hk hv hvn hq HK hvl
        go_upto_region 8 with fail
        have ob:=(Onto.rfl' wr).new (Obj.cells #[.int .i64 v.x.u.ep,.slice v.A v.n v.c,.slice v.F v.k v.i,.slice v.G v.l v.j,.bool v.x.up] 56)
        have V:Bx (wr.alloc (Obj.cells #[.int .i64 v.x.u.ep,.slice v.A v.n v.c,.slice v.F v.k v.i,.slice v.G v.l v.j,.bool v.x.up] 56)) wr.heap.size [.int .i64 v.x.u.ep,.slice v.A v.n v.c,.slice v.F v.k v.i,.slice v.G v.l v.j,.bool v.x.up]:=Bx.made _ _ _
        replace on:=on.to ob;replace Z:=Z.onto ob;replace R:=R.onto ob;replace I:=I.onto ob
        have p1:0<i→∃ u,ns[i - 1]?=some u∧(wr.alloc (Obj.cells #[.int .i64 v.x.u.ep,.slice v.A v.n v.c,.slice v.F v.k v.i,.slice v.G v.l v.j,.bool v.x.up] 56)).cell? ⟨b,off+(i - 1)*5,none⟩=some (.int .i64 u.x.u.ep)∧(wr.alloc (Obj.cells #[.int .i64 v.x.u.ep,.slice v.A v.n v.c,.slice v.F v.k v.i,.slice v.G v.l v.j,.bool v.x.up] 56)).cell? ⟨b,off+(i - 1)*5+1,none⟩=some (.slice u.A u.n u.c)∧u.In (wr.alloc (Obj.cells #[.int .i64 v.x.u.ep,.slice v.A v.n v.c,.slice v.F v.k v.i,.slice v.G v.l v.j,.bool v.x.up] 56))∧u.n=60:=fun hp=>by
         obtain ⟨u,g1,g2,g3,g4,g5⟩:=p0 hp
         exact ⟨u,g1,cellB ob g2,cellB ob g3,g4.onto ob,g5⟩
        clear ob d0 d1 d2 d3 d4 p0 hb
        try change Code.wp _ _ _ _ (wr.alloc (Obj.cells #[.int .i64 v.x.u.ep,.slice v.A v.n v.c,.slice v.F v.k v.i,.slice v.G v.l v.j,.bool v.x.up] 56))
        generalize (wr.alloc (Obj.cells #[.int .i64 v.x.u.ep,.slice v.A v.n v.c,.slice v.F v.k v.i,.slice v.G v.l v.j,.bool v.x.up] 56))=w2 at *
        generalize wr.heap.size=zv at *
        have v0:=V.at_ 0 rfl;have v1:=V.at_ 1 rfl;have v2:=V.at_ 2 rfl;have v3:=V.at_ 3 rfl;have v4:=V.at_ 4 rfl
        go_wp2_with fail
        refine Calls.mono (wcheck_calls v _ (E.onto on) I) ?_
        rw [show (checkN v.x).2=q from HQ.out.symm]
        unfold URPost2
        rintro e w3 ⟨A1,n1,c1,rfl,s1,ob,_,_,_⟩
        replace on:=on.to ob;replace Z:=Z.onto ob;replace R:=R.onto ob;replace I:=I.onto ob
        have p2:0<i→∃ u,ns[i - 1]?=some u∧w3.cell? ⟨b,off+(i - 1)*5,none⟩=some (.int .i64 u.x.u.ep)∧w3.cell? ⟨b,off+(i - 1)*5+1,none⟩=some (.slice u.A u.n u.c)∧u.In w3∧u.n=60:=fun hp=>by
         obtain ⟨u,g1,g2,g3,g4,g5⟩:=p1 hp
         exact ⟨u,g1,cellB ob g2,cellB ob g3,g4.onto ob,g5⟩
        clear ob v0 v1 v2 v3 v4 V p1
        by_cases hq0:q=0
        · subst hq0
          have hk:=HK2.out
          rw [if_neg (by simp)] at hk
          have HK3:=Lib.hid hk
          have hls:=checkN_lens HQ.out.symm
          have hn1:n1=60:=by have:=s1.len;simp at this;omega
          have hvn:v.n=60:=by rw [← HVL.out];exact hls.1
          have hls1:=hls.1
          subst hn1
          have HLS:=Lib.hid hls1
          clear hk HK2 hls hls1
          go_upto_region 11 with fail
          have ob:=(Onto.rfl' w3).new (Obj.cells #[.int .i64 (checkN v.x).1.ep,.slice A1 60 c1] 51)
          have U:Bx (w3.alloc (Obj.cells #[.int .i64 (checkN v.x).1.ep,.slice A1 60 c1] 51)) w3.heap.size [.int .i64 (checkN v.x).1.ep,.slice A1 60 c1]:=Bx.made _ _ _
          replace on:=on.to ob;replace Z:=Z.onto ob;replace R:=R.onto ob;replace I:=I.onto ob;replace s1:=s1.onto ob
          have p3:0<i→∃ u,ns[i - 1]?=some u∧(w3.alloc (Obj.cells #[.int .i64 (checkN v.x).1.ep,.slice A1 60 c1] 51)).cell? ⟨b,off+(i - 1)*5,none⟩=some (.int .i64 u.x.u.ep)∧(w3.alloc (Obj.cells #[.int .i64 (checkN v.x).1.ep,.slice A1 60 c1] 51)).cell? ⟨b,off+(i - 1)*5+1,none⟩=some (.slice u.A u.n u.c)∧u.In (w3.alloc (Obj.cells #[.int .i64 (checkN v.x).1.ep,.slice A1 60 c1] 51))∧u.n=60:=fun hp=>by
           obtain ⟨u,g1,g2,g3,g4,g5⟩:=p2 hp
           exact ⟨u,g1,cellB ob g2,cellB ob g3,g4.onto ob,g5⟩
          clear ob p2
          try change Code.wp _ _ _ _ (w3.alloc (Obj.cells #[.int .i64 (checkN v.x).1.ep,.slice A1 60 c1] 51))
          generalize (w3.alloc (Obj.cells #[.int .i64 (checkN v.x).1.ep,.slice A1 60 c1] 51))=w4 at *
          generalize w3.heap.size=zu at *
          have hrel2:Hid (∀ j u,j<i+1→ns[j]?=some u→u.n=60∧u.x.u.cells.length=60):=Lib.hid fun j u hj hu=>by
           by_cases hji:j=i
           · subst hji
             rw [HV.out] at hu
             injection hu with hu
             subst hu
             exact ⟨hvn,HLS.out⟩
           · exact HL.out j u (by omega) hu
          have hah:aheadN (nods ns) (i+1)=some v.x.u:=by simp [aheadN,HVN.out]
          have HAH:=Lib.hid hah
          clear hah HL
          rcases Nat.eq_zero_or_pos i with rfl | hpos
          · have hk:=HK3.out
            have HK4:Hid (rN=checkNs (aheadN (nods ns) 1) ((nods ns).drop 1)):=Lib.hid (by rw [HAH.out];exact hk)
            clear hk HK3 p3
            go_quiet (fail)
            go_wp2_with fail
            go_roundw
            case measure=>simp [intOf] <;> omega
            case rel=>exact ⟨1,by omega,rfl,on.draws _,Z.draws _,R.onto ((Onto.rfl' _).draws _),HK4,hrel2⟩
          · obtain ⟨u,hu,e0,e1,Iu,hu60⟩:=p3 hpos
            obtain ⟨i',rfl⟩:∃ i',i=i'+1:=⟨i - 1,by omega⟩
            simp only [Nat.add_sub_cancel] at hu e0 e1
            have ha:aheadN (nods ns) (i'+1)=some u.x.u:=by simp [aheadN,nods,hu]
            have hk:=HK3.out
            rw [ha] at hk
            dsimp only at hk
            have HK4:=Lib.hid hk
            clear hk ha hu HK3 p3
            rw [hu60] at e1
            have su:=Iu.cells
            rw [hu60] at su
            obtain ⟨f,hf⟩:∃ f,f=decide (fitC u.x.u.cells (checkN v.x).1.cells):=⟨_,rfl⟩
            have HF:=Lib.hid hf
            clear hf
            have hw1:((i'+1:Nat):Int) - 1=(i':Int):=by omega
            have hi3:(i':Int)<3:=by omega
            have hg:decide (((i'+1:Nat):Int) > 0)=true:=by simp <;> omega
            have z0:=Z.at_ 0 rfl;have u0:=U.at_ 0 rfl;have u1:=U.at_ 1 rfl
            have oz0:=onto_cell z0;have ou0:=onto_cell u0;have ou1:=onto_cell u1;have oe0:=onto_cell e0;have oe1:=onto_cell e1
            refine wp_region_onto (by kernel_rfl) (by kernel_rfl) ?_
            repeat (go_big_quiet_step ((first
             | (go_at_call 38;exact calls_onto' (u:=.bool f) (behind_calls (checkN v.x).1.ep u.x.u.ep A1 u.A c1 u.c (checkN v.x).1.cells u.x.u.cells _ (S.ontoX s1 _) (S.ontoX su _)) (by rw [HF.out])))))
            refine wpQuiet_nil ?_
            intro w5 ob
            clear oz0 ou0 ou1 oe0 oe1 u0 u1 e0 e1 z0
            replace on:=on.to ob;replace Z:=Z.onto ob;replace R:=R.onto ob
            clear ob s1 su U Iu I
            rcases Bool.eq_false_or_eq_true f with hft | hft
            · have hk:=HK4.out
              rw [if_pos (by have:=HF.out;rw [hft] at this;exact of_decide_eq_true this.symm)] at hk
              have HK5:Hid (rN=checkNs (aheadN (nods ns) (i'+1+1)) ((nods ns).drop (i'+1+1))):=Lib.hid (by rw [HAH.out];exact hk)
              subst hft
              clear hk HK4 HF
              go_wp2_with fail
              go_roundw
              case measure=>simp [intOf] <;> omega
              case rel=>exact ⟨i'+1+1,by omega,by go_num,on,Z,R,HK5,hrel2⟩
            · have hk:=HK4.out
              rw [if_neg (by have:=HF.out;rw [hft] at this;exact of_decide_eq_false this.symm)] at hk
              have hfin:(4:Int)=r:=by rw [HR.out,if_pos (by rw [hk];simp),hk]
              have HFI:=Lib.hid hfin
              subst hft
              clear hk HK4 HF hfin
              go_wp2_with fail
              go_ret
              exact ⟨ret_int HFI.out,on⟩
        · have hk:=HK2.out
          rw [if_pos hq0] at hk
          have hfin:q=r:=by rw [HR.out,if_pos (by rw [hk];exact hq0),hk]
          have HF:=Lib.hid hfin
          have hqd:(q !=0)=true:=by simpa using hq0
          clear hk HK2 hfin hq0 p2
          go_wp2_with fail
          go_ret
          exact ⟨ret_int HF.out,on.new _⟩
      · obtain rfl:i=3:=by omega
        have hk:=HK.out
        rw [List.drop_eq_nil_of_le (by simp [HNL.out])] at hk
        have hr2:=HR.out
        rw [hk] at hr2
        have hr3:r=checkCls (nods ns) (clis cs):=by rw [hr2];simp [checkNs]
        have HR3:=Lib.hid hr3
        clear hk hr2 hr3 HK HR HN
        have z2:=Z.at_ 2 rfl
        have RK:=Lib.hid R
        have HL3:=HL
        clear HL
        go_wp2_with fail
        clear R z2
        go_loopw [72] (fun s wr=>∃ k:Nat,k≤3∧s=.int .i64 k∧Onto w wr∧Bx wr z [.slice A 3 c,.int .i64 tip,.slice C 3 d,.int .i64 time]∧WR wr A 3 C 3 ns cs∧Hid (r=checkCls (nods ns) ((clis cs).drop k))) (fun s _=>3 - (intOf s).toNat)
        case atStart=>exact ⟨0,by omega,rfl,on,Z,RK.out,HR3⟩
        case round =>
         clear Z on HR3 RK
         obtain ⟨i,hi,rfl,on,Z,R,HK⟩:=hrel
         by_cases hlt:i<3
         · obtain ⟨b,off,v,rfl,hb,hv,I,d0,d1,d2,d3,d4,d5,d6,d7,d8,d9,d10,d11⟩:=R.atC hlt
           have hvc:(clis cs)[i]?=some v.x:=by simp [clis,hv]
           have hk:=HK.out
           rw [checkCls_at hvc] at hk
           obtain ⟨q,hq⟩:∃ q,q=checkCl v.x:=⟨_,rfl⟩
           rw [← hq] at hk
           have HK2:=Lib.hid hk;have HQ:=Lib.hid hq
           clear hk hv hvc hq HK
           go_upto_region 17 with fail
           refine wp_box1 (v1:=[.int .i64 v.x.epoch,.int .i64 v.x.doing,.int .i64 v.x.e.kind,.int .i64 v.x.e.job,.int .i64 v.x.e.every,.int .i64 v.x.e.time,.int .i64 v.x.e.client,.int .i64 v.x.at_,.int .i64 v.x.link,.int .i64 v.x.played,.slice v.A v.n v.c,.slice v.G v.m v.d]) rfl fun w2 ob V=>?_
           replace on:=on.to ob;replace Z:=Z.onto ob;replace R:=R.onto ob;replace I:=I.onto ob
           clear ob d0 d1 d2 d3 d4 d5 d6 d7 d8 d9 d10 d11 hb
           generalize wr.heap.size=zv at *
           have v0:=V.at_ 0 rfl;have v1:=V.at_ 1 rfl;have v2:=V.at_ 2 rfl;have v3:=V.at_ 3 rfl;have v4:=V.at_ 4 rfl;have v5:=V.at_ 5 rfl;have v6:=V.at_ 6 rfl;have v7:=V.at_ 7 rfl;have v8:=V.at_ 8 rfl;have v9:=V.at_ 9 rfl;have v10:=V.at_ 10 rfl;have v11:=V.at_ 11 rfl
           go_wp2_with fail
           refine Calls.mono (ClCheck_calls v.x.epoch v.x.doing v.x.at_ v.x.link v.x.played v.x.e v.A v.G v.n v.c v.m v.d v.x.b _ I.jobs I.rung) ?_
           rintro e w3 ⟨rfl,ob⟩
           rw [show checkCl ⟨v.x.epoch,v.x.doing,v.x.e,v.x.at_,v.x.link,v.x.played,v.x.b⟩=q from HQ.out.symm]
           replace on:=on.to ob;replace Z:=Z.onto ob;replace R:=R.onto ob;replace V:=V.onto ob
           clear ob v0 v1 v2 v3 v4 v5 v6 v7 v8 v9 v10 v11 I
           by_cases hq0:q=0
           · subst hq0
             have hk:=HK2.out
             rw [if_neg (by simp)] at hk
             have hok:=checkCl_iff.1 HQ.out.symm
             have HK3:=Lib.hid hk
             obtain ⟨⟨_,_,_,_,ha0,ha1,hl0,hl1,_,_⟩,_⟩:=hok
             clear hk HK2 HQ
             go_upto_region 20 with fail
             have z0:=Z.at_ 0 rfl
             have v1:=V.at_ 1 rfl;have v2:=V.at_ 2 rfl;have v3:=V.at_ 3 rfl;have v4:=V.at_ 4 rfl;have v5:=V.at_ 5 rfl;have v6:=V.at_ 6 rfl;have v7:=V.at_ 7 rfl;have v8:=V.at_ 8 rfl
             by_cases hdo:v.x.doing=2
             · by_cases hli:0<v.x.link
               · obtain ⟨l',hl'⟩:∃ l':Nat,v.x.link=((l'+1:Nat):Int):=⟨v.x.link.toNat - 1,by omega⟩
                 obtain ⟨a,ha⟩:∃ a:Nat,v.x.at_=(a:Int):=⟨v.x.at_.toNat,by omega⟩
                 obtain ⟨bn,on',u,rfl,hbn,hu,Iu,e0,e1,_⟩:=R.atN (i:=l') (by omega)
                 have hu60:=(HL3.out l' u (by omega) hu).1
                 have hcu:=Iu.cells
                 rw [hu60] at e1 hcu
                 obtain ⟨bc,oc,y,hA,hbc,hy,f0,f1,f2,f3,f4⟩:=hcu.atE (i:=a) (by omega)
                 have hcell:cellAt (nodAt (nods ns) (v.x.link.toNat - 1)).u.cells v.x.at_.toNat=y:=by
                  rw [hl',ha,show ((l'+1:Nat):Int).toNat - 1=l' by omega,show ((a:Nat):Int).toNat=a by omega,nodAt_eq (x:=u.x) (by simp [nods,hu])]
                  exact cellAt_eq hy
                 have HC:=Lib.hid hcell
                 have hk:=HK3.out
                 rw [HC.out] at hk
                 have HK4:=Lib.hid hk
                 rw [hdo] at v1;rw [ha] at v7;rw [hl'] at v8;rw [hA] at e1
                 have hl3:(l':Int)<3:=by omega
                 have ha6:(a:Int)<60:=by omega
                 have hg:decide (((l'+1:Nat):Int) > 0)=true:=by simp <;> omega
                 have hw1:IntKind.i64.wrap (l':Int)=(l':Int):=IntWalk.i64_in _ (by omega)
                 have HDO:=Lib.hid hdo;have HLI:=Lib.hid hli
                 clear hk HK3 hcell hy hu hcu Iu hu60 e0 hA hdo hl' ha hl0 hl1 ha0 ha1 hli
                 by_cases hye:y=v.x.e
                 · have hd2:(!(y.kind ==v.x.e.kind && y.job ==v.x.e.job && y.every ==v.x.e.every && y.time ==v.x.e.time && y.client ==v.x.e.client))=false:=by simp [hye]
                   have HK5:Hid (r=checkCls (nods ns) ((clis cs).drop (i+1))):=Lib.hid (by rw [HK4.out,if_neg (by simp [hye])])
                   clear hye HK4
                   go_quiet (fail)
                   go_wp2_with fail
                   go_roundw
                   case measure=>simp [intOf] <;> omega
                   case rel=>first | exact ⟨i+1,by omega,by go_num,on.draws _,Z.draws _,R.onto ((Onto.rfl' _).draws _),HK5⟩ | ((iterate 39 (apply Exists.intro));refine ⟨?_,rfl⟩;exact ⟨i+1,by omega,by go_num,on.draws _,Z.draws _,R.onto ((Onto.rfl' _).draws _),HK5⟩)
                 · have hd2:(!(y.kind ==v.x.e.kind && y.job ==v.x.e.job && y.every ==v.x.e.every && y.time ==v.x.e.time && y.client ==v.x.e.client))=true:=by
                    rw [entry_eq_iff] at hye
                    simp only [Bool.not_eq_true',Bool.and_eq_false_iff,beq_eq_false_iff_ne]
                    omega
                   have hfin:(4:Int)=r:=by rw [HK4.out,if_pos ⟨HDO.out,HLI.out,hye⟩]
                   have HF:=Lib.hid hfin
                   clear hye HK4 hfin
                   go_quiet (fail)
                   go_wp2_with fail
                   go_ret
                   exact ⟨ret_int HF.out,on.draws _⟩
               · have hl':v.x.link=0:=by omega
                 have HK5:Hid (r=checkCls (nods ns) ((clis cs).drop (i+1))):=Lib.hid (by rw [HK3.out,if_neg (by omega)])
                 rw [hdo] at v1;rw [hl'] at v8
                 clear HK3 hdo hli hl' hl0 hl1 ha0 ha1
                 go_quiet (fail)
                 go_wp2_with fail
                 go_roundw
                 case measure=>simp [intOf] <;> omega
                 case rel=>first | exact ⟨i+1,by omega,by go_num,on.draws _,Z.draws _,R.onto ((Onto.rfl' _).draws _),HK5⟩ | ((iterate 39 (apply Exists.intro));refine ⟨?_,rfl⟩;exact ⟨i+1,by omega,by go_num,on.draws _,Z.draws _,R.onto ((Onto.rfl' _).draws _),HK5⟩)
             · have hd:(v.x.doing ==2)=false:=by simpa using hdo
               have HK5:Hid (r=checkCls (nods ns) ((clis cs).drop (i+1))):=Lib.hid (by rw [HK3.out,if_neg (by omega)])
               clear HK3 hdo hl0 hl1 ha0 ha1
               go_quiet (fail)
               go_wp2_with fail
               go_roundw
               case measure=>simp [intOf] <;> omega
               case rel=>first | exact ⟨i+1,by omega,by go_num,on.draws _,Z.draws _,R.onto ((Onto.rfl' _).draws _),HK5⟩ | ((iterate 39 (apply Exists.intro));refine ⟨?_,rfl⟩;exact ⟨i+1,by omega,by go_num,on.draws _,Z.draws _,R.onto ((Onto.rfl' _).draws _),HK5⟩)
           · have hk:=HK2.out
             rw [if_pos hq0] at hk
             have HF:=Lib.hid hk.symm
             have hqd:(q !=0)=true:=by simpa using hq0
             clear hk HK2 hq0
             go_wp2_with fail
             go_ret
             exact ⟨ret_int HF.out,on⟩
         · obtain rfl:i=3:=by omega
           have hk:=HK.out
           rw [List.drop_eq_nil_of_le (by simp [HCL.out])] at hk
           have HF:Hid ((0:Int)=r):=Lib.hid (by rw [hk];rfl)
           clear hk HK R
           go_wp2_with fail
           go_ret
           exact ⟨ret_int HF.out,on⟩
 · have hr4:(4:Int)=r:=by rw [hr];unfold checkW;rw [if_pos (by simp [hnl,hcl];omega)]
   have HR:=Lib.hid hr4
   clear hr hr4 hnl hcl R
   by_cases hn:n=3
   · subst hn
     have hm:¬ ((m:Int)=3):=by omega
     have hm':((m:Int) !=3)=true:=by simp;omega
     clear h3
     go_enter Tryz.func15,Tryz.ntmps15
     go_wp2_with fail
     go_ret
     exact ⟨ret_int HR.out,by repeat (first | exact Onto.rfl' _ | refine Onto.new ?_ _)⟩
   · have hn':¬ ((n:Int)=3):=by omega
     have hn2:((n:Int) !=3)=true:=by simp;omega
     clear h3 hn
     go_enter Tryz.func15,Tryz.ntmps15
     go_wp2_with fail
     go_ret
     exact ⟨ret_int HR.out,by repeat (first | exact Onto.rfl' _ | refine Onto.new ?_ _)⟩
end
end Go.Proofs.YtidlffepdcldkaaGreatDoor
