/- Part 44 of the proof: RWorld. -/
import Derived.Test.YtidlffepdcldkaaGreatDoorBa21
import Derived.Test.YtidlffepdcldkaaGreatDoorBa22
import Derived.Test.YtidlffepdcldkaaGreatDoorBa07
import Derived.Test.YtidlffepdcldkaaGreatDoorBa16
import Derived.Test.YtidlffepdcldkaaGreatDoorBa36
import Derived.Test.YtidlffepdcldkaaGreatDoorBa37
import Derived.Test.YtidlffepdcldkaaGreatDoorBa31
import Derived.Test.YtidlffepdcldkaaGreatDoorBa04
import Derived.Test.YtidlffepdcldkaaGreatDoorBa02
namespace Go.Proofs.YtidlffepdcldkaaGreatDoor
set_option linter.unusedSimpArgs false
set_option linter.unusedVariables false
section
open Go.RowKit
attribute [local go_sem ↓] Go.wp_at_zero Go.wp_at_succ
def aheadNR (l:List Nod):Nat→Option Uni
 | 0=>none
 | k+1=>l[k]?.map (·.u)
theorem checkNs_atR {l : List Nod} {o : Option Uni} {k : Nat} {x : Nod} (hx : l[k]? = some x) : checkNs o (l.drop k) = if (checkN x).2 ≠ 0 then (checkN x).2 else
    match o with
    | none=>checkNs (some x.u) (l.drop (k+1))
    | some p=>if fitC p.cells (checkN x).1.cells then checkNs (some x.u) (l.drop (k+1)) else 4:=by
  obtain ⟨h,rfl⟩:=List.getElem?_eq_some_iff.1 hx
  rw [List.drop_eq_getElem_cons h];rfl
theorem checkCls_atR {ns : List Nod} {l : List Cli} {k : Nat} {c : Cli} (hx : l[k]? = some c) : checkCls ns (l.drop k) = if checkCl c ≠ 0 then checkCl c
    else if c.doing=2∧0<c.link∧cellAt (nodAt ns (c.link.toNat - 1)).u.cells c.at_.toNat≠c.e then 4 else checkCls ns (l.drop (k+1)):=by
 obtain ⟨h,rfl⟩:=List.getElem?_eq_some_iff.1 hx
 rw [List.drop_eq_getElem_cons h];rfl
theorem checkN_lensR {x:Nod} (h:(checkN x).2=0):x.u.cells.length=60∧(checkN x).1.cells.length=60:=by
 obtain ⟨l,m,hn⟩:=checkN_inv h
 exact ⟨hn.good.1.len,hn.good.2.len⟩
theorem checkW_ofR {w:Wor} (h1:w.n.length=3) (h2:w.c.length=3) (h3:¬ (w.tip<0∨60<w.tip∨w.time<0∨100000<w.time)):checkW w=if checkNs none w.n≠0 then checkNs none w.n else checkCls w.n w.c:=by
 unfold checkW
 rw [if_neg (by omega),if_neg h3]
theorem safe_only {x:Dsk} (h:checkK x=0):checkK ⟨x.safe,[]⟩=0:=by
 have e:∀ y:Dsk,checkK y=if 30000<y.safe.length∨30000<y.safe.length+y.wait.length then 2 else (linesK y.safe 160).2.2:=fun y=>rfl
 rw [e] at h ⊢
 split at h
 · cases h
 · rename_i hn
   rw [if_neg (by simp;omega)]
   exact h
theorem checkN_steps (x : Nod) : checkN x = if checkK x.d ≠ 0 then (zeroU, checkK x.d)
    else if x.up=true∧0<x.d.wait.length then (zeroU,4)
    else if (unitL (recsK ⟨x.d.safe,[]⟩)).2≠0 then (zeroU,(unitL (recsK ⟨x.d.safe,[]⟩)).2)
    else if (unitL (recsK ⟨x.d.safe,[]⟩)).1≠x.u then (zeroU,4) else unitL (recsK x.d):=by
 unfold checkN
 by_cases h:checkK x.d≠0
 · rw [if_pos h,if_pos h]
 · rw [if_neg h,if_neg h]
   have h0:checkK x.d=0:=by simpa using h
   have e1:recoverK x.d=(backK x.d,recsK x.d,0):=by unfold recoverK;rw [if_neg (by simp [h0])]
   have e2:recoverK ⟨x.d.safe,[]⟩=(backK ⟨x.d.safe,[]⟩,recsK ⟨x.d.safe,[]⟩,0):=by unfold recoverK;rw [if_neg (by simp [safe_only h0])]
   rw [e1,e2]
theorem rN_bad {rN r ev t X:Int} (HR:r=if rN≠0 then rN else t) (hk:rN=if ev≠0 then ev else X) (h:ev≠0):ev=r:=by rw [HR,hk,if_pos h,if_pos h]
theorem DK.onlyS {w:World} {A A':Option Addr} {n c m d:Nat} {x:Dsk} (h:DK w A n c A' m d x):DK w A n c none 0 0 ⟨x.safe,[]⟩:=⟨h.safe,Sl.nil,h.n_le,h.c_le,by omega,by simp [maxLen]⟩
set_option maxHeartbeats 16000000 in
set_option maxRecDepth 100000 in
theorem RCW_calls (A : Option Addr) (n c : Nat) (tip : Int) (C : Option Addr) (m d : Nat) (time : Int) (ns : List NV) (cs : List CV) (w : World) (E : Env w) (R : WR w A n C m ns cs) :
    Calls Tryz.prog 7 #[.agg #[.slice A n c,.int .i64 tip,.slice C m d,.int .i64 time]] w fun e w'=>e=.returned (.int .i64 (checkW (wor ns tip cs time)))∧Onto w w':=by
 obtain ⟨r,hr⟩:∃ r,r=checkW (wor ns tip cs time):=⟨_,rfl⟩
 rw [← hr]
 have hnl:=R.nlen;have hcl:=R.clen
 have hne:=neqE
 by_cases h3:n=3∧m=3
 · obtain ⟨rfl,rfl⟩:=h3
   by_cases hrg:tip<0∨60<tip∨time<0∨100000<time
   · have hr3:(3:Int)=r:=by rw [hr];unfold checkW;rw [if_neg (by simp [hnl,hcl]),if_pos hrg]
     have HR:=Lib.hid hr3
     clear hr hr3 hnl hcl R
     by_cases ht:0≤tip∧tip≤60
     · have h1:(decide (0≤tip) && decide (tip≤60))=true:=by simp [ht]
       have h2:(decide (0≤time) && decide (time≤100000))=false:=by
        rw [Bool.and_eq_false_iff,decide_eq_false_iff_not,decide_eq_false_iff_not];omega
       clear hrg ht
       go_enter Tryz.func7,Tryz.ntmps7
       go_wp2_with (go_at_call 17;refine Calls.mono (in_calls _ _ _ _) ?_;(first | rw [h1] | rw [h2]);rintro e w' ⟨rfl,rfl⟩)
       all_goals
        go_ret
        exact ⟨ret_int HR.out,by repeat (first | exact Onto.rfl' _ | refine Onto.new ?_ _)⟩
     · have h1:(decide (0≤tip) && decide (tip≤60))=false:=by
        rw [Bool.and_eq_false_iff,decide_eq_false_iff_not,decide_eq_false_iff_not];omega
       clear hrg ht
       go_enter Tryz.func7,Tryz.ntmps7
       go_wp2_with (go_at_call 17;refine Calls.mono (in_calls _ _ _ _) ?_;rw [h1];rintro e w' ⟨rfl,rfl⟩)
       all_goals
        go_ret
        exact ⟨ret_int HR.out,by repeat (first | exact Onto.rfl' _ | refine Onto.new ?_ _)⟩
   · obtain ⟨rN,hrN⟩:∃ q,q=checkNs none (nods ns):=⟨_,rfl⟩
     have hr2:=checkW_ofR (w:=wor ns tip cs time) (by simp [hnl]) (by simp [hcl]) hrg
     rw [← hr,show (wor ns tip cs time).n=nods ns from rfl,show (wor ns tip cs time).c=clis cs from rfl,← hrN] at hr2
     have HR:=Lib.hid hr2;have HN:=Lib.hid hrN;have HNL:=Lib.hid hnl;have HCL:=Lib.hid hcl
     have h1:(decide (0≤tip) && decide (tip≤60))=true:=by simp;omega
     have h2:(decide (0≤time) && decide (time≤100000))=true:=by simp;omega
     clear hr hr2 hrN hnl hcl hrg
     go_enter Tryz.func7,Tryz.ntmps7
     go_upto_region 1 with fail
     refine wp_box1 (v1:=[.slice A 3 c,.int .i64 tip,.slice C 3 d,.int .i64 time]) rfl fun w1 on Z=>?_
     replace R:=R.onto on
     generalize w.heap.size=z at Z ⊢
     have z0:=Z.at_ 0 rfl;have z1:=Z.at_ 1 rfl;have z2:=Z.at_ 2 rfl;have z3:=Z.at_ 3 rfl
     go_wp2_with (go_at_call 17;refine Calls.mono (in_calls _ _ _ _) ?_;(first | rw [h1] | rw [h2]);rintro e w' ⟨rfl,rfl⟩)
     clear h1 h2 z1 z2 z3
     go_loopg [3,4,5,6,7,8,9,36] 3 (fun g s3 s4 s5 s6 s7 s8 s9 s36 wr=>∃ k:Nat,k≤3∧3 - k≤g∧s36=.int .i64 k∧Onto w wr∧Bx wr z [.slice A 3 c,.int .i64 tip,.slice C 3 d,.int .i64 time]∧WR wr A 3 C 3 ns cs∧Hid (rN=checkNs (aheadNR (nods ns) k) ((nods ns).drop k))∧Hid (∀ j v,j<k→ns[j]?=some v→v.n=60∧v.x.u.cells.length=60))
     case atStart=>exact ⟨0,by omega,by omega,rfl,on,Z,R,by show _=_;rw [HN.out];rfl,fun j v hj=>absurd hj (Nat.not_lt_zero _)⟩
     case round =>
      clear R Z on z0
      obtain ⟨i,hi,hgg,rfl,on,Z,R,HK,HL⟩:=hrel
      by_cases hlt:i<3
      · obtain ⟨b,off,v,rfl,hb,hv,I,d0,d1,d2,d3,d4⟩:=R.atN hlt
        have hvn:(nods ns)[i]?=some v.x:=by simp [nods,hv]
        have hk:=HK.out
        rw [checkNs_atR hvn] at hk
        have hst:=checkN_steps v.x
        have hm:=I.disk.m_eq
        rw [← hm] at hst
        obtain ⟨q,hq⟩:∃ q,q=checkK v.x.d:=⟨_,rfl⟩
        obtain ⟨L1,hL1⟩:∃ l,l=recsK ⟨v.x.d.safe,[]⟩:=⟨_,rfl⟩
        obtain ⟨L2,hL2⟩:∃ l,l=recsK v.x.d:=⟨_,rfl⟩
        obtain ⟨U1,hU1⟩:∃ u,u=unitL L1:=⟨_,rfl⟩
        obtain ⟨U2,hU2⟩:∃ u,u=unitL L2:=⟨_,rfl⟩
        rw [← hq,← hL1,← hU1,← hL2,← hU2] at hst
        have hvl:v.x.u.cells.length=v.n:=by have:=I.cells.len;simpa using this
        have HK2:=Lib.hid hk;have HV:=Lib.hid hv;have HVN:=Lib.hid hvn;have HQ:=Lib.hid hq;have HST:=Lib.hid hst;have HL1:=Lib.hid hL1;have HL2:=Lib.hid hL2;have HU1:=Lib.hid hU1;have HU2:=Lib.hid hU2;have HVL:=Lib.hid hvl
        clear hk hv hvn hq hst hL1 hL2 hU1 hU2 hvl hm HK
        go_upto_region 8 with fail
        refine wp_box1 (v1:=[.int .i64 v.x.u.ep,.slice v.A v.n v.c,.slice v.F v.k v.i,.slice v.G v.l v.j,.bool v.x.up]) rfl fun w2 ob V=>?_
        replace on:=on.to ob;replace Z:=Z.onto ob;replace R:=R.onto ob;replace I:=I.onto ob
        clear ob d0 d1 d2 d3 d4 hb
        generalize wr.heap.size=zv at V ⊢
        have v2:=V.at_ 2 rfl;have v3:=V.at_ 3 rfl
        go_wp2_with fail
        refine Calls.mono (RDCheck_calls v.F v.G v.k v.i v.l v.j v.x.d _ (E.onto on) I.disk) ?_
        rw [← HQ.out]
        rintro e w3 ⟨rfl,ob⟩
        replace on:=on.to ob;replace Z:=Z.onto ob;replace R:=R.onto ob;replace I:=I.onto ob;replace V:=V.onto ob
        clear ob v2 v3
        by_cases hq0:q=0
        · subst hq0
          have hst:=HST.out
          rw [if_neg (by simp)] at hst
          have HST:=Lib.hid hst
          clear hst
          go_upto_region 11 with fail
          have v2:=V.at_ 2 rfl;have v3:=V.at_ 3 rfl;have v4:=V.at_ 4 rfl
          by_cases hup:v.x.up=true∧0<v.l
          · have hst:=HST.out
            rw [if_pos hup] at hst
            have hfin:=rN_bad HR.out HK2.out (by rw [hst];simp)
            rw [hst] at hfin
            have HF:=Lib.hid hfin
            obtain ⟨hu1,hu2⟩:=hup
            have hu3:(0:Int)<(v.l:Int):=by omega
            clear hst hfin HST
            rw [hu1] at v4
            go_wp2_with fail
            go_ret
            exact ⟨ret_int HF.out,on⟩
          · have hst:=HST.out
            rw [if_neg hup] at hst
            have HST:=Lib.hid hst
            clear hst
            have hup2:v.x.up=false∨(v.x.up=true∧v.l=0):=by
             rcases Bool.eq_false_or_eq_true v.x.up with h | h
             · exact .inr ⟨h,Nat.eq_zero_of_not_pos fun h0=>hup ⟨h,h0⟩⟩
             · exact .inl h
            clear hup
            go_cut [55] (fun s55 wx=>s55=.bool false∧wx=w3)
            case first =>
             rcases hup2 with hu1 | ⟨hu1,hu2⟩
             · rw [hu1] at v4
               go_wp2_with fail
               go_meet
               exact ⟨rfl,rfl⟩
             · rw [hu1] at v4;rw [hu2] at v3
               go_wp2_with fail
               go_meet
               exact ⟨rfl,rfl⟩
            case rest =>
             obtain ⟨rfl,rfl⟩:=hcut
             have v2:=V.at_ 2 rfl
             have hsafe:=safe_only HQ.out.symm
             go_wp2_with fail
             refine Calls.mono (RDRec_calls v.F none v.k v.i 0 0 ⟨v.x.d.safe,[]⟩ _ (E.onto on) I.disk.onlyS hsafe) ?_
             rw [← HL1.out]
             rintro e w4 ⟨F1,k1,i1,G1,l1,j1,B1,b1,y1,rfl,_,sL,_,ob⟩
             replace sL:S w4 8 B1 b1 (L1.map encQ):=sL
             replace on:=on.to ob;replace Z:=Z.onto ob;replace R:=R.onto ob;replace I:=I.onto ob;replace V:=V.onto ob
             clear ob v2 hsafe
             go_upto_region 14 with fail
             refine wp_box1 (v1:=[.slice F1 k1 i1,.slice G1 l1 j1]) rfl fun w5 ob _=>?_
             replace on:=on.to ob;replace Z:=Z.onto ob;replace R:=R.onto ob;replace I:=I.onto ob;replace V:=V.onto ob;replace sL:=sL.onto ob
             clear ob
             go_wp2_with fail
             refine Calls.mono (RUOf_calls B1 b1 y1 L1 _ sL) ?_
             rw [← HU1.out]
             rintro e w6 ⟨A1,n1,c1,rfl,s1,ob,_⟩
             replace s1:S w6 5 A1 n1 (U1.1.cells.map encE):=s1
             replace on:=on.to ob;replace Z:=Z.onto ob;replace R:=R.onto ob;replace I:=I.onto ob;replace V:=V.onto ob
             clear ob sL
             go_upto_region 15 with fail
             refine wp_box1 (v1:=[.int .i64 U1.1.ep,.slice A1 n1 c1]) rfl fun w7 bw U=>?_
             have hzu:w6.heap.size≤w6.heap.size:=Nat.le_refl _
             have hzl:=Z.lt
             generalize hzz:w6.heap.size=zu at U hzl ⊢
             rw [hzz] at hzu
             have hzu:w6.heap.size≤zu:=by omega
             clear hzz
             have hn1:n1≤9223372036854775807:=by have h1:=s1.len;have h2:=unitL_len L1;rw [← HU1.out] at h2;simp at h1;omega
             have HN1:=Lib.hid hn1
             obtain ⟨q2,hq2⟩:∃ q,q=U1.2:=⟨_,rfl⟩
             rw [← hq2]
             have hst:=HST.out
             rw [← hq2] at hst
             have HST:=Lib.hid hst
             clear hst hn1 hq2
             have u0:=U.at_ 0 rfl;have u1:=U.at_ 1 rfl;have v0:=(V.onto bw).at_ 0 rfl;have v1:=(V.onto bw).at_ 1 rfl
             by_cases hq20:q2=0
             · subst hq20
               have hst:=HST.out
               rw [if_neg (by simp)] at hst
               have HST:=Lib.hid hst
               clear hst
               go_wp2_with fail
               refine Calls.mono (RUSame_calls U1.1.ep v.x.u.ep A1 v.A n1 c1 v.n v.c U1.1.cells v.x.u.cells _ (s1.onto bw) (I.cells.onto bw) HN1.out) ?_
               rintro e w8 ⟨rfl,ob⟩
               replace bw:=bw.to ob;replace U:=U.onto ob
               clear ob u0 u1 v0 v1 s1
               by_cases hs:U1.1=v.x.u
               · have hst:=HST.out
                 rw [if_neg (by simpa using hs)] at hst
                 have HST:=Lib.hid hst
                 have hsd:decide ((⟨U1.1.ep,U1.1.cells⟩:Uni)=⟨v.x.u.ep,v.x.u.cells⟩)=true:=by rw [decide_eq_true_eq];exact hs
                 rw [hsd]
                 clear hst hs hsd
                 have v2:=(V.onto bw).at_ 2 rfl;have v3:=(V.onto bw).at_ 3 rfl
                 go_wp2_with fail
                 refine Calls.mono (RDRec_calls v.F v.G v.k v.i v.l v.j v.x.d _ (E.onto (on.to bw)) (I.disk.onto bw) HQ.out.symm) ?_
                 rw [← HL2.out]
                 rintro e w9 ⟨F2,k2,i2,G2,l2,j2,B2,b2,y2,rfl,_,sL,_,ob⟩
                 replace sL:S w9 8 B2 b2 (L2.map encQ):=sL
                 replace bw:=bw.to ob;replace U:=U.onto ob
                 clear ob v2 v3
                 go_wp2_with fail
                 refine Calls.mono (RUOf_calls B2 b2 y2 L2 _ sL) ?_
                 rw [← HU2.out]
                 rintro e w10 ⟨A2,n2,c2,rfl,s2,ob,f2⟩
                 replace s2:S w10 5 A2 n2 (U2.1.cells.map encE):=s2
                 have hul:=U.lt
                 replace bw:=bw.to ob;replace U:=U.onto ob
                 have o2:OffN n2 zu A2:=f2.offN hul
                 clear ob sL f2 hul
                 have g0:=U.froz 0;have g1:=U.froz 1;have u0:=U.at_ 0 rfl;have u1:=U.at_ 1 rfl
                 go_upto_region 21 with fail
                 have t:=((Turn.rfl' w10 zu).put (p:=⟨zu,0,none⟩) rfl (.int .i64 U2.1.ep)).put (p:=⟨zu,1,none⟩) rfl (.slice A2 n2 c2)
                 replace U:Bx ((w10.setCell ⟨zu,0,none⟩ (.int .i64 U2.1.ep)).setCell ⟨zu,1,none⟩ (.slice A2 n2 c2)) zu [.int .i64 U2.1.ep,.slice A2 n2 c2]:=(U.put1 (j:=0) (by simp) _).put1 (j:=1) (by simp) _
                 replace bw:Onto w6 ((w10.setCell ⟨zu,0,none⟩ (.int .i64 U2.1.ep)).setCell ⟨zu,1,none⟩ (.slice A2 n2 c2)):=(bw.put (p:=⟨zu,0,none⟩) hzu _).put (p:=⟨zu,1,none⟩) hzu _
                 replace s2:=s2.grown t (fun g e=>by injection e with e;subst e;exact o2)
                 clear t o2 g0 g1 u0 u1
                 try change Code.wp _ _ _ _ ((w10.setCell ⟨zu,0,none⟩ (.int .i64 U2.1.ep)).setCell ⟨zu,1,none⟩ (.slice A2 n2 c2))
                 generalize ((w10.setCell ⟨zu,0,none⟩ (.int .i64 U2.1.ep)).setCell ⟨zu,1,none⟩ (.slice A2 n2 c2))=w11 at U bw s2 ⊢
                 replace on:=on.to bw;replace Z:=Z.onto bw;replace R:=R.onto bw
                 clear bw hzu hzl V I
                 obtain ⟨q3,hq3⟩:∃ q,q=U2.2:=⟨_,rfl⟩
                 rw [← hq3]
                 have hk:=HK2.out
                 rw [HST.out,← hq3] at hk
                 have HK3:=Lib.hid hk
                 have HQ3:=Lib.hid hq3
                 clear hk hq3
                 by_cases hq30:q3=0
                 · subst hq30
                   have hls:=checkN_lensR (x:=v.x) (by rw [HST.out];exact HQ3.out.symm)
                   have hgood:=checkN_inv (n:=v.x) (by rw [HST.out];exact HQ3.out.symm)
                   have hcl60:U2.1.cells.length=60:=by have:=hls.2;rw [HST.out] at this;exact this
                   have hn2:n2=60:=by have:=s2.len;simp at this;omega
                   subst hn2
                   have hvn:v.n=60:=by rw [← HVL.out];exact hls.1
                   have HLS:=Lib.hid hls.1
                   have hok:∀ c∈U2.1.cells,okC c:=by
                    obtain ⟨l,m',hn⟩:=hgood
                    have:=hn.good.2.ok
                    rw [HST.out] at this
                    exact this
                   have HOK:=Lib.hid hok
                   have hk:=HK3.out
                   rw [if_neg (by simp)] at hk
                   have HK3:=Lib.hid hk
                   clear hk hls hgood hcl60 hok
                   have hrel2:Hid (∀ j u,j<i+1→ns[j]?=some u→u.n=60∧u.x.u.cells.length=60):=Lib.hid fun j u hj hu=>by
                    by_cases hji:j=i
                    · subst hji
                      rw [HV.out] at hu
                      injection hu with hu
                      subst hu
                      exact ⟨hvn,HLS.out⟩
                    · exact HL.out j u (by omega) hu
                   have hah:aheadNR (nods ns) (i+1)=some v.x.u:=by simp [aheadNR,HVN.out]
                   have HAH:=Lib.hid hah
                   clear hah
                   rcases Nat.eq_zero_or_pos i with rfl | hpos
                   · have hk:=HK3.out
                     have HK4:Hid (rN=checkNs (aheadNR (nods ns) 1) ((nods ns).drop 1)):=Lib.hid (by rw [HAH.out];exact hk)
                     clear hk HK3 HL
                     go_wp2_with (go_quiet (fail))
                     go_roundg 2
                     case measure=>omega
                     case rel=>first | exact ⟨1,by omega,by omega,rfl,on.draws _,Z.draws _,R.onto ((Onto.rfl' _).draws _),HK4,hrel2⟩ | exact ⟨1,by omega,by omega,rfl,on,Z,R,HK4,hrel2⟩
                   · obtain ⟨i',rfl⟩:∃ i',i=i'+1:=⟨i - 1,by omega⟩
                     obtain ⟨b',off',u,e',_,hu,Iu,e0,e1,_⟩:=R.atN (i:=i') (by omega)
                     injection e' with e';injection e' with e1' e2' _;subst e1';subst e2'
                     have hu60:=(HL.out i' u (by omega) hu).1
                     have ha:aheadNR (nods ns) (i'+1)=some u.x.u:=by simp [aheadNR,nods,hu]
                     have hk:=HK3.out
                     rw [ha] at hk
                     dsimp only at hk
                     have HK4:=Lib.hid hk
                     clear hk ha hu HK3 HL
                     rw [hu60] at e1
                     have su:=Iu.cells
                     rw [hu60] at su
                     obtain ⟨f,hf⟩:∃ f,f=decide (fitC u.x.u.cells U2.1.cells):=⟨_,rfl⟩
                     have HF:=Lib.hid hf
                     clear hf
                     have hw1:((i'+1:Nat):Int) - 1=(i':Int):=by omega
                     have hi3:(i':Int)<3:=by omega
                     have hg0:decide (((i'+1:Nat):Int) > 0)=true:=by simp <;> omega
                     have z0:=Z.at_ 0 rfl;have u0:=U.at_ 0 rfl;have u1:=U.at_ 1 rfl
                     have oz0:=onto_cell z0;have ou0:=onto_cell u0;have ou1:=onto_cell u1;have oe0:=onto_cell e0;have oe1:=onto_cell e1
                     go_upto_region 23 with fail
                     refine wp_region_onto (by kernel_rfl) (by kernel_rfl) ?_
                     repeat (go_big_quiet_step ((first
                      | (go_at_call 22;exact calls_onto' (u:=.bool f) (Within_calls U2.1.ep u.x.u.ep A2 u.A c2 u.c U2.1.cells u.x.u.cells _ (S.ontoX s2 _) (S.ontoX su _) HOK.out) (by rw [HF.out])))))
                     refine wpQuiet_nil ?_
                     intro w12 ob
                     clear oz0 ou0 ou1 oe0 oe1 u0 u1 e0 e1 z0
                     replace on:=on.to ob;replace Z:=Z.onto ob;replace R:=R.onto ob
                     clear ob s2 su U Iu
                     rcases Bool.eq_false_or_eq_true f with hft | hft
                     · have hk:=HK4.out
                       rw [if_pos (by have:=HF.out;rw [hft] at this;exact of_decide_eq_true this.symm)] at hk
                       have HK5:Hid (rN=checkNs (aheadNR (nods ns) (i'+1+1)) ((nods ns).drop (i'+1+1))):=Lib.hid (by rw [HAH.out];exact hk)
                       subst hft
                       clear hk HK4 HF
                       go_wp2_with fail
                       go_roundg (3 - (i'+1+1))
                       case measure=>omega
                       case rel=>exact ⟨i'+1+1,by omega,Nat.le_refl _,by go_num,on,Z,R,HK5,hrel2⟩
                     · have hk:=HK4.out
                       rw [if_neg (by have:=HF.out;rw [hft] at this;exact of_decide_eq_false this.symm)] at hk
                       have hfin:(4:Int)=r:=by rw [HR.out,if_pos (by rw [hk];simp),hk]
                       have HFI:=Lib.hid hfin
                       subst hft
                       clear hk HK4 HF hfin
                       go_wp2_with fail
                       go_ret
                       exact ⟨ret_int HFI.out,on⟩
                 · have hfin:q3=r:=by rw [HR.out,HK3.out,if_pos hq30,if_pos hq30]
                   have HF:=Lib.hid hfin
                   have hqd:(q3 !=0)=true:=by simpa using hq30
                   clear hfin hq30
                   go_wp2_with fail
                   go_ret
                   exact ⟨ret_int HF.out,on⟩
               · have hst:=HST.out
                 rw [if_pos (by simpa using hs)] at hst
                 have hfin:=rN_bad HR.out HK2.out (by rw [hst];simp)
                 rw [hst] at hfin
                 have HF:=Lib.hid hfin
                 have hsd:decide ((⟨U1.1.ep,U1.1.cells⟩:Uni)=⟨v.x.u.ep,v.x.u.cells⟩)=false:=by rw [decide_eq_false_iff_not];exact hs
                 rw [hsd]
                 clear hst hs hsd hfin
                 go_wp2_with fail
                 go_ret
                 exact ⟨ret_int HF.out,on.to bw⟩
             · have hst:=HST.out
               rw [if_pos hq20] at hst
               have hfin:=rN_bad HR.out HK2.out (by rw [hst];exact hq20)
               rw [hst] at hfin
               have HF:=Lib.hid hfin
               have hqd:(q2 !=0)=true:=by simpa using hq20
               clear hst hfin hq20 HST
               go_wp2_with fail
               go_ret
               exact ⟨ret_int HF.out,on.to bw⟩
        · have hst:=HST.out
          rw [if_pos hq0] at hst
          have hfin:=rN_bad HR.out HK2.out (by rw [hst];exact hq0)
          rw [hst] at hfin
          have HF:=Lib.hid hfin
          have hqd:(q !=0)=true:=by simpa using hq0
          clear hst hfin hq0 HST
          go_wp2_with fail
          go_ret
          exact ⟨ret_int HF.out,on⟩
      · obtain rfl:i=3:=by omega
        have hk:=HK.out
        rw [List.drop_eq_nil_of_le (by simp [HNL.out])] at hk
        have hr2:=HR.out
        rw [hk] at hr2
        have hr3:r=checkCls (nods ns) (clis cs):=by rw [hr2];simp [checkNs]
        have HR3:=Lib.hid hr3
        clear hk hr2 hr3 HK HR HN
        have z2:=Z.at_ 2 rfl
        have RK:=Lib.hid R
        have HL3:=HL
        clear HL
        go_wp2_with fail
        clear R z2
        go_loopg [11,12,109] 3 (fun g s11 s12 s109 wr=>∃ k:Nat,k≤3∧3 - k≤g∧s109=.int .i64 k∧Onto w wr∧Bx wr z [.slice A 3 c,.int .i64 tip,.slice C 3 d,.int .i64 time]∧WR wr A 3 C 3 ns cs∧Hid (r=checkCls (nods ns) ((clis cs).drop k)))
        case atStart=>exact ⟨0,by omega,by omega,rfl,on,Z,RK.out,HR3⟩
        case round =>
         clear Z on HR3 RK
         obtain ⟨i,hi,hgg,rfl,on,Z,R,HK⟩:=hrel
         by_cases hlt:i<3
         · obtain ⟨b,off,v,rfl,hb,hv,I,d0,d1,d2,d3,d4,d5,d6,d7,d8,d9,d10,d11⟩:=R.atC hlt
           have hvc:(clis cs)[i]?=some v.x:=by simp [clis,hv]
           have hk:=HK.out
           rw [checkCls_atR hvc] at hk
           obtain ⟨q,hq⟩:∃ q,q=checkCl v.x:=⟨_,rfl⟩
           rw [← hq] at hk
           have HK2:=Lib.hid hk;have HQ:=Lib.hid hq
           clear hk hv hvc hq HK
           go_upto_region 29 with fail
           refine wp_box1 (v1:=[.int .i64 v.x.epoch,.int .i64 v.x.doing,.int .i64 v.x.e.kind,.int .i64 v.x.e.job,.int .i64 v.x.e.every,.int .i64 v.x.e.time,.int .i64 v.x.e.client,.int .i64 v.x.at_,.int .i64 v.x.link,.int .i64 v.x.played,.slice v.A v.n v.c,.slice v.G v.m v.d]) rfl fun w2 ob V=>?_
           replace on:=on.to ob;replace Z:=Z.onto ob;replace R:=R.onto ob;replace I:=I.onto ob
           clear ob d0 d1 d2 d3 d4 d5 d6 d7 d8 d9 d10 d11 hb
           generalize wr.heap.size=zv at *
           have v0:=V.at_ 0 rfl;have v1:=V.at_ 1 rfl;have v2:=V.at_ 2 rfl;have v3:=V.at_ 3 rfl;have v4:=V.at_ 4 rfl;have v5:=V.at_ 5 rfl;have v6:=V.at_ 6 rfl;have v7:=V.at_ 7 rfl;have v8:=V.at_ 8 rfl;have v9:=V.at_ 9 rfl;have v10:=V.at_ 10 rfl;have v11:=V.at_ 11 rfl
           go_wp2_with fail
           refine Calls.mono (RClCheck_calls v.x.epoch v.x.doing v.x.at_ v.x.link v.x.played v.x.e v.A v.G v.n v.c v.m v.d v.x.b _ I.jobs I.rung) ?_
           rintro e w3 ⟨rfl,ob⟩
           rw [show checkCl ⟨v.x.epoch,v.x.doing,v.x.e,v.x.at_,v.x.link,v.x.played,v.x.b⟩=q from HQ.out.symm]
           replace on:=on.to ob;replace Z:=Z.onto ob;replace R:=R.onto ob;replace V:=V.onto ob
           clear ob v0 v1 v2 v3 v4 v5 v6 v7 v8 v9 v10 v11 I
           by_cases hq0:q=0
           · subst hq0
             have hk:=HK2.out
             rw [if_neg (by simp)] at hk
             have hok:=checkCl_iff.1 HQ.out.symm
             have HK3:=Lib.hid hk
             obtain ⟨⟨_,_,_,_,ha0,ha1,hl0,hl1,_,_⟩,_⟩:=hok
             clear hk HK2 HQ
             go_upto_region 32 with fail
             have z0:=Z.at_ 0 rfl
             have v1:=V.at_ 1 rfl;have v2:=V.at_ 2 rfl;have v3:=V.at_ 3 rfl;have v4:=V.at_ 4 rfl;have v5:=V.at_ 5 rfl;have v6:=V.at_ 6 rfl;have v7:=V.at_ 7 rfl;have v8:=V.at_ 8 rfl
             by_cases hdo:v.x.doing=2
             · by_cases hli:0<v.x.link
               · obtain ⟨l',hl'⟩:∃ l':Nat,v.x.link=((l'+1:Nat):Int):=⟨v.x.link.toNat - 1,by omega⟩
                 obtain ⟨a,ha⟩:∃ a:Nat,v.x.at_=(a:Int):=⟨v.x.at_.toNat,by omega⟩
                 obtain ⟨bn,on',u,rfl,hbn,hu,Iu,e0,e1,_⟩:=R.atN (i:=l') (by omega)
                 have hu60:=(HL3.out l' u (by omega) hu).1
                 have hcu:=Iu.cells
                 rw [hu60] at e1 hcu
                 obtain ⟨bc,oc,y,hA,hbc,hy,f0,f1,f2,f3,f4⟩:=hcu.atE (i:=a) (by omega)
                 have hcell:cellAt (nodAt (nods ns) (v.x.link.toNat - 1)).u.cells v.x.at_.toNat=y:=by
                  rw [hl',ha,show ((l'+1:Nat):Int).toNat - 1=l' by omega,show ((a:Nat):Int).toNat=a by omega,nodAt_eq (x:=u.x) (by simp [nods,hu])]
                  exact cellAt_eq hy
                 have HC:=Lib.hid hcell
                 have hk:=HK3.out
                 rw [HC.out] at hk
                 have HK4:=Lib.hid hk
                 rw [hdo] at v1;rw [ha] at v7;rw [hl'] at v8;rw [hA] at e1
                 have hl3:(l':Int)<3:=by omega
                 have ha6:(a:Int)<60:=by omega
                 have hg:decide (((l'+1:Nat):Int) > 0)=true:=by simp <;> omega
                 have hw1:IntKind.i64.wrap (l':Int)=(l':Int):=IntWalk.i64_in _ (by omega)
                 have HDO:=Lib.hid hdo;have HLI:=Lib.hid hli
                 clear hk HK3 hcell hy hu hcu Iu hu60 e0 hA hdo hl' ha hl0 hl1 ha0 ha1 hli
                 by_cases hye:y=v.x.e
                 · have hd2:(!(y.kind ==v.x.e.kind && y.job ==v.x.e.job && y.every ==v.x.e.every && y.time ==v.x.e.time && y.client ==v.x.e.client))=false:=by simp [hye]
                   have HK5:Hid (r=checkCls (nods ns) ((clis cs).drop (i+1))):=Lib.hid (by rw [HK4.out,if_neg (by simp [hye])])
                   clear hye HK4
                   go_quiet (fail)
                   go_wp2_with fail
                   go_roundg (3 - (i+1))
                   case measure=>omega
                   case rel=>exact ⟨i+1,by omega,Nat.le_refl _,by go_num,on.draws _,Z.draws _,R.onto ((Onto.rfl' _).draws _),HK5⟩
                 · have hd2:(!(y.kind ==v.x.e.kind && y.job ==v.x.e.job && y.every ==v.x.e.every && y.time ==v.x.e.time && y.client ==v.x.e.client))=true:=by
                    rw [entry_eq_iff] at hye
                    simp only [Bool.not_eq_true',Bool.and_eq_false_iff,beq_eq_false_iff_ne]
                    omega
                   have hfin:(4:Int)=r:=by rw [HK4.out,if_pos ⟨HDO.out,HLI.out,hye⟩]
                   have HF:=Lib.hid hfin
                   clear hye HK4 hfin
                   go_quiet (fail)
                   go_wp2_with fail
                   go_ret
                   exact ⟨ret_int HF.out,on.draws _⟩
               · have hl':v.x.link=0:=by omega
                 have HK5:Hid (r=checkCls (nods ns) ((clis cs).drop (i+1))):=Lib.hid (by rw [HK3.out,if_neg (by omega)])
                 rw [hdo] at v1;rw [hl'] at v8
                 clear HK3 hdo hli hl' hl0 hl1 ha0 ha1
                 go_quiet (fail)
                 go_wp2_with fail
                 go_roundg (3 - (i+1))
                 case measure=>omega
                 case rel=>exact ⟨i+1,by omega,Nat.le_refl _,by go_num,on.draws _,Z.draws _,R.onto ((Onto.rfl' _).draws _),HK5⟩
             · have hd:(v.x.doing ==2)=false:=by simpa using hdo
               have HK5:Hid (r=checkCls (nods ns) ((clis cs).drop (i+1))):=Lib.hid (by rw [HK3.out,if_neg (by omega)])
               clear HK3 hdo hl0 hl1 ha0 ha1
               go_quiet (fail)
               go_wp2_with fail
               go_roundg (3 - (i+1))
               case measure=>omega
               case rel=>exact ⟨i+1,by omega,Nat.le_refl _,by go_num,on.draws _,Z.draws _,R.onto ((Onto.rfl' _).draws _),HK5⟩
           · have hk:=HK2.out
             rw [if_pos hq0] at hk
             have HF:=Lib.hid hk.symm
             have hqd:(q !=0)=true:=by simpa using hq0
             clear hk HK2 hq0
             go_wp2_with fail
             go_ret
             exact ⟨ret_int HF.out,on⟩
         · obtain rfl:i=3:=by omega
           have hk:=HK.out
           rw [List.drop_eq_nil_of_le (by simp [HCL.out])] at hk
           have HF:Hid ((0:Int)=r):=Lib.hid (by rw [hk];rfl)
           clear hk HK R
           go_wp2_with fail
           go_ret
           exact ⟨ret_int HF.out,on⟩
 · have hr4:(4:Int)=r:=by rw [hr];unfold checkW;rw [if_pos (by simp [hnl,hcl];omega)]
   have HR:=Lib.hid hr4
   clear hr hr4 hnl hcl R
   by_cases hn:n=3
   · subst hn
     have hm:¬ ((m:Int)=3):=by omega
     have hm':((m:Int) !=3)=true:=by simp;omega
     clear h3
     go_enter Tryz.func7,Tryz.ntmps7
     go_wp2_with fail
     go_ret
     exact ⟨ret_int HR.out,by repeat (first | exact Onto.rfl' _ | refine Onto.new ?_ _)⟩
   · have hn':¬ ((n:Int)=3):=by omega
     have hn2:((n:Int) !=3)=true:=by simp;omega
     clear h3 hn
     go_enter Tryz.func7,Tryz.ntmps7
     go_wp2_with fail
     go_ret
     exact ⟨ret_int HR.out,by repeat (first | exact Onto.rfl' _ | refine Onto.new ?_ _)⟩
end
end Go.Proofs.YtidlffepdcldkaaGreatDoor
