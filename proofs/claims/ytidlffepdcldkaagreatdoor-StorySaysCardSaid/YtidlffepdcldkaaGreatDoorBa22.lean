/- Part 22 of the proof: WWrite, WTear, WHap, WPower, WOfUnit. -/
import Derived.Test.YtidlffepdcldkaaGreatDoorBa21
import Derived.Test.YtidlffepdcldkaaGreatDoorBa11
import Derived.Test.YtidlffepdcldkaaGreatDoorBa10
import Derived.Test.YtidlffepdcldkaaGreatDoorBa12
import Derived.Deep.RegionLaw
import Derived.Deep.DeepCutAuto
import Derived.Test.YtidlffepdcldkaaGreatDoorBa13
import Derived.Test.YtidlffepdcldkaaGreatDoorBa18
namespace Go.Proofs.YtidlffepdcldkaaGreatDoor
set_option linter.unusedSimpArgs false
set_option linter.unusedVariables false
section
open Go.RowKit
attribute [local go_sem ↓] Go.wp_at_zero Go.wp_at_succ
def NPost (w:World) (nb k:Nat) (rows:List (List Value)) (v:NV) (q:Nod × Int) (e:Ending) (w':World):Prop :=
 e=.returned (.int .i64 q.2)∧Turn w w' nb∧(q.2=0→∃ v',v'.x=q.1∧v'.In w'∧Rx w' nb (rows.set k (encN v'))∧∀ z,z<w.heap.size→v.off z→v'.off z)
theorem NPost.bad {w w':World} {nb k:Nat} {rows:List (List Value)} {v:NV} {q:Nod × Int} (h:q.2≠0) (on:Onto w w'):NPost w nb k rows v q (.returned (.int .i64 q.2)) w':=⟨rfl,Turn.of on nb,fun h'=>absurd h' h⟩
section
variable {w:World} {nb k:Nat} {rows:List (List Value)} {v:NV}
theorem NV.cells_at (B : Rx w nb rows) (hk : ∀ x ∈ rows, x.length = 5) (hr : rows[k]? = some (encN v)) :
    w.cell? ⟨nb,k*5,none⟩=some (.int .i64 v.x.u.ep)∧w.cell? ⟨nb,k*5+1,none⟩=some (.slice v.A v.n v.c)∧w.cell? ⟨nb,k*5+2,none⟩=some (.slice v.F v.k v.i)∧w.cell? ⟨nb,k*5+3,none⟩=some (.slice v.G v.l v.j)∧w.cell? ⟨nb,k*5+4,none⟩=some (.bool v.x.up) :=
 ⟨Rx.at_ B hk hr 0 rfl,Rx.at_ B hk hr 1 rfl,Rx.at_ B hk hr 2 rfl,Rx.at_ B hk hr 3 rfl,Rx.at_ B hk hr 4 rfl⟩
theorem DK.put1 {A A':Option Addr} {n c m d:Nat} {x:Dsk} {p:Addr} (h:DK w A n c A' m d x) (h1:OffN n p.block A) (h2:OffN m p.block A') (u:Value):DK (w.setCell p u) A n c A' m d x:=⟨S.off h.safe h1 u,S.off h.wait h2 u,h.n_le,h.c_le,h.m_le,h.d_le⟩
end
set_option maxHeartbeats 8000000 in
set_option maxRecDepth 100000 in
theorem NWrite_calls (v : NV) (r : Rec) (w : World) (E : Env w) (nb k : Nat) (rows : List (List Value)) (B : Rx w nb rows) (hk : ∀ x ∈ rows, x.length = 5) (hr : rows[k]? = some (encN v)) (I : v.In w) (of : v.off nb) :
    Calls Tryz.prog 106 #[.pointer (some ⟨nb,k*5,none⟩),.agg #[.int .i64 r.kind,.int .i64 r.at_,.int .i64 r.epoch,.int .i64 r.e.kind,.int .i64 r.e.job,.int .i64 r.e.every,.int .i64 r.e.time,.int .i64 r.e.client]] w (NPost w nb k rows v (writeN v.x r)):=by
 obtain ⟨N,hN⟩:∃ q,q=nextU v.x.u r:=⟨_,rfl⟩
 obtain ⟨P,hP⟩:∃ q,q=putK v.x.d r:=⟨_,rfl⟩
 obtain ⟨Y,hY⟩:∃ q,q=syncK P.1:=⟨_,rfl⟩
 obtain ⟨q,hq⟩:∃ q,q=writeN v.x r:=⟨_,rfl⟩
 rw [← hq]
 unfold writeN at hq
 rw [← hN,← hP,← hY] at hq
 have HN:=Lib.hid hN;have HP:=Lib.hid hP;have HY:=Lib.hid hY;have HQ:=Lib.hid hq;have HR:=Lib.hid hr;have HK:=Lib.hid hk
 clear hN hP hY hq hr hk
 have hnw:=Bx.lt B
 go_enter Tryz.func106,Tryz.ntmps106
 go_upto_region 1 with fail
 refine wp_box1 (v1:=[.int .i64 r.kind,.int .i64 r.at_,.int .i64 r.epoch,.int .i64 r.e.kind,.int .i64 r.e.job,.int .i64 r.e.every,.int .i64 r.e.time,.int .i64 r.e.client]) rfl fun w1 on R=>?_
 replace B:=Bx.onto B on;replace I:=I.onto on
 generalize hzr:w.heap.size=zr at R
 clear hzr
 obtain ⟨n0,n1,n2,n3,n4⟩:=NV.cells_at B HK.out HR.out
 have r0:=R.at_ 0 rfl;have r1:=R.at_ 1 rfl;have r2:=R.at_ 2 rfl;have r3:=R.at_ 3 rfl;have r4:=R.at_ 4 rfl;have r5:=R.at_ 5 rfl;have r6:=R.at_ 6 rfl;have r7:=R.at_ 7 rfl
 have hrl:=R.lt;have hnl:=Bx.lt B
 have hsz1:=on.size
 go_cut [5,6] (fun s5 s6 wx=>∃ (p:Nat) (A1:Option Addr) (k1 c1:Nat),s5=.pointer (some ⟨p,0,none⟩)∧s6=.int .i64 N.2∧Bx wx p [.int .i64 N.1.ep,.slice A1 k1 c1]∧S wx 5 A1 k1 (N.1.cells.map encE)∧Fresh w1.heap.size A1∧k1≤c1∧c1≤maxLen∧Onto w1 wx∧w1.heap.size≤p)
 case first =>
  go_region_law (first
   | (go_simp;go_at_call 82;refine Calls.mono (UNext_calls v.x.u.ep v.A v.n v.c v.x.u.cells r.kind r.at_ r.epoch r.e _ (I.cells.onto (by with_reducible (first | exact Onto.rfl' _ | exact (Onto.rfl' _).draw | exact ((Onto.rfl' _).new _).draw | exact ((Onto.rfl' _).draw).new _)))) ?_;rw [show nextU ⟨v.x.u.ep,v.x.u.cells⟩ ⟨r.kind,r.at_,r.epoch,r.e⟩=N from HN.out.symm];unfold UPost;rintro e w2 ⟨A1,k1,c1,rfl,s1,ob,hkc1,hcm1,f1⟩;have b:Onto w1 w2:=Onto.to (by with_reducible (first | exact Onto.rfl' _ | exact (Onto.rfl' _).draw | exact ((Onto.rfl' _).new _).draw | exact ((Onto.rfl' _).draw).new _)) ob;have f1':Fresh w1.heap.size A1:=fun a e=>Nat.le_trans (Onto.sz (by with_reducible (first | exact Onto.rfl' _ | exact (Onto.rfl' _).draw | exact ((Onto.rfl' _).new _).draw | exact ((Onto.rfl' _).draw).new _))) (f1 a e);(first | (have Z5:Bx w2 w1.heap.size [.int .i64 0,.slice none 0 0]:=Bx.onto (Bx.draw (Bx.made w1 #[.int .i64 0,.slice none 0 0] 51)) ob;have z50:=Z5.at_ 0 rfl;have z51:=Z5.at_ 1 rfl;have f50:=Z5.froz 0;have f51:=Z5.froz 1;have oz:OffN k1 w1.heap.size A1:=f1.offN (by simp)) | skip)))
  all_goals
   go_wp2_with fail
   go_meet
   first
    | exact ⟨_,A1,k1,c1,rfl,rfl,Bx.made _ _ _,s1.new _,f1',hkc1,hcm1,b.new _,b.size⟩
    | exact ⟨_,A1,k1,c1,rfl,rfl,(Z5.put1 (j:=0) (by simp) _).put1 (j:=1) (by simp) _,S.off (S.off s1 oz _) oz _,f1',hkc1,hcm1,(b.put (Nat.le_refl _) _).put (Nat.le_refl _) _,Nat.le_refl _⟩
 case rest =>
  obtain ⟨p,A1,k1,c1,rfl,rfl,U,s1,f1,hkc1,hcm1,b,hp1⟩:=hcut
  have hnp:nb≠p:=by omega
  replace B:=Bx.onto B b;replace I:=I.onto b;replace R:=R.onto b;replace on:=on.to b
  have f1w:Fresh w.heap.size A1:=fun a e=>Nat.le_trans (by have:=hsz1;omega) (f1 a e)
  clear b n0 n1 n2 n3 n4 r0 r1 r2 r3 r4 r5 r6 r7 hrl hnl f1
  by_cases h1:N.2=0
  · have hq:=HQ.out
    rw [if_neg (by simp [h1])] at hq
    replace HQ:=Lib.hid hq
    rw [h1]
    clear hq h1
    go_upto_region 4 with fail
    obtain ⟨n0,n1,n2,n3,n4⟩:=NV.cells_at B HK.out HR.out
    have r0:=R.at_ 0 rfl;have r1:=R.at_ 1 rfl;have r2:=R.at_ 2 rfl;have r3:=R.at_ 3 rfl;have r4:=R.at_ 4 rfl;have r5:=R.at_ 5 rfl;have r6:=R.at_ 6 rfl;have r7:=R.at_ 7 rfl
    have hrl:=R.lt;have hnl:=Bx.lt B
    generalize wc=w3 at *
    go_cut [6,7] (fun s6 s7 wx=>∃ (p:Nat) (F:Option Addr) (k i:Nat) (G:Option Addr) (l j:Nat),s7=.pointer (some ⟨p,0,none⟩)∧s6=.int .i64 P.2∧Bx wx p [.slice F k i,.slice G l j]∧DK wx F k i G l j P.1∧Onto w3 wx∧w3.heap.size≤p)
    case first =>
     go_region_law (first
      | (go_simp;go_at_call 128;refine Calls.mono (DPut_calls v.F v.G v.k v.i v.l v.j v.x.d r _ (E.onto (on.to (by with_reducible (first | exact Onto.rfl' _ | exact (Onto.rfl' _).draw | exact ((Onto.rfl' _).new _).draw | exact ((Onto.rfl' _).draw).new _)))) (I.disk.onto (by with_reducible (first | exact Onto.rfl' _ | exact (Onto.rfl' _).draw | exact ((Onto.rfl' _).new _).draw | exact ((Onto.rfl' _).draw).new _)))) ?_;rw [show putK v.x.d r=P from HP.out.symm];unfold DnPost;rintro e w4 ⟨F,k2,i,G,l,j,rfl,K2,fF,fG,ob⟩;have b:Onto w3 w4:=Onto.to (by with_reducible (first | exact Onto.rfl' _ | exact (Onto.rfl' _).draw | exact ((Onto.rfl' _).new _).draw | exact ((Onto.rfl' _).draw).new _)) ob;(first | (have Z5:Bx w4 w3.heap.size [.slice none 0 0,.slice none 0 0]:=Bx.onto (Bx.draw (Bx.made w3 #[.slice none 0 0,.slice none 0 0] 54)) ob;have z50:=Z5.at_ 0 rfl;have z51:=Z5.at_ 1 rfl;have f50:=Z5.froz 0;have f51:=Z5.froz 1;have oz:OffN k2 w3.heap.size F:=fF.offN (by simp);have oz':OffN l w3.heap.size G:=fG.offN (by simp)) | skip)))
     all_goals
      go_wp2_with fail
      go_meet
      first
       | exact ⟨_,F,k2,i,G,l,j,rfl,rfl,Bx.made _ _ _,K2.onto ((Onto.rfl' _).new _),b.new _,b.size⟩
       | exact ⟨_,F,k2,i,G,l,j,rfl,rfl,(Z5.put1 (j:=0) (by simp) _).put1 (j:=1) (by simp) _,(K2.put1 oz oz' _).put1 oz oz' _,(b.put (Nat.le_refl _) _).put (Nat.le_refl _) _,Nat.le_refl _⟩
    case rest =>
     obtain ⟨pd,F,k2,i,G,l,j,rfl,rfl,V,K2,b,hpd⟩:=hcut
     have hnpd:nb≠pd:=by omega
     have hppd:p≠pd:=by have:=U.lt;omega
     have hwpd:w.heap.size≤pd:=by have:=on.size;omega
     have fpd:Fresh w3.heap.size (some (⟨pd,0,none⟩:Addr)):=fun a e=>by injection e with e;subst e;exact hpd
     have o1:OffN k1 pd A1:=s1.offN hpd
     have oI:v.off pd:=I.away hpd
     replace B:=Bx.onto B b;replace I:=I.onto b;replace U:=U.onto b;replace s1:=s1.onto b;replace on:=on.to b
     clear b n0 n1 n2 n3 n4 r0 r1 r2 r3 r4 r5 r6 r7 hrl hnl R
     by_cases h2:P.2=0
     · have hq:=HQ.out
       rw [if_neg (by simp [h2])] at hq
       replace HQ:=Lib.hid hq
       rw [h2]
       clear hq h2
       go_upto_region 7 with fail
       generalize wc=w4 at *
       have v0:=V.at_ 0 rfl;have v1:=V.at_ 1 rfl
       go_wp2_with fail
       refine Calls.mono (DSync_calls F G k2 i l j P.1 _ (E.onto on) K2) ?_
       rw [show syncK P.1=Y from HY.out.symm]
       unfold DnPost
       rintro e w5 ⟨F3,k3,i3,G3,l3,j3,rfl,K3,fF,fG,b⟩
       have hvl:=V.lt
       have hnl:=Bx.lt B
       have fFw:Fresh w.heap.size F3:=fun a e=>Nat.le_trans on.size (fF a e)
       have fGw:Fresh w.heap.size G3:=fun a e=>Nat.le_trans on.size (fG a e)
       have oF:OffN k3 pd F3:=fF.offN hvl
       have oG:OffN l3 pd G3:=fG.offN hvl
       replace B:=Bx.onto B b;replace I:=I.onto b;replace U:=U.onto b;replace s1:=s1.onto b;replace on:=on.to b;replace V:=V.onto b
       clear b v0 v1 K2 fF fG
       go_upto_region 8 with (refine wpList_put V [.slice F3 k3 i3,.slice G3 l3 j3] 54 _ _ (by rfl) (by rfl) (by rfl) (by rfl) (by rfl) sizeD (by rfl) ?_)
       have V2:=V.put (us:=[.slice F3 k3 i3,.slice G3 l3 j3]) rfl
       have U2:=U.off (us:=[.slice F3 k3 i3,.slice G3 l3 j3]) (o:=0) hppd
       have B2:Rx (w5.setCells pd 0 [.slice F3 k3 i3,.slice G3 l3 j3]) nb rows:=Bx.off B hnpd
       have K4:=K3.puts (o:=0) (us:=[.slice F3 k3 i3,.slice G3 l3 j3]) oF oG
       have s2:=put_S (w:=w5) o1 (vs:=[.slice F3 k3 i3,.slice G3 l3 j3]) (o:=0) s1
       have on2:=Onto.puts (b:=pd) (o:=0) (us:=[.slice F3 k3 i3,.slice G3 l3 j3]) hwpd on
       clear B U V K3 s1 on I
       try change Code.wp _ _ _ _ (w5.setCells pd 0 [.slice F3 k3 i3,.slice G3 l3 j3])
       generalize w5.setCells pd 0 [.slice F3 k3 i3,.slice G3 l3 j3]=w6 at *
       by_cases h3:Y.2=0
       · have hq:=HQ.out
         rw [if_neg (by simp [h3])] at hq
         rw [h3]
         have HQ2:=Lib.hid hq
         clear hq HQ h3
         go_upto_region 10 with fail
         have u0:=U2.at_ 0 rfl;have u1:=U2.at_ 1 rfl;have v0:=V2.at_ 0 rfl;have v1:=V2.at_ 1 rfl
         obtain ⟨n0,n1,n2,n3,n4⟩:=NV.cells_at B2 HK.out HR.out
         have f0:=Bx.froz B2 (k*5);have f1:=Bx.froz B2 (k*5+1);have f2:=Bx.froz B2 (k*5+2);have f3:=Bx.froz B2 (k*5+3)
         go_region
         go_wp2_with fail
         refine bodyPost_ret (v:=.int .i64 0) (by simp [results,Tryz.results106,go_sem]) rfl ?_
         have hq:=HQ2.out
         subst hq
         have hkr:=(List.getElem?_eq_some_iff.1 HR.out).1
         have B3:Rx w6 nb (rows.set k (encN v)):=by rw [set_self HR.out];exact B2
         have B4:=Rx.cell1 (j:=0) B3 HK.out hkr rfl (by omega) (.int .i64 N.1.ep)
         have B5:=Rx.cell1 (j:=1) B4 HK.out hkr rfl (by omega) (.slice A1 k1 c1)
         have B6:=Rx.cell1 (j:=2) B5 HK.out hkr rfl (by omega) (.slice F3 k3 i3)
         have B7:=Rx.cell1 (j:=3) B6 HK.out hkr rfl (by omega) (.slice G3 l3 j3)
         have o1n:OffN k1 nb A1:=f1w.offN hnw
         have oFn:OffN k3 nb F3:=fFw.offN hnw
         have oGn:OffN l3 nb G3:=fGw.offN hnw
         have K5:=(((K4.put1 (p:=⟨nb,k*5,none⟩) oFn oGn (.int .i64 N.1.ep)).put1 (p:=⟨nb,k*5+1,none⟩) oFn oGn (.slice A1 k1 c1)).put1 (p:=⟨nb,k*5+2,none⟩) oFn oGn (.slice F3 k3 i3)).put1 (p:=⟨nb,k*5+2+1,none⟩) oFn oGn (.slice G3 l3 j3)
         exact ⟨rfl,((((((Turn.of on2 nb).put rfl _).put rfl _).put rfl _).put rfl _).onto ((Onto.rfl' _).draw)),fun _=>⟨⟨⟨N.1,Y.1,v.x.up⟩,A1,k1,c1,F3,k3,i3,G3,l3,j3⟩,rfl,
          ⟨S.off (S.off (S.off (S.off s2 o1n _) o1n _) o1n _) o1n _,K5.onto ((Onto.rfl' _).draw),hkc1,hcm1⟩,Bx.onto B7 ((Onto.rfl' _).draw),fun z hz _=>⟨f1w.offN hz,fFw.offN hz,fGw.offN hz⟩⟩⟩
       · have hq:=HQ.out
         rw [if_pos h3] at hq
         have HQ2:=Lib.hid hq
         have hd:(Y.2 !=0)=true:=by simpa using h3
         have h2':q.2≠0:=by rw [hq];exact h3
         clear hq HQ
         go_wp2_with fail
         go_ret
         have e2:Y.2=q.2:=by rw [HQ2.out]
         rw [e2]
         exact NPost.bad h2' on2
     · have hq:=HQ.out
       rw [if_pos h2] at hq
       have HQ2:=Lib.hid hq
       have hd:(P.2 !=0)=true:=by simpa using h2
       have h2':q.2≠0:=by rw [hq];exact h2
       clear hq HQ
       go_wp2_with fail
       go_ret
       have e2:P.2=q.2:=by rw [HQ2.out]
       rw [e2]
       exact NPost.bad h2' on
  · have hq:=HQ.out
    rw [if_pos h1] at hq
    have HQ2:=Lib.hid hq
    have hd:(N.2 !=0)=true:=by simpa using h1
    have h2':q.2≠0:=by rw [hq];exact h1
    clear hq HQ
    go_wp2_with fail
    go_ret
    have e2:N.2=q.2:=by rw [HQ2.out]
    rw [e2]
    exact NPost.bad h2' on
end
section
open Go.RowKit
attribute [local go_sem ↓] Go.wp_at_zero Go.wp_at_succ
end
section
open Go.RowKit
structure Aw (K w0 w:World) (z nb cb:Nat):Prop where
 on:Onto w0 w
 kp:Kp K w z nb cb
section
variable {K w0 w w':World} {z nb cb:Nat}
theorem Aw.to (h:Aw K w0 w z nb cb) (b:Onto w w'):Aw K w0 w' z nb cb:=⟨h.on.to b,h.kp.onto b⟩
theorem Aw.new (h:Aw K w0 w z nb cb) (o:Obj):Aw K w0 (w.alloc o) z nb cb:=h.to ((Onto.rfl' w).new o)
theorem Aw.draws (h:Aw K w0 w z nb cb) (q:Nat):Aw K w0 (w.drewN q) z nb cb:=h.to ((Onto.rfl' w).draws q)
theorem Aw.draw (h:Aw K w0 w z nb cb):Aw K w0 w.drew z nb cb:=h.to ((Onto.rfl' w).draw)
theorem Aw.upN (h:Aw K w0 w z nb cb) (t:Turn w w' nb) (hn:w0.heap.size≤nb):Aw K w0 w' z nb cb:=⟨Turn.up h.on t hn,h.kp.turn t (.inr (.inl rfl))⟩
end
def HPost (K w0:World) (z nb cN cb cC:Nat) (q:Wor × Int) (e:Ending) (w':World):Prop :=
 e=.returned (.int .i64 q.2)∧Aw K w0 w' z nb cb∧(q.2=0→∃ ns cs,WM K w0 w' z nb cN cb cC ns q.1.tip cs q.1.time∧nods ns=q.1.n∧clis cs=q.1.c)
section
variable {K w0 w w':World} {z nb cN cb cC k:Nat} {ns:List NV} {cs:List CV} {tip time:Int} {q:Wor × Int}
theorem HPost.bad (h:q.2≠0) (on:Aw K w0 w' z nb cb):HPost K w0 z nb cN cb cC q (.returned (.int .i64 q.2)) w':=⟨rfl,on,fun h'=>absurd h' h⟩
theorem HPost.bad' {e:Int} (he:e=q.2) (h:q.2≠0) (on:Aw K w0 w' z nb cb):HPost K w0 z nb cN cb cC q (.returned (.int .i64 e)) w':=he ▸ HPost.bad h on
theorem WM.aw (h:WM K w0 w z nb cN cb cC ns tip cs time):Aw K w0 w z nb cb:=⟨h.f.on,h.kp⟩
theorem WM.onAll (h:WM K w0 w z nb cN cb cC ns tip cs time):Onto w0 w:=h.f.on
theorem WM.nextN (h:WM K w0 w z nb cN cb cC ns tip cs time) {v:NV} (t:Turn w w' nb) (hr:Rx w' nb ((ns.map encN).set k (encN v))) (hi:v.In w') (h1:v.off nb) (h2:v.off cb) (h3:v.off z) (h4:∀ b,b<w0.heap.size→v.off b):WM K w0 w' z nb cN cb cC (ns.set k v) tip cs time :=
 h.setN t (by rw [List.map_set];exact hr) ⟨hi,h1,h2⟩ h3 h4
theorem WM.nextC (h:WM K w0 w z nb cN cb cC ns tip cs time) {v:CV} (t:Turn w w' cb) (hr:Rx w' cb ((cs.map encC).set k (encC v))) (hi:v.In w') (h1:v.off nb) (h2:v.off cb) (h3:v.off z) (h4:∀ b,b<w0.heap.size→v.off b):WM K w0 w' z nb cN cb cC ns tip (cs.set k v) time :=
 h.setC t (by rw [List.map_set];exact hr) ⟨hi,h1,h2⟩ h3 h4
theorem HPost.ok (h:WM K w0 w z nb cN cb cC ns tip cs time) (hq:q=(wor ns tip cs time,0)):HPost K w0 z nb cN cb cC q (.returned (.int .i64 0)) w:=by
 subst hq
 exact ⟨rfl,h.aw,fun _=>⟨ns,cs,h,rfl,rfl⟩⟩
theorem wor_setN {v:NV}:setN (wor ns tip cs time) k v.x=wor (ns.set k v) tip cs time:=by simp [setN,wor,nods,List.map_set]
theorem wor_setC {v:CV}:setC (wor ns tip cs time) k v.x=wor ns tip (cs.set k v) time:=by simp [setC,wor,clis,List.map_set]
theorem WM.lts (h:WM K w0 w z nb cN cb cC ns tip cs time):z<w.heap.size∧nb<w.heap.size∧cb<w.heap.size:=⟨h.bx.lt,Bx.lt h.f.nr,Bx.lt h.f.cr⟩
theorem nodAt_ns {v:NV} (h:ns[k]?=some v):nodAt (nods ns) k=v.x:=nodAt_eq (by simp [nods,h])
theorem cliAt_cs {v:CV} (h:cs[k]?=some v):cliAt (clis cs) k=v.x:=cliAt_eq (by simp [clis,h])
theorem row_ns {v:NV} (h:ns[k]?=some v):(ns.map encN)[k]?=some (encN v):=by simp [h]
theorem row_cs {v:CV} (h:cs[k]?=some v):(cs.map encC)[k]?=some (encC v):=by simp [h]
end
end
section
open Go.RowKit
attribute [local go_sem ↓] Go.wp_at_zero Go.wp_at_succ
end
section
open Go.RowKit
attribute [local go_sem ↓] Go.wp_at_zero Go.wp_at_succ
theorem sizeCl:(Tryz.prog.info? 66).map (·.size)=some 12:=by kernel_rfl
/-! A client is stored whole:one step. -/
def stCl (p v:Value):Sem Unit:=Instr.storeAt 66 p v
theorem stCl_eq (p v:Value):Instr.storeAt 66 p v=stCl p v:=rfl
theorem run_stCl {w : World} {z o : Nat} {a b c d e f g h i j : Int} {A A' : Option Addr} {n m k l : Nat} (ht : w.there z o 12) :
    (stCl (.pointer (some ⟨z,o,none⟩)) (.agg #[.int .i64 a,.int .i64 b,.int .i64 c,.int .i64 d,.int .i64 e,.int .i64 f,.int .i64 g,.int .i64 h,.int .i64 i,.int .i64 j,.slice A n k,.slice A' m l])).run Tryz.prog w =
     .ok () (w.setCells z o [.int .i64 a,.int .i64 b,.int .i64 c,.int .i64 d,.int .i64 e,.int .i64 f,.int .i64 g,.int .i64 h,.int .i64 i,.int .i64 j,.slice A n k,.slice A' m l]) :=
 run_storeAt_mid (P:=Tryz.prog) w z o 66 _ ht sizeCl (all_oneCell_toArray (List.all_eq_true.1 rfl))
theorem there_cl {w:World} {cs:Array Value} {t:TypeId} (h:12≤cs.size):(w.alloc (.cells cs t)).there w.heap.size 0 12:=(Bx.made w cs t).there (by simpa using h)
theorem there_cl0 {w:World} {t:TypeId}:(w.alloc (.cells #[.int .i64 0,.int .i64 0,.int .i64 0,.int .i64 0,.int .i64 0,.int .i64 0,.int .i64 0,.int .i64 0,.int .i64 0,.int .i64 0,.slice none 0 0,.slice none 0 0] t)).there w.heap.size 0 12:=there_cl (by simp)
theorem there_clW (w:World) {t:TypeId}:(w.alloc (.cells #[.int .i64 0,.int .i64 0,.int .i64 0,.int .i64 0,.int .i64 0,.int .i64 0,.int .i64 0,.int .i64 0,.int .i64 0,.int .i64 0,.slice none 0 0,.slice none 0 0] t)).there w.heap.size 0 12=True:=eq_true there_cl0
theorem CV.cells_at {w : World} {cb k : Nat} {rows : List (List Value)} {c : CV} (B : Rx w cb rows) (hk : ∀ x ∈ rows, x.length = 12) (hr : rows[k]? = some (encC c)) :
    w.cell? ⟨cb,k*12,none⟩=some (.int .i64 c.x.epoch)∧w.cell? ⟨cb,k*12+1,none⟩=some (.int .i64 c.x.doing)∧w.cell? ⟨cb,k*12+2,none⟩=some (.int .i64 c.x.e.kind)∧w.cell? ⟨cb,k*12+3,none⟩=some (.int .i64 c.x.e.job)∧w.cell? ⟨cb,k*12+4,none⟩=some (.int .i64 c.x.e.every)∧w.cell? ⟨cb,k*12+5,none⟩=some (.int .i64 c.x.e.time)∧w.cell? ⟨cb,k*12+6,none⟩=some (.int .i64 c.x.e.client)∧w.cell? ⟨cb,k*12+7,none⟩=some (.int .i64 c.x.at_)∧w.cell? ⟨cb,k*12+8,none⟩=some (.int .i64 c.x.link)∧w.cell? ⟨cb,k*12+9,none⟩=some (.int .i64 c.x.played)∧w.cell? ⟨cb,k*12+10,none⟩=some (.slice c.A c.n c.c)∧w.cell? ⟨cb,k*12+11,none⟩=some (.slice c.G c.m c.d) :=
 ⟨Rx.at_ B hk hr 0 rfl,Rx.at_ B hk hr 1 rfl,Rx.at_ B hk hr 2 rfl,Rx.at_ B hk hr 3 rfl,Rx.at_ B hk hr 4 rfl,Rx.at_ B hk hr 5 rfl,Rx.at_ B hk hr 6 rfl,Rx.at_ B hk hr 7 rfl,Rx.at_ B hk hr 8 rfl,Rx.at_ B hk hr 9 rfl,Rx.at_ B hk hr 10 rfl,Rx.at_ B hk hr 11 rfl⟩
theorem WM.storeC {K w0 w:World} {z nb cN cb cC k:Nat} {ns:List NV} {cs:List CV} {tip time:Int} {c v:CV} (h:WM K w0 w z nb cN cb cC ns tip cs time) (hc:cs[k]?=some c) (hi:v.In w) (h1:v.off nb) (h2:v.off cb) (h3:v.off z) (h4:∀ b,b<w0.heap.size→v.off b) {us:List Value} (hu:us=encC v):WM K w0 (w.setCells cb (k*12) us) z nb cN cb cC ns tip (cs.set k v) time:=by
 subst hu
 exact h.nextC ((Turn.rfl' _ cb).puts) (Rx.put h.f.cr (encC_len cs) (row_cs hc) rfl) (hi.puts h2) h1 h2 h3 h4
attribute [local go_sem ↓] stCl_eq
attribute [local go_sem] run_stCl there_clW
end
end Go.Proofs.YtidlffepdcldkaaGreatDoor
