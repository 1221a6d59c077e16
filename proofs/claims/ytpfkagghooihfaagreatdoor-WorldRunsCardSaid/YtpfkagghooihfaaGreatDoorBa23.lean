/- Part 23. -/
import Derived.Test.YtpfkagghooihfaaGreatDoorBa19
import Derived.Test.YtpfkagghooihfaaGreatDoorBa20
namespace Go.Proofs.YtpfkagghooihfaaGreatDoor
set_option linter.unusedSimpArgs false
set_option linter.unusedVariables false
set_option maxHeartbeats 8000000
set_option maxRecDepth 100000
open Go.Proofs.Tryz
open Go.RowKit
section
attribute [local go_sem ↓] Go.wp_at_zero Go.wp_at_succ
def lQ (w:World)(nb k:Nat)(rows:List (List Value))(v:NV)(q:iC×Int)(e:Ending)(w':World):Prop :=
 e=.returned (.int .i64 q.2)∧aK w w' nb∧(q.2=0→∃v',v'.x=q.1∧v'.In w'∧Rx w' nb (rows.set k (bW v'))∧∀z,z<w.heap.size→v.off z→v'.off z)
theorem lQ.bad {w w':World}{nb k:Nat}{rows:List (List Value)}{v:NV}{q:iC×Int}(h:q.2≠0)(on:aA w w'):lQ w nb k rows v q (.returned (.int .i64 q.2)) w':=⟨rfl,aK.of on nb,fun h'=>absurd h' h⟩
section
variable {w:World}{nb k:Nat}{rows:List (List Value)}{v:NV}
theorem NV.Zu (B : Rx w nb rows)(hk : ∀x ∈ rows, x.length = 5)(hr : rows[k]? = some (bW v)) :
    w.cell? ⟨nb,k*5,none⟩=some (.int .i64 v.x.u.ep)∧w.cell? ⟨nb,k*5+1,none⟩=some (.slice v.A v.n v.c)∧w.cell? ⟨nb,k*5+2,none⟩=some (.slice v.F v.k v.i)∧w.cell? ⟨nb,k*5+3,none⟩=some (.slice v.G v.l v.j)∧w.cell? ⟨nb,k*5+4,none⟩=some (.bool v.x.up) :=
 ⟨Rx.at_ B hk hr 0 rfl,Rx.at_ B hk hr 1 rfl,Rx.at_ B hk hr 2 rfl,Rx.at_ B hk hr 3 rfl,Rx.at_ B hk hr 4 rfl⟩
theorem DK.Zq {A A':Option Addr}{n c m d:Nat}{x:iM}{p:Addr}(h:DK w A n c A' m d x)(h1:bQ n p.block A)(h2:bQ m p.block A')(u:Value):DK (w.setCell p u) A n c A' m d x:=⟨S.off h.safe h1 u,S.off h.wait h2 u,h.n_le,h.c_le,h.m_le,h.d_le⟩
end
theorem nC (v : NV)(r : dI)(w : World)(E : fR w)(nb k : Nat)(rows : List (List Value))(B : Rx w nb rows)(hk : ∀x ∈ rows, x.length = 5)(hr : rows[k]? = some (bW v))(I : v.In w)(of : v.off nb) :
    Calls prog 106 #[.pointer (some ⟨nb,k*5,none⟩),.agg #[r.kind,r.at_,r.epoch,r.e.kind,r.e.job,r.e.every,r.e.time,r.e.client]] w (lQ w nb k rows v (cT v.x r)):=by
 obtain⟨N,hN⟩:∃q,q=bU v.x.u r:=⟨_,rfl⟩
 obtain⟨P,hP⟩:∃q,q=fH v.x.d r:=⟨_,rfl⟩
 obtain⟨Y,hY⟩:∃q,q=lL P.1:=⟨_,rfl⟩
 obtain⟨q,hq⟩:∃q,q=cT v.x r:=⟨_,rfl⟩
 rw[←hq];unfold cT at hq;rw[←hN,←hP,←hY]at hq;have HN:=aH hN;have HP:=aH hP;have HY:=aH hY;have HQ:=aH hq;have HR:=aH hr;have HK:=aH hk;clear hN hP hY hq hr hk;have hnw:=Bx.lt B;go_enter func106,ntmps106;go_upto_region 1 with fail
 refine aW (v1:=[r.kind,r.at_,r.epoch,r.e.kind,r.e.job,r.e.every,r.e.time,r.e.client]) rfl fun w1 on R=>?_
 replace B:=Bx.oe B on;replace I:=I.oe on;generalize hzr:w.heap.size=zr at R;clear hzr;obtain⟨n0,n1,n2,n3,n4⟩:=NV.Zu B HK.out HR.out;obtain⟨r0,r1,r2,r3,r4,r5,r6,r7⟩:=R.p8;have hrl:=R.lt;have hnl:=Bx.lt B;have hsz1:=on.size;go_cut [5,6] (fun s5 s6 wx=>∃ (p:Nat) (A1:Option Addr) (k1 c1:Nat),s5=.pointer (some ⟨p,0,none⟩)∧s6=.int .i64 N.2∧Bx wx p [N.1.ep,.slice A1 k1 c1]∧S wx 5 A1 k1 (N.1.cells.map bA)∧aR w1.heap.size A1∧k1≤c1∧c1≤maxLen∧aA w1 wx∧w1.heap.size≤p)
 case first =>
  go_region_law (first
   | (go_simp;go_at_call 116;refine Calls.mono (uS v.x.u.ep v.A v.n v.c v.x.u.cells r.kind r.at_ r.epoch r.e _ (I.cells.oe (by with_reducible(first|exact aA.Zz _|exact(aA.Zz _).draw|exact((aA.Zz _).new _).draw|exact((aA.Zz _).draw).new _)))) ?_;rw[show bU ⟨v.x.u.ep,v.x.u.cells⟩ ⟨r.kind,r.at_,r.epoch,r.e⟩=N from HN.out.symm];unfold OJ;rintro e w2⟨A1,k1,c1,rfl,s1,ob,hkc1,hcm1,f1⟩;have b:aA w1 w2:=aA.to (by with_reducible(first|exact aA.Zz _|exact(aA.Zz _).draw|exact((aA.Zz _).new _).draw|exact((aA.Zz _).draw).new _)) ob;have f1':aR w1.heap.size A1:=fun a e=>Nat.le_trans (aA.sz (by with_reducible(first|exact aA.Zz _|exact(aA.Zz _).draw|exact((aA.Zz _).new _).draw|exact((aA.Zz _).draw).new _))) (f1 a e);(first| (have Z5:Bx w2 w1.heap.size [(),Nat]:=Bx.oe (Bx.draw (Bx.Zt w1 #[(),Nat] 50)) ob;obtain⟨z50,z51⟩:=Z5.p2;have f50:=Z5.Zy 0;have f51:=Z5.Zy 1;have oz:bQ k1 w1.heap.size A1:=f1.Zx (by simp))|skip)))
  all_goals
   go_wp2_with fail;go_meet
   first
    |exact⟨_,A1,k1,c1,rfl,rfl,Bx.Zt _ _ _,s1.new _,f1',hkc1,hcm1,b.new _,b.size⟩
    |exact⟨_,A1,k1,c1,rfl,rfl,(Z5.Zq (j:=0) (by simp) _).Zq (j:=1) (by simp) _,S.off (S.off s1 oz _) oz _,f1',hkc1,hcm1,(b.put (Nat.le_refl _) _).put (Nat.le_refl _) _,Nat.le_refl _⟩
 case rest =>
  obtain⟨p,A1,k1,c1,rfl,rfl,U,s1,f1,hkc1,hcm1,b,hp1⟩:=hcut;have hnp:nb≠p:=by omega
  replace B:=Bx.oe B b;replace I:=I.oe b;replace R:=R.oe b;replace on:=on.to b;have f1w:aR w.heap.size A1:=fun a e=>Nat.le_trans (by have:=hsz1;omega) (f1 a e)
  clear b n0 n1 n2 n3 n4 r0 r1 r2 r3 r4 r5 r6 r7 hrl hnl f1;by_cases h1:N.2=0
  · have hq:=HQ.out;rw[if_neg (by simp[h1])]at hq;replace HQ:=aH hq;rw[h1];clear hq h1;go_upto_region 4 with fail
    obtain⟨n0,n1,n2,n3,n4⟩:=NV.Zu B HK.out HR.out;obtain⟨r0,r1,r2,r3,r4,r5,r6,r7⟩:=R.p8;have hrl:=R.lt;have hnl:=Bx.lt B;generalize wc=w3 at *;go_cut [6,7] (fun s6 s7 wx=>∃ (p:Nat) (F:Option Addr) (k i:Nat) (G:Option Addr) (l j:Nat),s7=.pointer (some ⟨p,0,none⟩)∧s6=.int .i64 P.2∧Bx wx p [.slice F k i,.slice G l j]∧DK wx F k i G l j P.1∧aA w3 wx∧w3.heap.size≤p)
    case first =>
     go_region_law (first
      | (go_simp;go_at_call 132;refine Calls.mono (xR v.F v.G v.k v.i v.l v.j v.x.d r _ (E.oe (on.to (by with_reducible(first|exact aA.Zz _|exact(aA.Zz _).draw|exact((aA.Zz _).new _).draw|exact((aA.Zz _).draw).new _)))) (I.disk.oe (by with_reducible(first|exact aA.Zz _|exact(aA.Zz _).draw|exact((aA.Zz _).new _).draw|exact((aA.Zz _).draw).new _)))) ?_;rw[show fH v.x.d r=P from HP.out.symm];unfold gJ;rintro e w4⟨F,k2,i,G,l,j,rfl,K2,fF,fG,ob⟩;have b:aA w3 w4:=aA.to (by with_reducible(first|exact aA.Zz _|exact(aA.Zz _).draw|exact((aA.Zz _).new _).draw|exact((aA.Zz _).draw).new _)) ob;(first| (have Z5:Bx w4 w3.heap.size [Nat,Nat]:=Bx.oe (Bx.draw (Bx.Zt w3 #[Nat,Nat] 53)) ob;obtain⟨z50,z51⟩:=Z5.p2;have f50:=Z5.Zy 0;have f51:=Z5.Zy 1;have oz:bQ k2 w3.heap.size F:=fF.Zx (by simp);have oz':bQ l w3.heap.size G:=fG.Zx (by simp))|skip)))
     all_goals
      go_wp2_with fail;go_meet
      first
       |exact⟨_,F,k2,i,G,l,j,rfl,rfl,Bx.Zt _ _ _,K2.oe ((aA.Zz _).new _),b.new _,b.size⟩
       |exact⟨_,F,k2,i,G,l,j,rfl,rfl,(Z5.Zq (j:=0) (by simp) _).Zq (j:=1) (by simp) _,(K2.Zq oz oz' _).Zq oz oz' _,(b.put (Nat.le_refl _) _).put (Nat.le_refl _) _,Nat.le_refl _⟩
    case rest =>
     obtain⟨pd,F,k2,i,G,l,j,rfl,rfl,V,K2,b,hpd⟩:=hcut;have hnpd:nb≠pd:=by omega
     have hppd:p≠pd:=by have:=U.lt;omega
     have hwpd:w.heap.size≤pd:=by have:=on.size;omega
     have fpd:aR w3.heap.size (some (⟨pd,0,none⟩:Addr)):=fun a e=>by injection e with e;subst e;exact hpd
     have o1:bQ k1 pd A1:=s1.Zx hpd;have oI:v.off pd:=I.Zn hpd;replace B:=Bx.oe B b;replace I:=I.oe b;replace U:=U.oe b;replace s1:=s1.oe b;replace on:=on.to b;clear b n0 n1 n2 n3 n4 r0 r1 r2 r3 r4 r5 r6 r7 hrl hnl R;by_cases h2:P.2=0
     · have hq:=HQ.out;rw[if_neg (by simp[h2])]at hq;replace HQ:=aH hq;rw[h2];clear hq h2;go_upto_region 7 with fail
       generalize wc=w4 at *;obtain⟨v0,v1⟩:=V.p2;go_wp2_with fail;refine Calls.mono (FK F G k2 i l j P.1 _ (E.oe on) K2) ?_;rw[show lL P.1=Y from HY.out.symm];unfold gJ;rintro e w5⟨F3,k3,i3,G3,l3,j3,rfl,K3,fF,fG,b⟩;have hvl:=V.lt;have hnl:=Bx.lt B;have fFw:aR w.heap.size F3:=fun a e=>Nat.le_trans on.size (fF a e)
       have fGw:aR w.heap.size G3:=fun a e=>Nat.le_trans on.size (fG a e)
       have oF:bQ k3 pd F3:=fF.Zx hvl;have oG:bQ l3 pd G3:=fG.Zx hvl;replace B:=Bx.oe B b;replace I:=I.oe b;replace U:=U.oe b;replace s1:=s1.oe b;replace on:=on.to b;replace V:=V.oe b;clear b v0 v1 K2 fF fG;go_upto_region 8 with (refine pU V [.slice F3 k3 i3,.slice G3 l3 j3] 53 iY ?_)
       have V2:=V.put (us:=[.slice F3 k3 i3,.slice G3 l3 j3]) rfl;have U2:=U.off (us:=[.slice F3 k3 i3,.slice G3 l3 j3]) (o:=0) hppd;have B2:Rx (w5.setCells pd 0 [.slice F3 k3 i3,.slice G3 l3 j3]) nb rows:=Bx.off B hnpd;have K4:=K3.Zw (o:=0) (us:=[.slice F3 k3 i3,.slice G3 l3 j3]) oF oG;have s2:=dM (w:=w5) o1 (vs:=[.slice F3 k3 i3,.slice G3 l3 j3]) (o:=0) s1;have on2:=aA.Zw (b:=pd) (o:=0) (us:=[.slice F3 k3 i3,.slice G3 l3 j3]) hwpd on;clear B U V K3 s1 on I
       try change Code.wp _ _ _ _ (w5.setCells pd 0 [.slice F3 k3 i3,.slice G3 l3 j3])
       generalize w5.setCells pd 0 [.slice F3 k3 i3,.slice G3 l3 j3]=w6 at *;by_cases h3:Y.2=0
       · have hq:=HQ.out;rw[if_neg (by simp[h3])]at hq;rw[h3];have HQ2:=aH hq;clear hq HQ h3;go_upto_region 10 with fail
         obtain⟨u0,u1⟩:=U2.p2;obtain⟨v0,v1⟩:=V2.p2;obtain⟨n0,n1,n2,n3,n4⟩:=NV.Zu B2 HK.out HR.out;have f0:=Bx.Zy B2 (k*5);have f1:=Bx.Zy B2 (k*5+1);have f2:=Bx.Zy B2 (k*5+2);have f3:=Bx.Zy B2 (k*5+3);go_region;go_wp2_with fail;refine bodyPost_ret (v:=.int .i64 0) (by simp[results,results106,go_sem]) rfl ?_;have hq:=HQ2.out;subst hq;have hkr:=(List.getElem?_eq_some_iff.1 HR.out).1;have B3:Rx w6 nb (rows.set k (bW v)):=by rw[mU HR.out];exact B2
         have B4:=Rx.cell1 (j:=0) B3 HK.out hkr rfl (by omega) (.int .i64 N.1.ep);have B5:=Rx.cell1 (j:=1) B4 HK.out hkr rfl (by omega) (.slice A1 k1 c1);have B6:=Rx.cell1 (j:=2) B5 HK.out hkr rfl (by omega) (.slice F3 k3 i3);have B7:=Rx.cell1 (j:=3) B6 HK.out hkr rfl (by omega) (.slice G3 l3 j3);have o1n:bQ k1 nb A1:=f1w.Zx hnw;have oFn:bQ k3 nb F3:=fFw.Zx hnw;have oGn:bQ l3 nb G3:=fGw.Zx hnw;have K5:=(((K4.Zq (p:=⟨nb,k*5,none⟩) oFn oGn (.int .i64 N.1.ep)).Zq (p:=⟨nb,k*5+1,none⟩) oFn oGn (.slice A1 k1 c1)).Zq (p:=⟨nb,k*5+2,none⟩) oFn oGn (.slice F3 k3 i3)).Zq (p:=⟨nb,k*5+2+1,none⟩) oFn oGn (.slice G3 l3 j3)
         exact⟨rfl,((((((aK.of on2 nb).put rfl _).put rfl _).put rfl _).put rfl _).oe ((aA.Zz _).draw)),fun _=>⟨⟨⟨N.1,Y.1,v.x.up⟩,A1,k1,c1,F3,k3,i3,G3,l3,j3⟩,rfl,
          ⟨S.off (S.off (S.off (S.off s2 o1n _) o1n _) o1n _) o1n _,K5.oe ((aA.Zz _).draw),hkc1,hcm1⟩,Bx.oe B7 ((aA.Zz _).draw),fun z hz _=>⟨f1w.Zx hz,fFw.Zx hz,fGw.Zx hz⟩⟩⟩
       have hq:=HQ.out;rw[if_pos h3]at hq;have HQ2:=aH hq;have hd:(Y.2 !=0)=true:=by simpa using h3
       have h2':q.2≠0:=by rw[hq];exact h3
       clear hq HQ;go_wp2_with fail;go_ret;have e2:Y.2=q.2:=by rw[HQ2.out]
       rw[e2];exact lQ.bad h2' on2
     have hq:=HQ.out;rw[if_pos h2]at hq;have HQ2:=aH hq;have hd:(P.2 !=0)=true:=by simpa using h2
     have h2':q.2≠0:=by rw[hq];exact h2
     clear hq HQ;go_wp2_with fail;go_ret;have e2:P.2=q.2:=by rw[HQ2.out]
     rw[e2];exact lQ.bad h2' on
  have hq:=HQ.out;rw[if_pos h1]at hq;have HQ2:=aH hq;have hd:(N.2 !=0)=true:=by simpa using h1
  have h2':q.2≠0:=by rw[hq];exact h1
  clear hq HQ;go_wp2_with fail;go_ret;have e2:N.2=q.2:=by rw[HQ2.out]
  rw[e2];exact lQ.bad h2' on
end
section
attribute [local go_sem ↓] Go.wp_at_zero Go.wp_at_succ
theorem DG (v : NV)(r : dI)(x : Int)(w : World)(E : fR w)(nb k : Nat)(rows : List (List Value))(B : Rx w nb rows)(hk : ∀x ∈ rows, x.length = 5)(hr : rows[k]? = some (bW v))(I : v.In w)(of : v.off nb) :
    Calls prog 126 #[.pointer (some ⟨nb,k*5,none⟩),.agg #[r.kind,r.at_,r.epoch,r.e.kind,r.e.job,r.e.every,r.e.time,r.e.client],x] w (lQ w nb k rows v (iH v.x r x)):=by
 obtain⟨P,hP⟩:∃q,q=fH v.x.d r:=⟨_,rfl⟩
 obtain⟨Y,hY⟩:∃q,q=kQ P.1 (kL P.1 x):=⟨_,rfl⟩
 obtain⟨q,hq⟩:∃q,q=iH v.x r x:=⟨_,rfl⟩
 rw[←hq];unfold iH at hq;rw[←hP,←hY]at hq;have HP:=aH hP;have HY:=aH hY;have HQ:=aH hq;have HR:=aH hr;have HK:=aH hk;clear hP hY hq hr hk;have hnw:=Bx.lt B;go_enter func126,ntmps126;go_upto_region 1 with fail
 refine aW (v1:=[r.kind,r.at_,r.epoch,r.e.kind,r.e.job,r.e.every,r.e.time,r.e.client]) rfl fun w1 on R=>?_
 replace B:=Bx.oe B on;replace I:=I.oe on;have hsz1:=on.size;generalize hzr:w.heap.size=zr at R;clear hzr;have r0:=R.at_ 0 rfl;by_cases h0:r.kind=0
 · have hq:=HQ.out;rw[if_pos h0]at hq;have HQ2:=aH hq;have hd:(r.kind ==0)=true:=by simpa using h0
   have h2':q.2≠0:=by rw[hq];simp
   clear hq HQ;go_wp2_with fail;go_ret;have e2:(6:Int)=q.2:=by rw[HQ2.out]
   rw[e2];exact lQ.bad h2' on
 have hq:=HQ.out;rw[if_neg h0]at hq;replace HQ:=aH hq;have hd:(r.kind ==0)=false:=by simpa using h0
 clear hq;go_upto_region 3 with fail
 clear hd h0 r0;obtain⟨n0,n1,n2,n3,n4⟩:=NV.Zu B HK.out HR.out;obtain⟨r0,r1,r2,r3,r4,r5,r6,r7⟩:=R.p8;have hrl:=R.lt;have hnl:=Bx.lt B;go_cut [7,8] (fun s7 s8 wx=>∃ (p:Nat) (F:Option Addr) (k i:Nat) (G:Option Addr) (l j:Nat),s7=.pointer (some ⟨p,0,none⟩)∧s8=.int .i64 P.2∧Bx wx p [.slice F k i,.slice G l j]∧DK wx F k i G l j P.1∧aA w1 wx∧w1.heap.size≤p)
 case first =>
  go_region_law (first
   | (go_simp;go_at_call 132;refine Calls.mono (xR v.F v.G v.k v.i v.l v.j v.x.d r _ (E.oe (on.to (by with_reducible(first|exact aA.Zz _|exact(aA.Zz _).draw|exact((aA.Zz _).new _).draw|exact((aA.Zz _).draw).new _)))) (I.disk.oe (by with_reducible(first|exact aA.Zz _|exact(aA.Zz _).draw|exact((aA.Zz _).new _).draw|exact((aA.Zz _).draw).new _)))) ?_;rw[show fH v.x.d r=P from HP.out.symm];unfold gJ;rintro e w4⟨F,k2,i,G,l,j,rfl,K2,fF,fG,ob⟩;have b:aA w1 w4:=aA.to (by with_reducible(first|exact aA.Zz _|exact(aA.Zz _).draw|exact((aA.Zz _).new _).draw|exact((aA.Zz _).draw).new _)) ob;(first| (have Z5:Bx w4 w1.heap.size [Nat,Nat]:=Bx.oe (Bx.draw (Bx.Zt w1 #[Nat,Nat] 53)) ob;obtain⟨z50,z51⟩:=Z5.p2;have f50:=Z5.Zy 0;have f51:=Z5.Zy 1;have oz:bQ k2 w1.heap.size F:=fF.Zx (by simp);have oz':bQ l w1.heap.size G:=fG.Zx (by simp))|skip)))
  all_goals
   go_wp2_with fail;go_meet
   first
    |exact⟨_,F,k2,i,G,l,j,rfl,rfl,Bx.Zt _ _ _,K2.oe ((aA.Zz _).new _),b.new _,b.size⟩
    |exact⟨_,F,k2,i,G,l,j,rfl,rfl,(Z5.Zq (j:=0) (by simp) _).Zq (j:=1) (by simp) _,(K2.Zq oz oz' _).Zq oz oz' _,(b.put (Nat.le_refl _) _).put (Nat.le_refl _) _,Nat.le_refl _⟩
 case rest =>
  obtain⟨pd,F,k2,i,G,l,j,rfl,rfl,V,K2,b,hpd⟩:=hcut;have hnpd:nb≠pd:=by omega
  have hwpd:w.heap.size≤pd:=by omega
  have oI:v.off pd:=I.Zn hpd;replace B:=Bx.oe B b;replace I:=I.oe b;replace on:=on.to b;clear b n0 n1 n2 n3 n4 r0 r1 r2 r3 r4 r5 r6 r7 hrl hnl R;by_cases h2:P.2=0
  · have hq:=HQ.out;rw[if_neg (by simp[h2])]at hq;replace HQ:=aH hq;rw[h2];clear hq h2;go_upto_region 6 with fail
    generalize wc=w4 at *;obtain⟨v0,v1⟩:=V.p2;have hlw:=K2.m_eq;have hkp:max (0:Int) (min x (l:Int))=kL P.1 x:=by unfold kL;rw[hlw]
    have HLW:=aH hlw;have HKP:=aH hkp;clear hlw hkp;go_wp2_with fail;refine Calls.mono (BX F G k2 i l j P.1 _ _ (E.oe on) K2) ?_;rw[HKP.out,show kQ P.1 (kL P.1 x)=Y from HY.out.symm];unfold gJ;rintro e w5⟨F3,k3,i3,G3,l3,j3,rfl,K3,fF,fG,b⟩;have hvl:=V.lt;have hnl:=Bx.lt B;have fFw:aR w.heap.size F3:=fun a e=>Nat.le_trans on.size (fF a e)
    have fGw:aR w.heap.size G3:=fun a e=>Nat.le_trans on.size (fG a e)
    have oF:bQ k3 pd F3:=fF.Zx hvl;have oG:bQ l3 pd G3:=fG.Zx hvl;replace B:=Bx.oe B b;replace I:=I.oe b;replace on:=on.to b;replace V:=V.oe b;clear b v0 v1 K2 fF fG;go_upto_region 7 with (refine pU V [.slice F3 k3 i3,.slice G3 l3 j3] 53 iY ?_)
    have V2:=V.put (us:=[.slice F3 k3 i3,.slice G3 l3 j3]) rfl;have I2:=I.Zw (us:=[.slice F3 k3 i3,.slice G3 l3 j3]) (o:=0) oI;have B2:Rx (w5.setCells pd 0 [.slice F3 k3 i3,.slice G3 l3 j3]) nb rows:=Bx.off B hnpd;have K4:=K3.Zw (o:=0) (us:=[.slice F3 k3 i3,.slice G3 l3 j3]) oF oG;have on2:=aA.Zw (b:=pd) (o:=0) (us:=[.slice F3 k3 i3,.slice G3 l3 j3]) hwpd on;clear B V K3 on I
    try change Code.wp _ _ _ _ (w5.setCells pd 0 [.slice F3 k3 i3,.slice G3 l3 j3])
    generalize w5.setCells pd 0 [.slice F3 k3 i3,.slice G3 l3 j3]=w6 at *;by_cases h3:Y.2=0
    · have hq:=HQ.out;rw[if_neg (by simp[h3])]at hq;rw[h3];have HQ2:=aH hq;clear hq HQ h3;go_upto_region 9 with fail
      obtain⟨v0,v1⟩:=V2.p2;obtain⟨n0,n1,n2,n3,n4⟩:=NV.Zu B2 HK.out HR.out;have f2:=Bx.Zy B2 (k*5+2);have f3:=Bx.Zy B2 (k*5+3);have f4:=Bx.Zy B2 (k*5+4);have f5:=Bx.Zy B2 (k*5+2+1);go_wp2_with fail;refine bodyPost_ret (v:=.int .i64 0) (by simp[results,results126,go_sem]) rfl ?_;have hq:=HQ2.out;subst hq;have hkr:=(List.getElem?_eq_some_iff.1 HR.out).1;have B3:Rx w6 nb (rows.set k (bW v)):=by rw[mU HR.out];exact B2
      have B6:=Rx.cell1 (j:=2) B3 HK.out hkr rfl (by omega) (.slice F3 k3 i3);have B7:=Rx.cell1 (j:=3) B6 HK.out hkr rfl (by omega) (.slice G3 l3 j3);have B8:=Rx.cell1 (j:=4) B7 HK.out hkr rfl (by omega) (.bool false);have oFn:bQ k3 nb F3:=fFw.Zx hnw;have oGn:bQ l3 nb G3:=fGw.Zx hnw;have K5:=((K4.Zq (p:=⟨nb,k*5+2,none⟩) oFn oGn (.slice F3 k3 i3)).Zq (p:=⟨nb,k*5+2+1,none⟩) oFn oGn (.slice G3 l3 j3)).Zq (p:=⟨nb,k*5+4,none⟩) oFn oGn (.bool false)
      exact⟨rfl,((((aK.of on2 nb).put rfl _).put rfl _).put rfl _),fun _=>⟨⟨⟨v.x.u,Y.1,false⟩,v.A,v.n,v.c,F3,k3,i3,G3,l3,j3⟩,rfl,
       ⟨S.off (S.off (S.off I2.cells of.a _) of.a _) of.a _,K5,I2.le,I2.max⟩,B8,fun z hz hv=>⟨hv.a,fFw.Zx hz,fGw.Zx hz⟩⟩⟩
    have hq:=HQ.out;rw[if_pos h3]at hq;have HQ2:=aH hq;have hd:(Y.2 !=0)=true:=by simpa using h3
    have h2':q.2≠0:=by rw[hq];exact h3
    clear hq HQ;go_wp2_with fail;go_ret;have e2:Y.2=q.2:=by rw[HQ2.out]
    rw[e2];exact lQ.bad h2' on2
  have hq:=HQ.out;rw[if_pos h2]at hq;have HQ2:=aH hq;have hd:(P.2 !=0)=true:=by simpa using h2
  have h2':q.2≠0:=by rw[hq];exact h2
  clear hq HQ;go_wp2_with fail;go_ret;have e2:P.2=q.2:=by rw[HQ2.out]
  rw[e2];exact lQ.bad h2' on
end
section
structure Aw (K w0 w:World)(z nb cb:Nat):Prop where
 on:aA w0 w
 kp:Kp K w z nb cb
section
variable {K w0 w w':World}{z nb cb:Nat}
theorem Aw.to (h:Aw K w0 w z nb cb)(b:aA w w'):Aw K w0 w' z nb cb:=⟨h.on.to b,h.kp.oe b⟩
theorem Aw.new (h:Aw K w0 w z nb cb)(o:Obj):Aw K w0 (w.alloc o) z nb cb:=h.to ((aA.Zz w).new o)
theorem Aw.Zv (h:Aw K w0 w z nb cb)(q:Nat):Aw K w0 (w.drewN q) z nb cb:=h.to ((aA.Zz w).Zv q)
theorem Aw.draw (h:Aw K w0 w z nb cb):Aw K w0 w.drew z nb cb:=h.to ((aA.Zz w).draw)
theorem Aw.upN (h:Aw K w0 w z nb cb)(t:aK w w' nb)(hn:w0.heap.size≤nb):Aw K w0 w' z nb cb:=⟨aK.up h.on t hn,h.kp.turn t (.inr (.inl rfl))⟩
end
def bR (K w0:World)(z nb cN cb cC:Nat)(q:iA×Int)(e:Ending)(w':World):Prop :=
 e=.returned (.int .i64 q.2)∧Aw K w0 w' z nb cb∧(q.2=0→∃ns cs,WM K w0 w' z nb cN cb cC ns q.1.tip cs q.1.time∧bC ns=q.1.n∧bL cs=q.1.c)
section
variable {K w0 w w':World}{z nb cN cb cC k:Nat}{ns:List NV}{cs:List CV}{tip time:Int}{q:iA×Int}
theorem bR.bad (h:q.2≠0)(on:Aw K w0 w' z nb cb):bR K w0 z nb cN cb cC q (.returned (.int .i64 q.2)) w':=⟨rfl,on,fun h'=>absurd h' h⟩
theorem bR.bad' {e:Int}(he:e=q.2)(h:q.2≠0)(on:Aw K w0 w' z nb cb):bR K w0 z nb cN cb cC q (.returned (.int .i64 e)) w':=he▸bR.bad h on
theorem WM.aw (h:WM K w0 w z nb cN cb cC ns tip cs time):Aw K w0 w z nb cb:=⟨h.f.on,h.kp⟩
theorem WM.Zm (h:WM K w0 w z nb cN cb cC ns tip cs time):aA w0 w:=h.f.on
theorem WM.nextN (h:WM K w0 w z nb cN cb cC ns tip cs time){v:NV}(t:aK w w' nb)(hr:Rx w' nb ((ns.map bW).set k (bW v)))(hi:v.In w')(h1:v.off nb)(h2:v.off cb)(h3:v.off z)(h4:∀b,b<w0.heap.size→v.off b):WM K w0 w' z nb cN cb cC (ns.set k v) tip cs time :=
 h.setN t (by rw[List.map_set];exact hr) ⟨hi,h1,h2⟩ h3 h4
theorem WM.nextC (h:WM K w0 w z nb cN cb cC ns tip cs time){v:CV}(t:aK w w' cb)(hr:Rx w' cb ((cs.map aE).set k (aE v)))(hi:v.In w')(h1:v.off nb)(h2:v.off cb)(h3:v.off z)(h4:∀b,b<w0.heap.size→v.off b):WM K w0 w' z nb cN cb cC ns tip (cs.set k v) time :=
 h.setC t (by rw[List.map_set];exact hr) ⟨hi,h1,h2⟩ h3 h4
theorem bR.ok (h:WM K w0 w z nb cN cb cC ns tip cs time)(hq:q=(aY ns tip cs time,0)):bR K w0 z nb cN cb cC q (.returned (.int .i64 0)) w:=by
 subst hq;exact⟨rfl,h.aw,fun _=>⟨ns,cs,h,rfl,rfl⟩⟩
theorem pJ {v:NV}:setN (aY ns tip cs time) k v.x=aY (ns.set k v) tip cs time:=by simp[setN,aY,bC,List.map_set]
theorem kK {v:CV}:setC (aY ns tip cs time) k v.x=aY ns tip (cs.set k v) time:=by simp[setC,aY,bL,List.map_set]
theorem WM.lts (h:WM K w0 w z nb cN cb cC ns tip cs time):z<w.heap.size∧nb<w.heap.size∧cb<w.heap.size:=⟨h.bx.lt,Bx.lt h.f.nr,Bx.lt h.f.cr⟩
theorem eW {v:NV}(h:ns[k]?=some v):aV (bC ns) k=v.x:=wZ (by simp[bC,h])
theorem cU {v:CV}(h:cs[k]?=some v):cG (bL cs) k=v.x:=LS (by simp[bL,h])
theorem cV {v:NV}(h:ns[k]?=some v):(ns.map bW)[k]?=some (bW v):=by simp[h]
theorem dD {v:CV}(h:cs[k]?=some v):(cs.map aE)[k]?=some (aE v):=by simp[h]
end
end
section
attribute [local go_sem ↓] Go.wp_at_zero Go.wp_at_succ
theorem NF:(prog.info? 90).map (·.size)=some 8:=by kernel_rfl
theorem NJ:(prog.info? 27).map (·.size)=some 5:=by kernel_rfl
def OI (p v:Value):Sem Unit:=Instr.storeAt 90 p v
theorem LM (p v:Value):Instr.storeAt 90 p v=OI p v:=rfl
theorem KA {w : World}{z o : Nat}{a b c d e f g h : Int}(ht : w.there z o 8) :
    (OI (.pointer (some ⟨z,o,none⟩)) (.agg #[a,b,c,d,e,f,g,h])).run prog w=.ok () (w.setCells z o [a,b,c,d,e,f,g,h]) :=
 run_storeAt_mid (P:=prog) w z o 90 _ ht NF (all_oneCell_toArray (List.all_eq_true.1 rfl))
def OH (p v:Value):Sem Unit:=Instr.storeAt 27 p v
theorem kG (p v:Value):Instr.storeAt 27 p v=OH p v:=rfl
theorem iV {w : World}{z o : Nat}{a b c d e : Int}(ht : w.there z o 5) :
    (OH (.pointer (some ⟨z,o,none⟩)) (.agg #[a,b,c,d,e])).run prog w=.ok () (w.setCells z o [a,b,c,d,e]) :=
 run_storeAt_mid (P:=prog) w z o 27 _ ht NJ (all_oneCell_toArray (List.all_eq_true.1 rfl))
theorem tG {w:World}{z o n:Nat}(x:Obj)(h:w.there z o n):(w.alloc x).there z o n:=fun j hj=>by
 have hz:z<w.heap.size:=by
  obtain⟨h1,_⟩:=h j hj;obtain⟨v,hv⟩:=Option.isSome_iff_exists.1 h1;exact World.block_lt_of_cell? w _ hv
 rw[World.cell?_alloc_lt w x _ hz];refine⟨(h j hj).1,?_⟩;rw[((aA.Zz w).new x).frozen (p:=⟨z,o+j,none⟩) hz];exact(h j hj).2
theorem CO {w:World}{z o n:Nat}{x:Obj}(h:w.there z o n):(w.alloc x).there z o n=True:=eq_true (tG x h)
theorem KC {w:World}{z o n:Nat}(h:w.there z o n)(p:Addr)(u:Value):(w.setCell p u).there z o n:=fun j hj=>by
 obtain⟨h1,h2⟩:=h j hj;obtain⟨v,hv⟩:=Option.isSome_iff_exists.1 h1;refine⟨?_,by simpa using h2⟩;by_cases e:p=⟨z,o+j,none⟩
 · subst e;rw[World.cell?_setCell_same w _ _ hv];rfl
 rw[World.cell?_setCell_other w _ _ _ e];exact h1
theorem nQ {z o n b:Nat}:∀ {us:List Value}{k:Nat}{w:World},w.there z o n→(w.setCells b k us).there z o n
 | [],_,_,h=>h
 |u ::r,k,w,h=>by rw[World.setCells];exact nQ (KC h _ _)
theorem vY {w:World}{z o n b k:Nat}{us:List Value}(h:w.there z o n):(w.setCells b k us).there z o n=True:=eq_true (nQ h)
theorem IC (w:World){t:TypeId}:(w.alloc (.cells #[(),(),(),(),(),(),(),()] t)).there w.heap.size 0 8=True:=eq_true ((Bx.Zt w #[(),(),(),(),(),(),(),()] t).there (by simp))
theorem II (w:World){t:TypeId}:(w.alloc (.cells #[(),(),(),(),()] t)).there w.heap.size 0 5=True:=eq_true ((Bx.Zt w #[(),(),(),(),()] t).there (by simp))
theorem iT (w:World)(x:Obj)(cs:Array Value)(t:TypeId):Bx ((w.alloc x).alloc (.cells cs t)) (w.heap.size+1) cs.toList:=by
 have:=Bx.Zt (w.alloc x) cs t;simpa using this
theorem DX (w:World)(x:Obj){t:TypeId}:((w.alloc x).alloc (.cells #[(),(),(),(),(),(),(),()] t)).there (w.heap.size+1) 0 8=True:=eq_true ((iT w x #[(),(),(),(),(),(),(),()] t).there (by simp))
theorem DE (w:World)(x:Obj){t:TypeId}:((w.alloc x).alloc (.cells #[(),(),(),(),()] t)).there (w.heap.size+1) 0 5=True:=eq_true ((iT w x #[(),(),(),(),()] t).there (by simp))
theorem DJ (w:World)(x:Obj){b k:Nat}{us:List Value}{t:TypeId}:(((w.alloc (.cells #[(),(),(),(),()] t)).alloc x).setCells b k us).there w.heap.size 0 5=True:=eq_true (nQ (tG x ((Bx.Zt w #[(),(),(),(),()] t).there (by simp))))
theorem MU {w:World}{x:Obj}{z o n b k:Nat}{us:List Value}(h:w.there z o n):((w.alloc x).setCells b k us).there z o n=True:=eq_true (nQ (tG x h))
theorem NT {X:World}{p p':Nat}{vs us vs' us':List Value}(h:Bx X p vs)(h':Bx X p' vs')(hne:p≠p')(hl:us.length=vs.length)(hl':us'.length=vs'.length):Bx ((X.setCells p 0 us).setCells p' 0 us') p us∧Bx ((X.setCells p 0 us).setCells p' 0 us') p' us' :=
 ⟨(h.put hl).off hne,(h'.off (Ne.symm hne)).put hl'⟩
theorem QJ {A B C:Prop}(h:A∧B)(c:C):A∧B∧C:=⟨h.1,h.2,c⟩
end
end Go.Proofs.YtpfkagghooihfaaGreatDoor
