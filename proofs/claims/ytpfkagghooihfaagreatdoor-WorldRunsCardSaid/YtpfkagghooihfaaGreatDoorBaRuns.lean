/- The law WorldRuns. No condition beyond the listed variables, which the card ties. -/
/- Part 52. -/
import Derived.Test.YtpfkagghooihfaaGreatDoorBa49
import Derived.Test.YtpfkagghooihfaaGreatDoorBa42
import Derived.Test.YtpfkagghooihfaaGreatDoorBa31
import Derived.Test.YtpfkagghooihfaaGreatDoorCards
import Derived.Test.YtpfkagghooihfaaGreatDoorTie
import Derived.SevenTiedAt
namespace Go.Proofs.YtpfkagghooihfaaGreatDoor
set_option linter.unusedSimpArgs false
set_option linter.unusedVariables false
set_option maxHeartbeats 16000000
set_option maxRecDepth 100000
open Go.Proofs.Tryz
section
open Go.RowKit
attribute [local go_sem ↓] Go.wp_at_zero Go.wp_at_succ
theorem QY {P:Program}{Q:Exit→Act→World→Prop}{a:Act}{c:Code}{w:World}{A C:Option Addr}{n c0 m d:Nat}{tip time:Int}{T1:TypeId}(h:∀w1,aA w w1→Bx w1 w.heap.size [.slice A n c0,tip,.slice C m d,time]→eK w1 w.heap.size→c.wp P Q a w1):c.wp P Q a (w.alloc (.cells #[.slice A n c0,tip,.slice C m d,time] T1)) :=
 h _ ((aA.Zz w).new _) (Bx.Zt _ _ _) (eK.Zt ..)
theorem WR.far' {w w':World}{A C:Option Addr}{n m:Nat}{ns:List NV}{cs:List CV}{ob:Option Nat}(R:WR w A n C m ns cs)(g:w.grownBy w' ob)(h:∀b,ob=some b→QX b A n C m ns cs):WR w' A n C m ns cs :=
 ⟨R.nr.grown g (fun b e=>(h b e).a),R.cr.grown g (fun b e=>(h b e).c),fun v hv=>(R.ni v hv).gr g (fun b e=>(h b e).n v hv),fun v hv=>(R.ci v hv).gr g (fun b e=>(h b e).k v hv)⟩
theorem WR.offW {w:World}{A C:Option Addr}{n m b:Nat}{ns:List NV}{cs:List CV}(R:WR w A n C m ns cs)(h:w.heap.size≤b):QX b A n C m ns cs:=⟨R.nr.Zx h,R.cr.Zx h,fun v hv=>(R.ni v hv).Zn h,fun v hv=>(R.ci v hv).Zn h⟩
theorem QZ {w:iA}{x:qY}(hg:cQ w):uH w x=(if(mN w x).2=0 then(mN w x).1 else w)∧(aI w x).2=(mN w x).2:=by
 unfold uH;rw[RA hg];by_cases h:(aI w x).2=0
 · rw[if_pos h,if_pos h,RD hg h];exact⟨rfl,rfl⟩
 rw[if_neg h,if_neg h];exact⟨rfl,rfl⟩
theorem QU (A : Option Addr)(n c : Nat)(tip : Int)(C : Option Addr)(m d : Nat)(time : Int)(ns : List NV)(cs : List CV)(P : Option Addr)(k i : Nat)(l : List qY)(w : World)(E : fR w)(R : WR w A n C m ns cs)(SL : S w 10 P k (l.map dY))(hki : k ≤ i)(him : i ≤ maxLen) :
    Calls prog 4 #[.agg #[.slice A n c,tip,.slice C m d,time],.slice P k i] w fun e w'=>e=.returned (.bool true)∧aA w w':=by
 obtain⟨q,hq⟩:∃q,q=tS (aY ns tip cs time) l:=⟨_,rfl⟩
 obtain⟨g,hg⟩:∃g,g=dL (aY ns tip cs time):=⟨_,rfl⟩
 have hl:l.length=k:=by have:=SL.len;simpa using this
 obtain⟨bd,hbd⟩:∃b:Int,b=if g=0∧150<k then 2 else g:=⟨_,rfl⟩
 have hbq:Hid (bd≠0→q=(fQ,[],bd)):=aH fun h=>by
  rw[hq];unfold tS;rw[←hg,hl];by_cases h0:g=0
  · by_cases h1:150<k
    · rw[show bd=2 by rw[hbd,if_pos ⟨h0,h1⟩],if_neg (by simp[h0]),if_pos h1]
    rw[hbd,if_neg (fun h=>h1 h.2)]at h;exact absurd h0 h
  rw[show bd=g by rw[hbd,if_neg (fun h=>h0 h.1)],if_pos h0]
 have hgq:Hid (bd=0→q=((kM (aY ns tip cs time) l).1,(kM (aY ns tip cs time) l).2,0)∧g=0∧k≤150):=aH fun h=>by
  have h0:g=0:=by
   by_cases h1:g=0∧150<k
   · exact h1.1
   rw[hbd,if_neg h1]at h;exact h
  have h1:¬150<k:=fun h1=>by rw[hbd,if_pos ⟨h0,h1⟩]at h;cases h
  refine⟨?_,h0,by omega⟩;rw[hq];unfold tS;rw[←hg,hl,if_neg (by simp[h0]),if_neg h1]
 have HQ:=aH hq;have HG:=aH hg;have HL:=aH hl;have HBD:=aH hbd;clear hq hg hl hbd;go_enter func4,ntmps4;go_upto_region 1 with fail
 refine QY fun w1 on X WX=>?_
 have hz0:w.heap.size≤w.heap.size:=Nat.le_refl _;have oP:bQ k w.heap.size P:=SL.Zx (Nat.le_refl _);replace R:=R.oe on;replace SL:=SL.oe on;generalize hzw:w.heap.size=z at X WX oP⊢;have hzz:w.heap.size≤z:=by omega
 clear hz0 hzw;obtain⟨x0,x1,x2,x3⟩:=X.p4;go_wp2_with fail;refine Calls.mono (GW A n c tip C m d time ns cs P k i l _ (E.oe on) R SL) ?_;rw[←HQ.out];rintro e w2⟨A1,n1,c1,C1,m1,d1,ns1,cs1,B1,b1,y1,rfl,RY,e1,e2,SB,hb1,hy1,ob,fB⟩;have oB:bQ b1 z B1:=fB.Zx X.lt;replace on:=on.to ob;replace X:=X.oe ob;replace WX:=WX.oe ob;replace R:=R.oe ob;replace SL:=SL.oe ob;have HE1:=aH e1;have HE2:=aH e2;clear x0 x1 x2 x3;clear ob fB e1 e2;go_upto_region 2 with fail
 refine aW (v1:=[.slice A1 n1 c1,q.1.tip,.slice C1 m1 d1,q.1.time]) rfl fun w3 ob V=>?_
 have hzv:z<w2.heap.size:=X.lt;generalize w2.heap.size=zv at V hzv⊢;replace on:=on.to ob;replace X:=X.oe ob;replace WX:=WX.oe ob;replace R:=R.oe ob;replace SL:=SL.oe ob;replace RY:=RY.oe ob;replace SB:=SB.oe ob;clear ob;obtain⟨x0,x1,x2,x3⟩:=X.p4;go_wp2_with fail;refine Calls.mono (JT A n c tip C m d time ns cs _ (E.oe on) R) ?_;rw[←HG.out];rintro e w4⟨rfl,ob⟩;replace on:=on.to ob;replace X:=X.oe ob;replace WX:=WX.oe ob;replace R:=R.oe ob;replace SL:=SL.oe ob;replace RY:=RY.oe ob;replace SB:=SB.oe ob;replace V:=V.oe ob;clear x0 x1 x2 x3;clear ob;by_cases hb0:bd=0
 · obtain⟨hq2,hg2,hk2⟩:=hgq.out hb0;have HGD:Hid (cQ (aY ns tip cs time)):=aH (bZ.1 (by rw[←HG.out];exact hg2));have HQ2:=aH hq2;have hk1:¬ (150:Int)<(k:Int):=by omega
   have HK2:=aH hk2;subst hg2;clear hq2 hgq hbq hb0 hk2;go_wp2_with fail;refine Calls.mono (BG _ (E.oe on)) ?_;rintro e w5⟨rfl,ob⟩;replace on:=on.to ob;replace X:=X.oe ob;replace WX:=WX.oe ob;replace R:=R.oe ob;replace SL:=SL.oe ob;replace RY:=RY.oe ob;replace SB:=SB.oe ob;replace V:=V.oe ob;clear ob;clear hk1;go_wp2_with fail
   go_loopg [9,54] k (fun g s9 s54 wr=>∃ (j yc:Nat) (B:Option Addr) (A2:Option Addr) (n2 c2:Nat) (C2:Option Addr) (m2 d2:Nat) (tip2 time2:Int) (ns2:List NV) (cs2:List CV) (sd:List Int),j≤k∧k-j≤g∧s54=.int .i64 j∧s9=.slice B j yc∧Hid (cH wr w5.heap.size 30 1 (.slice B j yc) j (sd.map iW))∧Bx wr z [.slice A2 n2 c2,tip2,.slice C2 m2 d2,time2]∧eK wr z∧WR wr A2 n2 C2 m2 ns2 cs2∧Hid (cQ (aY ns2 tip2 cs2 time2))∧Hid (kM (aY ns tip cs time) l=((kM (aY ns2 tip2 cs2 time2) (l.drop j)).1,sd ++(kM (aY ns2 tip2 cs2 time2) (l.drop j)).2))∧Hid (aK w5 wr z)∧aA w wr∧Hid (∀b,(Value.slice B j yc).ownBlock=some b→QX b A2 n2 C2 m2 ns2 cs2))
   case atStart=>exact⟨0,0,none,A,n,c,C,m,d,tip,time,ns,cs,[],Nat.zero_le _,Nat.le_refl _,rfl,rfl,cH.nil _ _ _ _,X,WX,R,HGD,aH (by simp),aH (aK.Zz _ _),on,aH fun b hb=>by cases hb⟩
   case round =>
    have hz5:z<w5.heap.size:=X.lt;obtain⟨j,yc,B,A2,n2,c2,C2,m2,d2,tip2,time2,ns2,cs2,sd,hj,hgg,rfl,rfl,HO,X2,WX2,R2,HGD2,HRG,HT,on2,HB⟩:=hrel;by_cases hlt:j<k
    · have SLr:S wr 10 P k (l.map dY):=SL.grown HT.out (fun b e=>by injection e with e;subst e;exact oP);obtain⟨b0,off0,x,rfl,hb0,hx,hcx⟩:=SLr.at_ hlt;have d0:wr.cell? ⟨b0,off0+j*10,none⟩=some (.int .i64 x.kind):=hcx 0 _ rfl;have d1:=hcx 1 _ rfl;have d2:=hcx 2 _ rfl;have d3:=hcx 3 _ rfl;have d4:=hcx 4 _ rfl;have d5:=hcx 5 _ rfl;have d6:=hcx 6 _ rfl;have d7:=hcx 7 _ rfl;have d8:=hcx 8 _ rfl;have d9:=hcx 9 _ rfl;obtain⟨r,hr⟩:∃r,r=mN (aY ns2 tip2 cs2 time2) x:=⟨_,rfl⟩
      have HR:=aH hr;have HX:=aH hx;have hrg:=HRG.out;obtain⟨hst,hsr⟩:=QZ (x:=x) HGD2.out;rw[List.drop_eq_getElem_cons (by have:=HL.out;omega),show l[j]'(by have:=HL.out;omega)=x from(List.getElem?_eq_some_iff.1 HX.out).2,kM,hst,hsr,←HR.out]at hrg;have HRG5:=aH hrg;clear hcx hx hr hrg hst hsr HRG SLr;go_upto_region 11 with fail
      refine aW (v1:=dY x) rfl fun w6 ob XH=>?_
      replace on2:=on2.to ob;replace X2:=X2.oe ob;replace WX2:=WX2.oe ob;replace R2:=R2.oe ob;replace HO:=aH (HO.out.below ob);replace HT:=aH (HT.out.oe ob);clear d0 d1 d2 d3 d4 d5 d6 d7 d8 d9 hb0 ob;generalize wr.heap.size=zx at *;obtain⟨x0,x1,x2,x3⟩:=X2.p4;obtain⟨y0,y1,y2,y3,y4,y5,y6,y7,y8,y9⟩:=XH.p10;go_wp2_with fail;refine Calls.mono (GJ A2 n2 c2 tip2 C2 m2 d2 time2 ns2 cs2 x.kind x.client x.n x.job x.epoch x.e _ (fun b=>(Value.slice B j yc).ownBlock=some b) ⟨fun b hb=>(HO.out.lt b hb).2,fun v hv b hb=>(HB.out b hb).n v hv,fun v hv b hb=>(HB.out b hb).k v hv⟩ (E.oe on2) R2 (bZ.2 HGD2.out)) ?_;rw[show mN (aY ns2 tip2 cs2 time2) ⟨x.kind,x.client,x.n,x.job,x.epoch,x.e⟩=r from HR.out.symm];rintro e w7⟨A3,n3,c3,C3,m3,d3,ns3,cs3,rfl,R3,e3,e4,ob,hof⟩;replace on2:=on2.to ob;replace X2:=X2.oe ob;replace WX2:=WX2.oe ob;replace R2:=R2.oe ob;replace HO:=aH (HO.out.below ob);replace HT:=aH (HT.out.oe ob);have HOF:=aH hof;have HE3:=aH (PL e3 e4);clear x0 x1 x2 x3 y0 y1 y2 y3 y4 y5 y6 y7 y8 y9;clear ob hof e3 e4 XH;go_upto_region 12 with fail
      refine aW (v1:=[.slice A3 n3 c3,r.1.tip,.slice C3 m3 d3,r.1.time]) rfl fun w8 ob U=>?_
      replace on2:=on2.to ob;replace X2:=X2.oe ob;replace WX2:=WX2.oe ob;replace R2:=R2.oe ob;replace R3:=R3.oe ob;replace HO:=aH (HO.out.below ob);replace HT:=aH (HT.out.oe ob);clear ob;generalize w7.heap.size=zu at U⊢;go_upto_if 65 with fail
      go_cut []from 66 to 66 (fun wx=>∃ (A4:Option Addr) (n4 c4:Nat) (C4:Option Addr) (m4 d4:Nat) (tip4 time4:Int) (ns4:List NV) (cs4:List CV),Bx wx z [.slice A4 n4 c4,tip4,.slice C4 m4 d4,time4]∧eK wx z∧WR wx A4 n4 C4 m4 ns4 cs4∧Hid (aY ns4 tip4 cs4 time4=if r.2=0 then r.1 else aY ns2 tip2 cs2 time2)∧aK w8 wx z∧Hid (∀b,(Value.slice B j yc).ownBlock=some b→QX b A4 n4 C4 m4 ns4 cs4))
      case first =>
       by_cases h0:r.2=0
       · have HE4:Hid (aY ns3 r.1.tip cs3 r.1.time=if r.2=0 then r.1 else aY ns2 tip2 cs2 time2):=aH (by rw[if_pos h0];exact HE3.out);obtain⟨x0,x1,x2,x3⟩:=X2.p4;obtain⟨u0,u1,u2,u3⟩:=U.p4;have f0:=X2.Zy 0;have f1:=X2.Zy 1;have f2:=X2.Zy 2;have f3:=X2.Zy 3;have hd:(r.2 ==0)=true:=by simpa using h0
         clear h0;go_wp2_with fail;go_meet;exact⟨A3,n3,c3,C3,m3,d3,r.1.tip,r.1.time,ns3,cs3,X2.four _ _ _ _,WX2.store _ _ _ _ _ _ _ _,WX2.all R3 (aK.four _ _ _ _),HE4,aK.four _ _ _ _,HOF⟩
       have hd:(r.2 ==0)=false:=by simpa using h0
       have HE4:Hid (aY ns2 tip2 cs2 time2=if r.2=0 then r.1 else aY ns2 tip2 cs2 time2):=aH (by rw[if_neg h0]);clear h0;go_wp2_with fail;go_meet;exact⟨A2,n2,c2,C2,m2,d2,tip2,time2,ns2,cs2,X2,WX2,R2,HE4,aK.Zz _ _,HB⟩
      case rest =>
      obtain⟨A4,n4,c4,C4,m4,d4,tip4,time4,ns4,cs4,X4,WX4,R4,HE4,t4,HB4⟩:=hcut;have on4:=aK.up on2 t4 hzz;have HT4:Hid (aK w5 wc z):=aH (HT.out.to t4 hz5);have HO4:=aH (HO.out.kept t4 (.inr (Ne.symm (HO.out.Zo hz5))))
      have HG4:Hid (cQ (aY ns4 tip4 cs4 time4)):=aH (by
       rw[HE4.out];by_cases h:r.2=0
       · rw[if_pos h,HR.out];exact(OY (by rw[←HR.out];exact h)).2.2.2
       rw[if_neg h];exact HGD2.out)
      have HRG6:Hid (kM (aY ns tip cs time) l=((kM (aY ns4 tip4 cs4 time4) (l.drop (j+1))).1,(sd ++[r.2]) ++(kM (aY ns4 tip4 cs4 time4) (l.drop (j+1))).2)):=aH (by rw[HRG5.out,HE4.out];simp);clear HE4 HE3 HRG5 HGD2 HR HX HOF U t4 X2 WX2 R2 R3 HB HO HT on2;generalize wc=w9 at *;obtain⟨i0,hi0,hzz0,hzz1,hzz2⟩:=info_parts MG;have HI0:=aH hi0;have HZ0:=aH hzz0;have HZ1:=aH hzz1;have HZ2:=aH hzz2;clear hi0 hzz0 hzz1 hzz2
      have hnew:Sl (w9.alloc (Obj.cells #[r.2] 30)) (w9.heap.size+1) 1 (some ⟨w9.heap.size,0,none⟩) 1 [iW r.2]:=by
       have:=Sl.block (w:=w9.alloc (Obj.cells #[r.2] 30)) (k:=1) [iW r.2] (heap_alloc_new w9 _) (by simp[iW]) rfl;simpa using this
      have HNEW:=aH hnew;have hjk:j≤150:=by have:=HK2.out;omega
      have hw9:w5.heap.size≤w9.heap.size:=HT4.out.size;clear hnew;go_wp2_with (at_builtin;refine aQ _ rfl _ _ 39 rfl w5.heap.size 30 i0 _ 1 8 underlying39 HI0.out HZ0.out HZ1.out HZ2.out rfl (by decide) (.slice B j yc) j (sd.map iW) (by rfl) (HO4.out.alloc _) (w9.heap.size+1) (some ⟨w9.heap.size,0,none⟩) 1 1 [iW r.2] (by rfl) HNEW.out (by simp[iW,Value.oneCell']) (by unfold maxLen;omega) (by omega) (by simp;omega) ?_)
      intro v8 wa own8 grow8 hv8;obtain⟨A8,c8,rfl,_,_⟩:=own8.slice;have ona:=(aA.Zz w9).new (Obj.cells #[r.2] 30);have onb:aA w wa:=aT (on4.to ona) (on4.to ona).size grow8 (fun g hg=>by have:=(HO4.out.lt g hg).1;have:=on.size;omega);have hne:=HO4.out.Zo hz5;have Xa:=(X4.oe ona).grown grow8 hne;have WXa:=eK.gr (WX4.oe ona) grow8 hne;have Ra:=(R4.oe ona).far' grow8 HB4.out;have HTa:Hid (aK w5 wa z):=aH (World.grownBy.andThen (HT4.out.oe ona) grow8 (fun g hg=>.inl (HO4.out.lt g hg).1))
      have HBa:Hid (∀b,(Value.slice A8 (j+1) c8).ownBlock=some b→QX b A4 n4 C4 m4 ns4 cs4):=aH fun b hb=>by
       rcases hv8 with h|h
       · exact HB4.out b (h.symm.trans hb)
       rw[h]at hb;injection hb with hb;subst hb;exact(R4.oe ona).offW (by simp)
      have HOa:=aH own8;clear own8 grow8 hv8 HO4 HB4 HNEW HI0 HZ0 HZ1 HZ2 ona hne X4 WX4 R4 HT4 on4;go_wp2_with fail;go_roundg (k-(j+1))
      case measure=>omega
      case rel=>exact⟨j+1,c8,A8,A4,n4,c4,C4,m4,d4,tip4,time4,ns4,cs4,sd ++[r.2],by omega,Nat.le_refl _,by go_num,rfl,by simpa using HOa,Xa,WXa,Ra,HG4,HRG6,HTa,onb,HBa⟩
    obtain rfl:j=k:=by omega
    have hrg:=HRG.out;rw[List.drop_eq_nil_of_le (by have:=HL.out;omega)]at hrg;have hq3:q=(aY ns2 tip2 cs2 time2,sd,0):=by rw[HQ2.out,hrg];simp[kM]
    have RYr:=WX.all RY HT.out;have SBr:S wr 1 B1 b1 (q.2.1.map iW):=S.grown SB HT.out (fun b' e=>by injection e with e;subst e;exact oB);have Vr:=V.grown HT.out (by intro e;injection e with e;omega);have hsm:=yU RYr HE1.out HE2.out (.inl (by rw[hq3];exact HGD2.out));have hsv:decide (aY ns1 q.1.tip cs1 q.1.time=aY ns2 tip2 cs2 time2)=true:=by rw[PL HE1.out HE2.out,hq3];simp
    have hse:decide (q.2.1=sd)=true:=by rw[hq3];simp
    have hqe:q.2.2=0:=by rw[hq3]
    have HSV:=aH hsv;have HSE:=aH hse;rw[hqe];clear hrg HRG HQ2 hq3 hqe hsv hse V SB RY X WX R SL hlt;go_wp2_with fail;refine Calls.mono (QV B1 B b1 j y1 yc _ q.2.1 sd _ SBr HO.out.sl (by unfold maxLen at hy1;omega)) ?_;rw[HSE.out];rintro e wa⟨rfl,nq,rfl⟩;have od:=(aA.Zz wr).Zv nq;replace on2:=on2.to od;replace Vr:=Vr.oe od;replace X2:=X2.oe od;replace RYr:=RYr.oe od;replace R2:=R2.oe od;clear od;obtain⟨v0,v1,v2,v3⟩:=Vr.p4;obtain⟨x0,x1,x2,x3⟩:=X2.p4;go_wp2_with fail;refine Calls.mono (kV A1 A2 n1 c1 n2 c2 q.1.tip tip2 C1 C2 m1 d1 m2 d2 q.1.time time2 ns1 ns2 cs1 cs2 _ RYr R2 hsm.1 hsm.2.1 hsm.2.2) ?_;rw[HSV.out];rintro e wb⟨rfl,ob⟩;go_wp2_with fail;go_ret;exact⟨rfl,on2.to ob⟩
 have hh:(0=g∧150<k∧2=bd)∨(g≠0∧g=bd):=by
  have h:=HBD.out;by_cases h0:g=0
  · by_cases h1:150<k
    · rw[if_pos ⟨h0,h1⟩]at h;exact .inl ⟨h0.symm,h1,h.symm⟩
    rw[if_neg (fun h=>h1 h.2)]at h;exact absurd (h.trans h0) hb0
  rw[if_neg (fun h=>h0 h.1)]at h;exact .inr ⟨h0,h.symm⟩
 obtain rfl:=hbq.out hb0;have hsm:=yU RY HE1.out HE2.out (.inr rfl);obtain rfl:b1=0:=by have:=SB.len;simpa using this.symm
 clear hgq hbq HBD HQ;rcases hh with ⟨rfl,hk,rfl⟩| ⟨hg0,rfl⟩
 all_goals
  first|have hk1:(150:Int)<(k:Int):=by omega| (have hgd:(g ==0)=false:=by simpa using hg0)
  clear hb0
  try clear hk
  try clear hg0
  try have hbn:(g !=0)=true:=by simpa using hgd
  go_wp2_with fail;refine Calls.mono (BG _ (E.oe on)) ?_;rintro e w5⟨rfl,ob⟩;replace on:=on.to ob;replace RY:=RY.oe ob;replace V:=V.oe ob;clear ob;go_wp2_with fail;refine Calls.mono (BG _ (E.oe on)) ?_;rintro e w6⟨rfl,ob⟩;replace on:=on.to ob;replace RY:=RY.oe ob;replace V:=V.oe ob;clear ob;obtain⟨v0,v1,v2,v3⟩:=V.p4;go_wp2_with fail;refine Calls.mono (kV A1 none n1 c1 0 0 0 0 C1 none m1 d1 0 0 0 0 ns1 [] cs1 [] _ RY ⟨Sl.nil,Sl.nil,fun v hv=>absurd hv (by simp),fun v hv=>absurd hv (by simp)⟩ hsm.1 hsm.2.1 hsm.2.2) ?_;rw[show decide (aY ns1 0 cs1 0=aY [] 0 [] 0)=true by have h1:=HE1.out;have h2:=HE2.out;simp[fQ]at h1 h2;simp[aY,bC,bL,h1,h2]];rintro e w8⟨rfl,ob⟩;go_wp2_with fail;go_ret;exact⟨rfl,on.to ob⟩
end
section
open Go.RowKit Go.ChangeShapes Go.WideShapes Go.ChangeAt
set_option maxRecDepth 100000 in
theorem worldRuns_lifted (os : Os)(started : os.Started)(H : Type)(enc : TypeId×Value → H) :
    ReturnsInHanded {} checked os 4 .any (fun w args=>(Rows.worldRunsSpec.pre enc prog Tryz.f4 Rows.worldRunsRow.domain false w args∧laidMetH prog Rows.worldRunsRow.laid w)∧sizedMet enc prog Tryz.f4 (OpenSpec.ofChange Rows.worldRunsSpec) false w args)
     (Rows.worldRunsSpec.post enc prog Tryz.f4 false true false false):=by
 refine yL (C:=checked) (X:=fun w _=>laidMetH prog Rows.worldRunsRow.laid w) (fun _ _ _ hh h=>h.of_heap hh) own started (by kernel_rfl) func4
  (ChangeSpec.witness_shaped (enc:=enc) (C:=checked) (os:=os) (X:=fun w _=>laidMetH prog Rows.worldRunsRow.laid w) false (World.laidAll prog os Rows.worldRunsRow.laid) #[.agg #[Nat,(),Nat,()],Nat] 8 (World.laidAll_os _ _ _)
   (World.shaped_of_ZipB (by kernel_rfl) (by kernel_rfl)) (by kernel_rfl) (by kernel_rfl) (by kernel_rfl)
   (by rw[MakeChecks.laidMetH_plain _ _ _ (by kernel_rfl)];exact laidMet_laidAll _ (by kernel_rfl) (by kernel_rfl))) ?_
 intro W base args ds gs before hval0 hW hsz0 hL hS;rw[MakeChecks.laidMetH_plain _ _ _ (by kernel_rfl)]at hL;have E:fR W:=PJ hL hS;clear hL hS;have hval:∀ (j:Nat) t v,Tryz.f4.params[j]?=some t→args[j]?=some v→Value.okWide prog W .any base t v:=hval0;have hW':=hW;obtain⟨p,q,hA0,hV,rfl,hfz,hnd⟩:=hW;have hA:DataW.TrodAll enc prog W 0 (fun _=>true) true Tryz.f4.params.toList args.toList ds p:=hA0;rw[params4]at hA hval;obtain⟨v0,vs0,d0,ds0,p0,q0,hargs,rfl,rfl,h0,r0⟩:=trodAll_cons hA;obtain⟨v1,vs1,d1,ds1,p1,q1,rfl,rfl,rfl,h1,r1⟩:=trodAll_cons r0;obtain⟨rfl,rfl,rfl⟩:=trodAll_nil r1;obtain rfl:args=#[v0,v1]:=by cases args;simp_all
 obtain⟨rfl,rfl⟩:=trodVars_none hV;have hall:=hA;obtain⟨cv0,rfl,_⟩:=okWide_struct underlying25 (hval 0 25 v0 rfl rfl);obtain⟨A0,n0,c0,tip0,C0,m0,d0,time0,nv0,kv0,e0,_,_,_,_,R0,_⟩:=uC (xM h0);obtain rfl:cv0=#[.slice A0 n0 c0,.int .i64 tip0,.slice C0 m0 d0,.int .i64 time0]:=by cases cv0;simpa[Value.cells]using e0
 obtain⟨qa1,qb1,qc1,rfl⟩:=okWide_slice underlying38 (hval 1 38 v1 rfl rfl);obtain⟨A1,n1,c1,l1,e1,hnc1,hcm1,s1⟩:=QW (xM h1);simp[Value.cells]at e1;obtain⟨rfl,rfl,rfl⟩:=e1;clear hA0 hval0;refine(QU A0 n0 c0 tip0 C0 m0 d0 time0 nv0 kv0 qa1 qb1 qc1 l1 W E R0 s1 hnc1 hcm1).mono fun e W' ⟨he,bel⟩=>?_
 subst he;exact⟨_,rfl,_,_,_,[],_,[],hW',trodAll_mk1 (shut_bool underlying4 _),qS (ts:=[25,38]) NU bel (by intro t ht;simp only[List.mem_cons,List.not_mem_nil,or_false]at ht;rcases ht with rfl|rfl<;>exact⟨by kernel_rfl,of_decide_eq_true (by kernel_rfl)⟩) hall,rfl,bel.frame _,fun h=>by cases h⟩
theorem worldRuns_row:Rows.WorldRunsSaid :=
 OpenClaim.holds_of_wide 4 Tryz.f4 rfl rfl rfl rfl rfl rfl rfl ⟨rfl,rfl,rfl,rfl,rfl⟩ rfl rfl rfl rfl rfl (by kernel_rfl) func4 (by kernel_rfl)
  (of_decide_eq_true (by kernel_rfl)) (by unfold Func.isWrapper;first| (rw[if_pos (by decide +kernel)];kernel_rfl)| (rw[if_neg (by decide +kernel)];exact⟨rfl,rfl⟩))
  (fun os started H enc _=>worldRuns_lifted os started H enc)
theorem worldRuns_holds : Rows.WorldRunsCardSaid :=
 Claim7.holds_tied_plain_at .later [] [.data,.data,.data,.data,.sentinel,.sentinel,.pinned] true Rows.worldRunsCard.stood.harness true worldRuns_row (fun _ h=>by cases h) (by kernel_rfl) (fun _ h=>by cases h) worldRuns_row_tie rfl ⟨rfl,rfl⟩ (by kernel_rfl) rfl
  (fun f fn hf hfn=>by
   obtain rfl:f=4:=Option.some.inj ((show prog.funcNamed "carillon/carillonlaw.WorldRuns"=some 4 by kernel_rfl).symm.trans hf)|>.symm
   obtain rfl:fn=Tryz.f4:=(Option.some.inj (func4.symm.trans hfn)).symm
   exact⟨by kernel_rfl,fun j t ht=>by
    rw[params4]at ht;have hm:t∈[25,38]:=by simpa using Array.mem_of_getElem? ht
    have hall:([25,38].all fun u=>!prog.wantsStandIn u)=true:=by kernel_rfl
    exact(show prog.wantsStandIn t=false by simpa using List.all_eq_true.1 hall t hm)⟩)
  (by kernel_rfl)
end
end Go.Proofs.YtpfkagghooihfaaGreatDoor
