/- Part 31. -/
import Derived.Test.YtpfkagghooihfaaGreatDoorBa23
import Derived.Test.YtpfkagghooihfaaGreatDoorBa28
import Derived.Test.YtpfkagghooihfaaGreatDoorBa17
namespace Go.Proofs.YtpfkagghooihfaaGreatDoor
set_option linter.unusedSimpArgs false
set_option linter.unusedVariables false
set_option maxHeartbeats 16000000
set_option maxRecDepth 100000
open Go.Proofs.Tryz
open Go.RowKit
section
attribute [local go_sem ↓] Go.wp_at_zero Go.wp_at_succ
def nG (l:List iC):Nat→Option eM
 |0=>none
 |k+1=>l[k]?.map (·.u)
theorem DS {l : List iC}{o : Option eM}{k : Nat}{x : iC}(hx : l[k]? = some x) : cK o (l.drop k) = if(bH x).2 ≠ 0 then(bH x).2 else
    match o with
    |none=>cK (some x.u) (l.drop (k+1))
    |some p=>if fO p.cells (bH x).1.cells then cK (some x.u) (l.drop (k+1))else 4:=by
  obtain⟨h,rfl⟩:=List.getElem?_eq_some_iff.1 hx;rw[List.drop_eq_getElem_cons h];rfl
theorem zO {ns : List iC}{l : List eB}{k : Nat}{c : eB}(hx : l[k]? = some c) : cX ns (l.drop k) = if aP c ≠ 0 then aP c
    else if c.doing=2∧0<c.link∧bF (aV ns (c.link.toNat-1)).u.cells c.at_.toNat≠c.e then 4 else cX ns (l.drop (k+1)):=by
 obtain⟨h,rfl⟩:=List.getElem?_eq_some_iff.1 hx;rw[List.drop_eq_getElem_cons h];rfl
theorem zU {x:iC}(h:(bH x).2=0):x.u.cells.length=60∧(bH x).1.cells.length=60:=by
 obtain⟨l,m,hn⟩:=fX h;exact⟨hn.good.1.len,hn.good.2.len⟩
theorem IM {w:iA}(h1:w.n.length=3)(h2:w.c.length=3)(h3:¬ (w.tip<0∨60<w.tip∨w.time<0∨100000<w.time)):dL w=if cK none w.n≠0 then cK none w.n else cX w.n w.c:=by
 unfold dL;rw[if_neg (by omega),if_neg h3]
theorem safe_only {x:iM}(h:bE x=0):bE ⟨x.safe,[]⟩=0:=by
 have e:∀y:iM,bE y=if 30000<y.safe.length∨30000<y.safe.length+y.wait.length then 2 else(bS y.safe 160).2.2:=fun y=>rfl
 rw[e]at h⊢
 split at h
 · cases h
 rename_i hn;rw[if_neg (by simp;omega)];exact h
theorem AY (x : iC) : bH x = if bE x.d ≠ 0 then(qM, bE x.d)
    else if x.up=true∧0<x.d.wait.length then(qM,4)
    else if(cI (hH ⟨x.d.safe,[]⟩)).2≠0 then(qM,(cI (hH ⟨x.d.safe,[]⟩)).2)
    else if(cI (hH ⟨x.d.safe,[]⟩)).1≠x.u then(qM,4)else cI (hH x.d):=by
 unfold bH;by_cases h:bE x.d≠0
 · rw[if_pos h,if_pos h]
 rw[if_neg h,if_neg h];have h0:bE x.d=0:=by simpa using h
 have e1:bN x.d=(iK x.d,hH x.d,0):=by unfold bN;rw[if_neg (by simp[h0])]
 have e2:bN ⟨x.d.safe,[]⟩=(iK ⟨x.d.safe,[]⟩,hH ⟨x.d.safe,[]⟩,0):=by unfold bN;rw[if_neg (by simp[safe_only h0])]
 rw[e1,e2]
theorem BI {rN r ev t X:Int}(HR:r=if rN≠0 then rN else t)(hk:rN=if ev≠0 then ev else X)(h:ev≠0):ev=r:=by rw[HR,hk,if_pos h,if_pos h]
theorem DK.onlyS {w:World}{A A':Option Addr}{n c m d:Nat}{x:iM}(h:DK w A n c A' m d x):DK w A n c none 0 0 ⟨x.safe,[]⟩:=⟨h.safe,Sl.nil,h.n_le,h.c_le,by omega,by simp[maxLen]⟩
theorem JT (A : Option Addr)(n c : Nat)(tip : Int)(C : Option Addr)(m d : Nat)(time : Int)(ns : List NV)(cs : List CV)(w : World)(E : fR w)(R : WR w A n C m ns cs) :
    Calls prog 6 #[.agg #[.slice A n c,tip,.slice C m d,time]] w fun e w'=>e=.returned (.int .i64 (dL (aY ns tip cs time)))∧aA w w':=by
 obtain⟨r,hr⟩:∃r,r=dL (aY ns tip cs time):=⟨_,rfl⟩
 rw[←hr];have hnl:=R.nlen;have hcl:=R.clen;have hne:=rM;by_cases h3:n=3∧m=3
 · obtain⟨rfl,rfl⟩:=h3;by_cases hrg:tip<0∨60<tip∨time<0∨100000<time
   · have hr3:(3:Int)=r:=by rw[hr];unfold dL;rw[if_neg (by simp[hnl,hcl]),if_pos hrg]
     have HR:=aH hr3;clear hr hr3 hnl hcl R;by_cases ht:0≤tip∧tip≤60
     · have h1:(decide (0≤tip)&&decide (tip≤60))=true:=by simp[ht]
       have h2:(decide (0≤time)&&decide (time≤100000))=false:=by
        rw[Bool.and_eq_false_iff,decide_eq_false_iff_not,decide_eq_false_iff_not];omega
       clear hrg ht;go_enter func6,ntmps6;go_wp2_with (go_at_call 18;refine Calls.mono (aM _ _ _ _) ?_;(first|rw[h1]|rw[h2]);rintro e w'⟨rfl,rfl⟩)
       all_goals
        go_ret;exact⟨aO HR.out,by repeat(first|exact aA.Zz _|refine aA.new ?_ _)⟩
     have h1:(decide (0≤tip)&&decide (tip≤60))=false:=by
      rw[Bool.and_eq_false_iff,decide_eq_false_iff_not,decide_eq_false_iff_not];omega
     clear hrg ht;go_enter func6,ntmps6;go_wp2_with (go_at_call 18;refine Calls.mono (aM _ _ _ _) ?_;rw[h1];rintro e w'⟨rfl,rfl⟩)
     all_goals
      go_ret;exact⟨aO HR.out,by repeat(first|exact aA.Zz _|refine aA.new ?_ _)⟩
   obtain⟨rN,hrN⟩:∃q,q=cK none (bC ns):=⟨_,rfl⟩
   have hr2:=IM (w:=aY ns tip cs time) (by simp[hnl]) (by simp[hcl]) hrg;rw[←hr,show(aY ns tip cs time).n=bC ns from rfl,show(aY ns tip cs time).c=bL cs from rfl,←hrN]at hr2;have HR:=aH hr2;have HN:=aH hrN;have HNL:=aH hnl;have HCL:=aH hcl;have h1:(decide (0≤tip)&&decide (tip≤60))=true:=by simp;omega
   have h2:(decide (0≤time)&&decide (time≤100000))=true:=by simp;omega
   clear hr hr2 hrN hnl hcl hrg;go_enter func6,ntmps6;go_upto_region 1 with fail
   refine aW (v1:=[.slice A 3 c,tip,.slice C 3 d,time]) rfl fun w1 on Z=>?_
   replace R:=R.oe on;generalize w.heap.size=z at Z⊢;obtain⟨z0,z1,z2,z3⟩:=Z.p4;go_wp2_with (go_at_call 18;refine Calls.mono (aM _ _ _ _) ?_;(first|rw[h1]|rw[h2]);rintro e w'⟨rfl,rfl⟩)
   clear h1 h2 z1 z2 z3
   go_loopg [3,4,5,6,7,8,9,36] 3 (fun g s3 s4 s5 s6 s7 s8 s9 s36 wr=>∃k:Nat,k≤3∧3-k≤g∧s36=.int .i64 k∧aA w wr∧Bx wr z [.slice A 3 c,tip,.slice C 3 d,time]∧WR wr A 3 C 3 ns cs∧Hid (rN=cK (nG (bC ns) k) ((bC ns).drop k))∧Hid (∀j v,j<k→ns[j]?=some v→v.n=60∧v.x.u.cells.length=60))
   case atStart=>exact⟨0,by omega,by omega,rfl,on,Z,R,by show _=_;rw[HN.out];rfl,fun j v hj=>absurd hj (Nat.not_lt_zero _)⟩
   case round =>
    clear R Z on z0;obtain⟨i,hi,hgg,rfl,on,Z,R,HK,HL⟩:=hrel;by_cases hlt:i<3
    · obtain⟨b,off,v,rfl,hb,hv,I,d0,d1,d2,d3,d4⟩:=R.atN hlt;have hvn:(bC ns)[i]?=some v.x:=by simp[bC,hv]
      have hk:=HK.out;rw[DS hvn]at hk;have hst:=AY v.x;have hm:=I.disk.m_eq;rw[←hm]at hst;obtain⟨q,hq⟩:∃q,q=bE v.x.d:=⟨_,rfl⟩
      obtain⟨L1,hL1⟩:∃l,l=hH ⟨v.x.d.safe,[]⟩:=⟨_,rfl⟩
      obtain⟨L2,hL2⟩:∃l,l=hH v.x.d:=⟨_,rfl⟩
      obtain⟨U1,hU1⟩:∃u,u=cI L1:=⟨_,rfl⟩
      obtain⟨U2,hU2⟩:∃u,u=cI L2:=⟨_,rfl⟩
      rw[←hq,←hL1,←hU1,←hL2,←hU2]at hst;have hvl:v.x.u.cells.length=v.n:=by have:=I.cells.len;simpa using this
      have HK2:=aH hk;have HV:=aH hv;have HVN:=aH hvn;have HQ:=aH hq;have HST:=aH hst;have HL1:=aH hL1;have HL2:=aH hL2;have HU1:=aH hU1;have HU2:=aH hU2;have HVL:=aH hvl;clear hk hv hvn hq hst hL1 hL2 hU1 hU2 hvl hm HK;go_upto_region 8 with fail
      refine aW (v1:=[v.x.u.ep,.slice v.A v.n v.c,.slice v.F v.k v.i,.slice v.G v.l v.j,.bool v.x.up]) rfl fun w2 ob V=>?_
      replace on:=on.to ob;replace Z:=Z.oe ob;replace R:=R.oe ob;replace I:=I.oe ob;clear ob d0 d1 d2 d3 d4 hb;generalize wr.heap.size=zv at V⊢;have v2:=V.at_ 2 rfl;have v3:=V.at_ 3 rfl;go_wp2_with fail;refine Calls.mono (qR v.F v.G v.k v.i v.l v.j v.x.d _ (E.oe on) I.disk) ?_;rw[←HQ.out];rintro e w3⟨rfl,ob⟩;replace on:=on.to ob;replace Z:=Z.oe ob;replace R:=R.oe ob;replace I:=I.oe ob;replace V:=V.oe ob;clear ob v2 v3;by_cases hq0:q=0
      · subst hq0;have hst:=HST.out;rw[if_neg (by simp)]at hst;have HST:=aH hst;clear hst;go_upto_region 11 with fail
        have v2:=V.at_ 2 rfl;have v3:=V.at_ 3 rfl;have v4:=V.at_ 4 rfl;by_cases hup:v.x.up=true∧0<v.l
        · have hst:=HST.out;rw[if_pos hup]at hst;have hfin:=BI HR.out HK2.out (by rw[hst];simp);rw[hst]at hfin;have HF:=aH hfin;obtain⟨hu1,hu2⟩:=hup;have hu3:(0:Int)<(v.l:Int):=by omega
          clear hst hfin HST;rw[hu1]at v4;go_wp2_with fail;go_ret;exact⟨aO HF.out,on⟩
        have hst:=HST.out;rw[if_neg hup]at hst;have HST:=aH hst;clear hst
        have hup2:v.x.up=false∨(v.x.up=true∧v.l=0):=by
         rcases Bool.eq_false_or_eq_true v.x.up with h|h
         · exact .inr ⟨h,Nat.eq_zero_of_not_pos fun h0=>hup ⟨h,h0⟩⟩
         exact .inl h
        clear hup;go_cut [55] (fun s55 wx=>s55=.bool false∧wx=w3)
        case first =>
         rcases hup2 with hu1| ⟨hu1,hu2⟩
         · rw[hu1]at v4;go_wp2_with fail;go_meet;exact⟨rfl,rfl⟩
         rw[hu1]at v4;rw[hu2]at v3;go_wp2_with fail;go_meet;exact⟨rfl,rfl⟩
        case rest =>
         obtain⟨rfl,rfl⟩:=hcut;have v2:=V.at_ 2 rfl;have hsafe:=safe_only HQ.out.symm;go_wp2_with fail;refine Calls.mono (pF v.F none v.k v.i 0 0 ⟨v.x.d.safe,[]⟩ _ (E.oe on) I.disk.onlyS hsafe) ?_;rw[←HL1.out];rintro e w4⟨F1,k1,i1,G1,l1,j1,B1,b1,y1,rfl,_,sL,_,ob,_,_⟩;replace sL:S w4 8 B1 b1 (L1.map eO):=sL;replace on:=on.to ob;replace Z:=Z.oe ob;replace R:=R.oe ob;replace I:=I.oe ob;replace V:=V.oe ob;clear ob v2 hsafe;go_upto_region 14 with fail
         refine aW (v1:=[.slice F1 k1 i1,.slice G1 l1 j1]) rfl fun w5 ob _=>?_
         replace on:=on.to ob;replace Z:=Z.oe ob;replace R:=R.oe ob;replace I:=I.oe ob;replace V:=V.oe ob;replace sL:=sL.oe ob;clear ob;go_wp2_with fail;refine Calls.mono (rC B1 b1 y1 L1 _ sL) ?_;rw[←HU1.out];rintro e w6⟨A1,n1,c1,rfl,s1,ob,_⟩;replace s1:S w6 5 A1 n1 (U1.1.cells.map bA):=s1;replace on:=on.to ob;replace Z:=Z.oe ob;replace R:=R.oe ob;replace I:=I.oe ob;replace V:=V.oe ob;clear ob sL;go_upto_region 15 with fail
         refine aW (v1:=[U1.1.ep,.slice A1 n1 c1]) rfl fun w7 bw U=>?_
         have hzu:w6.heap.size≤w6.heap.size:=Nat.le_refl _;have hzl:=Z.lt;generalize hzz:w6.heap.size=zu at U hzl⊢;rw[hzz]at hzu;have hzu:w6.heap.size≤zu:=by omega
         clear hzz;have hn1:n1≤9223372036854775807:=by have h1:=s1.len;have h2:=tI L1;rw[←HU1.out]at h2;simp at h1;omega
         have HN1:=aH hn1;obtain⟨q2,hq2⟩:∃q,q=U1.2:=⟨_,rfl⟩
         rw[←hq2];have hst:=HST.out;rw[←hq2]at hst;have HST:=aH hst;clear hst hn1 hq2;obtain⟨u0,u1⟩:=U.p2;obtain⟨v0,v1⟩:=(V.oe bw).p2;by_cases hq20:q2=0
         · subst hq20;have hst:=HST.out;rw[if_neg (by simp)]at hst;have HST:=aH hst;clear hst;go_wp2_with fail;refine Calls.mono (rS U1.1.ep v.x.u.ep A1 v.A n1 c1 v.n v.c U1.1.cells v.x.u.cells _ (s1.oe bw) (I.cells.oe bw) HN1.out) ?_;rintro e w8⟨rfl,ob⟩;replace bw:=bw.to ob;replace U:=U.oe ob;clear ob u0 u1 v0 v1 s1;by_cases hs:U1.1=v.x.u
           · have hst:=HST.out;rw[if_neg (by simpa using hs)]at hst;have HST:=aH hst;have hsd:decide ((⟨U1.1.ep,U1.1.cells⟩:eM)=⟨v.x.u.ep,v.x.u.cells⟩)=true:=by rw[decide_eq_true_eq];exact hs
             rw[hsd];clear hst hs hsd;have v2:=(V.oe bw).at_ 2 rfl;have v3:=(V.oe bw).at_ 3 rfl;go_wp2_with fail;refine Calls.mono (pF v.F v.G v.k v.i v.l v.j v.x.d _ (E.oe (on.to bw)) (I.disk.oe bw) HQ.out.symm) ?_;rw[←HL2.out];rintro e w9⟨F2,k2,i2,G2,l2,j2,B2,b2,y2,rfl,_,sL,_,ob,_,_⟩;replace sL:S w9 8 B2 b2 (L2.map eO):=sL;replace bw:=bw.to ob;replace U:=U.oe ob;clear ob v2 v3;go_wp2_with fail;refine Calls.mono (rC B2 b2 y2 L2 _ sL) ?_;rw[←HU2.out];rintro e w10⟨A2,n2,c2,rfl,s2,ob,f2,_,_⟩;replace s2:S w10 5 A2 n2 (U2.1.cells.map bA):=s2;have hul:=U.lt;replace bw:=bw.to ob;replace U:=U.oe ob;have o2:bQ n2 zu A2:=f2.Zx hul;clear ob sL f2 hul;have g0:=U.Zy 0;have g1:=U.Zy 1;obtain⟨u0,u1⟩:=U.p2;go_upto_region 21 with fail
             have t:=((aK.Zz w10 zu).put (p:=⟨zu,0,none⟩) rfl (.int .i64 U2.1.ep)).put (p:=⟨zu,1,none⟩) rfl (.slice A2 n2 c2);replace U:Bx ((w10.setCell ⟨zu,0,none⟩ (.int .i64 U2.1.ep)).setCell ⟨zu,1,none⟩ (.slice A2 n2 c2)) zu [U2.1.ep,.slice A2 n2 c2]:=(U.Zq (j:=0) (by simp) _).Zq (j:=1) (by simp) _;replace bw:aA w6 ((w10.setCell ⟨zu,0,none⟩ (.int .i64 U2.1.ep)).setCell ⟨zu,1,none⟩ (.slice A2 n2 c2)):=(bw.put (p:=⟨zu,0,none⟩) hzu _).put (p:=⟨zu,1,none⟩) hzu _;replace s2:=s2.grown t (fun g e=>by injection e with e;subst e;exact o2);clear t o2 g0 g1 u0 u1
             try change Code.wp _ _ _ _ ((w10.setCell ⟨zu,0,none⟩ (.int .i64 U2.1.ep)).setCell ⟨zu,1,none⟩ (.slice A2 n2 c2))
             generalize((w10.setCell ⟨zu,0,none⟩ (.int .i64 U2.1.ep)).setCell ⟨zu,1,none⟩ (.slice A2 n2 c2))=w11 at U bw s2⊢;replace on:=on.to bw;replace Z:=Z.oe bw;replace R:=R.oe bw;clear bw hzu hzl V I;obtain⟨q3,hq3⟩:∃q,q=U2.2:=⟨_,rfl⟩
             rw[←hq3];have hk:=HK2.out;rw[HST.out,←hq3]at hk;have HK3:=aH hk;have HQ3:=aH hq3;clear hk hq3;by_cases hq30:q3=0
             · subst hq30;have hls:=zU (x:=v.x) (by rw[HST.out];exact HQ3.out.symm);have hgood:=fX (n:=v.x) (by rw[HST.out];exact HQ3.out.symm);have hcl60:U2.1.cells.length=60:=by have:=hls.2;rw[HST.out]at this;exact this
               have hn2:n2=60:=by have:=s2.len;simp at this;omega
               subst hn2;have hvn:v.n=60:=by rw[←HVL.out];exact hls.1
               have HLS:=aH hls.1
               have hok:∀c∈U2.1.cells,OQ c:=by
                obtain⟨l,m',hn⟩:=hgood;have:=hn.good.2.ok;rw[HST.out]at this;exact this
               have HOK:=aH hok;have hk:=HK3.out;rw[if_neg (by simp)]at hk;have HK3:=aH hk;clear hk hls hgood hcl60 hok
               have hrel2:Hid (∀j u,j<i+1→ns[j]?=some u→u.n=60∧u.x.u.cells.length=60):=aH fun j u hj hu=>by
                by_cases hji:j=i
                · subst hji;rw[HV.out]at hu;injection hu with hu;subst hu;exact⟨hvn,HLS.out⟩
                exact HL.out j u (by omega) hu
               have hah:nG (bC ns) (i+1)=some v.x.u:=by simp[nG,HVN.out]
               have HAH:=aH hah;clear hah;rcases Nat.eq_zero_or_pos i with rfl|hpos
               · have hk:=HK3.out;have HK4:Hid (rN=cK (nG (bC ns) 1) ((bC ns).drop 1)):=aH (by rw[HAH.out];exact hk);clear hk HK3 HL;go_wp2_with (go_quiet (fail))
                 go_roundg 2
                 case measure=>omega
                 case rel=>first|exact⟨1,by omega,by omega,rfl,on.Zv _,Z.Zv _,R.oe ((aA.Zz _).Zv _),HK4,hrel2⟩|exact⟨1,by omega,by omega,rfl,on,Z,R,HK4,hrel2⟩
               obtain⟨i',rfl⟩:∃i',i=i'+1:=⟨i-1,by omega⟩
               obtain⟨b',off',u,e',_,hu,Iu,e0,e1,_⟩:=R.atN (i:=i') (by omega);injection e' with e';injection e' with e1' e2' _;subst e1';subst e2';have hu60:=(HL.out i' u (by omega) hu).1;have ha:nG (bC ns) (i'+1)=some u.x.u:=by simp[nG,bC,hu]
               have hk:=HK3.out;rw[ha]at hk;dsimp only at hk;have HK4:=aH hk;clear hk ha hu HK3 HL;rw[hu60]at e1;have su:=Iu.cells;rw[hu60]at su;obtain⟨f,hf⟩:∃f,f=decide (fO u.x.u.cells U2.1.cells):=⟨_,rfl⟩
               have HF:=aH hf;clear hf;have hw1:((i'+1:Nat):Int)-1=(i':Int):=by omega
               have hi3:(i':Int)<3:=by omega
               have hg0:decide (((i'+1:Nat):Int) > 0)=true:=by simp<;>omega
               have z0:=Z.at_ 0 rfl;obtain⟨u0,u1⟩:=U.p2;have oz0:=aC z0;have ou0:=aC u0;have ou1:=aC u1;have oe0:=aC e0;have oe1:=aC e1;go_upto_region 23 with fail
               refine aS (by kernel_rfl) (by kernel_rfl) ?_
               repeat(go_big_quiet_step ((first
                | (go_at_call 23;exact bT (u:=.bool f) (nT U2.1.ep u.x.u.ep A2 u.A c2 u.c U2.1.cells u.x.u.cells _ (S.ontoX s2 _) (S.ontoX su _) HOK.out) (by rw[HF.out])))))
               refine wpQuiet_nil ?_;intro w12 ob;clear oz0 ou0 ou1 oe0 oe1 u0 u1 e0 e1 z0;replace on:=on.to ob;replace Z:=Z.oe ob;replace R:=R.oe ob;clear ob s2 su U Iu;rcases Bool.eq_false_or_eq_true f with hft|hft
               · have hk:=HK4.out;rw[if_pos (by have:=HF.out;rw[hft]at this;exact of_decide_eq_true this.symm)]at hk;have HK5:Hid (rN=cK (nG (bC ns) (i'+1+1)) ((bC ns).drop (i'+1+1))):=aH (by rw[HAH.out];exact hk);subst hft;clear hk HK4 HF;go_wp2_with fail;go_roundg (3-(i'+1+1))
                 case measure=>omega
                 case rel=>exact⟨i'+1+1,by omega,Nat.le_refl _,by go_num,on,Z,R,HK5,hrel2⟩
               have hk:=HK4.out;rw[if_neg (by have:=HF.out;rw[hft]at this;exact of_decide_eq_false this.symm)]at hk;have hfin:(4:Int)=r:=by rw[HR.out,if_pos (by rw[hk];simp),hk]
               have HFI:=aH hfin;subst hft;clear hk HK4 HF hfin;go_wp2_with fail;go_ret;exact⟨aO HFI.out,on⟩
             have hfin:q3=r:=by rw[HR.out,HK3.out,if_pos hq30,if_pos hq30]
             have HF:=aH hfin;have hqd:(q3 !=0)=true:=by simpa using hq30
             clear hfin hq30;go_wp2_with fail;go_ret;exact⟨aO HF.out,on⟩
           have hst:=HST.out;rw[if_pos (by simpa using hs)]at hst;have hfin:=BI HR.out HK2.out (by rw[hst];simp);rw[hst]at hfin;have HF:=aH hfin;have hsd:decide ((⟨U1.1.ep,U1.1.cells⟩:eM)=⟨v.x.u.ep,v.x.u.cells⟩)=false:=by rw[decide_eq_false_iff_not];exact hs
           rw[hsd];clear hst hs hsd hfin;go_wp2_with fail;go_ret;exact⟨aO HF.out,on.to bw⟩
         have hst:=HST.out;rw[if_pos hq20]at hst;have hfin:=BI HR.out HK2.out (by rw[hst];exact hq20);rw[hst]at hfin;have HF:=aH hfin;have hqd:(q2 !=0)=true:=by simpa using hq20
         clear hst hfin hq20 HST;go_wp2_with fail;go_ret;exact⟨aO HF.out,on.to bw⟩
      have hst:=HST.out;rw[if_pos hq0]at hst;have hfin:=BI HR.out HK2.out (by rw[hst];exact hq0);rw[hst]at hfin;have HF:=aH hfin;have hqd:(q !=0)=true:=by simpa using hq0
      clear hst hfin hq0 HST;go_wp2_with fail;go_ret;exact⟨aO HF.out,on⟩
    obtain rfl:i=3:=by omega
    have hk:=HK.out;rw[List.drop_eq_nil_of_le (by simp[HNL.out])]at hk;have hr2:=HR.out;rw[hk]at hr2;have hr3:r=cX (bC ns) (bL cs):=by rw[hr2];simp[cK]
    have HR3:=aH hr3;clear hk hr2 hr3 HK HR HN;have z2:=Z.at_ 2 rfl;have RK:=aH R;have HL3:=HL;clear HL;go_wp2_with fail;clear R z2
    go_loopg [11,12,109] 3 (fun g s11 s12 s109 wr=>∃k:Nat,k≤3∧3-k≤g∧s109=.int .i64 k∧aA w wr∧Bx wr z [.slice A 3 c,tip,.slice C 3 d,time]∧WR wr A 3 C 3 ns cs∧Hid (r=cX (bC ns) ((bL cs).drop k)))
    case atStart=>exact⟨0,by omega,by omega,rfl,on,Z,RK.out,HR3⟩
    case round =>
     clear Z on HR3 RK;obtain⟨i,hi,hgg,rfl,on,Z,R,HK⟩:=hrel;by_cases hlt:i<3
     · obtain⟨b,off,v,rfl,hb,hv,I,d0,d1,d2,d3,d4,d5,d6,d7,d8,d9,d10,d11⟩:=R.atC hlt;have hvc:(bL cs)[i]?=some v.x:=by simp[bL,hv]
       have hk:=HK.out;rw[zO hvc]at hk;obtain⟨q,hq⟩:∃q,q=aP v.x:=⟨_,rfl⟩
       rw[←hq]at hk;have HK2:=aH hk;have HQ:=aH hq;clear hk hv hvc hq HK;go_upto_region 29 with fail
       refine aW (v1:=[v.x.epoch,v.x.doing,v.x.e.kind,v.x.e.job,v.x.e.every,v.x.e.time,v.x.e.client,v.x.at_,v.x.link,v.x.played,.slice v.A v.n v.c,.slice v.G v.m v.d]) rfl fun w2 ob V=>?_
       replace on:=on.to ob;replace Z:=Z.oe ob;replace R:=R.oe ob;replace I:=I.oe ob;clear ob d0 d1 d2 d3 d4 d5 d6 d7 d8 d9 d10 d11 hb;generalize wr.heap.size=zv at *;obtain⟨v0,v1,v2,v3,v4,v5,v6,v7,v8,v9,v10,v11⟩:=V.p12;go_wp2_with fail;refine Calls.mono (pG v.x.epoch v.x.doing v.x.at_ v.x.link v.x.played v.x.e v.A v.G v.n v.c v.m v.d v.x.b _ I.jobs I.rung) ?_;rintro e w3⟨rfl,ob⟩;rw[show aP ⟨v.x.epoch,v.x.doing,v.x.e,v.x.at_,v.x.link,v.x.played,v.x.b⟩=q from HQ.out.symm];replace on:=on.to ob;replace Z:=Z.oe ob;replace R:=R.oe ob;replace V:=V.oe ob;clear ob v0 v1 v2 v3 v4 v5 v6 v7 v8 v9 v10 v11 I;by_cases hq0:q=0
       · subst hq0;have hk:=HK2.out;rw[if_neg (by simp)]at hk;have hok:=bK.1 HQ.out.symm;have HK3:=aH hk;obtain⟨⟨_,_,_,_,ha0,ha1,hl0,hl1,_,_⟩,_⟩:=hok;clear hk HK2 HQ;go_upto_region 32 with fail
         have z0:=Z.at_ 0 rfl;have v1:=V.at_ 1 rfl;have v2:=V.at_ 2 rfl;have v3:=V.at_ 3 rfl;have v4:=V.at_ 4 rfl;have v5:=V.at_ 5 rfl;have v6:=V.at_ 6 rfl;have v7:=V.at_ 7 rfl;have v8:=V.at_ 8 rfl;by_cases hdo:v.x.doing=2
         · by_cases hli:0<v.x.link
           · obtain⟨l',hl'⟩:∃l':Nat,v.x.link=((l'+1:Nat):Int):=⟨v.x.link.toNat-1,by omega⟩
             obtain⟨a,ha⟩:∃a:Nat,v.x.at_=(a:Int):=⟨v.x.at_.toNat,by omega⟩
             obtain⟨bn,on',u,rfl,hbn,hu,Iu,e0,e1,_⟩:=R.atN (i:=l') (by omega);have hu60:=(HL3.out l' u (by omega) hu).1;have hcu:=Iu.cells;rw[hu60]at e1 hcu;obtain⟨bc,oc,y,hA,hbc,hy,f0,f1,f2,f3,f4⟩:=hcu.atE (i:=a) (by omega)
             have hcell:bF (aV (bC ns) (v.x.link.toNat-1)).u.cells v.x.at_.toNat=y:=by
              rw[hl',ha,show((l'+1:Nat):Int).toNat-1=l' by omega,show((a:Nat):Int).toNat=a by omega,wZ (x:=u.x) (by simp[bC,hu])];exact dH hy
             have HC:=aH hcell;have hk:=HK3.out;rw[HC.out]at hk;have HK4:=aH hk;rw[hdo]at v1;rw[ha]at v7;rw[hl']at v8;rw[hA]at e1;have hl3:(l':Int)<3:=by omega
             have ha6:(a:Int)<60:=by omega
             have hg:decide (((l'+1:Nat):Int) > 0)=true:=by simp<;>omega
             have hw1:IntKind.i64.wrap (l':Int)=(l':Int):=IntWalk.i64_in _ (by omega);have HDO:=aH hdo;have HLI:=aH hli;clear hk HK3 hcell hy hu hcu Iu hu60 e0 hA hdo hl' ha hl0 hl1 ha0 ha1 hli;by_cases hye:y=v.x.e
             · have hd2:(!(y.kind ==v.x.e.kind&&y.job ==v.x.e.job&&y.every ==v.x.e.every&&y.time ==v.x.e.time&&y.client ==v.x.e.client))=false:=by simp[hye]
               have HK5:Hid (r=cX (bC ns) ((bL cs).drop (i+1))):=aH (by rw[HK4.out,if_neg (by simp[hye])]);clear hye HK4;go_quiet (fail);go_wp2_with fail;go_roundg (3-(i+1))
               case measure=>omega
               case rel=>exact⟨i+1,by omega,Nat.le_refl _,by go_num,on.Zv _,Z.Zv _,R.oe ((aA.Zz _).Zv _),HK5⟩
             have hd2:(!(y.kind ==v.x.e.kind&&y.job ==v.x.e.job&&y.every ==v.x.e.every&&y.time ==v.x.e.time&&y.client ==v.x.e.client))=true:=by
              rw[cD]at hye;simp only[Bool.not_eq_true',Bool.and_eq_false_iff,beq_eq_false_iff_ne];omega
             have hfin:(4:Int)=r:=by rw[HK4.out,if_pos ⟨HDO.out,HLI.out,hye⟩]
             have HF:=aH hfin;clear hye HK4 hfin;go_quiet (fail);go_wp2_with fail;go_ret;exact⟨aO HF.out,on.Zv _⟩
           have hl':v.x.link=0:=by omega
           have HK5:Hid (r=cX (bC ns) ((bL cs).drop (i+1))):=aH (by rw[HK3.out,if_neg (by omega)]);rw[hdo]at v1;rw[hl']at v8;clear HK3 hdo hli hl' hl0 hl1 ha0 ha1;go_quiet (fail);go_wp2_with fail;go_roundg (3-(i+1))
           case measure=>omega
           case rel=>exact⟨i+1,by omega,Nat.le_refl _,by go_num,on.Zv _,Z.Zv _,R.oe ((aA.Zz _).Zv _),HK5⟩
         have hd:(v.x.doing ==2)=false:=by simpa using hdo
         have HK5:Hid (r=cX (bC ns) ((bL cs).drop (i+1))):=aH (by rw[HK3.out,if_neg (by omega)]);clear HK3 hdo hl0 hl1 ha0 ha1;go_quiet (fail);go_wp2_with fail;go_roundg (3-(i+1))
         case measure=>omega
         case rel=>exact⟨i+1,by omega,Nat.le_refl _,by go_num,on.Zv _,Z.Zv _,R.oe ((aA.Zz _).Zv _),HK5⟩
       have hk:=HK2.out;rw[if_pos hq0]at hk;have HF:=aH hk.symm;have hqd:(q !=0)=true:=by simpa using hq0
       clear hk HK2 hq0;go_wp2_with fail;go_ret;exact⟨aO HF.out,on⟩
     obtain rfl:i=3:=by omega
     have hk:=HK.out;rw[List.drop_eq_nil_of_le (by simp[HCL.out])]at hk;have HF:Hid ((0:Int)=r):=aH (by rw[hk];rfl);clear hk HK R;go_wp2_with fail;go_ret;exact⟨aO HF.out,on⟩
 have hr4:(4:Int)=r:=by rw[hr];unfold dL;rw[if_pos (by simp[hnl,hcl];omega)]
 have HR:=aH hr4;clear hr hr4 hnl hcl R;by_cases hn:n=3
 · subst hn;have hm:¬ ((m:Int)=3):=by omega
   have hm':((m:Int) !=3)=true:=by simp;omega
   clear h3;go_enter func6,ntmps6;go_wp2_with fail;go_ret;exact⟨aO HR.out,by repeat(first|exact aA.Zz _|refine aA.new ?_ _)⟩
 have hn':¬ ((n:Int)=3):=by omega
 have hn2:((n:Int) !=3)=true:=by simp;omega
 clear h3 hn;go_enter func6,ntmps6;go_wp2_with fail;go_ret;exact⟨aO HR.out,by repeat(first|exact aA.Zz _|refine aA.new ?_ _)⟩
end
end Go.Proofs.YtpfkagghooihfaaGreatDoor
