/- Part 7. -/
import Derived.Test.YtpfkagghooihfaaGreatDoorBa03
namespace Go.Proofs.YtpfkagghooihfaaGreatDoor
set_option linter.unusedSimpArgs false
set_option linter.unusedVariables false
set_option maxHeartbeats 4000000
set_option maxRecDepth 100000
open Go.Proofs.Tryz
open Go.RowKit
section
def xL (w:World)(r:aL×Int)(e:Ending)(w':World):Prop:=e=.returned (.tuple #[.agg #[r.1.kind,r.1.job,r.1.every,r.1.time,r.1.client],r.2])∧aA w w'
theorem S.atS {w:World}{A:Option Addr}{n:Nat}{l:List (List UInt8)}(h:S w 1 A n (l.map vF)){i:Nat}(hi:i<n):∃b off x,A=some ⟨b,off,none⟩∧b<w.heap.size∧l[i]?=some x∧w.cell? ⟨b,off+i,none⟩=some (dC x):=by
 obtain⟨b,off,x,e,hb,hx,hc⟩:=Sl.at_ h hi;have h0:=hc 0 _ rfl;rw[Nat.mul_one]at h0;exact⟨b,off,x,e,hb,hx,h0⟩
theorem fV:(prog.info? 27).map (·.size)=some 5:=by kernel_rfl
theorem QG {l:List Int}{k:Nat}{v:Int}(h:l.length=k)(hk:k<3):([(l.getD 0 0:Int),(l.getD 1 0:Int),(l.getD 2 0:Int)]:List Value).set k (.int .i64 v)=[.int .i64 ((l ++[v]).getD 0 0),.int .i64 ((l ++[v]).getD 1 0),.int .i64 ((l ++[v]).getD 2 0)]:=by
 subst h
 match l,hk with
 | [],_=>rfl
 | [a],_=>rfl
 | [a,b],_=>rfl
theorem pX {c:UInt8}:∀ {l p:List UInt8},p∈bO c l→p.length≤l.length
 | [],p,h=>by simp[bO]at h;simp[h]
 |b ::l,p,h=>by
   rw[bO]at h
   split at h
   · rcases List.mem_cons.1 h with rfl|h
     · simp
     have:=pX h;simp;omega
   rcases List.mem_cons.1 h with rfl|h
   · have:=pX (show(bO c l).headD []∈bO c l by rw[rY];simp);simp;simpa using this
   have:=pX (List.mem_of_mem_tail h);simp;omega
theorem rA {t:List UInt8}:∀ {ts:List (List UInt8)}{l:List Int},gZ ts=some l→gZ (ts ++[t])=(jJ t).map fun v=>l ++[v]
 | [],l,h=>by simp[gZ]at h;subst h;simp only[List.nil_append,gZ];cases jJ t<;>rfl
 |a ::ts,l,h=>by
   simp only[gZ]at h;simp only[List.cons_append,gZ]
   cases ha:jJ a with
   |none=>rw[ha]at h;cases h
   |some v =>
     rw[ha]at h
     cases hr:gZ ts with
     |none=>rw[hr]at h;cases h
     |some r =>
       rw[hr]at h;injection h with h;subst h;simp only;rw[rA hr]
       cases jJ t<;>rfl
theorem mY {t:List UInt8}:∀ {ts:List (List UInt8)},t∈ts→jJ t=none→gZ ts=none
 | [],h,_=>by simp at h
 |a ::ts,h,hn=>by
   simp only[gZ];rcases List.mem_cons.1 h with rfl|h
   · rw[hn]
   rw[mY h hn];cases jJ a<;>rfl
theorem CN (s : List UInt8)(w : World)(hs : 30000 < s.length)(hm : s.length ≤ 9223372036854775807) :
    Calls prog 165 #[dC s] w (xL w (bP,2)):=by
 have hd:((30000:Int)<(s.length:Int)):=by omega
 go_enter func165,ntmps165;go_wp2;refine bodyPost_ret (v:=.tuple #[.agg #[(),(),(),(),()],(2:Int)]) (by simp[results,results165,go_sem]) rfl ⟨rfl,?_⟩
 repeat(first|exact aA.Zz _|refine aA.draw ?_|refine aA.new ?_ _|refine aA.put ?_ (by simp) _)
theorem PU {y:List UInt8}(h:(y ==[106,117,110,107])=true):Hid (gQ y=some (0,0)):=aH (by rw[beq_iff_eq]at h;subst h;rfl)
theorem PS {y:List UInt8}(h:(y ==[112,117,116])=true):Hid (gQ y=some (1,3)):=aH (by rw[beq_iff_eq]at h;subst h;rfl)
theorem PV {y:List UInt8}(h:(y ==[100,114,111,112])=true):Hid (gQ y=some (2,1)):=aH (by rw[beq_iff_eq]at h;subst h;rfl)
theorem PX {y:List UInt8}(h:(y ==[114,105,110,103])=true):Hid (gQ y=some (3,3)):=aH (by rw[beq_iff_eq]at h;subst h;rfl)
theorem OF {y:List UInt8}(h0:(y ==[106,117,110,107])=false)(h1:(y ==[112,117,116])=false)(h2:(y ==[100,114,111,112])=false)(h3:(y ==[114,105,110,103])=false):gQ y=none:=by
 rw[beq_eq_false_iff_ne]at h0 h1 h2 h3;unfold gQ JB LN FG FJ;rw[if_neg h0,if_neg h1,if_neg h2,if_neg h3]
theorem AV (s : List UInt8)(w : World)(E : fR w)(hs : s.length ≤ 30000) :
    Calls prog 165 #[dC s] w (xL w (bY (bO 32 s))):=by
 have HS:=aH hs;have hd2:decide ((30000:Int)<(s.length:Int))=false:=by simp;omega
 obtain⟨r,hr⟩:∃r,r=bY (bO 32 s):=⟨_,rfl⟩
 rw[←hr];have HR:=aH hr;clear hs hr;go_enter func165,ntmps165;go_wp2_with fail;refine Calls.mono (uZ 32 s (by have:=HS.out;omega) _ (E.new _)) ?_;rintro e w1⟨A,rfl,sA,b⟩;have on:aA w w1:=aA.to ((aA.Zz w).new _) b;have Bz:Bx w1 w.heap.size [(),(),(),(),()]:=(Bx.Zt w #[(),(),(),(),()] 27).oe b;have E1:=E.oe on;have hz:=Bz.lt;clear b;obtain⟨ws,hws⟩:∃ws,ws=bO 32 s:=⟨_,rfl⟩
 have hne:ws≠[]:=hws▸jZ 32 s;have hlw:∀t∈ws,t.length≤30000:=fun t ht=>Nat.le_trans (pX (hws▸ht)) HS.out
 rw[←hws]at sA HR⊢;clear hws
 obtain⟨h,ts,rfl⟩:∃h ts,ws=h ::ts:=by
  cases ws with
  |nil=>exact absurd rfl hne
  |cons h ts=>exact⟨h,ts,rfl⟩
 clear hne;have HTL:=aH (show∀t∈ts,t.length≤30000 from fun t ht=>hlw t (by simp[ht]));clear hlw;generalize hzz:w.heap.size=z at *;obtain⟨bb,off,y,rfl,hb,hy,d0⟩:=S.atS sA (i:=0) (by simp);have hy:y=h:=by simpa using hy.symm
 subst hy;rw[Nat.add_zero]at d0;have hn0:(0:Int)<((y ::ts).length:Int):=by simp
 go_upto_block 0 with fail
 go_cut [5,6] (fun s5 s6 wx=>∃ (k:Int) (m:Nat),s5=.int .i64 k∧s6=.int .i64 m∧wx=w1∧Hid (gQ y=some (k,m)))
 case first =>
  go_wp2_with (refine pU Bz [(),(),(),(),()] 27 fV ?_)
  all_goals first
   | (go_meet;first|exact⟨0,0,rfl,rfl,rfl,PU (by assumption)⟩|exact⟨1,3,rfl,rfl,rfl,PS (by assumption)⟩|exact⟨2,1,rfl,rfl,rfl,PV (by assumption)⟩|exact⟨3,3,rfl,rfl,rfl,PX (by assumption)⟩)
   |skip
  have hk:gQ y=none:=OF (by assumption) (by assumption) (by assumption) (by assumption);have hr:r=(bP,1):=by rw[HR.out];unfold bY;rw[List.headD_cons,hk]
  subst hr;have hF:=Bz.put (us:=[(),(),(),(),()]) rfl;have oF:=aA.Zw (b:=z) (o:=0) (us:=[(),(),(),(),()]) (by omega) on;generalize World.setCells _ z 0 [.int .i64 0,.int .i64 0,.int .i64 0,.int .i64 0,.int .i64 0]=wF at hF oF⊢;go_wp2_with fail;obtain⟨p0,p1,p2,p3,p4⟩:=hF.p5;refine bodyPost_ret (v:=.tuple #[.agg #[(),(),(),(),()],(1:Int)]) (by simp[results,results165,go_sem,p0,p1,p2,p3,p4]) rfl ⟨rfl,oF⟩
 case rest =>
  obtain⟨k,m,rfl,rfl,rfl,HK⟩:=hcut
  obtain⟨hm3,hkm⟩:m≤3∧(m=0∨1≤m):=by
   have h:=HK.out;unfold gQ at h
   (repeat' split at h)<;>simp at h<;>omega
  by_cases hlen:ts.length=m
  · subst hlen;have hq:((ts.length:Int)+1 !=(ts.length:Int)+1)=false:=by simp
    obtain⟨A',hA',sA'⟩:∃A',(∀w,(Instr.slice 146 (.slice (some ⟨bb,off,none⟩) (ts.length+1) (ts.length+1)) (some (.int .i64 1)) none none).run prog w=.ok (.slice A' ts.length ts.length) w)∧S wc 1 A' ts.length (ts.map vF):=by
     refine⟨_,fun w=>gO (size:=1) (some ⟨bb,off,none⟩) (ts.length+1) (ts.length+1) 1 underlying146 sizeOf9 (by omega) w,?_⟩;have:=Sl.cut (c:=ts.length+1) (m:=1) sA (by simp) (by simp);simpa using this
    clear hn0 hb hy d0 sA hkm;obtain⟨z7,hz7⟩:∃z7,z7=wc.heap.size:=⟨_,rfl⟩
    go_upto_region 17 with fail
    have B7:Bx (wc.alloc (Obj.cells #[(),(),()] 210)) z7 [(),(),()]:=by subst hz7;exact Bx.Zt _ _ _
    have oa:aA wc (wc.alloc (Obj.cells #[(),(),()] 210)):=(aA.Zz _).new _;rw[←hz7];generalize(wc.alloc (Obj.cells #[(),(),()] 210))=w7 at *;have E7:=E1.oe oa;have s7:=S.oe sA' oa;have hz7':wc.heap.size≤z7:=by omega
    clear hz7;go_wp2_with fail
    go_loopg [8,9,10,11,41] ts.length (fun g s8 s9 s10 s11 s41 wr=>∃ (kk:Nat) (l:List Int),kk≤ts.length∧ts.length-kk≤g∧s41=.int .i64 kk∧Hid (gZ (ts.take kk)=some l∧l.length=kk) ∧
     Bx wr z7 [(l.getD 0 0:Int),(l.getD 1 0:Int),(l.getD 2 0:Int)]∧aA wc wr∧fR wr∧S wr 1 A' ts.length (ts.map vF))
    case atStart=>exact⟨0,[],Nat.zero_le _,by omega,rfl,aH ⟨rfl,rfl⟩,B7,oa,E7,s7⟩
    case round =>
     obtain⟨kk,l,hkk,hg,rfl,HL,BR,hon,ER,sR⟩:=hrel;by_cases hlt:kk<ts.length
     · obtain⟨bb',off',t,rfl,hb,ht,d0⟩:=S.atS sR hlt;have HT:=aH ht;have htl:=HTL.out t (List.mem_of_getElem? ht);clear ht;go_wp2_with fail;refine Calls.mono (vN t (by omega) _ ER) ?_;rintro e w8⟨v,er,rfl,b,hres⟩;replace BR:=BR.oe b;replace sR:=S.oe sR b;replace ER:=ER.oe b;replace hon:=hon.to b;have BZ:=Bz.oe hon;have ow:=on.to hon;clear b d0 s7 B7 Bz;have sA0:=sA';clear sA';rcases hres with ⟨rfl,hok,hv0,hv1⟩| ⟨⟨et,ep,rfl⟩,hno⟩
       · have HOK:=aH hok;clear hok;by_cases hbt:Lib.itoa v=t
         · have hq1:(Lib.itoa v ==t)=true:=by simp[hbt]
           have HBT:=aH hbt;clear hbt;have hnum:jJ t=some v:=by unfold jJ;rw[HOK.out];simp only;rw[if_pos HBT.out]
           have HNUM:=aH hnum;clear hnum;go_wp2_with (go_at_call 121;refine(dX v hv0 hv1 _ ER).mono ?_;rintro e w9⟨rfl,b9⟩;refine Hid.out ?_)
           refine aH ?_;replace BR:=BR.oe b9;replace sR:=S.oe sR b9;replace ER:=ER.oe b9;replace hon:=hon.to b9;clear b9 BZ ow;have fr:=fun o=>BR.Zy o
           obtain⟨old,hold⟩:∃u,w9.cell? ⟨z7,kk,none⟩=some u:=⟨_,BR.at_ kk (List.getElem?_eq_getElem (show kk<3 by omega))⟩
           go_wp2_with fail;go_roundg (ts.length-(kk+1))
           case measure=>omega
           case rel =>
            have hB:=BR.Zq (j:=kk) (show kk<3 by omega) (.int .i64 v);rw[QG HL.out.2 (by omega)]at hB;have ob:aA wc (w9.setCell ⟨z7,kk,none⟩ (.int .i64 v)):=aA.put hon hz7' _;have oo:∀w,aA w wc→aA w (w9.setCell ⟨z7,kk,none⟩ (.int .i64 v)):=fun w h=>h.to ob
            refine⟨kk+1,l ++[v],by omega,by omega,by go_num,aH ⟨?_,by simp[HL.out.2]⟩,hB,ob,?_,?_⟩
            · rw[List.take_succ_eq_append_getElem hlt,(List.getElem?_eq_some_iff.1 HT.out).2,rA HL.out.1,HNUM.out];rfl
            · exact E1.oe ob
            exact S.oe sA0 ob
         have hq1:(Lib.itoa v ==t)=false:=by simp[hbt]
         have hn:jJ t=none:=by unfold jJ;rw[HOK.out];simp only;rw[if_neg hbt]
         have hr:r=(bP,1):=by rw[HR.out];unfold bY;rw[List.headD_cons,HK.out];dsimp only;rw[List.tail_cons,if_neg (by simp),mY (List.mem_of_getElem? HT.out) hn]
         subst hr;clear hbt;go_wp2_with (go_at_call 121;refine(dX v hv0 hv1 _ ER).mono ?_;rintro e w9⟨rfl,b9⟩;refine Hid.out ?_)
         refine aH ?_;replace BZ:=BZ.oe b9;replace ow:=ow.to b9;clear BR sR ER hon b9;go_wp2_with (refine pU BZ [(),(),(),(),()] 27 fV ?_)
         have hF:=BZ.put (us:=[(),(),(),(),()]) rfl;have oF:=aA.Zw (b:=z) (o:=0) (us:=[(),(),(),(),()]) (by omega) ow;generalize World.setCells _ z 0 [.int .i64 0,.int .i64 0,.int .i64 0,.int .i64 0,.int .i64 0]=wF at hF oF⊢;go_wp2_with fail;obtain⟨p0,p1,p2,p3,p4⟩:=hF.p5;refine bodyPost_ret (v:=.tuple #[.agg #[(),(),(),(),()],(1:Int)]) (by simp[results,results165,go_sem,p0,p1,p2,p3,p4]) rfl ⟨rfl,oF⟩
       have hn:jJ t=none:=by
        rcases wY t with ⟨v,h1,_⟩| ⟨_,h2⟩
        · exact absurd h1 (hno v)
        exact h2
       have hr:r=(bP,1):=by rw[HR.out];unfold bY;rw[List.headD_cons,HK.out];dsimp only;rw[List.tail_cons,if_neg (by simp),mY (List.mem_of_getElem? HT.out) hn]
       subst hr;go_wp2_with (refine pU BZ [(),(),(),(),()] 27 fV ?_)
       have hF:=BZ.put (us:=[(),(),(),(),()]) rfl;have oF:=aA.Zw (b:=z) (o:=0) (us:=[(),(),(),(),()]) (by omega) ow;generalize World.setCells _ z 0 [.int .i64 0,.int .i64 0,.int .i64 0,.int .i64 0,.int .i64 0]=wF at hF oF⊢;go_wp2_with fail;obtain⟨p0,p1,p2,p3,p4⟩:=hF.p5;refine bodyPost_ret (v:=.tuple #[.agg #[(),(),(),(),()],(1:Int)]) (by simp[results,results165,go_sem,p0,p1,p2,p3,p4]) rfl ⟨rfl,oF⟩
     have hkn:kk=ts.length:=by omega
     subst hkn;rw[List.take_length]at HL;have HLL:=aH HL.out.2;replace HL:=aH HL.out.1;obtain⟨n0,hn0⟩:∃n,n=l.getD 0 0:=⟨_,rfl⟩
     obtain⟨n1,hn1⟩:∃n,n=l.getD 1 0:=⟨_,rfl⟩
     obtain⟨n2,hn2⟩:∃n,n=l.getD 2 0:=⟨_,rfl⟩
     rw[←hn0,←hn1,←hn2]at BR;have HN0:=aH hn0;have HN1:=aH hn1;have HN2:=aH hn2;clear hn0 hn1 hn2 hkk hg hlt;have BZ:=Bz.oe hon;have ow:=on.to hon;have g0:=BR.at_ 0 rfl;clear Bz sA' s7 B7 sR;go_upto_region 26 with fail
     have oc:aA wr (wr.alloc (Obj.cells #[k,n0,(),(),()] 27)):=(aA.Zz _).new _;have B12:Bx (wr.alloc (Obj.cells #[k,n0,(),(),()] 27)) wr.heap.size [k,n0,(),(),()]:=Bx.Zt _ _ _;have h12:z7<wr.heap.size:=BR.lt;generalize(wr.alloc (Obj.cells #[k,n0,(),(),()] 27))=w12 at *;generalize hz12:wr.heap.size=z12 at *;clear g0;have BZr:=BZ;have owr:=ow;replace BZ:=BZ.oe oc;replace ow:=ow.to oc;replace BR:=BR.oe oc
     have hk4:k=0∨k=1∨k=2∨k=3:=by
      have h:=HK.out;unfold gQ at h
      (repeat' split at h)<;>simp at h<;>omega
     by_cases hk1:k=1
     · subst hk1;have hrr:yD 1 l=⟨1,n0,n1,n2,0⟩:=by rw[HN0.out,HN1.out,HN2.out];rfl
       have HRR:=aH hrr;clear hrr hk4;have g1:=BR.at_ 1 rfl;have g2:=BR.at_ 2 rfl;have b0:=B12.at_ 0 rfl;have b2:=B12.at_ 2 rfl;have b3:=B12.at_ 3 rfl;have fz:=fun o=>B12.Zy o
       have hne:z7≠z12:=by omega
       have gn:∀u,(w12.setCell ⟨z12,2,none⟩ u).cell? ⟨z12,3,none⟩=some (.int .i64 0):=fun u=>(B12.Zq (j:=2) (by simp) u).at_ 3 rfl
       have gm:∀u,(w12.setCell ⟨z12,3,none⟩ u).cell? ⟨z12,2,none⟩=some (.int .i64 0):=fun u=>(B12.Zq (j:=3) (by simp) u).at_ 2 rfl
       go_upto_region 27 with fail
       go_cut [] (fun wx=>Bx wx z12 [(1:Int),n0,n1,n2,()]∧aA wr wx)
       case first =>
        go_region_held3 (fun w'=>w'.cell? ⟨z7,1,none⟩=some (.int .i64 n1)∧w'.cell? ⟨z7,2,none⟩=some (.int .i64 n2))
         (first|exact⟨g1,g2⟩|exact⟨(BR.Zr (p:=⟨z12,2,none⟩) hne _).draw.at_ 1 rfl,(BR.Zr (p:=⟨z12,2,none⟩) hne _).draw.at_ 2 rfl⟩|exact⟨(BR.Zr (p:=⟨z12,3,none⟩) hne _).draw.at_ 1 rfl,(BR.Zr (p:=⟨z12,3,none⟩) hne _).draw.at_ 2 rfl⟩|exact⟨((BR.Zr (p:=⟨z12,2,none⟩) hne _).Zr (p:=⟨z12,3,none⟩) hne _).draw.at_ 1 rfl,((BR.Zr (p:=⟨z12,2,none⟩) hne _).Zr (p:=⟨z12,3,none⟩) hne _).draw.at_ 2 rfl⟩|exact⟨((BR.Zr (p:=⟨z12,3,none⟩) hne _).Zr (p:=⟨z12,2,none⟩) hne _).draw.at_ 1 rfl,((BR.Zr (p:=⟨z12,3,none⟩) hne _).Zr (p:=⟨z12,2,none⟩) hne _).draw.at_ 2 rfl⟩|fail)
         (first|fail)
        all_goals go_wp2_with fail
        all_goals
         go_meet;exact⟨((B12.Zq (j:=2) (by simp) _).Zq (j:=3) (by simp) _).draw,(aA.put (aA.put oc (by show wr.heap.size≤z12;omega) _) (by show wr.heap.size≤z12;omega) _).draw⟩
       case rest =>
        obtain⟨B12',ow12'⟩:=hcut;clear B12 g1 g2 b0 b2 b3 fz gn gm BR BZ ow;have B12:=B12';have BZ:=BZr.oe ow12';have ow:=owr.to ow12';clear B12' ow12' BZr owr oc
        have hr:r=if aG ⟨1,n0,n1,n2,0⟩≠0 then(bP,aG ⟨1,n0,n1,n2,0⟩)else(⟨1,n0,n1,n2,0⟩,0):=by
         rw[HR.out];unfold bY;rw[List.headD_cons,HK.out];dsimp only;rw[List.tail_cons,if_neg (by simp),HL.out];dsimp only;rw[HRR.out]
        obtain⟨q,hqq⟩:∃q,q=aG ⟨1,n0,n1,n2,0⟩:=⟨_,rfl⟩
        rw[←hqq]at hr;have HQ:=aH hqq;have HRQ:=aH hr;clear hqq hr;obtain⟨b0,b1,b2,b3,b4⟩:=B12.p5;go_wp2_with fail;refine Calls.mono (dG 1 n0 n1 n2 0 _) ?_;rintro e w13⟨rfl,b⟩;rw[show aG ⟨1,n0,n1,n2,0⟩=q from HQ.out.symm];replace BZ:=BZ.oe b;replace ow:=ow.to b;replace B12:=B12.oe b;clear b b0 b1 b2 b3 b4;by_cases hq0:q=0
        · have hr:=HRQ.out;rw[if_neg (by simp[hq0])]at hr;subst hr;have hq1:(q ==0)=true:=by simp[hq0]
          have hq2:(q !=0)=false:=by simp[hq0]
          obtain⟨b0,b1,b2,b3,b4⟩:=B12.p5;clear hq0 HRQ;go_wp2_with (refine pU BZ [(1:Int),n0,n1,n2,()] 27 fV ?_)
          have hF:=BZ.put (us:=[(1:Int),n0,n1,n2,()]) rfl;have oF:=aA.Zw (b:=z) (o:=0) (us:=[(1:Int),n0,n1,n2,()]) (by omega) ow;generalize World.setCells _ z 0 [.int .i64 1,.int .i64 n0,.int .i64 n1,.int .i64 n2,.int .i64 0]=wF at hF oF⊢;go_wp2_with fail;obtain⟨p0,p1,p2,p3,p4⟩:=hF.p5;refine bodyPost_ret (v:=.tuple #[.agg #[(1:Int),n0,n1,n2,()],()]) (by simp[results,results165,go_sem,p0,p1,p2,p3,p4]) rfl ⟨rfl,oF⟩
        have hr:=HRQ.out;rw[if_pos hq0]at hr;subst hr;have hq1:(q ==0)=false:=by simp[hq0]
        have hq2:(q !=0)=true:=by simp[hq0]
        clear hq0 B12 HRQ;go_wp2_with (refine pU BZ [(),(),(),(),()] 27 fV ?_)
        have hF:=BZ.put (us:=[(),(),(),(),()]) rfl;have oF:=aA.Zw (b:=z) (o:=0) (us:=[(),(),(),(),()]) (by omega) ow;generalize World.setCells _ z 0 [.int .i64 0,.int .i64 0,.int .i64 0,.int .i64 0,.int .i64 0]=wF at hF oF⊢;go_wp2_with fail;obtain⟨p0,p1,p2,p3,p4⟩:=hF.p5;refine bodyPost_ret (v:=.tuple #[.agg #[(),(),(),(),()],q]) (by simp[results,results165,go_sem,p0,p1,p2,p3,p4]) rfl ⟨rfl,oF⟩
     by_cases hk3:k=3
     · subst hk3;have hrr:yD 3 l=⟨3,n0,0,n1,n2⟩:=by rw[HN0.out,HN1.out,HN2.out];rfl
       have HRR:=aH hrr;clear hrr hk4 hk1;have g1:=BR.at_ 1 rfl;have g2:=BR.at_ 2 rfl;have b0:=B12.at_ 0 rfl;have b3:=B12.at_ 3 rfl;have b4:=B12.at_ 4 rfl;have fz:=fun o=>B12.Zy o
       have hne:z7≠z12:=by omega
       have gn:∀u,(w12.setCell ⟨z12,3,none⟩ u).cell? ⟨z12,4,none⟩=some (.int .i64 0):=fun u=>(B12.Zq (j:=3) (by simp) u).at_ 4 rfl
       have gm:∀u,(w12.setCell ⟨z12,4,none⟩ u).cell? ⟨z12,3,none⟩=some (.int .i64 0):=fun u=>(B12.Zq (j:=4) (by simp) u).at_ 3 rfl
       go_upto_region 29 with fail
       go_cut [] (fun wx=>Bx wx z12 [(3:Int),n0,(),n1,n2]∧aA wr wx)
       case first =>
        go_region_held3 (fun w'=>w'.cell? ⟨z7,1,none⟩=some (.int .i64 n1)∧w'.cell? ⟨z7,2,none⟩=some (.int .i64 n2))
         (first|exact⟨g1,g2⟩|exact⟨(BR.Zr (p:=⟨z12,3,none⟩) hne _).draw.at_ 1 rfl,(BR.Zr (p:=⟨z12,3,none⟩) hne _).draw.at_ 2 rfl⟩|exact⟨(BR.Zr (p:=⟨z12,4,none⟩) hne _).draw.at_ 1 rfl,(BR.Zr (p:=⟨z12,4,none⟩) hne _).draw.at_ 2 rfl⟩|exact⟨((BR.Zr (p:=⟨z12,3,none⟩) hne _).Zr (p:=⟨z12,4,none⟩) hne _).draw.at_ 1 rfl,((BR.Zr (p:=⟨z12,3,none⟩) hne _).Zr (p:=⟨z12,4,none⟩) hne _).draw.at_ 2 rfl⟩|exact⟨((BR.Zr (p:=⟨z12,4,none⟩) hne _).Zr (p:=⟨z12,3,none⟩) hne _).draw.at_ 1 rfl,((BR.Zr (p:=⟨z12,4,none⟩) hne _).Zr (p:=⟨z12,3,none⟩) hne _).draw.at_ 2 rfl⟩|fail)
         (first|fail)
        all_goals go_wp2_with fail
        all_goals
         go_meet;exact⟨((B12.Zq (j:=3) (by simp) _).Zq (j:=4) (by simp) _).draw,(aA.put (aA.put oc (by show wr.heap.size≤z12;omega) _) (by show wr.heap.size≤z12;omega) _).draw⟩
       case rest =>
        obtain⟨B12',ow12'⟩:=hcut;clear B12 g1 g2 b0 b3 b4 fz gn gm BR BZ ow;have B12:=B12';have BZ:=BZr.oe ow12';have ow:=owr.to ow12';clear B12' ow12' BZr owr oc
        have hr:r=if aG ⟨3,n0,0,n1,n2⟩≠0 then(bP,aG ⟨3,n0,0,n1,n2⟩)else(⟨3,n0,0,n1,n2⟩,0):=by
         rw[HR.out];unfold bY;rw[List.headD_cons,HK.out];dsimp only;rw[List.tail_cons,if_neg (by simp),HL.out];dsimp only;rw[HRR.out]
        obtain⟨q,hqq⟩:∃q,q=aG ⟨3,n0,0,n1,n2⟩:=⟨_,rfl⟩
        rw[←hqq]at hr;have HQ:=aH hqq;have HRQ:=aH hr;clear hqq hr;obtain⟨b0,b1,b2,b3,b4⟩:=B12.p5;go_wp2_with fail;refine Calls.mono (dG 3 n0 0 n1 n2 _) ?_;rintro e w13⟨rfl,b⟩;rw[show aG ⟨3,n0,0,n1,n2⟩=q from HQ.out.symm];replace BZ:=BZ.oe b;replace ow:=ow.to b;replace B12:=B12.oe b;clear b b0 b1 b2 b3 b4;by_cases hq0:q=0
        · have hr:=HRQ.out;rw[if_neg (by simp[hq0])]at hr;subst hr;have hq1:(q ==0)=true:=by simp[hq0]
          have hq2:(q !=0)=false:=by simp[hq0]
          obtain⟨b0,b1,b2,b3,b4⟩:=B12.p5;clear hq0 HRQ;go_wp2_with (refine pU BZ [(3:Int),n0,(),n1,n2] 27 fV ?_)
          have hF:=BZ.put (us:=[(3:Int),n0,(),n1,n2]) rfl;have oF:=aA.Zw (b:=z) (o:=0) (us:=[(3:Int),n0,(),n1,n2]) (by omega) ow;generalize World.setCells _ z 0 [.int .i64 3,.int .i64 n0,.int .i64 0,.int .i64 n1,.int .i64 n2]=wF at hF oF⊢;go_wp2_with fail;obtain⟨p0,p1,p2,p3,p4⟩:=hF.p5;refine bodyPost_ret (v:=.tuple #[.agg #[(3:Int),n0,(),n1,n2],()]) (by simp[results,results165,go_sem,p0,p1,p2,p3,p4]) rfl ⟨rfl,oF⟩
        have hr:=HRQ.out;rw[if_pos hq0]at hr;subst hr;have hq1:(q ==0)=false:=by simp[hq0]
        have hq2:(q !=0)=true:=by simp[hq0]
        clear hq0 B12 HRQ;go_wp2_with (refine pU BZ [(),(),(),(),()] 27 fV ?_)
        have hF:=BZ.put (us:=[(),(),(),(),()]) rfl;have oF:=aA.Zw (b:=z) (o:=0) (us:=[(),(),(),(),()]) (by omega) ow;generalize World.setCells _ z 0 [.int .i64 0,.int .i64 0,.int .i64 0,.int .i64 0,.int .i64 0]=wF at hF oF⊢;go_wp2_with fail;obtain⟨p0,p1,p2,p3,p4⟩:=hF.p5;refine bodyPost_ret (v:=.tuple #[.agg #[(),(),(),(),()],q]) (by simp[results,results165,go_sem,p0,p1,p2,p3,p4]) rfl ⟨rfl,oF⟩
     have hrr:yD k l=⟨k,n0,0,0,0⟩:=by unfold yD;rw[if_neg hk1,if_neg hk1,if_neg hk3,if_neg hk3,HN0.out]
     have HRR:=aH hrr;have hd1:(k ==1)=false:=by simp[hk1]
     have hd3:(k ==3)=false:=by simp[hk3]
     clear hrr hk4 hk1 hk3 BZr owr BR
     have hr:r=if aG ⟨k,n0,0,0,0⟩≠0 then(bP,aG ⟨k,n0,0,0,0⟩)else(⟨k,n0,0,0,0⟩,0):=by
      rw[HR.out];unfold bY;rw[List.headD_cons,HK.out];dsimp only;rw[List.tail_cons,if_neg (by simp),HL.out];dsimp only;rw[HRR.out]
     obtain⟨q,hqq⟩:∃q,q=aG ⟨k,n0,0,0,0⟩:=⟨_,rfl⟩
     rw[←hqq]at hr;have HQ:=aH hqq;have HRQ:=aH hr;clear hqq hr;obtain⟨b0,b1,b2,b3,b4⟩:=B12.p5;go_wp2_with fail;refine Calls.mono (dG k n0 0 0 0 _) ?_;rintro e w13⟨rfl,b⟩;rw[show aG ⟨k,n0,0,0,0⟩=q from HQ.out.symm];replace BZ:=BZ.oe b;replace ow:=ow.to b;replace B12:=B12.oe b;clear b b0 b1 b2 b3 b4;by_cases hq0:q=0
     · have hr:=HRQ.out;rw[if_neg (by simp[hq0])]at hr;subst hr;have hq1:(q ==0)=true:=by simp[hq0]
       have hq2:(q !=0)=false:=by simp[hq0]
       obtain⟨b0,b1,b2,b3,b4⟩:=B12.p5;clear hq0 HRQ;go_wp2_with (refine pU BZ [k,n0,(),(),()] 27 fV ?_)
       have hF:=BZ.put (us:=[k,n0,(),(),()]) rfl;have oF:=aA.Zw (b:=z) (o:=0) (us:=[k,n0,(),(),()]) (by omega) ow;generalize World.setCells _ z 0 [.int .i64 k,.int .i64 n0,.int .i64 0,.int .i64 0,.int .i64 0]=wF at hF oF⊢;go_wp2_with fail;obtain⟨p0,p1,p2,p3,p4⟩:=hF.p5;refine bodyPost_ret (v:=.tuple #[.agg #[k,n0,(),(),()],()]) (by simp[results,results165,go_sem,p0,p1,p2,p3,p4]) rfl ⟨rfl,oF⟩
     have hr:=HRQ.out;rw[if_pos hq0]at hr;subst hr;have hq1:(q ==0)=false:=by simp[hq0]
     have hq2:(q !=0)=true:=by simp[hq0]
     clear hq0 B12 HRQ;go_wp2_with (refine pU BZ [(),(),(),(),()] 27 fV ?_)
     have hF:=BZ.put (us:=[(),(),(),(),()]) rfl;have oF:=aA.Zw (b:=z) (o:=0) (us:=[(),(),(),(),()]) (by omega) ow;generalize World.setCells _ z 0 [.int .i64 0,.int .i64 0,.int .i64 0,.int .i64 0,.int .i64 0]=wF at hF oF⊢;go_wp2_with fail;obtain⟨p0,p1,p2,p3,p4⟩:=hF.p5;refine bodyPost_ret (v:=.tuple #[.agg #[(),(),(),(),()],q]) (by simp[results,results165,go_sem,p0,p1,p2,p3,p4]) rfl ⟨rfl,oF⟩
  have hq:((ts.length:Int)+1 !=(m:Int)+1)=true:=by simp;omega
  have hr:r=(bP,1):=by rw[HR.out];unfold bY;rw[List.headD_cons,HK.out];dsimp only;rw[List.tail_cons,if_pos hlen]
  subst hr;go_wp2_with (refine pU Bz [(),(),(),(),()] 27 fV ?_)
  have hF:=Bz.put (us:=[(),(),(),(),()]) rfl;have oF:=aA.Zw (b:=z) (o:=0) (us:=[(),(),(),(),()]) (by omega) on;generalize World.setCells _ z 0 [.int .i64 0,.int .i64 0,.int .i64 0,.int .i64 0,.int .i64 0]=wF at hF oF⊢;go_wp2_with fail;obtain⟨p0,p1,p2,p3,p4⟩:=hF.p5;refine bodyPost_ret (v:=.tuple #[.agg #[(),(),(),(),()],(1:Int)]) (by simp[results,results165,go_sem,p0,p1,p2,p3,p4]) rfl ⟨rfl,oF⟩
theorem zK (s : List UInt8)(w : World)(E : fR w)(hm : s.length ≤ 9223372036854775807) :
    Calls prog 165 #[dC s] w (xL w (zL s)):=by
 unfold zL;by_cases h:30000<s.length
 · rw[if_pos h];exact CN s w h hm
 rw[if_neg h];exact AV s w E (by omega)
end
end Go.Proofs.YtpfkagghooihfaaGreatDoor
