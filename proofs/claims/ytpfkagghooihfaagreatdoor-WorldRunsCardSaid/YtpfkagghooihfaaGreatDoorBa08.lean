/- Part 8. -/
import Derived.Test.YtpfkagghooihfaaGreatDoorBa04
import Derived.Test.YtpfkagghooihfaaGreatDoorBa03
import Derived.Test.YtpfkagghooihfaaGreatDoorBa05
namespace Go.Proofs.YtpfkagghooihfaaGreatDoor
set_option linter.unusedSimpArgs false
set_option linter.unusedVariables false
set_option maxHeartbeats 4000000
set_option maxRecDepth 100000
open Go.Proofs.Tryz
section
open Go.RowKit
theorem EJ (l:List aL):∀r∈l.map bA,∀u∈r,u.oneCell'=true:=by
 intro r hr u hu;obtain⟨x,_,rfl⟩:=List.mem_map.1 hr;simp[bA]at hu;rcases hu with rfl|rfl|rfl|rfl|rfl<;>rfl
theorem jE (k a ep : Int)(x : aL)(w : World) :
    Calls prog 143 #[.agg #[k,a,ep,x.kind,x.job,x.every,x.time,x.client]] w fun e w'=>e=.returned (.int .i64 (bI ⟨k,a,ep,x⟩))∧aA w w':=by
 obtain⟨r,hr⟩:∃r,r=bI ⟨k,a,ep,x⟩:=⟨_,rfl⟩
 rw[←hr];unfold bI at hr;simp only[ne_eq,cD,bP]at hr;go_enter func143,ntmps143;have hne:=rM;have HR:=aH hr;clear hr;go_wp2_with (go_at_call 81;refine Calls.mono (dG x.kind x.job x.every x.time x.client _) ?_;rintro e w2⟨rfl,hb2⟩)
 all_goals
  go_ret;refine⟨aO ?_,?_⟩
  · rw[HR.out];clear HR hne
    (try simp only[beq_iff_eq,beq_eq_false_iff_ne,bne_iff_ne,bne_eq_false_iff_eq,ne_eq,Bool.and_eq_true,Bool.and_eq_false_iff,Bool.not_eq_true',Bool.not_eq_false',Bool.or_eq_true,Bool.or_eq_false_iff,decide_eq_true_eq,decide_eq_false_iff_not]at *)
    (repeat' split)<;>first|rfl|omega
  repeat(first|exact Below.refl _ _|exact aA.to (by repeat(first|exact Below.refl _ _|refine Below.alloc ?_ (by simp<;>omega) _)) hb2|refine bV ?_ _|refine Below.alloc ?_ (by simp<;>omega) _)
theorem kS (ep : Int)(A : Option Addr)(n c : Nat)(cs : List aL)(w : World)(h : S w 5 A n (cs.map bA)) :
    Calls prog 142 #[.agg #[ep,.slice A n c]] w fun e w'=>e=.returned (.int .i64 (eJ ep cs))∧aA w w':=by
 have hl:cs.length=n:=by have:=h.len;simpa using this
 obtain⟨r,hr⟩:∃r,r=eJ ep cs:=⟨_,rfl⟩
 rw[←hr];unfold eJ at hr;by_cases h1:ep<1∨20<ep
 · rw[if_pos h1]at hr;subst hr;clear h hl;by_cases h2:ep<1
   all_goals
    go_enter func142,ntmps142;go_wp2_with fail
    any_goals
     go_ret;exact⟨rfl,by first|exact(Below.refl _ _).alloc (Nat.le_refl _) _|exact aA.Zv ((Below.refl _ _).alloc (Nat.le_refl _) _) _⟩
   all_goals (exfalso;omega)
 rw[if_neg h1]at hr;by_cases h60:n=60
 · rw[if_neg (by omega)]at hr;have hd1:decide (ep<1)=false:=by simp;omega
   have hd2:decide (20<ep)=false:=by simp;omega
   have hn1:¬ep<1:=by omega
   have hn2:¬20<ep:=by omega
   have HR:=aH hr;have HL:=aH hl;subst h60;clear hr h1 hl;go_enter func142,ntmps142;have heq:=OD;go_wp2_with fail
   go_loopw [21] (fun s wr=>∃k:Nat,k≤60∧s=.int .i64 k∧aA w wr∧Hid (eV cs=eV (cs.drop k))) (fun s _=>60-(intOf s).toNat)
   case atStart=>exact⟨0,by omega,rfl,(Below.refl _ _).alloc (Nat.le_refl _) _,by simp[Hid]⟩
   case round =>
    obtain⟨k,hk,rfl,hbr,HK⟩:=hrel;by_cases hlt:k<60
    · obtain⟨b,off,x,rfl,hb,hx,c0,c1,c2,c3,c4⟩:=(h.oe hbr).atE hlt;have HC:=aH (wU hx);have hal:aA wr (wr.alloc (Obj.cells #[x.kind,x.job,x.every,x.time,x.client] 27)):=(Below.refl _ _).alloc (Nat.le_refl _) _;clear hx;by_cases hbl:x=fK
      · have hcs:=HC.out;rw[if_pos hbl]at hcs;have HCS:=aH hcs;clear hcs HC;have hd:(x.kind ==4&&x.job ==0&&x.every ==0&&x.time ==0&&x.client ==0)=true:=by subst hbl;rfl
        clear hbl;go_wp2_with fail
        go_roundw
        case measure=>simp[intOf]<;>omega
        case rel=>exact⟨k+1,by omega,by go_num,aA.to hbr hal,by show _=_;rw[HK.out,HCS.out]⟩
      have hcs:=HC.out;rw[if_neg hbl]at hcs;have HCS:=aH hcs
      have hd:(x.kind ==4&&x.job ==0&&x.every ==0&&x.time ==0&&x.client ==0)=false:=by
       refine Bool.eq_false_iff.2 fun h=>hbl ?_
       simp at h;rw[cD];simp[fK];omega
      clear hbl hcs HC;go_wp2_with fail;refine Calls.mono (dG x.kind x.job x.every x.time x.client _) ?_;rintro e w2⟨rfl,hb2⟩;obtain⟨q,hq⟩:∃q,q=aG ⟨x.kind,x.job,x.every,x.time,x.client⟩:=⟨_,rfl⟩
      have hq':aG x=q:=hq.symm;rw[←hq];have hcs:=HCS.out;rw[hq']at hcs;have HCS':=aH hcs;clear hcs HCS hq hq';have h2:=(aA.to hbr hal).to hb2;by_cases hq0:q=0
      · subst hq0;go_wp2_with fail
        go_roundw
        case measure=>simp[intOf]<;>omega
        case rel=>exact⟨k+1,by omega,by go_num,h2,by show _=_;rw[HK.out,HCS'.out];rfl⟩
      have hq1:(q !=0)=true:=by simpa using hq0
      go_wp2_with fail;go_ret;exact⟨aO (by rw[HR.out,HK.out,HCS'.out,if_pos hq0]),h2⟩
    obtain rfl:k=60:=by omega
    have hfin:(0:Int)=r:=by rw[HR.out,HK.out,List.drop_eq_nil_of_le (by have:=HL.out;omega)];rfl
    have HF:=aH hfin;clear hfin;go_wp2_with fail;go_ret;exact⟨aO HF.out,hbr⟩
 have hd1:decide (ep<1)=false:=by simp;omega
 have hd2:decide (20<ep)=false:=by simp;omega
 have hn1:¬ep<1:=by omega
 have hn2:¬20<ep:=by omega
 have hnn:((n:Int) !=60)=true:=by simp;omega
 have hnn':¬ ((n:Int)=60):=by omega
 rw[if_pos (by omega)]at hr;subst hr;clear h h1 hl h60;go_enter func142,ntmps142;go_wp2_with fail;go_ret;exact⟨rfl,by first|exact(Below.refl _ _).alloc (Nat.le_refl _) _|exact aA.Zv ((Below.refl _ _).alloc (Nat.le_refl _) _) _⟩
end
section
open Go.RowKit
theorem M.off {w:World}{base k n:Nat}{A:Option Addr}{rows:List (List Value)}(h:M w base k A n rows){p:Addr}(hp:p.block<base)(u:Value):M (w.setCell p u) base k A n rows :=
 ⟨S.off h.1 (fun hn a e=>by
  obtain⟨b,off,e',h1,_⟩:=h.2 hn;rw[e]at e';injection e' with e';subst e';simp only
  omega) u,fun hn=>by obtain⟨b,off,e,h1,h2⟩:=h.2 hn;exact⟨b,off,e,h1,h2.put _ _⟩⟩
theorem M.putE {w : World}{base n b off i : Nat}{l : List aL}(h : M w base 5 (some ⟨b, off, none⟩) n (l.map bA))(hi : i < n)(x : aL) :
    M (((((w.setCell ⟨b,off+i*5,none⟩ (.int .i64 x.kind)).setCell ⟨b,off+i*5+1,none⟩ (.int .i64 x.job)).setCell ⟨b,off+i*5+2,none⟩ (.int .i64 x.every)).setCell ⟨b,off+i*5+3,none⟩ (.int .i64 x.time)).setCell ⟨b,off+i*5+4,none⟩ (.int .i64 x.client)) base 5 (some ⟨b,off,none⟩) n ((l.set i x).map bA):=by
 have hl:l.length=n:=by have:=h.1.len;simpa using this
 have hli:(l.map bA)[i]?=some (bA l[i]):=by simp[List.getElem?_eq_getElem (show i<l.length by omega)]
 have h1:=h.put (j:=0) hli (by simp[bA]) (.int .i64 x.kind);have h2:=h1.put (i:=i) (j:=1) (r:=(bA l[i]).set 0 (.int .i64 x.kind)) (by rw[List.getElem?_set];simp;omega) (by simp[bA]) (.int .i64 x.job);have h3:=h2.put (i:=i) (j:=2) (r:=((bA l[i]).set 0 (.int .i64 x.kind)).set 1 (.int .i64 x.job)) (by rw[List.getElem?_set];simp;omega) (by simp[bA]) (.int .i64 x.every);have h4:=h3.put (i:=i) (j:=3) (r:=(((bA l[i]).set 0 (.int .i64 x.kind)).set 1 (.int .i64 x.job)).set 2 (.int .i64 x.every)) (by rw[List.getElem?_set];simp;omega) (by simp[bA]) (.int .i64 x.time);have h5:=h4.put (i:=i) (j:=4) (r:=((((bA l[i]).set 0 (.int .i64 x.kind)).set 1 (.int .i64 x.job)).set 2 (.int .i64 x.every)).set 3 (.int .i64 x.time)) (by rw[List.getElem?_set];simp;omega) (by simp[bA]) (.int .i64 x.client);simpa[bA,List.map_set]using h5
theorem uE (ep : Int)(A : Option Addr)(n c : Nat)(cs : List aL)(w : World)(h : S w 5 A n (cs.map bA))(hn : n ≤ 100000) :
    Calls prog 64 #[.agg #[ep,.slice A n c]] w fun e w'=>∃A' c',e=.returned (.agg #[ep,.slice A' n c'])∧M w' w.heap.size 5 A' n (cs.map bA)∧aA w w'∧n≤c'∧c'≤maxLen:=by
 go_enter func64,ntmps64;go_wp2_with fail;refine Calls.mono (zP _ A n c _ (Nat.le_refl _) (cs.map bA) ((h.new _).new _) (EJ cs) (by omega)) ?_;rintro e w2⟨A',c',rfl,hown,hb⟩;have q0:w2.cell? ⟨w.heap.size,0,none⟩=some (.int .i64 ep):=aB hb (by simp[go_sem]);have q1:w2.cell? ⟨w.heap.size,1,none⟩=some (.slice A n c):=aB hb (by simp[go_sem]);have f1:w2.frozen? ⟨w.heap.size,1,none⟩=false:=aJ hb (v:=.slice A n c) (by simp[go_sem]) (by simp[go_sem]);have p0:w2.cell? ⟨w.heap.size+1,0,none⟩=some (.int .i64 0):=aB hb (by simp[go_sem]);have p1:w2.cell? ⟨w.heap.size+1,1,none⟩=some (.slice none 0 0):=aB hb (by simp[go_sem]);have g0:w2.frozen? ⟨w.heap.size+1,0,none⟩=false:=aJ hb (v:=.int .i64 0) (by simp[go_sem]) (by simp[go_sem]);have g1:w2.frozen? ⟨w.heap.size+1,1,none⟩=false:=aJ hb (v:=.slice none 0 0) (by simp[go_sem]) (by simp[go_sem]);have hz:w.heap.size+1<w2.heap.size:=World.block_lt_of_cell? _ _ p0;have h2:aA w w2:=(((Below.refl _ _).alloc (Nat.le_refl _) _).alloc (by simp) _).trans (hb.mono (by simp;omega));have hm:=hown.m;have hc1:=hown.Zs;have hc2:=hown.cap_max;simp only[World.size_alloc]at hm;have HM:=aH hm;clear hb h hm hown;go_wp2_with fail;refine bodyPost_ret (v:=.agg #[ep,.slice A' n c']) (by simp[results,results64,go_sem,q0,q1,p0,p1]) rfl ⟨A',c',rfl,?_,?_,hc1,hc2⟩
 · refine M.lower (base:=w.heap.size+1+1) ?_ (by omega)
   repeat(first|exact HM.out|refine M.off ?_ (by first|omega| (simp;done)| (simp;omega)) _)
 repeat(first|exact h2|refine aA.put ?_ (by first|omega| (simp;done)| (simp;omega)) _)
def OJ (w:World)(u:eM)(err:Int)(e:Ending)(w':World):Prop :=
 ∃A n c,e=.returned (.tuple #[.agg #[u.ep,.slice A n c],err])∧S w' 5 A n (u.cells.map bA)∧aA w w'∧n≤c∧c≤maxLen∧aR w.heap.size A
theorem M.fresh {w:World}{base k n lo:Nat}{A:Option Addr}{rows:List (List Value)}(h:M w base k A n rows)(hn:0<n)(hl:lo≤base):aR lo A:=fun a e=>by
 obtain⟨b,off,e',h1,_⟩:=h.2 hn;rw[e]at e';injection e' with e';subst e';simp only;omega
theorem uS (ep : Int)(A : Option Addr)(n c : Nat)(cs : List aL)(k a p : Int)(x : aL)(w : World)(h : S w 5 A n (cs.map bA)) :
    Calls prog 116 #[.agg #[ep,.slice A n c],.agg #[k,a,p,x.kind,x.job,x.every,x.time,x.client]] w (OJ w (bU ⟨ep,cs⟩ ⟨k,a,p,x⟩).1 (bU ⟨ep,cs⟩ ⟨k,a,p,x⟩).2):=by
 have hl:cs.length=n:=by have:=h.len;simpa using this
 obtain⟨q,hq⟩:∃q,q=eJ ep cs:=⟨_,rfl⟩
 obtain⟨q2,hq2⟩:∃q2,q2=bI ⟨k,a,p,x⟩:=⟨_,rfl⟩
 obtain⟨r,hr⟩:∃r,r=bU ⟨ep,cs⟩ ⟨k,a,p,x⟩:=⟨_,rfl⟩
 rw[←hr];unfold bU at hr;simp only[←hq,←hq2]at hr;have HQ:=aH hq;have HQ2:=aH hq2;by_cases h0:q=0
 · rw[if_neg (by simp[h0])]at hr;have hg:=dE.1 (h0▸hq.symm);have hn:n=60:=by rw[←hl];exact hg.len
   subst hn;by_cases h20:q2=0
   · rw[if_neg (by simp[h20])]at hr;have HG:=aH hg;subst h0;subst h20;have HR:=aH hr;clear hr hq hq2 hg;go_enter func116,ntmps116;go_wp2_with fail;have h1:=((h.new (Obj.cells #[ep,.slice A 60 c] 50)).new (Obj.cells #[k,a,p,x.kind,x.job,x.every,x.time,x.client] 90)).new (Obj.cells #[(),Nat] 50);refine Calls.mono (kS ep A 60 c cs _ h1) ?_;rw[←HQ.out];rintro e w1⟨rfl,hb1⟩;have q0a:w1.cell? ⟨w.heap.size,0,none⟩=some (.int .i64 ep):=aB hb1 (by simp[go_sem]);have q1a:w1.cell? ⟨w.heap.size,1,none⟩=some (.slice A 60 c):=aB hb1 (by simp[go_sem]);have r0a:w1.cell? ⟨w.heap.size+1,0,none⟩=some (.int .i64 k):=aB hb1 (by simp[go_sem]);have r1a:w1.cell? ⟨w.heap.size+1,1,none⟩=some (.int .i64 a):=aB hb1 (by simp[go_sem]);have r2a:w1.cell? ⟨w.heap.size+1,2,none⟩=some (.int .i64 p):=aB hb1 (by simp[go_sem]);have r3a:w1.cell? ⟨w.heap.size+1,3,none⟩=some (.int .i64 x.kind):=aB hb1 (by simp[go_sem]);have r4a:w1.cell? ⟨w.heap.size+1,4,none⟩=some (.int .i64 x.job):=aB hb1 (by simp[go_sem]);have r5a:w1.cell? ⟨w.heap.size+1,5,none⟩=some (.int .i64 x.every):=aB hb1 (by simp[go_sem]);have r6a:w1.cell? ⟨w.heap.size+1,6,none⟩=some (.int .i64 x.time):=aB hb1 (by simp[go_sem]);have r7a:w1.cell? ⟨w.heap.size+1,7,none⟩=some (.int .i64 x.client):=aB hb1 (by simp[go_sem]);have p0a:w1.cell? ⟨w.heap.size+1+1,0,none⟩=some (.int .i64 0):=aB hb1 (by simp[go_sem])
     have p1a:w1.cell? ⟨w.heap.size+1+1,1,none⟩=some (.slice none 0 0):=aB hb1 (by simp[go_sem]);have fq0a:w1.frozen? ⟨w.heap.size,0,none⟩=false:=aJ hb1 (v:=.int .i64 ep) (by simp[go_sem]) (by simp[go_sem]);have fq1a:w1.frozen? ⟨w.heap.size,1,none⟩=false:=aJ hb1 (v:=.slice A 60 c) (by simp[go_sem]) (by simp[go_sem]);have fp0a:w1.frozen? ⟨w.heap.size+1+1,0,none⟩=false:=aJ hb1 (v:=.int .i64 0) (by simp[go_sem]) (by simp[go_sem]);have fp1a:w1.frozen? ⟨w.heap.size+1+1,1,none⟩=false:=aJ hb1 (v:=.slice none 0 0) (by simp[go_sem]) (by simp[go_sem]);have h01:aA w w1:=((((Below.refl _ _).alloc (Nat.le_refl _) _).alloc (by simp) _).alloc (by simp;omega) _).trans (hb1.mono (by simp;omega));have h1':=h1.oe hb1;clear hb1 h h1;go_wp2_with fail;refine Calls.mono (jE k a p x _) ?_;rw[←HQ2.out];rintro e w2⟨rfl,hb2⟩;have q0b:=aB hb2 q0a;have q1b:=aB hb2 q1a;have r0b:=aB hb2 r0a;have r1b:=aB hb2 r1a;have r2b:=aB hb2 r2a;have r3b:=aB hb2 r3a;have r4b:=aB hb2 r4a;have r5b:=aB hb2 r5a;have r6b:=aB hb2 r6a;have r7b:=aB hb2 r7a;have p0b:=aB hb2 p0a;have p1b:=aB hb2 p1a;have fq0b:=aJ hb2 q0a fq0a;have fq1b:=aJ hb2 q1a fq1a;have fp0b:=aJ hb2 p0a fp0a;have fp1b:=aJ hb2 p1a fp1a;clear q0a q1a r0a r1a r2a r3a r4a r5a r6a r7a p0a p1a fq0a fq1a fp0a fp1a;have h2:=h1'.oe hb2;have h02:=h01.to hb2;clear hb2 h1' h01;go_wp2_with fail;have hz:w.heap.size+1+1<w2.heap.size:=World.block_lt_of_cell? _ _ p0b;refine Calls.mono (uE ep A 60 c cs _ h2 (by omega)) ?_
     rintro e w3⟨A',c',rfl,hm,hb3,hc1,hc2⟩;have q0c:=aB hb3 q0b;have q1c:=aB hb3 q1b;have r0c:=aB hb3 r0b;have r1c:=aB hb3 r1b;have r2c:=aB hb3 r2b;have r3c:=aB hb3 r3b;have r4c:=aB hb3 r4b;have r5c:=aB hb3 r5b;have r6c:=aB hb3 r6b;have r7c:=aB hb3 r7b;have p0c:=aB hb3 p0b;have p1c:=aB hb3 p1b;have fq0c:=aJ hb3 q0b fq0b;have fq1c:=aJ hb3 q1b fq1b;have fp0c:=aJ hb3 p0b fp0b;have fp1c:=aJ hb3 p1b fp1b;clear q0b q1b r0b r1b r2b r3b r4b r5b r6b r7b p0b p1b fq0b fq1b fp0b fp1b;have h03:=h02.to hb3;have hz3:w.heap.size+1+1<w3.heap.size:=World.block_lt_of_cell? _ _ p0c;clear hb3 h2 h02;go_upto_region 8 with fail
     have hm4:M ((w3.setCell ⟨w.heap.size,0,none⟩ (.int .i64 ep)).setCell ⟨w.heap.size,1,none⟩ (.slice A' 60 c')) w2.heap.size 5 A' 60 (cs.map bA):=M.off (M.off hm (by simp;omega) _) (by simp;omega) _;have h04:aA w ((w3.setCell ⟨w.heap.size,0,none⟩ (.int .i64 ep)).setCell ⟨w.heap.size,1,none⟩ (.slice A' 60 c')):=(h03.put (by simp) _).put (by simp) _;have q0d:((w3.setCell ⟨w.heap.size,0,none⟩ (.int .i64 ep)).setCell ⟨w.heap.size,1,none⟩ (.slice A' 60 c')).cell? ⟨w.heap.size,0,none⟩=some (.int .i64 ep):=by simp[go_sem,q0c,q1c]
     have q1d:((w3.setCell ⟨w.heap.size,0,none⟩ (.int .i64 ep)).setCell ⟨w.heap.size,1,none⟩ (.slice A' 60 c')).cell? ⟨w.heap.size,1,none⟩=some (.slice A' 60 c'):=by simp[go_sem,q0c,q1c]
     have r0d:((w3.setCell ⟨w.heap.size,0,none⟩ (.int .i64 ep)).setCell ⟨w.heap.size,1,none⟩ (.slice A' 60 c')).cell? ⟨w.heap.size+1,0,none⟩=some (.int .i64 k):=by simp[go_sem,r0c]
     have r1d:((w3.setCell ⟨w.heap.size,0,none⟩ (.int .i64 ep)).setCell ⟨w.heap.size,1,none⟩ (.slice A' 60 c')).cell? ⟨w.heap.size+1,1,none⟩=some (.int .i64 a):=by simp[go_sem,r1c]
     have r2d:((w3.setCell ⟨w.heap.size,0,none⟩ (.int .i64 ep)).setCell ⟨w.heap.size,1,none⟩ (.slice A' 60 c')).cell? ⟨w.heap.size+1,2,none⟩=some (.int .i64 p):=by simp[go_sem,r2c]
     have r3d:((w3.setCell ⟨w.heap.size,0,none⟩ (.int .i64 ep)).setCell ⟨w.heap.size,1,none⟩ (.slice A' 60 c')).cell? ⟨w.heap.size+1,3,none⟩=some (.int .i64 x.kind):=by simp[go_sem,r3c]
     have r4d:((w3.setCell ⟨w.heap.size,0,none⟩ (.int .i64 ep)).setCell ⟨w.heap.size,1,none⟩ (.slice A' 60 c')).cell? ⟨w.heap.size+1,4,none⟩=some (.int .i64 x.job):=by simp[go_sem,r4c]
     have r5d:((w3.setCell ⟨w.heap.size,0,none⟩ (.int .i64 ep)).setCell ⟨w.heap.size,1,none⟩ (.slice A' 60 c')).cell? ⟨w.heap.size+1,5,none⟩=some (.int .i64 x.every):=by simp[go_sem,r5c]
     have r6d:((w3.setCell ⟨w.heap.size,0,none⟩ (.int .i64 ep)).setCell ⟨w.heap.size,1,none⟩ (.slice A' 60 c')).cell? ⟨w.heap.size+1,6,none⟩=some (.int .i64 x.time):=by simp[go_sem,r6c]
     have r7d:((w3.setCell ⟨w.heap.size,0,none⟩ (.int .i64 ep)).setCell ⟨w.heap.size,1,none⟩ (.slice A' 60 c')).cell? ⟨w.heap.size+1,7,none⟩=some (.int .i64 x.client):=by simp[go_sem,r7c]
     have p0d:((w3.setCell ⟨w.heap.size,0,none⟩ (.int .i64 ep)).setCell ⟨w.heap.size,1,none⟩ (.slice A' 60 c')).cell? ⟨w.heap.size+1+1,0,none⟩=some (.int .i64 0):=by simp[go_sem,p0c]
     have p1d:((w3.setCell ⟨w.heap.size,0,none⟩ (.int .i64 ep)).setCell ⟨w.heap.size,1,none⟩ (.slice A' 60 c')).cell? ⟨w.heap.size+1+1,1,none⟩=some (.slice none 0 0):=by simp[go_sem,p1c]
     have fq0d:((w3.setCell ⟨w.heap.size,0,none⟩ (.int .i64 ep)).setCell ⟨w.heap.size,1,none⟩ (.slice A' 60 c')).frozen? ⟨w.heap.size,0,none⟩=false:=by simp[fq0c]
     have fq1d:((w3.setCell ⟨w.heap.size,0,none⟩ (.int .i64 ep)).setCell ⟨w.heap.size,1,none⟩ (.slice A' 60 c')).frozen? ⟨w.heap.size,1,none⟩=false:=by simp[fq1c]
     have fp0d:((w3.setCell ⟨w.heap.size,0,none⟩ (.int .i64 ep)).setCell ⟨w.heap.size,1,none⟩ (.slice A' 60 c')).frozen? ⟨w.heap.size+1+1,0,none⟩=false:=by simp[fp0c]
     have fp1d:((w3.setCell ⟨w.heap.size,0,none⟩ (.int .i64 ep)).setCell ⟨w.heap.size,1,none⟩ (.slice A' 60 c')).frozen? ⟨w.heap.size+1+1,1,none⟩=false:=by simp[fp1c]
     have hz4:w.heap.size+1+1<((w3.setCell ⟨w.heap.size,0,none⟩ (.int .i64 ep)).setCell ⟨w.heap.size,1,none⟩ (.slice A' 60 c')).heap.size:=by simp;omega
     clear q0c q1c r0c r1c r2c r3c r4c r5c r6c r7c p0c p1c fq0c fq1c fp0c fp1c h03 hm hz3;generalize((w3.setCell ⟨w.heap.size,0,none⟩ (.int .i64 ep)).setCell ⟨w.heap.size,1,none⟩ (.slice A' 60 c'))=w4 at *;have hm:=hm4;clear hm4;have HM:=aH hm;have HR0:=HR.out;clear HR;by_cases hk:k=2
     · rw[if_pos hk]at HR0;by_cases hle:p≤ep
       · rw[if_pos hle]at HR0;have HR:=aH HR0;subst hk;clear HR0 hm;go_wp2_with fail;refine bodyPost_ret (v:=.tuple #[.agg #[(),Nat],(8:Int)]) (by simp[results,results116,go_sem,p0d,p1d]) rfl ?_;rw[HR.out];refine⟨none,0,0,rfl,Sl.nil,?_,Nat.le_refl _,by unfold maxLen;omega,fun a e=>by cases e⟩
         repeat(first|exact h04|refine aA.put ?_ (by first|omega| (simp;done)| (simp;omega)) _)
       rw[if_neg hle]at HR0;have HR:=aH HR0;subst hk;clear HR0 hm;go_wp2_with fail;refine bodyPost_ret (v:=.tuple #[.agg #[p,.slice A' 60 c'],()]) (by simp[results,results116,go_sem,q0d,q1d,p0d,p1d]) rfl ?_;rw[HR.out];refine⟨A',60,c',rfl,?_,?_,hc1,hc2,HM.out.fresh (by omega) (by omega)⟩
       · refine M.sl (base:=w2.heap.size) ?_
         repeat(first|exact HM.out|refine M.off ?_ (by first|omega| (simp;done)| (simp;omega)) _)
       repeat(first|exact h04|refine aA.put ?_ (by first|omega| (simp;done)| (simp;omega)) _)
     rw[if_neg hk]at HR0;obtain⟨hk1,ha0,ha1,hp0,hx⟩:=kW HQ2.out.symm hk;dsimp only at hk1 ha0 ha1 hp0 hx;obtain⟨j,rfl⟩:∃j:Nat,a=j:=⟨a.toNat,by omega⟩
     obtain⟨b,off,y,rfl,hb,hy,e0,e1,e2,e3,e4⟩:=hm.sl.atE (i:=j) (by omega);have hya:=dH hy;simp only[Int.toNat_natCast,hya]at HR0;obtain⟨b',off',hA',hbase,hunf⟩:=hm.2 (by omega);injection hA' with hA';injection hA' with hb1 hb2 hb3;subst hb1;subst hb2;by_cases hy4:y.kind=4
     · rw[if_neg (by simp[hy4])]at HR0;have HR:=aH HR0;have HY:=aH hy;have hd:(y.kind !=4)=false:=by simp[hy4]
       clear HR0 hm hya hy;have u0:=hunf.frozen (off+j*5);have u1:=hunf.frozen (off+j*5+1);have u2:=hunf.frozen (off+j*5+2);have u3:=hunf.frozen (off+j*5+3);have u4:=hunf.frozen (off+j*5+4);have HU:=aH hunf;clear hunf;go_upto_region 16 with fail
       have hm5:M (((((w4.setCell ⟨b,off+j*5,none⟩ (.int .i64 x.kind)).setCell ⟨b,off+j*5+1,none⟩ (.int .i64 x.job)).setCell ⟨b,off+j*5+2,none⟩ (.int .i64 x.every)).setCell ⟨b,off+j*5+3,none⟩ (.int .i64 x.time)).setCell ⟨b,off+j*5+4,none⟩ (.int .i64 x.client)) w2.heap.size 5 (some ⟨b,off,none⟩) 60 ((cs.set j x).map bA):=M.putE HM.out (by omega) x;have hbw:w.heap.size≤b:=by omega
       have h05:aA w (((((w4.setCell ⟨b,off+j*5,none⟩ (.int .i64 x.kind)).setCell ⟨b,off+j*5+1,none⟩ (.int .i64 x.job)).setCell ⟨b,off+j*5+2,none⟩ (.int .i64 x.every)).setCell ⟨b,off+j*5+3,none⟩ (.int .i64 x.time)).setCell ⟨b,off+j*5+4,none⟩ (.int .i64 x.client)):=((((h04.put hbw _).put hbw _).put hbw _).put hbw _).put hbw _;have hne:∀i o u,∀W:World,(W.setCell ⟨b,i,none⟩ u).cell? ⟨w.heap.size,o,none⟩=W.cell? ⟨w.heap.size,o,none⟩:=fun i o u W=>World.cell?_setCell_other W _ _ _ (by intro e;injection e with e;omega)
       have hne2:∀i o u,∀W:World,(W.setCell ⟨b,i,none⟩ u).cell? ⟨w.heap.size+1+1,o,none⟩=W.cell? ⟨w.heap.size+1+1,o,none⟩:=fun i o u W=>World.cell?_setCell_other W _ _ _ (by intro e;injection e with e;omega)
       have q0f:(((((w4.setCell ⟨b,off+j*5,none⟩ (.int .i64 x.kind)).setCell ⟨b,off+j*5+1,none⟩ (.int .i64 x.job)).setCell ⟨b,off+j*5+2,none⟩ (.int .i64 x.every)).setCell ⟨b,off+j*5+3,none⟩ (.int .i64 x.time)).setCell ⟨b,off+j*5+4,none⟩ (.int .i64 x.client)).cell? ⟨w.heap.size,0,none⟩=some (.int .i64 ep):=by rw[hne,hne,hne,hne,hne];exact q0d
       have q1f:(((((w4.setCell ⟨b,off+j*5,none⟩ (.int .i64 x.kind)).setCell ⟨b,off+j*5+1,none⟩ (.int .i64 x.job)).setCell ⟨b,off+j*5+2,none⟩ (.int .i64 x.every)).setCell ⟨b,off+j*5+3,none⟩ (.int .i64 x.time)).setCell ⟨b,off+j*5+4,none⟩ (.int .i64 x.client)).cell? ⟨w.heap.size,1,none⟩=some (.slice (some ⟨b,off,none⟩) 60 c'):=by rw[hne,hne,hne,hne,hne];exact q1d
       have p0f:(((((w4.setCell ⟨b,off+j*5,none⟩ (.int .i64 x.kind)).setCell ⟨b,off+j*5+1,none⟩ (.int .i64 x.job)).setCell ⟨b,off+j*5+2,none⟩ (.int .i64 x.every)).setCell ⟨b,off+j*5+3,none⟩ (.int .i64 x.time)).setCell ⟨b,off+j*5+4,none⟩ (.int .i64 x.client)).cell? ⟨w.heap.size+1+1,0,none⟩=some (.int .i64 0):=by rw[hne2,hne2,hne2,hne2,hne2];exact p0d
       have p1f:(((((w4.setCell ⟨b,off+j*5,none⟩ (.int .i64 x.kind)).setCell ⟨b,off+j*5+1,none⟩ (.int .i64 x.job)).setCell ⟨b,off+j*5+2,none⟩ (.int .i64 x.every)).setCell ⟨b,off+j*5+3,none⟩ (.int .i64 x.time)).setCell ⟨b,off+j*5+4,none⟩ (.int .i64 x.client)).cell? ⟨w.heap.size+1+1,1,none⟩=some (.slice none 0 0):=by rw[hne2,hne2,hne2,hne2,hne2];exact p1d
       have fp0f:(((((w4.setCell ⟨b,off+j*5,none⟩ (.int .i64 x.kind)).setCell ⟨b,off+j*5+1,none⟩ (.int .i64 x.job)).setCell ⟨b,off+j*5+2,none⟩ (.int .i64 x.every)).setCell ⟨b,off+j*5+3,none⟩ (.int .i64 x.time)).setCell ⟨b,off+j*5+4,none⟩ (.int .i64 x.client)).frozen? ⟨w.heap.size+1+1,0,none⟩=false:=by simp[fp0d]
       have fp1f:(((((w4.setCell ⟨b,off+j*5,none⟩ (.int .i64 x.kind)).setCell ⟨b,off+j*5+1,none⟩ (.int .i64 x.job)).setCell ⟨b,off+j*5+2,none⟩ (.int .i64 x.every)).setCell ⟨b,off+j*5+3,none⟩ (.int .i64 x.time)).setCell ⟨b,off+j*5+4,none⟩ (.int .i64 x.client)).frozen? ⟨w.heap.size+1+1,1,none⟩=false:=by simp[fp1d]
       have hz5:w.heap.size+1+1<(((((w4.setCell ⟨b,off+j*5,none⟩ (.int .i64 x.kind)).setCell ⟨b,off+j*5+1,none⟩ (.int .i64 x.job)).setCell ⟨b,off+j*5+2,none⟩ (.int .i64 x.every)).setCell ⟨b,off+j*5+3,none⟩ (.int .i64 x.time)).setCell ⟨b,off+j*5+4,none⟩ (.int .i64 x.client)).heap.size:=by simp;omega
       clear q0d q1d r0d r1d r2d r3d r4d r5d r6d r7d p0d p1d fq0d fq1d fp0d fp1d h04 HM hz4 e0 e1 e2 e3 e4 u0 u1 u2 u3 u4 HU hb hne hne2;generalize(((((w4.setCell ⟨b,off+j*5,none⟩ (.int .i64 x.kind)).setCell ⟨b,off+j*5+1,none⟩ (.int .i64 x.job)).setCell ⟨b,off+j*5+2,none⟩ (.int .i64 x.every)).setCell ⟨b,off+j*5+3,none⟩ (.int .i64 x.time)).setCell ⟨b,off+j*5+4,none⟩ (.int .i64 x.client))=w5 at *;go_wp2_with fail;refine bodyPost_ret (v:=.tuple #[.agg #[ep,.slice (some ⟨b,off,none⟩) 60 c'],()]) (by simp[results,results116,go_sem,q0f,q1f,p0f,p1f]) rfl ?_;rw[HR.out];refine⟨some ⟨b,off,none⟩,60,c',rfl,?_,?_,hc1,hc2,hm5.fresh (by omega) (by omega)⟩
       · refine M.sl (base:=w2.heap.size) ?_;refine M.off (M.off hm5 ?_ _) ?_ _
         all_goals (first|omega| (simp;done)| (simp;omega))
       repeat(first|exact h05|refine aA.put ?_ (by first|omega| (simp;done)| (simp;omega)) _)
     rw[if_pos hy4]at HR0;have HR:=aH HR0;have HY:=aH hy;have hd:(y.kind !=4)=true:=by simpa using hy4
     clear HR0 hm hya hy;go_wp2_with fail;refine bodyPost_ret (v:=.tuple #[.agg #[(),Nat],(6:Int)]) (by simp[results,results116,go_sem,p0d,p1d]) rfl ?_;rw[HR.out];refine⟨none,0,0,rfl,Sl.nil,?_,Nat.le_refl _,by unfold maxLen;omega,fun a e=>by cases e⟩
     repeat(first|exact h04|refine aA.put ?_ (by first|omega| (simp;done)| (simp;omega)) _)
   have hq1:(q2 !=0)=true:=by simpa using h20
   have HG:=aH hg;rw[if_pos h20]at hr;have HR:=aH hr;subst h0;clear hr hq hq2 hg;go_enter func116,ntmps116;go_wp2_with fail;have h1:=((h.new (Obj.cells #[ep,.slice A 60 c] 50)).new (Obj.cells #[k,a,p,x.kind,x.job,x.every,x.time,x.client] 90)).new (Obj.cells #[(),Nat] 50);refine Calls.mono (kS ep A 60 c cs _ h1) ?_;rw[←HQ.out];rintro e w1⟨rfl,hb1⟩;have q0a:w1.cell? ⟨w.heap.size,0,none⟩=some (.int .i64 ep):=aB hb1 (by simp[go_sem]);have q1a:w1.cell? ⟨w.heap.size,1,none⟩=some (.slice A 60 c):=aB hb1 (by simp[go_sem]);have r0a:w1.cell? ⟨w.heap.size+1,0,none⟩=some (.int .i64 k):=aB hb1 (by simp[go_sem]);have r1a:w1.cell? ⟨w.heap.size+1,1,none⟩=some (.int .i64 a):=aB hb1 (by simp[go_sem]);have r2a:w1.cell? ⟨w.heap.size+1,2,none⟩=some (.int .i64 p):=aB hb1 (by simp[go_sem]);have r3a:w1.cell? ⟨w.heap.size+1,3,none⟩=some (.int .i64 x.kind):=aB hb1 (by simp[go_sem]);have r4a:w1.cell? ⟨w.heap.size+1,4,none⟩=some (.int .i64 x.job):=aB hb1 (by simp[go_sem]);have r5a:w1.cell? ⟨w.heap.size+1,5,none⟩=some (.int .i64 x.every):=aB hb1 (by simp[go_sem]);have r6a:w1.cell? ⟨w.heap.size+1,6,none⟩=some (.int .i64 x.time):=aB hb1 (by simp[go_sem]);have r7a:w1.cell? ⟨w.heap.size+1,7,none⟩=some (.int .i64 x.client):=aB hb1 (by simp[go_sem]);have p0a:w1.cell? ⟨w.heap.size+1+1,0,none⟩=some (.int .i64 0):=aB hb1 (by simp[go_sem]);have p1a:w1.cell? ⟨w.heap.size+1+1,1,none⟩=some (.slice none 0 0):=aB hb1 (by simp[go_sem])
   have fq0a:w1.frozen? ⟨w.heap.size,0,none⟩=false:=aJ hb1 (v:=.int .i64 ep) (by simp[go_sem]) (by simp[go_sem]);have fq1a:w1.frozen? ⟨w.heap.size,1,none⟩=false:=aJ hb1 (v:=.slice A 60 c) (by simp[go_sem]) (by simp[go_sem]);have fp0a:w1.frozen? ⟨w.heap.size+1+1,0,none⟩=false:=aJ hb1 (v:=.int .i64 0) (by simp[go_sem]) (by simp[go_sem]);have fp1a:w1.frozen? ⟨w.heap.size+1+1,1,none⟩=false:=aJ hb1 (v:=.slice none 0 0) (by simp[go_sem]) (by simp[go_sem]);have h01:aA w w1:=((((Below.refl _ _).alloc (Nat.le_refl _) _).alloc (by simp) _).alloc (by simp;omega) _).trans (hb1.mono (by simp;omega));have h1':=h1.oe hb1;clear hb1 h h1;go_wp2_with fail;refine Calls.mono (jE k a p x _) ?_;rw[←HQ2.out];rintro e w2⟨rfl,hb2⟩;have q0c:=aB hb2 q0a;have q1c:=aB hb2 q1a;have r0c:=aB hb2 r0a;have r1c:=aB hb2 r1a;have r2c:=aB hb2 r2a;have r3c:=aB hb2 r3a;have r4c:=aB hb2 r4a;have r5c:=aB hb2 r5a;have r6c:=aB hb2 r6a;have r7c:=aB hb2 r7a;have p0c:=aB hb2 p0a;have p1c:=aB hb2 p1a;have fq0c:=aJ hb2 q0a fq0a;have fq1c:=aJ hb2 q1a fq1a;have fp0c:=aJ hb2 p0a fp0a;have fp1c:=aJ hb2 p1a fp1a;clear q0a q1a r0a r1a r2a r3a r4a r5a r6a r7a p0a p1a fq0a fq1a fp0a fp1a;have h03:=h01.to hb2;clear h01 hb2 h1';go_wp2_with fail;refine bodyPost_ret (v:=.tuple #[.agg #[(),Nat],q2]) (by simp[results,results116,go_sem,p0c,p1c]) rfl ?_;rw[HR.out];refine⟨none,0,0,rfl,Sl.nil,?_,Nat.le_refl _,by unfold maxLen;omega,fun a e=>by cases e⟩
   repeat(first|exact h03|refine aA.put ?_ (by first|omega| (simp;done)| (simp;omega)) _)
 rw[if_pos h0]at hr;have hq0:(q !=0)=true:=by simpa using h0
 have HR:=aH hr;clear hr hq hq2;go_enter func116,ntmps116;go_wp2_with fail;refine Calls.mono (kS ep A n c cs _ (((h.new _).new _).new _)) ?_;rw[←HQ.out];rintro e w1⟨rfl,hb1⟩;have p0:w1.cell? ⟨w.heap.size+1+1,0,none⟩=some (.int .i64 0):=aB hb1 (by simp[go_sem]);have p1:w1.cell? ⟨w.heap.size+1+1,1,none⟩=some (.slice none 0 0):=aB hb1 (by simp[go_sem]);have g0:w1.frozen? ⟨w.heap.size+1+1,0,none⟩=false:=aJ hb1 (v:=.int .i64 0) (by simp[go_sem]) (by simp[go_sem]);have g1:w1.frozen? ⟨w.heap.size+1+1,1,none⟩=false:=aJ hb1 (v:=.slice none 0 0) (by simp[go_sem]) (by simp[go_sem]);have h01:aA w w1:=((((Below.refl _ _).alloc (Nat.le_refl _) _).alloc (by simp) _).alloc (by simp;omega) _).trans (hb1.mono (by simp;omega));clear hb1 h;go_wp2_with fail;refine bodyPost_ret (v:=.tuple #[.agg #[(),Nat],q]) (by simp[results,results116,go_sem,p0,p1]) rfl ?_;rw[HR.out];refine⟨none,0,0,rfl,Sl.nil,?_,Nat.le_refl _,by unfold maxLen;omega,fun a e=>by cases e⟩
 repeat(first|exact h01|refine aA.put ?_ (by first|omega| (simp;done)| (simp;omega)) _)
end
section
open Go.RowKit
structure UV where
 ep:Int
 A:Option Addr
 n:Nat
 c:Nat
 cells:List aL
def UV.u (v:UV):eM:=⟨v.ep,v.cells⟩
def cP (v:UV):List Value:=[v.ep,.slice v.A v.n v.c]
abbrev jW (l:List UV):List eM:=l.map UV.u
structure Us (w:World)(A:Option Addr)(n:Nat)(l:List UV):Prop where
 rows:S w 2 A n (l.map cP)
 cells:∀v∈l,S w 5 v.A v.n (v.cells.map bA)
 caps:∀v∈l,v.n≤v.c∧v.c≤maxLen
theorem Us.oe {w w':World}{A:Option Addr}{n:Nat}{l:List UV}(h:Us w A n l)(hb:aA w w'):Us w' A n l:=⟨h.rows.oe hb,fun v hv=>(h.cells v hv).oe hb,h.caps⟩
theorem Us.new {w:World}{A:Option Addr}{n:Nat}{l:List UV}(h:Us w A n l)(o:Obj):Us (w.alloc o) A n l:=h.oe ((Below.refl _ _).alloc (Nat.le_refl _) _)
theorem Us.len {w:World}{A:Option Addr}{n:Nat}{l:List UV}(h:Us w A n l):l.length=n:=by have:=h.rows.len;simpa using this
theorem Us.atU {w : World}{A : Option Addr}{n : Nat}{l : List UV}(h : Us w A n l){i : Nat}(hi : i < n) : ∃b off v, A = some ⟨b, off, none⟩ ∧ b < w.heap.size ∧ l[i]? = some v ∧
    w.cell? ⟨b,off+i*2,none⟩=some (.int .i64 v.ep)∧w.cell? ⟨b,off+i*2+1,none⟩=some (.slice v.A v.n v.c)∧S w 5 v.A v.n (v.cells.map bA)∧v.cells.length=v.n:=by
 obtain⟨b,off,x,e,hb,hx,hc⟩:=h.rows.at_ hi;have hs:=h.cells x (List.mem_of_getElem? hx);exact⟨b,off,x,e,hb,hx,hc 0 _ rfl,hc 1 _ rfl,hs,by have:=hs.len;simpa using this⟩
theorem kB {l:List UV}{i:Nat}{v:UV}(h:l[i]?=some v):(jW l)[i]?=some v.u:=by simp[jW,h]
theorem rQ (A : Option Addr)(n c : Nat)(l : List UV)(w : World)(h : Us w A n l) :
    Calls prog 130 #[.slice A n c] w fun e w'=>e=.returned (.int .i64 (gR (jW l)))∧aA w w':=by
 have hl:=h.len;obtain⟨r,hr⟩:∃r,r=gR (jW l):=⟨_,rfl⟩
 rw[←hr];unfold gR at hr;by_cases h3:n=3
 · subst h3;rw[if_neg (by simp[hl])]at hr;have HR:=aH hr;have HL:=aH hl;clear hr hl;go_enter func130,ntmps130;have hne:=rM;go_wp2_with fail
   go_loopw [13] (fun s wr=>∃k:Nat,k≤3∧s=.int .i64 k∧aA w wr∧Hid (r=mF (oQ (jW l) k) ((jW l).drop k))∧Hid (∀j v,j<k→l[j]?=some v→v.n=60)) (fun s _=>3-(intOf s).toNat)
   case atStart=>exact⟨0,by omega,rfl,Below.refl _ _,by show _=_;rw[HR.out];rfl,fun j v hj=>absurd hj (Nat.not_lt_zero _)⟩
   case round =>
    obtain⟨i,hi,rfl,hbr,HK,HN⟩:=hrel;by_cases hlt:i<3
    · obtain⟨b,off,u,rfl,hb,hu,e0,e1,hs,hul⟩:=(h.oe hbr).atU hlt
      have p0:0<i→∃v,l[i-1]?=some v∧wr.cell? ⟨b,off+(i-1)*2+1,none⟩=some (.slice v.A v.n v.c)∧S wr 5 v.A v.n (v.cells.map bA)∧v.n=60:=by
       intro hp;obtain⟨b',off',v,e',_,hv,_,e1',hs',_⟩:=(h.oe hbr).atU (i:=i-1) (by omega);injection e' with e';injection e' with e1 e2 _;subst e1;subst e2;exact⟨v,hv,e1',hs',HN.out _ v (by omega) hv⟩
      have HU:=aH (kB hu);have HU0:=aH hu;have hk:=HK.out;rw[yP HU.out]at hk;have HKK:=aH hk;have hal:aA wr (wr.alloc (Obj.cells #[u.ep,.slice u.A u.n u.c] 50)):=(Below.refl _ _).alloc (Nat.le_refl _) _;clear hk hu;go_wp2_with fail;refine Calls.mono (kS u.ep u.A u.n u.c u.cells _ (hs.new _)) ?_;rintro e w1⟨rfl,hb1⟩;obtain⟨q,hq⟩:∃q,q=eJ u.ep u.cells:=⟨_,rfl⟩
      rw[←hq];have hk:=HKK.out;rw[show eJ u.u.ep u.u.cells=q from hq.symm]at hk;have HKQ:=aH hk;have HQ:=aH hq;have q0:w1.cell? ⟨wr.heap.size,1,none⟩=some (.slice u.A u.n u.c):=aB hb1 (by simp[go_sem]);have h01:=(aA.to hbr hal).to hb1;have h11:=hal.to hb1;clear hk hq HKK;by_cases hq0:q=0
      · subst hq0;have hg:=dE.1 HQ.out.symm;have hun:u.n=60:=by rw[←hul];exact hg.len
        have hk:=HKQ.out;rw[if_neg (by simp)]at hk;rcases Nat.eq_zero_or_pos i with rfl|hpos
        · clear p0;have HK1:=aH hk;clear hk HKQ;go_wp2_with fail
          go_roundw
          case measure=>simp[intOf]<;>omega
          case rel =>
           refine⟨1,by omega,rfl,h01,?_,?_⟩
           · show _=_
             rw[HK1.out];simp[oQ,HU.out]
           show∀j v,_
           intro j v hj hv;obtain rfl:j=0:=by omega
           rw[HU0.out]at hv;injection hv with hv;rw[←hv];exact hun
        obtain⟨v,hv,ev,hsv,hv60⟩:=p0 hpos
        have ha:oQ (jW l) i=some v.u:=by
         obtain⟨i',rfl⟩:∃i',i=i'+1:=⟨i-1,by omega⟩
         simp only[Nat.add_sub_cancel]at hv;exact kB hv
        rw[ha]at hk;dsimp only at hk;have HK1:=aH hk;have HV:=aH hv;have ev1:=aB h11 ev;have hsv1:=hsv.oe h11;have hs1:=hs.oe h11;have hzb:b<w1.heap.size:=by have:=h11.size;omega
        clear hk HKQ p0 ha hv ev hsv hs e0 e1;have hi0:¬ ((i:Int)=0):=by omega
        have hi1:((i:Int) ==0)=false:=by simp;omega
        rw[hun]at hs1 q0⊢;rw[hv60]at hsv1 ev1;go_wp2_with fail
        go_loopw [28] (fun s ws=>∃k:Nat,k≤60∧s=.int .i64 k∧aA w1 ws∧Hid (∀j,j<k→(bF u.cells j).kind=4∨bF v.cells j=bF u.cells j)) (fun s _=>60-(intOf s).toNat)
        case atStart=>exact⟨0,by omega,rfl,Below.refl _ _,fun j hj=>absurd hj (Nat.not_lt_zero _)⟩
        case round =>
         obtain⟨k,hk,rfl,hbs,HJ⟩:=hrel;by_cases hkl:k<60
         · obtain⟨b1,off1,x,hA1,hz1,hx,c0,c1,c2,c3,c4⟩:=(hs1.oe hbs).atE hkl;obtain⟨b2,off2,y,hA2,hz2,hy,d0,d1,d2,d3,d4⟩:=(hsv1.oe hbs).atE hkl;have ev2:=aB hbs ev1;have hz3:=World.block_lt_of_cell? _ _ ev2;simp only at hz3;rw[hA2]at ev2;rw[hA1];have HX:=aH (dH hx);have HY:=aH (dH hy);have hpos':(0:Int)<(i:Int):=by omega
           have hal2:aA wr (wr.alloc (Obj.cells #[x.kind,x.job,x.every,x.time,x.client] 27)):=(Below.refl _ _).alloc (Nat.le_refl _) _;have hkk:(k:Int)<60:=by omega
           clear hx hy ev1 q0 hA1 hA2;by_cases h4:x.kind=4
           · have hd:(x.kind !=4)=false:=by simp[h4]
             have HH:=aH h4;clear h4;go_wp2_with fail;go_quiet (fail);go_wp2_with fail
             go_roundw
             case measure=>simp[intOf]<;>omega
             case rel =>
              refine⟨k+1,by omega,by go_num,aA.to hbs (aA.Zv hal2 _),?_⟩
              show∀j,_
              intro j hj;by_cases hjk:j=k
              · subst hjk;rw[HX.out];exact .inl HH.out
              exact HJ.out j (by omega)
           have hd:(x.kind !=4)=true:=by simpa using h4
           by_cases hxy:y=x
           · have hd2:(!(y.kind ==x.kind&&y.job ==x.job&&y.every ==x.every&&y.time ==x.time&&y.client ==x.client))=false:=by simp[hxy]
             have HH:=aH hxy;clear h4 hxy;go_wp2_with fail;go_quiet (fail);go_wp2_with fail
             go_roundw
             case measure=>simp[intOf]<;>omega
             case rel =>
              refine⟨k+1,by omega,by go_num,aA.to hbs (aA.Zv hal2 _),?_⟩
              show∀j,_
              intro j hj;by_cases hjk:j=k
              · subst hjk;rw[HX.out,HY.out];exact .inr HH.out
              exact HJ.out j (by omega)
           have hd2:(!(y.kind ==x.kind&&y.job ==x.job&&y.every ==x.every&&y.time ==x.time&&y.client ==x.client))=true:=by
            rw[cD]at hxy;simp only[Bool.not_eq_true',Bool.and_eq_false_iff,beq_eq_false_iff_ne];omega
           have hfin:(4:Int)=r:=by
            rw[HK1.out,if_neg (fun hf=>?_)];have:=hf k hkl;rw[show bF u.u.cells k=x from HX.out,show bF v.u.cells k=y from HY.out]at this;rcases this with e|e
            · exact h4 e
            exact hxy e
           have HF:=aH hfin;clear h4 hxy hfin;go_wp2_with fail;go_quiet (fail);go_wp2_with fail;go_ret;exact⟨aO HF.out,aA.to h01 (aA.to hbs (aA.Zv hal2 _))⟩
         obtain rfl:k=60:=by omega
         have hfit:fO v.u.cells u.u.cells:=HJ.out;have hk:=HK1.out;rw[if_pos hfit]at hk;have HK2:=aH hk;clear hk hfit;go_wp2_with fail
         go_roundw
         case measure=>simp[intOf]<;>omega
         case rel =>
          refine⟨i+1,by omega,by go_num,aA.to h01 hbs,?_,?_⟩
          · show _=_
            rw[HK2.out];simp[oQ,HU.out]
          show∀j v,_
          intro j v' hj hv';by_cases hji:j=i
          · subst hji;rw[HU0.out]at hv';injection hv' with hv';rw[←hv'];exact hun
          exact HN.out j v' (by omega) hv'
      have hq1:(q !=0)=true:=by simpa using hq0
      have hfin:q=r:=by rw[HKQ.out,if_pos hq0]
      have HF:=aH hfin;clear hfin;go_wp2_with fail;go_ret;exact⟨aO HF.out,h01⟩
    obtain rfl:i=3:=by omega
    have hfin:(0:Int)=r:=by rw[HK.out,List.drop_eq_nil_of_le (by simp[HL.out])];rfl
    have HF:=aH hfin;clear hfin;go_wp2_with fail;go_ret;exact⟨aO HF.out,hbr⟩
 rw[if_pos (by simp[hl];omega)]at hr;subst hr;have hnn:((n:Int) !=3)=true:=by simp;omega
 have hnn':¬ ((n:Int)=3):=by omega
 clear h hl h3;go_enter func130,ntmps130;go_wp2_with fail;go_ret;exact⟨rfl,Below.refl _ _⟩
end
section
open Go.RowKit
theorem Sl.one {w:World}{t:TypeId}(x:aL):Sl (w.alloc (Obj.cells #[x.kind,x.job,x.every,x.time,x.client] t)) (w.heap.size+1) 5 (some ⟨w.heap.size,0,none⟩) 1 [bA x]:=by
 have:=Sl.block (k:=5) (w:=w.alloc (Obj.cells #[x.kind,x.job,x.every,x.time,x.client] t)) [bA x] (mM rfl) (by simp[bA]) (by rfl);simpa using this
end
section
open Go.RowKit
theorem uD (w:World):Calls prog 43 #[] w fun e w'=>∃A c,e=.returned (.agg #[(1:Int),.slice A 60 c])∧S w' 5 A 60 (jI.cells.map bA)∧aA w w'∧60≤c∧c≤maxLen∧aR w.heap.size A:=by
 go_enter func43,ntmps43;go_wp2_with fail
 go_loopw [3] (fun s wr=>∃ (k:Nat) (A:Option Addr) (c:Nat),k≤60∧s=.int .i64 k∧Hid (cH wr (w.heap.size+2) 27 5 (.slice A k c) k ((List.replicate k fK).map bA))∧wr.cell? ⟨w.heap.size+1,0,none⟩=some (.int .i64 1)∧wr.cell? ⟨w.heap.size+1,1,none⟩=some (.slice A k c) ∧
  wr.frozen? ⟨w.heap.size+1,1,none⟩=false∧wr.cell? ⟨w.heap.size,0,none⟩=some (.int .i64 0)∧wr.cell? ⟨w.heap.size,1,none⟩=some (.slice none 0 0)∧wr.frozen? ⟨w.heap.size,0,none⟩=false∧wr.frozen? ⟨w.heap.size,1,none⟩=false∧aA w wr) (fun s _=>60-(intOf s).toNat)
 case atStart =>
  refine⟨0,none,0,by omega,rfl,cH.nil _ _ _ _,by simp[go_sem],by simp[go_sem],by simp[go_sem],by simp[go_sem],by simp[go_sem],by simp[go_sem],by simp[go_sem],?_⟩
  repeat(first|exact Below.refl _ _|refine Below.setCell ?_ (by simp) _|refine Below.alloc ?_ (by simp<;>omega) _)
 case round =>
  obtain⟨k,A,c,hk,rfl,HO,q0,q1,f1,p0,p1,g0,g1,hbr⟩:=hrel;have hz:w.heap.size+1<wr.heap.size:=World.block_lt_of_cell? _ _ q0;by_cases hlt:k<60
  · obtain⟨i0,hi0,hzz0,hzz1,hzz2⟩:=info_parts IU;have HI0:=aH hi0;have HZ0:=aH hzz0;have HZ1:=aH hzz1;have HZ2:=aH hzz2;clear hi0 hzz0 hzz1 hzz2;have hnew:Sl (wr.alloc (Obj.cells #[(4:Int),(),(),(),()] 27)) (wr.heap.size+1) 5 (some ⟨wr.heap.size,0,none⟩) 1 [bA fK]:=Sl.one fK;have HNEW:=aH hnew;clear hnew;go_wp2_with (at_builtin;refine aQ _ rfl (.tmp 6) (.tmp 8) 48 rfl (w.heap.size+2) 27 i0 _ 5 40 underlying48 HI0.out HZ0.out HZ1.out HZ2.out rfl (by decide) (.slice A k c) k ((List.replicate k fK).map bA) rfl (HO.out.alloc _) (wr.heap.size+1) (some ⟨wr.heap.size,0,none⟩) 1 1 [bA fK] rfl HNEW.out (by simp[bA,Value.oneCell']) (by unfold maxLen;omega) (by omega) (by simp;omega) ?_)
    intro v8 w8 own8 grow8 hv8;obtain⟨A8,c8,rfl,_,_⟩:=own8.slice;have nr:∀z,z<w.heap.size+2→some z≠Value.ownBlock (.slice A k c):=fun z hz=>HO.out.Zo hz
    have hbA:Below wr.heap.size wr (wr.alloc (Obj.cells #[(4:Int),(),(),(),()] 27)):=(Below.refl _ _).alloc (Nat.le_refl _) _;have q0':=aD grow8 (aB hbA q0) (nr _ (by simp only;omega));have q1':=aD grow8 (aB hbA q1) (nr _ (by simp only;omega));have p0':=aD grow8 (aB hbA p0) (nr _ (by simp only;omega));have p1':=aD grow8 (aB hbA p1) (nr _ (by simp only;omega));have f1':=bM grow8 (aB hbA q1) (aJ hbA q1 f1) (nr _ (by simp only;omega));have g0':=bM grow8 (aB hbA p0) (aJ hbA p0 g0) (nr _ (by simp only;omega));have g1':=bM grow8 (aB hbA p1) (aJ hbA p1 g1) (nr _ (by simp only;omega));have hB8:Below w.heap.size w w8:=aT (hbr.alloc (by omega) _) (by simp;omega) grow8 (fun g hg=>by have:=(HO.out.1.lt g hg).1;omega);have hz8:w.heap.size+1<w8.heap.size:=World.block_lt_of_cell? _ _ q0';have HO8:=aH own8;clear q0 q1 p0 p1 f1 g0 g1 hbA nr grow8 hv8 hbr hz own8 HO HI0 HZ0 HZ1 HZ2 HNEW;go_wp2_with fail
    go_roundw
    case measure=>simp[intOf]<;>omega
    case rel =>
     refine⟨k+1,A8,c8,by omega,by go_num,?_,by simp[go_sem,q0',q1'],by simp[go_sem,q1'],by simp[f1'],by simp[go_sem,p0'],by simp[go_sem,p1'],by simp[g0'],by simp[g1'],hB8.setCell (by simp) _⟩;have h:=HO8.out.setCell (p:=⟨w.heap.size+1,1,none⟩) (by simp only;omega) (.slice A8 (k+1) c8);refine aH ?_;have e:(List.replicate (k+1) fK).map bA=(List.replicate k fK).map bA ++[bA fK]:=by rw[List.replicate_succ',List.map_append];rfl
     rw[e]
     first|exact h| (rw[List.map_replicate];exact h)
  obtain rfl:k=60:=by omega
  go_wp2_with fail;refine bodyPost_ret (v:=.agg #[(1:Int),.slice A 60 c]) (by simp[results,results43,go_sem,p0,p1]) rfl ⟨A,c,rfl,?_,?_,HO.out.Zs,HO.out.cap_max,HO.out.fresh (by omega)⟩
  · have h:=((HO.out.setCell (p:=⟨w.heap.size,0,none⟩) (by simp only;omega) (.int .i64 1)).setCell (p:=⟨w.heap.size,1,none⟩) (by simp only;omega) (.slice A 60 c)).sl;exact Sl.more h (by simp)
  exact(hbr.setCell (by simp) _).setCell (by simp) _
end
section
open Go.RowKit
def fD (w:World)(u:eM)(err:Int)(e:Ending)(w':World):Prop :=
 ∃A n c,e=.returned (.tuple #[.agg #[u.ep,.slice A n c],err])∧S w' 5 A n (u.cells.map bA)∧aA w w'∧aR w.heap.size A∧n≤c∧c≤maxLen
def oL (z:Nat)(A:Option Addr):Prop:=∀a,A=some a→a.block≠z
theorem oL.n {z n:Nat}{A:Option Addr}(h:oL z A):bQ n z A:=fun _=>h
theorem aR.offs {lo z:Nat}{A:Option Addr}(h:aR lo A)(hz:z<lo):oL z A:=fun a e=>by have:=h a e;omega
theorem JU {u:eM}{r:dI}:(bU u r).1.cells.length≤60:=by
 unfold bU
 split
 · simp
 next hc =>
 have hl:=(dE.1 (Decidable.not_not.1 hc)).len
 repeat' split
 all_goals (simp only[List.length_nil,List.length_set];omega)
theorem wV:∀ {l:List dI}{u:eM},u.cells.length≤60→(cM u l).1.cells.length≤60
 | [],u,h=>h
 |r ::l,u,h=>by
   unfold cM
   split
   · simp
   exact wV JU
theorem tI (l:List dI):(cI l).1.cells.length≤60:=by
 unfold cI
 split
 · simp
 exact wV (by simp[jI])
theorem gN (A : Option Addr)(n c : Nat)(l : List dI)(w : World)(h : S w 8 A n (l.map eO)) :
    Calls prog 80 #[.slice A n c] w (fD w (cI l).1 (cI l).2):=by
 have hl:l.length=n:=by have:=h.len;simpa using this
 by_cases hbig:160<n
 · have hs:cI l=(⟨0,[]⟩,2):=by unfold cI;rw[if_pos (by omega)]
   have HS:=aH hs;have hd:decide ((160:Int)<(n:Int))=true:=by simp;omega
   have hd':(160:Int)<(n:Int):=by omega
   clear h hs hl;go_enter func80,ntmps80;go_wp2;refine bodyPost_ret (v:=.tuple #[.agg #[(),Nat],(2:Int)]) (by simp[results,results80,go_sem]) rfl ?_;rw[HS.out];refine⟨none,0,0,rfl,Sl.nil,?_,aR.Zp _,by omega,by simp[maxLen]⟩
   repeat(first|exact aA.Zz _|refine aA.put ?_ (by simp<;>omega) _|refine aA.new ?_ _)
 have hs:cI l=cM jI l:=by unfold cI;rw[if_neg (by omega)]
 have hn60:n≤160:=by omega
 have hd:decide ((160:Int)<(n:Int))=false:=by simp;omega
 have hd':¬ (160:Int)<(n:Int):=by omega
 have HS:=aH hs;have HL:=aH hl;clear hs hl hbig;have h0:=h;go_enter func80,ntmps80;go_wp2_with fail;refine Calls.mono (uD _) ?_;rintro e w1⟨A1,c1,rfl,s1,o1,hq1,hq2,hfr⟩;have r0:w1.cell? ⟨w.heap.size,0,none⟩=some (.int .i64 0):=aB o1 (by simp[go_sem]);have r1:w1.cell? ⟨w.heap.size,1,none⟩=some (.slice none 0 0):=aB o1 (by simp[go_sem]);have g0:w1.frozen? ⟨w.heap.size,0,none⟩=false:=aJ (v:=.int .i64 0) o1 (by simp[go_sem]) (by simp[go_sem]);have g1:w1.frozen? ⟨w.heap.size,1,none⟩=false:=aJ (v:=.slice none 0 0) o1 (by simp[go_sem]) (by simp[go_sem]);have hzr:w.heap.size<w1.heap.size:=World.block_lt_of_cell? _ _ r0;have hf1:aR (w.heap.size+1) A1:=by simpa using hfr
 have hof1:oL w1.heap.size A1:=Sl.Zx s1 (Nat.le_refl _) (by omega);replace o1:aA w w1:=aA.to ((aA.Zz w).new _) o1;replace h:=S.oe h o1;go_upto_region 4 with fail
 have hO:aA w1 (w1.alloc (Obj.cells #[(1:Int),.slice A1 60 c1] 50)):=(aA.Zz w1).new _;have p0:(w1.alloc (Obj.cells #[(1:Int),.slice A1 60 c1] 50)).cell? ⟨w1.heap.size,0,none⟩=some (.int .i64 1):=by simp[go_sem]
 have p1:(w1.alloc (Obj.cells #[(1:Int),.slice A1 60 c1] 50)).cell? ⟨w1.heap.size,1,none⟩=some (.slice A1 60 c1):=by simp[go_sem]
 have f0:(w1.alloc (Obj.cells #[(1:Int),.slice A1 60 c1] 50)).frozen? ⟨w1.heap.size,0,none⟩=false:=by simp[go_sem]
 have f1:(w1.alloc (Obj.cells #[(1:Int),.slice A1 60 c1] 50)).frozen? ⟨w1.heap.size,1,none⟩=false:=by simp[go_sem]
 replace g0:=aJ hO r0 g0;replace g1:=aJ hO r1 g1;replace r0:=aB hO r0;replace r1:=aB hO r1;replace s1:=S.oe s1 hO;replace h:=S.oe h hO;replace o1:=aA.to o1 hO;have hzz:w1.heap.size<(w1.alloc (Obj.cells #[(1:Int),.slice A1 60 c1] 50)).heap.size:=by simp
 have ofb:oL w1.heap.size A1:=hof1;have ofr:oL w.heap.size A1:=hf1.offs (by omega);have ohb:bQ n w1.heap.size A:=h0.Zx (by omega);have ohr:bQ n w.heap.size A:=h0.Zx (Nat.le_refl _);have hfw:aR w.heap.size A1:=fun a e=>by have:=hf1 a e;omega
 clear hO hf1 hfr hof1;change Code.wp _ _ _ _ (w1.alloc (Obj.cells #[(1:Int),.slice A1 60 c1] 50));generalize(w1.alloc (Obj.cells #[(1:Int),.slice A1 60 c1] 50))=w2 at *;generalize w1.heap.size=zb at *;have hne:zb≠w.heap.size:=by omega
 go_wp2_with fail
 go_loopw [15] (fun s wr => ∃ (k : Nat) (u : eM) (A1 : Option Addr) (n1 c1 : Nat), k ≤ n ∧ s = .int .i64 k ∧ wr.cell? ⟨zb, 0, none⟩ = some (.int .i64 u.ep) ∧ wr.cell? ⟨zb, 1, none⟩ = some (.slice A1 n1 c1) ∧ wr.frozen? ⟨zb, 0, none⟩ = false ∧ wr.frozen? ⟨zb, 1, none⟩ = false ∧
     wr.cell? ⟨w.heap.size,0,none⟩=some (.int .i64 0)∧wr.cell? ⟨w.heap.size,1,none⟩=some (.slice none 0 0)∧wr.frozen? ⟨w.heap.size,0,none⟩=false∧wr.frozen? ⟨w.heap.size,1,none⟩=false ∧
     S wr 5 A1 n1 (u.cells.map bA)∧oL zb A1∧oL w.heap.size A1∧aR w.heap.size A1∧S wr 8 A n (l.map eO)∧zb<wr.heap.size∧aA w wr∧n1≤c1∧c1≤maxLen∧Hid (cM jI l=cM u (l.drop k))) (fun s _=>n-(intOf s).toNat)
 case atStart=>exact⟨0,jI,A1,60,c1,Nat.zero_le _,rfl,p0,p1,f0,f1,r0,r1,g0,g1,s1,ofb,ofr,hfw,h,hzz,o1,hq1,hq2,rfl⟩
 case round =>
  obtain⟨k,u,A1,n1,c1,hk,rfl,p0,p1,f0,f1,r0,r1,g0,g1,s1,ofb,ofr,hfw,h,hzz,o1,hq1,hq2,HG⟩:=hrel;by_cases hlt:k<n
  · obtain⟨bb,off,x,rfl,hbb,hx,d0,d1,d2,d3,d4,d5,d6,d7⟩:=h.atQ hlt;have hat:=yR (u:=u) hx;have HAT:=aH hat;clear hat hx;go_upto_region 7 with fail
    have hO:aA wr (wr.alloc (Obj.cells #[x.kind,x.at_,x.epoch,x.e.kind,x.e.job,x.e.every,x.e.time,x.e.client] 90)):=(aA.Zz wr).new _;have e0:(wr.alloc (Obj.cells #[x.kind,x.at_,x.epoch,x.e.kind,x.e.job,x.e.every,x.e.time,x.e.client] 90)).cell? ⟨wr.heap.size,0,none⟩=some (.int .i64 x.kind):=by simp[go_sem]
    have e1:(wr.alloc (Obj.cells #[x.kind,x.at_,x.epoch,x.e.kind,x.e.job,x.e.every,x.e.time,x.e.client] 90)).cell? ⟨wr.heap.size,1,none⟩=some (.int .i64 x.at_):=by simp[go_sem]
    have e2:(wr.alloc (Obj.cells #[x.kind,x.at_,x.epoch,x.e.kind,x.e.job,x.e.every,x.e.time,x.e.client] 90)).cell? ⟨wr.heap.size,2,none⟩=some (.int .i64 x.epoch):=by simp[go_sem]
    have e3:(wr.alloc (Obj.cells #[x.kind,x.at_,x.epoch,x.e.kind,x.e.job,x.e.every,x.e.time,x.e.client] 90)).cell? ⟨wr.heap.size,3,none⟩=some (.int .i64 x.e.kind):=by simp[go_sem]
    have e4:(wr.alloc (Obj.cells #[x.kind,x.at_,x.epoch,x.e.kind,x.e.job,x.e.every,x.e.time,x.e.client] 90)).cell? ⟨wr.heap.size,4,none⟩=some (.int .i64 x.e.job):=by simp[go_sem]
    have e5:(wr.alloc (Obj.cells #[x.kind,x.at_,x.epoch,x.e.kind,x.e.job,x.e.every,x.e.time,x.e.client] 90)).cell? ⟨wr.heap.size,5,none⟩=some (.int .i64 x.e.every):=by simp[go_sem]
    have e6:(wr.alloc (Obj.cells #[x.kind,x.at_,x.epoch,x.e.kind,x.e.job,x.e.every,x.e.time,x.e.client] 90)).cell? ⟨wr.heap.size,6,none⟩=some (.int .i64 x.e.time):=by simp[go_sem]
    have e7:(wr.alloc (Obj.cells #[x.kind,x.at_,x.epoch,x.e.kind,x.e.job,x.e.every,x.e.time,x.e.client] 90)).cell? ⟨wr.heap.size,7,none⟩=some (.int .i64 x.e.client):=by simp[go_sem]
    clear d0 d1 d2 d3 d4 d5 d6 d7 hbb;replace g0:=aJ hO r0 g0;replace g1:=aJ hO r1 g1;replace r0:=aB hO r0;replace r1:=aB hO r1;replace f0:=aJ hO p0 f0;replace f1:=aJ hO p1 f1;replace p0:=aB hO p0;replace p1:=aB hO p1;replace s1:=S.oe s1 hO;replace h:=S.oe h hO;replace o1:=aA.to o1 hO;have hz3:zb<(wr.alloc (Obj.cells #[x.kind,x.at_,x.epoch,x.e.kind,x.e.job,x.e.every,x.e.time,x.e.client] 90)).heap.size:=by simp;omega
    clear hO hzz;change Code.wp _ _ _ _ (wr.alloc (Obj.cells #[x.kind,x.at_,x.epoch,x.e.kind,x.e.job,x.e.every,x.e.time,x.e.client] 90));generalize(wr.alloc (Obj.cells #[x.kind,x.at_,x.epoch,x.e.kind,x.e.job,x.e.every,x.e.time,x.e.client] 90))=w3 at *;generalize wr.heap.size=be at *;obtain⟨r,hr⟩:∃r,r=bU u x:=⟨_,rfl⟩
    have HR:=aH hr;clear hr;go_wp2_with fail;refine Calls.mono (uS u.ep A1 n1 c1 u.cells x.kind x.at_ x.epoch x.e _ s1) ?_;rw[show bU ⟨u.ep,u.cells⟩ ⟨x.kind,x.at_,x.epoch,x.e⟩=r from HR.out.symm];rintro e w4⟨A2,n2,c2,rfl,s2,hO,hq3,hq4,fr2⟩;have of2b:oL zb A2:=fr2.offs hz3;have of2r:oL w.heap.size A2:=fr2.offs (by omega);have fw2:aR w.heap.size A2:=fun a e=>by have:=fr2 a e;omega
    clear fr2;replace g0:=aJ hO r0 g0;replace g1:=aJ hO r1 g1;replace r0:=aB hO r0;replace r1:=aB hO r1;replace f0:=aJ hO p0 f0;replace f1:=aJ hO p1 f1;replace p0:=aB hO p0;replace p1:=aB hO p1;replace s1:=S.oe s1 hO;replace h:=S.oe h hO;replace o1:=aA.to o1 hO;have hz4:zb<w4.heap.size:=World.block_lt_of_cell? _ _ p0;clear hO e0 e1 e2 e3 e4 e5 e6 e7 s1 ofb ofr hfw hz3;obtain⟨q,hq⟩:∃q,q=r.2:=⟨_,rfl⟩
    rw[←hq];have HQ:=aH hq;clear hq;by_cases hq0:q=0
    · subst hq0;have HG2:Hid (cM jI l=cM r.1 (l.drop (k+1))):=aH (by rw[HG.out,HAT.out,←HR.out,if_neg (by simp[←HQ.out])]);go_wp2_with fail
      go_roundw
      case measure=>simp[intOf]<;>omega
      case rel =>
       refine⟨k+1,r.1,A2,n2,c2,by omega,by go_num,?_,?_,?_,?_,?_,?_,?_,?_,?_,of2b,of2r,fw2,?_,?_,?_,hq3,hq4,HG2⟩
       · simp[go_sem,p0,p1]
       · simp[go_sem,p0,p1]
       · simp[go_sem,f0]
       · simp[go_sem,f1]
       · simp[go_sem,r0,hne]
       · simp[go_sem,r1,hne]
       · simp[go_sem,g0]
       · simp[go_sem,g1]
       · exact S.off (S.off s2 of2b.n _) of2b.n _
       · exact S.off (S.off h ohb _) ohb _
       · simp;omega
       exact aA.put (aA.put o1 (by simp only;omega) _) (by simp only;omega) _
    have hqd:(q !=0)=true:=by simpa using hq0
    have hres:cI l=(⟨0,[]⟩,q):=by rw[HS.out,HG.out,HAT.out,←HR.out,if_pos (by rw[←HQ.out];exact hq0),HQ.out]
    have HRES:=aH hres;clear hres;go_wp2_with fail;refine bodyPost_ret (v:=.tuple #[.agg #[(),Nat],q]) (by simp[results,results80,go_sem,r0,r1,hne]) rfl ?_;rw[HRES.out];refine⟨none,0,0,rfl,Sl.nil,?_,aR.Zp _,by omega,by simp[maxLen]⟩
    repeat(first|exact o1|refine aA.put ?_ (by simp<;>omega) _|refine aA.new ?_ _)
  have hkn:k=n:=by omega
  subst hkn
  have hres:cI l=(u,0):=by
   rw[HS.out,HG.out,List.drop_eq_nil_of_le (by have:=HL.out;omega)];rfl
  have HRES:=aH hres;clear hres h;go_wp2_with fail;refine bodyPost_ret (v:=.tuple #[.agg #[u.ep,.slice A1 n1 c1],()]) (by simp[results,results80,go_sem,r0,r1,g0,g1]) rfl ?_;rw[HRES.out];exact⟨A1,n1,c1,rfl,S.off (S.off s1 ofr.n _) ofr.n _,aA.put (aA.put o1 (by simp only;omega) _) (by simp only;omega) _,hfw,hq1,hq2⟩
end
section
open Go.ChangeShapes Go.WideShapes Go.ChangeAt Go.RowKit Go.Deep Go.Joins
theorem wM:prog.cellsOf 50=2:=by kernel_rfl
theorem yH:prog.cellsOf 48=1:=by kernel_rfl
set_option maxRecDepth 100000 in
theorem GA {w:World}{cs:List Value}(h:iG w 50 cs):∃v,cs=cP v∧(pH v.ep∧S w 5 v.A v.n (v.cells.map bA)∧v.n≤v.c∧v.c≤maxLen):=by
 obtain⟨hl,hf⟩:=dQ underlying50 h;rw[wM]at hl
 match cs,hl with
 | [c0,c1],_ =>
   simp only[sZ,jQ,yH]at hf;obtain⟨h0,h1,_⟩:=hf;obtain⟨z0,e0,i0⟩:=cB h0;obtain⟨A,n,c,l,e1,hnc,hcm,_,hs⟩:=xY h1;simp at e0 e1;exact⟨⟨z0,A,n,c,l⟩,by simp[cP,e0,e1],i0,hs,hnc,hcm⟩
end
section
open Go.RowKit
set_option maxHeartbeats 1000000 in
theorem pB (ep ep' : Int)(A A' : Option Addr)(n c m d : Nat)(cs cs' : List aL)(w : World)(h : S w 5 A n (cs.map bA))(h' : S w 5 A' m (cs'.map bA))(hn : n ≤ 9223372036854775807) :
    Calls prog 38 #[.agg #[ep,.slice A n c],.agg #[ep',.slice A' m d]] w fun e w'=>e=.returned (.bool (decide ((⟨ep,cs⟩:eM)=⟨ep',cs'⟩)))∧aA w w':=by
 have HN:=aH hn;clear hn;by_cases hep:ep=ep'
 · have hd:(ep ==ep')=true:=by simpa using hep
   have hdec:decide (cs=cs')=decide ((⟨ep,cs⟩:eM)=⟨ep',cs'⟩):=by subst hep;simp
   have HD:=aH hdec;clear hdec hep;go_enter func38,ntmps38;go_wp2_with fail;refine Calls.mono (sB A A' n m c d _ cs cs' _ ((h.new _).new _) ((h'.new _).new _) HN.out) ?_;rintro e w'⟨rfl,q,rfl⟩;rw[HD.out];clear h h';go_wp2_with fail;go_ret;refine⟨QS (by simp),?_⟩;exact aA.Zv (((Below.refl _ _).alloc (Nat.le_refl _) _).alloc (by simp) _) q
 have hd:(ep ==ep')=false:=by simpa using hep
 have hdec:decide ((⟨ep,cs⟩:eM)=⟨ep',cs'⟩)=false:=by simp[hep]
 rw[hdec];clear h h' hep hdec;go_enter func38,ntmps38;go_wp2_with fail;go_ret;exact⟨rfl,by first|exact((Below.refl _ _).alloc (Nat.le_refl _) _).alloc (by simp) _|exact aA.Zv (((Below.refl _ _).alloc (Nat.le_refl _) _).alloc (by simp) _) _⟩
end
section
open Go.RowKit
set_option maxHeartbeats 1000000 in
theorem rS (ep ep' : Int)(A A' : Option Addr)(n c m d : Nat)(cs cs' : List aL)(w : World)(h : S w 5 A n (cs.map bA))(h' : S w 5 A' m (cs'.map bA))(hn : n ≤ 9223372036854775807) :
    Calls prog 22 #[.agg #[ep,.slice A n c],.agg #[ep',.slice A' m d]] w fun e w'=>e=.returned (.bool (decide ((⟨ep,cs⟩:eM)=⟨ep',cs'⟩)))∧aA w w':=by
 have HN:=aH hn;clear hn;by_cases hep:ep=ep'
 · have hd:(ep ==ep')=true:=by simpa using hep
   have hdec:decide (cs=cs')=decide ((⟨ep,cs⟩:eM)=⟨ep',cs'⟩):=by subst hep;simp
   have HD:=aH hdec;clear hdec hep;go_enter func22,ntmps22;go_wp2_with fail;refine Calls.mono (sB A A' n m c d _ cs cs' _ ((h.new _).new _) ((h'.new _).new _) HN.out) ?_;rintro e w'⟨rfl,q,rfl⟩;rw[HD.out];clear h h';go_wp2_with fail;go_ret;refine⟨QS (by simp),?_⟩;exact aA.Zv (((Below.refl _ _).alloc (Nat.le_refl _) _).alloc (by simp) _) q
 have hd:(ep ==ep')=false:=by simpa using hep
 have hdec:decide ((⟨ep,cs⟩:eM)=⟨ep',cs'⟩)=false:=by simp[hep]
 rw[hdec];clear h h' hep hdec;go_enter func22,ntmps22;go_wp2_with fail;go_ret;exact⟨rfl,by first|exact((Below.refl _ _).alloc (Nat.le_refl _) _).alloc (by simp) _|exact aA.Zv (((Below.refl _ _).alloc (Nat.le_refl _) _).alloc (by simp) _) _⟩
end
end Go.Proofs.YtpfkagghooihfaaGreatDoor
