/- Part 17. -/
import Derived.Test.YtpfkagghooihfaaGreatDoorBa14
import Derived.Test.YtpfkagghooihfaaGreatDoorBa12
import Derived.Test.YtpfkagghooihfaaGreatDoorBa13
namespace Go.Proofs.YtpfkagghooihfaaGreatDoor
set_option linter.unusedSimpArgs false
set_option linter.unusedVariables false
set_option maxHeartbeats 8000000
set_option maxRecDepth 100000
open Go.Proofs.Tryz
open Go.RowKit
section
theorem jY (A A' : Option Addr)(n c m d : Nat)(jobs : List dB)(rung : List iO)(w : World)(h : S w 3 A n (jobs.map bX))(h' : S w 3 A' m (rung.map dN)) :
    Calls prog 75 #[.agg #[.slice A n c,.slice A' m d]] w fun e w'=>e=.returned (.int .i64 (cF ⟨jobs,rung⟩))∧aA w w':=by
 have hn:=h.len;have hm:=h'.len;simp only[List.length_map]at hn hm;obtain⟨r,hr⟩:∃r,r=cF ⟨jobs,rung⟩:=⟨_,rfl⟩
 rw[←hr];unfold cF at hr;have h01:aA w (w.alloc (Obj.cells #[.slice A n c,.slice A' m d] 66)):=(Below.refl _ _).alloc (Nat.le_refl _) _;by_cases hbig:6<n∨60<m
 · rw[if_pos (by simp only;omega)]at hr;subst hr;clear h h' hn hm;by_cases h6:6<n
   all_goals
    go_enter func75,ntmps75;go_wp2_with fail
    any_goals
     go_ret;exact⟨rfl,by first|exact h01|exact aA.Zv h01 _⟩
   all_goals (exfalso;omega)
 rw[if_neg (by simp only;omega)]at hr;dsimp only at hr;have hn6:n≤6:=by omega
 have hm6:m≤60:=by omega
 have hd1:decide (6<n)=false:=by simp;omega
 have hd2:decide (60<m)=false:=by simp;omega
 have HS:=aH hr;have HN:=aH hn;have HM:=aH hm;clear hr hbig hn hm;have q1:(w.alloc (Obj.cells #[.slice A n c,.slice A' m d] 66)).cell? ⟨w.heap.size,1,none⟩=some (.slice A' m d):=by simp[go_sem]
 have h1:=h.new (Obj.cells #[.slice A n c,.slice A' m d] 66);have h1':=h'.new (Obj.cells #[.slice A n c,.slice A' m d] 66);go_enter func75,ntmps75;go_wp2_with fail
 go_loopw [3,21] (fun s3 s wr=>∃ (k:Nat) (la:Int),k≤n∧s=.int .i64 k∧s3=.int .i64 la∧aA (w.alloc (Obj.cells #[.slice A n c,.slice A' m d] 66)) wr∧Hid (dA (-1) jobs=dA la (jobs.drop k))) (fun _ s _=>n-(intOf s).toNat)
 case atStart=>exact⟨0,-1,by omega,rfl,rfl,Below.refl _ _,by simp[Hid]⟩
 case round =>
  obtain⟨k,la,hk,rfl,rfl,hbr,HJ⟩:=hrel;by_cases hlt:k<n
  · obtain⟨b,off,x,rfl,hb,hx,e0,e1,e2⟩:=(S.oe h1 hbr).atJ hlt;have HX:=aH hx;have hal:aA wr (wr.alloc (Obj.cells #[x.id,x.every,x.next] 136)):=(Below.refl _ _).alloc (Nat.le_refl _) _;clear hx;by_cases hb1:¬ (0≤x.id∧x.id≤5)
    · have i1:(decide (0≤x.id)&&decide (x.id≤5))=false:=by simp;omega
      have i2:(0:Int)=0:=rfl;have i3:(0:Int)=0:=rfl;have hbj:eX x:=by unfold eX;omega
      have hfin:(3:Int)=r:=by rw[HS.out,HJ.out,eH HX.out,if_pos hbj];simp
      have HF:=aH hfin;clear hfin hbj;go_wp2_with (go_at_call 18;refine Calls.mono (aM _ _ _ _) ?_;rintro e w'⟨rfl,rfl⟩;first|rw[i1]|rw[i2]|rw[i3])
      go_ret;exact⟨aO HF.out,aA.to h01 (aA.to hbr hal)⟩
    have i1:(decide (0≤x.id)&&decide (x.id≤5))=true:=by simp;omega
    by_cases hb2:¬ (1≤x.every∧x.every≤100)
    · have i2:(decide (1≤x.every)&&decide (x.every≤100))=false:=by simp;omega
      have i3:(0:Int)=0:=rfl;have hbj:eX x:=by unfold eX;omega
      have hfin:(3:Int)=r:=by rw[HS.out,HJ.out,eH HX.out,if_pos hbj];simp
      have HF:=aH hfin;clear hfin hbj;go_wp2_with (go_at_call 18;refine Calls.mono (aM _ _ _ _) ?_;rintro e w'⟨rfl,rfl⟩;first|rw[i1]|rw[i2]|rw[i3])
      go_ret;exact⟨aO HF.out,aA.to h01 (aA.to hbr hal)⟩
    have i2:(decide (1≤x.every)&&decide (x.every≤100))=true:=by simp;omega
    by_cases hb3:¬ (0≤x.next∧x.next≤100100)
    · have i3:(decide (0≤x.next)&&decide (x.next≤100100))=false:=by simp;omega
      have hbj:eX x:=by unfold eX;omega
      have hfin:(3:Int)=r:=by rw[HS.out,HJ.out,eH HX.out,if_pos hbj];simp
      have HF:=aH hfin;clear hfin hbj;go_wp2_with (go_at_call 18;refine Calls.mono (aM _ _ _ _) ?_;rintro e w'⟨rfl,rfl⟩;first|rw[i1]|rw[i2]|rw[i3])
      go_ret;exact⟨aO HF.out,aA.to h01 (aA.to hbr hal)⟩
    have i3:(decide (0≤x.next)&&decide (x.next≤100100))=true:=by simp;omega
    have hbj:¬eX x:=by unfold eX;omega
    by_cases hle:x.id≤la
    · have hfin:(6:Int)=r:=by rw[HS.out,HJ.out,eH HX.out,if_neg hbj,if_pos hle];simp
      have HF:=aH hfin;clear hfin hbj;go_wp2_with (go_at_call 18;refine Calls.mono (aM _ _ _ _) ?_;rintro e w'⟨rfl,rfl⟩;first|rw[i1]|rw[i2]|rw[i3])
      go_ret;exact⟨aO HF.out,aA.to h01 (aA.to hbr hal)⟩
    have hd:decide (x.id≤la)=false:=by simpa using hle
    have HST:=aH (show dA la (jobs.drop k)=dA x.id (jobs.drop (k+1)) by rw[eH HX.out,if_neg hbj,if_neg hle]);clear hbj;go_wp2_with (go_at_call 18;refine Calls.mono (aM _ _ _ _) ?_;rintro e w'⟨rfl,rfl⟩;first|rw[i1]|rw[i2]|rw[i3])
    go_roundw
    case measure=>simp[intOf]<;>omega
    case rel=>exact⟨k+1,x.id,by omega,by go_num,rfl,aA.to hbr hal,by show _=_;rw[HJ.out,HST.out]⟩
  obtain rfl:k=n:=by omega
  have q2:=aB hbr q1;have hz2:=World.block_lt_of_cell? _ _ q2;simp only at hz2
  have hj:r=dW rung:=by
   have h0:dA (-1) jobs=0:=by rw[HJ.out,List.drop_eq_nil_of_le (by rw[HN.out];omega)];rfl
   rw[HS.out,h0];rfl
  have HK:=aH hj;clear hj HJ HS;go_wp2_with fail
  go_loopw [51] (fun s ws=>∃j:Nat,j≤m∧s=.int .i64 j∧aA (w.alloc (Obj.cells #[.slice A k c,.slice A' m d] 66)) ws∧Hid (dW rung=dW (rung.drop j))) (fun s _=>m-(intOf s).toNat)
  case atStart=>exact⟨0,by omega,rfl,hbr,by simp[Hid]⟩
  case round =>
   obtain⟨j,hj,rfl,hbs,HR2⟩:=hrel;by_cases hlt':j<m
   · obtain⟨b,off,x,rfl,hb,hx,e0,e1,e2⟩:=(S.oe h1' hbs).atR hlt';have HX:=aH hx;have hal:aA wr (wr.alloc (Obj.cells #[x.job,x.time,x.client] 77)):=(Below.refl _ _).alloc (Nat.le_refl _) _;clear hx hlt q2 hz2 hbr;by_cases hb1:¬ (0≤x.job∧x.job≤5)
     · have i1:(decide (0≤x.job)&&decide (x.job≤5))=false:=by simp;omega
       have i2:(0:Int)=0:=rfl;have i3:(0:Int)=0:=rfl;have hbr2:oE x:=by unfold oE;omega
       have hfin:(3:Int)=r:=by rw[HK.out,HR2.out,kI HX.out hbr2]
       have HF:=aH hfin;clear hfin hbr2;go_wp2_with (go_at_call 18;refine Calls.mono (aM _ _ _ _) ?_;rintro e w'⟨rfl,rfl⟩;first|rw[i1]|rw[i2]|rw[i3])
       go_ret;exact⟨aO HF.out,aA.to h01 (aA.to hbs hal)⟩
     have i1:(decide (0≤x.job)&&decide (x.job≤5))=true:=by simp;omega
     by_cases hb2:¬ (0≤x.time∧x.time≤100000)
     · have i2:(decide (0≤x.time)&&decide (x.time≤100000))=false:=by simp;omega
       have i3:(0:Int)=0:=rfl;have hbr2:oE x:=by unfold oE;omega
       have hfin:(3:Int)=r:=by rw[HK.out,HR2.out,kI HX.out hbr2]
       have HF:=aH hfin;clear hfin hbr2;go_wp2_with (go_at_call 18;refine Calls.mono (aM _ _ _ _) ?_;rintro e w'⟨rfl,rfl⟩;first|rw[i1]|rw[i2]|rw[i3])
       go_ret;exact⟨aO HF.out,aA.to h01 (aA.to hbs hal)⟩
     have i2:(decide (0≤x.time)&&decide (x.time≤100000))=true:=by simp;omega
     by_cases hb3:¬ (0≤x.client∧x.client≤2)
     · have i3:(decide (0≤x.client)&&decide (x.client≤2))=false:=by simp;omega
       have hbr2:oE x:=by unfold oE;omega
       have hfin:(3:Int)=r:=by rw[HK.out,HR2.out,kI HX.out hbr2]
       have HF:=aH hfin;clear hfin hbr2;go_wp2_with (go_at_call 18;refine Calls.mono (aM _ _ _ _) ?_;rintro e w'⟨rfl,rfl⟩;first|rw[i1]|rw[i2]|rw[i3])
       go_ret;exact⟨aO HF.out,aA.to h01 (aA.to hbs hal)⟩
     have i3:(decide (0≤x.client)&&decide (x.client≤2))=true:=by simp;omega
     have hbr2:¬oE x:=by unfold oE;omega
     have HST:=aH (nS HX.out hbr2);clear hbr2;go_wp2_with (go_at_call 18;refine Calls.mono (aM _ _ _ _) ?_;rintro e w'⟨rfl,rfl⟩;first|rw[i1]|rw[i2]|rw[i3])
     go_roundw
     case measure=>simp[intOf]<;>omega
     case rel=>exact⟨j+1,by omega,by go_num,aA.to hbs hal,by show _=_;rw[HR2.out,HST.out]⟩
   obtain rfl:j=m:=by omega
   have hfin:(0:Int)=r:=by rw[HK.out,HR2.out,List.drop_eq_nil_of_le (by rw[HM.out];omega)];rfl
   have HF:=aH hfin;clear hfin;go_wp2_with fail;go_ret;exact⟨aO HF.out,aA.to h01 hbs⟩
end
section
theorem zQ (A A' D D' : Option Addr)(n c m d n' c' m' d' B : Nat)(jobs jobs' : List dB)(rung rung' : List iO)(w : World)(h1 : Sl w B 3 A n (jobs.map bX))(h2 : Sl w B 3 A' m (rung.map dN))
    (h3:Sl w B 3 D n' (jobs'.map bX))(h4:Sl w B 3 D' m' (rung'.map dN))(hB:B≤w.heap.size)(hn:n≤9223372036854775807)(hm:m≤9223372036854775807) :
    Calls prog 85 #[.agg #[.slice A n c,.slice A' m d],.agg #[.slice D n' c',.slice D' m' d']] w fun e w'=>e=.returned (.bool (decide ((⟨jobs,rung⟩:cW)=⟨jobs',rung'⟩)))∧Below w.heap.size w w':=by
 have HN:=aH hn;have HM:=aH hm;clear hn hm;have hdec:decide ((⟨jobs,rung⟩:cW)=⟨jobs',rung'⟩)=(decide (jobs=jobs')&&decide (rung=rung')):=by simp
 have HD:=aH hdec;clear hdec;go_enter func85,ntmps85;go_wp2_with fail;refine Calls.mono (rW A D n n' c c' B jobs jobs' _ ((h1.alloc hB _).alloc (by simp;omega) _) ((h3.alloc hB _).alloc (by simp;omega) _) HN.out) ?_;rintro e w'⟨rfl,q,rfl⟩
 cases hj:decide (jobs=jobs')with
 |true =>
   have HJ:=aH hj;clear hj;go_wp2_with fail;refine Calls.mono (sO A' D' m m' d d' B rung rung' _ (((h2.alloc hB _).alloc (by simp;omega) _).drewN q) (((h4.alloc hB _).alloc (by simp;omega) _).drewN q) HM.out) ?_;rintro e w'⟨rfl,q',rfl⟩;go_wp2;go_ret;refine⟨QS (by rw[HD.out,HJ.out];simp),?_⟩
   repeat(first|exact Below.refl _ _|refine bV ?_ _|refine Below.alloc ?_ (by simp) _)
 |false =>
   have HJ:=aH hj;clear hj;go_wp2;go_ret;refine⟨QS (by rw[HD.out,HJ.out];simp),?_⟩
   repeat(first|exact Below.refl _ _|refine bV ?_ _|refine Below.alloc ?_ (by simp) _)
theorem LD {b:cW}{id:Int}{k:Nat}{x:dB}(hx:b.jobs[k]?=some x)(h:∀j y,j<k→b.jobs[j]?=some y→y.id≠id)(he:x.id=id):dZ b id=k :=
 vK hx (by simpa using he) fun j y hj hy=>by simpa using h j y hj hy
theorem AB (A A' : Option Addr)(n c m d : Nat)(b : cW)(id : Int)(w : World)(h : S w 3 A n (b.jobs.map bX))(hnm : n ≤ 9223372036854775807) :
    Calls prog 91 #[.agg #[.slice A n c,.slice A' m d],id] w fun e w'=>e=.returned (.int .i64 (dZ b id))∧aA w w':=by
 have hl:b.jobs.length=n:=by have:=h.len;simpa using this
 have HL:=aH hl;have h01:aA w (w.alloc (Obj.cells #[.slice A n c,.slice A' m d] 66)):=(Below.refl _ _).alloc (Nat.le_refl _) _;clear hl;go_enter func91,ntmps91;go_wp2_with fail
 go_loopw [10] (fun s wr=>∃k:Nat,k≤n∧s=.int .i64 k∧Hid (∀j y,j<k→b.jobs[j]?=some y→y.id≠id)∧aA w wr) (fun s _=>n-(intOf s).toNat)
 case atStart=>exact⟨0,Nat.zero_le _,rfl,(fun j y hj=>by omega:∀j y,j<0→b.jobs[j]?=some y→y.id≠id),h01⟩
 case round =>
  obtain⟨k,hk,rfl,HN,hbr⟩:=hrel;by_cases hlt:k<n
  · obtain⟨bb,off,x,rfl,hb,hx,d0,d1,d2⟩:=(h.oe hbr).atJ hlt;have HX:=aH hx;have hal:aA wr (wr.alloc (Obj.cells #[x.id,x.every,x.next] 136)):=(Below.refl _ _).alloc (Nat.le_refl _) _;clear hx;by_cases he:x.id=id
    · have hd:(x.id ==id)=true:=by simpa using he
      have hres:=LD HX.out HN.out he;have HR:=aH hres;clear he hres;go_wp2_with fail;go_ret;exact⟨aO HR.out.symm,aA.to hbr hal⟩
    have hd:(x.id ==id)=false:=by simpa using he
    have HE:=aH he;clear he;go_wp2_with fail
    go_roundw
    case measure=>simp[intOf]<;>omega
    case rel =>
     refine⟨k+1,by omega,by go_num,aH fun j y hj hy=>?_,aA.to hbr hal⟩;by_cases hjk:j=k
     · subst hjk;rw[HX.out]at hy;cases hy;exact HE.out
     exact HN.out j y (by omega) hy
  have hres:dZ b id=-1:=FS fun y hy=>by
   obtain⟨j,hj,rfl⟩:=List.getElem_of_mem hy;exact HN.out j _ (by have:=HL.out;omega) (List.getElem?_eq_getElem hj)
  have hkn:k=n:=by omega
  subst hkn;have HR:=aH hres;clear hres;go_wp2_with fail;go_ret;exact⟨aO HR.out.symm,hbr⟩
end
section
theorem pG (ep dg at_ ln pl : Int)(x : aL)(A A' : Option Addr)(n c m d : Nat)(b : cW)(w : World)(h : S w 3 A n (b.jobs.map bX))(h' : S w 3 A' m (b.rung.map dN)) :
    Calls prog 24 #[.agg #[ep,dg,x.kind,x.job,x.every,x.time,x.client,at_,ln,pl,.slice A n c,.slice A' m d]] w fun e w'=>e=.returned (.int .i64 (aP ⟨ep,dg,x,at_,ln,pl,b⟩))∧aA w w':=by
 obtain⟨r,hr⟩:∃r,r=aP ⟨ep,dg,x,at_,ln,pl,b⟩:=⟨_,rfl⟩
 rw[←hr];unfold aP at hr;simp only[ne_eq,cD,bP]at hr;obtain⟨q,hq⟩:∃q,q=aG x:=⟨_,rfl⟩
 obtain⟨qb,hqb⟩:∃q,q=cF b:=⟨_,rfl⟩
 rw[←hq,←hqb]at hr;have HQ:=aH hq;have HQB:=aH hqb;go_enter func24,ntmps24;have hne:=rM;have HR:=aH hr;have HS:=aH h;have HS':=aH h';clear hr hq hqb h h'
 go_wp2_with (first
  | (go_at_call 18;refine Calls.mono (aM _ _ _ _) ?_;rintro e w'⟨rfl,rfl⟩)
  | (go_at_call 74;refine Calls.mono (eT x.kind x.job x.every x.time x.client _) ?_;rw[show aG ⟨x.kind,x.job,x.every,x.time,x.client⟩=q from HQ.out.symm];rintro e w2⟨rfl,hb2⟩;have b0:w2.cell? ⟨w.heap.size,0,none⟩=some (.int .i64 ep):=aB hb2 (by simp[go_sem]);have b1:w2.cell? ⟨w.heap.size,1,none⟩=some (.int .i64 dg):=aB hb2 (by simp[go_sem]);have b2:w2.cell? ⟨w.heap.size,2,none⟩=some (.int .i64 x.kind):=aB hb2 (by simp[go_sem]);have b3:w2.cell? ⟨w.heap.size,3,none⟩=some (.int .i64 x.job):=aB hb2 (by simp[go_sem]);have b4:w2.cell? ⟨w.heap.size,4,none⟩=some (.int .i64 x.every):=aB hb2 (by simp[go_sem]);have b5:w2.cell? ⟨w.heap.size,5,none⟩=some (.int .i64 x.time):=aB hb2 (by simp[go_sem]);have b6:w2.cell? ⟨w.heap.size,6,none⟩=some (.int .i64 x.client):=aB hb2 (by simp[go_sem]);have b7:w2.cell? ⟨w.heap.size,7,none⟩=some (.int .i64 at_):=aB hb2 (by simp[go_sem]);have b8:w2.cell? ⟨w.heap.size,8,none⟩=some (.int .i64 ln):=aB hb2 (by simp[go_sem]);have b9:w2.cell? ⟨w.heap.size,9,none⟩=some (.int .i64 pl):=aB hb2 (by simp[go_sem]);have b10:w2.cell? ⟨w.heap.size,10,none⟩=some (.slice A n c):=aB hb2 (by simp[go_sem]);have b11:w2.cell? ⟨w.heap.size,11,none⟩=some (.slice A' m d):=aB hb2 (by simp[go_sem]);have h02:aA w w2:=aA.to (aA.new (aA.Zz w) (Obj.cells #[ep,dg,x.kind,x.job,x.every,x.time,x.client,at_,ln,pl,.slice A n c,.slice A' m d] 68)) hb2;clear hb2)
  | (go_at_call 75;refine Calls.mono (jY A A' n c m d b.jobs b.rung _ (S.oe HS.out h02) (S.oe HS'.out h02)) ?_;rw[show cF ⟨b.jobs,b.rung⟩=qb from HQB.out.symm];rintro e w3⟨rfl,hb3⟩;have h03:=aA.to h02 hb3;clear hb3 b0 b1 b2 b3 b4 b5 b6 b7 b8 b9 b10 b11))
 all_goals
  go_ret;refine⟨aO ?_,?_⟩
  · rw[HR.out];clear HR hne HS HS' HQ HQB
    (try simp only[beq_iff_eq,beq_eq_false_iff_ne,bne_iff_ne,bne_eq_false_iff_eq,ne_eq,Bool.and_eq_true,Bool.and_eq_false_iff,Bool.not_eq_true',Bool.not_eq_false',Bool.or_eq_true,Bool.or_eq_false_iff,decide_eq_true_eq,decide_eq_false_iff_not]at *)
    (try unfold wrap64 at *)
    (repeat' split)<;>first|rfl|omega
  first|exact h03|exact h02|exact(Below.refl _ _).alloc (Nat.le_refl _) _
theorem yA (ep dg at_ ln pl ep2 dg2 at2_ ln2 pl2 : Int)(x x2 : aL)(A A' D D' : Option Addr)(n c m d n' c' m' d' : Nat)(b b2 : cW)(w : World)(h : S w 3 A n (b.jobs.map bX))(h' : S w 3 A' m (b.rung.map dN))
    (g:S w 3 D n' (b2.jobs.map bX))(g':S w 3 D' m' (b2.rung.map dN))(hn:n≤9223372036854775807)(hm:m≤9223372036854775807) :
    Calls prog 40 #[.agg #[ep,dg,x.kind,x.job,x.every,x.time,x.client,at_,ln,pl,.slice A n c,.slice A' m d],.agg #[ep2,dg2,x2.kind,x2.job,x2.every,x2.time,x2.client,at2_,ln2,pl2,.slice D n' c',.slice D' m' d']] w fun e w'=>e=.returned (.bool (decide ((⟨ep,dg,x,at_,ln,pl,b⟩:eB)=⟨ep2,dg2,x2,at2_,ln2,pl2,b2⟩)))∧aA w w':=by
 obtain⟨r,hr⟩:∃r,r=decide ((⟨ep,dg,x,at_,ln,pl,b⟩:eB)=⟨ep2,dg2,x2,at2_,ln2,pl2,b2⟩):=⟨_,rfl⟩
 rw[←hr];obtain⟨qb,hqb⟩:∃q,q=decide (b=b2):=⟨_,rfl⟩
 have hr2:r=(ep ==ep2&&dg ==dg2&&(x.kind ==x2.kind&&x.job ==x2.job&&x.every ==x2.every&&x.time ==x2.time&&x.client ==x2.client)&&at_ ==at2_&&ln ==ln2&&pl ==pl2&&qb):=by
  rw[hr,hqb,Bool.eq_iff_iff];simp only[decide_eq_true_eq,eB.mk.injEq,cD,Bool.and_eq_true,beq_iff_eq];constructor
  · rintro⟨h1,h2,h3,h4,h5,h6,h7⟩;exact⟨⟨⟨⟨⟨⟨h1,h2⟩,⟨⟨⟨h3.1,h3.2.1⟩,h3.2.2.1⟩,h3.2.2.2.1⟩,h3.2.2.2.2⟩,h4⟩,h5⟩,h6⟩,h7⟩
  rintro⟨⟨⟨⟨⟨⟨h1,h2⟩,⟨⟨⟨h3,h4⟩,h5⟩,h6⟩,h7⟩,h8⟩,h9⟩,h10⟩,h11⟩;exact⟨h1,h2,⟨h3,h4,h5,h6,h7⟩,h8,h9,h10,h11⟩
 have HR:=aH hr2;have HQB:=aH hqb;have HS:=aH h;have HS':=aH h';have HG:=aH g;have HG':=aH g';have HN:=aH hn;have HM:=aH hm;clear hr hr2 hqb h h' g g' hn hm;go_enter func40,ntmps40;have heq:=OD;go_wp2_with (go_at_call 85;refine Calls.mono (zQ A A' D D' n c m d n' c' m' d' _ b.jobs b2.jobs b.rung b2.rung _ ((HS.out.new _).new _) ((HS'.out.new _).new _) ((HG.out.new _).new _) ((HG'.out.new _).new _) (Nat.le_refl _) HN.out HM.out) ?_;rw[show decide ((⟨b.jobs,b.rung⟩:cW)=⟨b2.jobs,b2.rung⟩)=qb from HQB.out.symm];rintro e w2⟨rfl,hb2⟩;have h02:aA w w2:=aA.to (((Below.refl _ _).alloc (Nat.le_refl _) _).alloc (by simp) _) hb2;clear hb2)
 all_goals
  go_ret;refine⟨QS ?_,?_⟩
  · rw[HR.out];clear HR HS HS' HG HG' HN HM HQB heq
    simp_all
  first|exact h02|exact((Below.refl _ _).alloc (Nat.le_refl _) _).alloc (by simp) _
end
section
def oH (o:Option Nat):Value:=.pointer (o.map fun b=>⟨b,0,none⟩)
structure gB (w:World)(T:Nat)(t:Nat→Option dB)(tp:Nat→Option Nat):Prop where
 ptr:∀i,i<6→w.cell? ⟨T,i,none⟩=some (oH (tp i))
 frz:∀i,i<6→w.frozen? ⟨T,i,none⟩=false
 non:∀i,i<6→(tp i=none↔t i=none)
 job:∀i b j,i<6→tp i=some b→t i=some j→b≠T∧w.cell? ⟨b,0,none⟩=some (.int .i64 j.id)∧w.cell? ⟨b,1,none⟩=some (.int .i64 j.every)∧w.cell? ⟨b,2,none⟩=some (.int .i64 j.next)
theorem gB.oe {w w':World}{T:Nat}{t:Nat→Option dB}{tp:Nat→Option Nat}(h:gB w T t tp)(hb:aA w w'):gB w' T t tp:=by
 refine⟨fun i hi=>aB hb (h.ptr i hi),fun i hi=>aJ hb (h.ptr i hi) (h.frz i hi),h.non,fun i b j hi h1 h2=>?_⟩;obtain⟨h3,h4,h5,h6⟩:=h.job i b j hi h1 h2;exact⟨h3,aB hb h4,aB hb h5,aB hb h6⟩
theorem gB.draw {w:World}{T:Nat}{t:Nat→Option dB}{tp:Nat→Option Nat}(h:gB w T t tp):gB w.drew T t tp:=h.oe (aA.draw (aA.Zz w))
theorem gB.zero {w:World}{ty:TypeId}:gB (w.alloc (Obj.cells #[.pointer none,.pointer none,.pointer none,.pointer none,.pointer none,.pointer none] ty)) w.heap.size (fun _=>none) (fun _=>none):=by
 refine⟨fun i hi=>?_,fun i hi=>by simp[go_sem],fun i hi=>by simp,fun i b j hi h1 h2=>by cases h1⟩
 match i,hi with
 |0,_=>simp[go_sem,oH]
 |1,_=>simp[go_sem,oH]
 |2,_=>simp[go_sem,oH]
 |3,_=>simp[go_sem,oH]
 |4,_=>simp[go_sem,oH]
 |5,_=>simp[go_sem,oH]
theorem iZ {w:World}{p q:Addr}{u:Value}(h:p≠q):(w.setCell q u).cell? p=w.cell? p:=World.cell?_setCell_other w _ _ _ (Ne.symm h)
theorem eD {w:World}{z o:Nat}{u v:Value}{p:Addr}(h:w.cell? p=some v)(hz:p.block≠z):(w.setCell ⟨z,o,none⟩ u).cell? p=some v :=
 (World.cell?_setCell_other w _ _ _ (fun e=>hz (by rw[←e]))).trans h
theorem gB.put {w : World}{T : Nat}{t : Nat → Option dB}{tp : Nat → Option Nat}(h : gB w T t tp){k : Nat}(hk : k < 6){o : Option Nat}{oj : Option dB}(hn : o = none ↔ oj = none)
    (hj:∀b j,o=some b→oj=some j→b≠T∧w.cell? ⟨b,0,none⟩=some (.int .i64 j.id)∧w.cell? ⟨b,1,none⟩=some (.int .i64 j.every)∧w.cell? ⟨b,2,none⟩=some (.int .i64 j.next)) :
    gB (w.setCell ⟨T,k,none⟩ (oH o)) T (mG t k oj) (fun i=>if i=k then o else tp i):=by
 refine⟨fun i hi=>?_,fun i hi=>by simpa using h.frz i hi,fun i hi=>?_,fun i b j hi h1 h2=>?_⟩
 · by_cases e:i=k
   · subst e;rw[if_pos rfl];exact World.cell?_setCell_same w _ _ (h.ptr i hi)
   rw[if_neg e,iZ (by intro e';injection e' with _ e2 _;exact e e2)];exact h.ptr i hi
 · by_cases e:i=k
   · subst e;rw[if_pos rfl,qC];exact hn
   rw[if_neg e,nI _ _ e];exact h.non i hi
 by_cases e:i=k
 · subst e;rw[if_pos rfl]at h1;rw[qC]at h2;obtain⟨h3,h4,h5,h6⟩:=hj b j h1 h2;exact⟨h3,by rw[iZ (by intro e;injection e;contradiction)];exact h4,by rw[iZ (by intro e;injection e;contradiction)];exact h5,by rw[iZ (by intro e;injection e;contradiction)];exact h6⟩
 rw[if_neg e]at h1;rw[nI _ _ e]at h2;obtain⟨h3,h4,h5,h6⟩:=h.job i b j hi h1 h2;exact⟨h3,by rw[iZ (by intro e;injection e;contradiction)];exact h4,by rw[iZ (by intro e;injection e;contradiction)];exact h5,by rw[iZ (by intro e;injection e;contradiction)];exact h6⟩
theorem gB.lt {w:World}{T:Nat}{t:Nat→Option dB}{tp:Nat→Option Nat}(h:gB w T t tp){i b:Nat}(hi:i<6)(h1:tp i=some b):b<w.heap.size:=by
 cases ht:t i with
 |none=>rw[(h.non i hi).2 ht]at h1;cases h1
 |some j=>exact World.block_lt_of_cell? w _ (h.job i b j hi h1 ht).2.1
theorem gB.off {w:World}{T:Nat}{t:Nat→Option dB}{tp:Nat→Option Nat}(h:gB w T t tp){z o:Nat}(hT:T≠z)(hz:∀i b,i<6→tp i=some b→b≠z)(u:Value):gB (w.setCell ⟨z,o,none⟩ u) T t tp:=by
 refine⟨fun i hi=>?_,fun i hi=>by simpa using h.frz i hi,h.non,fun i b j hi h1 h2=>?_⟩
 · rw[iZ (by intro e;injection e;contradiction)];exact h.ptr i hi
 have:=hz i b hi h1;obtain⟨h3,h4,h5,h6⟩:=h.job i b j hi h1 h2;exact⟨h3,by rw[iZ (by intro e;injection e;contradiction)];exact h4,by rw[iZ (by intro e;injection e;contradiction)];exact h5,by rw[iZ (by intro e;injection e;contradiction)];exact h6⟩
def qH (b:cW)(x:aL):Nat→Option dB :=
 let t:=gI (fun _=>none) b.jobs
 if x.kind=1∧t x.job.toNat=none then mG t x.job.toNat (some ⟨x.job,x.every,x.time⟩)
 else if x.kind=2 then mG t x.job.toNat none
 else match t x.job.toNat with
  |some j=>if x.kind=3∧j.next=x.time∧b.rung.length<60 then mG t x.job.toNat (some ⟨x.job,j.every,x.time+j.every⟩)else t
  |none=>t
def oD (b:cW)(x:aL):List iO :=
 match gI (fun _=>none) b.jobs x.job.toNat with
  |some j=>if x.kind=3∧j.next=x.time∧b.rung.length<60 then b.rung ++[⟨x.job,x.time,x.client⟩]else b.rung
  |none=>b.rung
theorem KL (b:cW)(x:aL):vR b x=⟨fU (qH b x) 6,oD b x⟩:=by
 unfold vR qH oD;dsimp only
 cases gI (fun _=>none) b.jobs x.job.toNat with
 |none =>
   dsimp only
   split
   · rfl
   split<;>rfl
 |some j =>
   dsimp only;simp only[reduceCtorEq,and_false,if_false]
   split
   · rename_i h;rw[if_neg (by omega:¬ (x.kind=3∧_))]
   split<;>rfl
structure Sw (w:World)(T O:Nat)(t:Nat→Option dB)(rg:List iO)(wx:World)(tp:Nat→Option Nat)(A:Option Addr)(n c:Nat):Prop where
 tab:gB wx T t tp
 nb:∀i z,i<6→tp i=some z→z≠O
 o0:wx.cell? ⟨O,0,none⟩=some (.slice none 0 0)
 o1:wx.cell? ⟨O,1,none⟩=some (.slice A n c)
 fo0:wx.frozen? ⟨O,0,none⟩=false
 fo1:wx.frozen? ⟨O,1,none⟩=false
 s:S wx 3 A n (rg.map dN)
 fresh:aR T A
 le:n≤c
 offO:bQ n O A
 offT:bQ n T A
 r0:wx.cell? ⟨w.heap.size+2,0,none⟩=some (.slice none 0 0)
 r1:wx.cell? ⟨w.heap.size+2,1,none⟩=some (.slice none 0 0)
 fr0:wx.frozen? ⟨w.heap.size+2,0,none⟩=false
 fr1:wx.frozen? ⟨w.heap.size+2,1,none⟩=false
 on:aA w wx
 wT:w.heap.size+2<T
 TO:T<O
section
variable {w w1 w2:World}{T O:Nat}{t:Nat→Option dB}{rg:List iO}{tp:Nat→Option Nat}{A:Option Addr}{n c:Nat}
theorem Sw.oe (h:Sw w T O t rg w1 tp A n c)(hb:aA w1 w2):Sw w T O t rg w2 tp A n c :=
 ⟨h.tab.oe hb,h.nb,aB hb h.o0,aB hb h.o1,aJ hb h.o0 h.fo0,aJ hb h.o1 h.fo1,S.oe h.s hb,h.fresh,h.le,h.offO,h.offT,aB hb h.r0,aB hb h.r1,aJ hb h.r0 h.fr0,aJ hb h.r1 h.fr1,h.on.to hb,h.wT,h.TO⟩
theorem Sw.put (h : Sw w T O t rg w1 tp A n c){k : Nat}(hk : k < 6){o : Option Nat}{oj : Option dB}(hn : o = none ↔ oj = none)(hO : ∀z, o = some z → z ≠ O)
    (hj:∀b j,o=some b→oj=some j→b≠T∧w1.cell? ⟨b,0,none⟩=some (.int .i64 j.id)∧w1.cell? ⟨b,1,none⟩=some (.int .i64 j.every)∧w1.cell? ⟨b,2,none⟩=some (.int .i64 j.next)) :
    Sw w T O (mG t k oj) rg (w1.setCell ⟨T,k,none⟩ (oH o)) (fun i=>if i=k then o else tp i) A n c:=by
 have h1:=h.wT;have h2:=h.TO
 refine⟨h.tab.put hk hn hj,fun i z hi hz=>?_,eD h.o0 (by simp only;omega),eD h.o1 (by simp only;omega),by simpa using h.fo0,by simpa using h.fo1,S.off h.s (p:=⟨T,k,none⟩) h.offT _,h.fresh,h.le,h.offO,h.offT,
  eD h.r0 (by simp only;omega),eD h.r1 (by simp only;omega),by simpa using h.fr0,by simpa using h.fr1,h.on.put (p:=⟨T,k,none⟩) (by simp only;omega) _,h1,h2⟩
 by_cases e:i=k
 · rw[if_pos e]at hz;exact hO z hz
 rw[if_neg e]at hz;exact h.nb i z hi hz
theorem Sw.rung (h : Sw w T O t rg w1 tp A n c){A' : Option Addr}{n' c' : Nat}{rg' : List iO}(s : S w1 3 A' n' (rg'.map dN))(fr : aR T A')(le : n' ≤ c')(oO : bQ n' O A')(oT : bQ n' T A') :
    Sw w T O t rg' (w1.setCell ⟨O,1,none⟩ (.slice A' n' c')) tp A' n' c':=by
 have h1:=h.wT;have h2:=h.TO
 refine⟨h.tab.off (by omega) h.nb _,h.nb,?_,World.cell?_setCell_same w1 _ _ h.o1,by simpa using h.fo0,by simpa using h.fo1,S.off s (p:=⟨O,1,none⟩) oO _,fr,le,oO,oT,
  eD h.r0 (by simp only;omega),eD h.r1 (by simp only;omega),by simpa using h.fr0,by simpa using h.fr1,h.on.put (p:=⟨O,1,none⟩) (by simp only;omega) _,h1,h2⟩
 rw[iZ (by intro e;injection e with _ e2 _;cases e2)];exact h.o0
theorem gB.grow {w w':World}{T:Nat}{t:Nat→Option dB}{tp:Nat→Option Nat}{row:Option Nat}(h:gB w T t tp)(hg:w.grownBy w' row)(hT:some T≠row)(hz:∀i b,i<6→tp i=some b→some b≠row):gB w' T t tp:=by
 refine⟨fun i hi=>aD hg (h.ptr i hi) hT,fun i hi=>bM hg (h.ptr i hi) (h.frz i hi) hT,h.non,fun i b j hi h1 h2=>?_⟩;obtain⟨h3,h4,h5,h6⟩:=h.job i b j hi h1 h2;have hb:=hz i b hi h1;exact⟨h3,aD hg h4 hb,aD hg h5 hb,aD hg h6 hb⟩
theorem Sw.grew (h : Sw w T O t rg w1 tp A n c){row : Option Nat}(hg : w1.grownBy w2 row)(hT : some T ≠ row)(hO : some O ≠ row)(hR : some (w.heap.size + 2) ≠ row)(hz : ∀i b, i < 6 → tp i = some b → some b ≠ row)(hon : aA w w2)
    {A':Option Addr}{n' c':Nat}{rg':List iO}(s:S w2 3 A' n' (rg'.map dN))(fr:aR T A')(le:n'≤c')(oO:bQ n' O A')(oT:bQ n' T A') :
    Sw w T O t rg' (w2.setCell ⟨O,1,none⟩ (.slice A' n' c')) tp A' n' c':=by
 have h1:=h.wT;have h2:=h.TO
 refine⟨(h.tab.grow hg hT hz).off (by omega) h.nb _,h.nb,?_,World.cell?_setCell_same w2 _ _ (aD hg h.o1 hO),by simpa using bM hg h.o0 h.fo0 hO,by simpa using bM hg h.o1 h.fo1 hO,S.off s (p:=⟨O,1,none⟩) oO _,fr,le,oO,oT,
  eD (aD hg h.r0 hR) (by simp only;omega),eD (aD hg h.r1 hR) (by simp only;omega),by simpa using bM hg h.r0 h.fr0 hR,by simpa using bM hg h.r1 h.fr1 hR,hon.put (p:=⟨O,1,none⟩) (by simp only;omega) _,h1,h2⟩
 rw[iZ (by intro e;injection e with _ e2 _;cases e2)];exact aD hg h.o0 hO
end
theorem Sl.growB {w w':World}{B k n:Nat}{A:Option Addr}{rows:List (List Value)}{row:Option Nat}(h:Sl w B k A n rows)(hg:w.grownBy w' row)(hr:∀z,z<B→some z≠row)(hB:B≤w.heap.size):Sl w' B k A n rows :=
 h.keep fun p hp=>World.cell?_of_block (hg.block p.block (by omega) (hr _ hp))
theorem Sl.unitJ {w:World}{t:TypeId}(x:dB):Sl (w.alloc (Obj.cells #[x.id,x.every,x.next] t)) (w.heap.size+1) 3 (some ⟨w.heap.size,0,none⟩) 1 [bX x]:=by
 have:=Sl.block (k:=3) (w:=w.alloc (Obj.cells #[x.id,x.every,x.next] t)) [bX x] (mM rfl) (by simp[bX]) (by rfl);simpa using this
end
end Go.Proofs.YtpfkagghooihfaaGreatDoor
