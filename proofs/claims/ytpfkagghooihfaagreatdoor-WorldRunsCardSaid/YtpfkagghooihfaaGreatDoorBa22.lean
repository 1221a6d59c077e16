/- Part 22. -/
import Derived.Test.YtpfkagghooihfaaGreatDoorBa18
import Derived.Test.YtpfkagghooihfaaGreatDoorBa11
namespace Go.Proofs.YtpfkagghooihfaaGreatDoor
set_option linter.unusedSimpArgs false
set_option linter.unusedVariables false
set_option maxHeartbeats 8000000
set_option maxRecDepth 100000
open Go.Proofs.Tryz
open Go.RowKit
section
theorem dU (w:World):Calls prog 73 #[] w fun e w'=>e=.returned (.agg #[(4:Int),(),(),(),()])∧aA w w':=by
 go_enter func73,ntmps73;go_wp2;refine bodyPost_ret (v:=.agg #[(4:Int),(),(),(),()]) (by simp[results,results73,go_sem]) rfl ⟨rfl,?_⟩
 repeat(first|exact Below.refl _ _|refine Below.alloc ?_ (by simp<;>omega) _|refine Below.setCell ?_ (by simp) _)
theorem wH {x y:aL}(h:x=y):(!(x.kind ==y.kind&&x.job ==y.job&&x.every ==y.every&&x.time ==y.time&&x.client ==y.client))=false:=by simp[h]
theorem vL {x y:aL}(h:x≠y):(!(x.kind ==y.kind&&x.job ==y.job&&x.every ==y.every&&x.time ==y.time&&x.client ==y.client))=true:=by
 rw[Ne,cD]at h;simp only[Bool.not_eq_true',Bool.and_eq_false_iff,beq_eq_false_iff_ne];omega
theorem tC (ep : Int)(A : Option Addr)(n c : Nat)(cs : List aL)(w : World)(h : S w 5 A n (cs.map bA)) :
    Calls prog 88 #[.agg #[ep,.slice A n c]] w fun e w'=>e=.returned (.int .i64 (eJ ep cs))∧aA w w':=by
 have hl:cs.length=n:=by have:=h.len;simpa using this
 obtain⟨r,hr⟩:∃r,r=eJ ep cs:=⟨_,rfl⟩
 rw[←hr];unfold eJ at hr;by_cases h1:ep<1∨20<ep
 · rw[if_pos h1]at hr;subst hr;have hd:(decide (1≤ep)&&decide (ep≤20))=false:=by simp;omega
   clear h hl h1;go_enter func88,ntmps88;go_wp2_with (go_at_call 18;refine Calls.mono (aM _ _ _ _) ?_;rintro e w'⟨rfl,rfl⟩;rw[hd])
   go_ret;exact⟨rfl,(Below.refl _ _).alloc (Nat.le_refl _) _⟩
 rw[if_neg h1]at hr;have hd:(decide (1≤ep)&&decide (ep≤20))=true:=by simp;omega
 by_cases h60:n=60
 · rw[if_neg (by omega)]at hr;have HR:=aH hr;have HL:=aH hl;subst h60;clear hr h1 hl;go_enter func88,ntmps88;have hne:=rM;go_wp2_with (go_at_call 18;refine Calls.mono (aM _ _ _ _) ?_;rintro e w'⟨rfl,rfl⟩;rw[hd])
   go_loopw [17] (fun s wr=>∃k:Nat,k≤60∧s=.int .i64 k∧aA w wr∧Hid (eV cs=eV (cs.drop k))) (fun s _=>60-(intOf s).toNat)
   case atStart=>exact⟨0,by omega,rfl,(Below.refl _ _).alloc (Nat.le_refl _) _,by simp[Hid]⟩
   case round =>
    obtain⟨k,hk,rfl,hbr,HK⟩:=hrel;by_cases hlt:k<60
    · obtain⟨b,off,x,rfl,hb,hx,c0,c1,c2,c3,c4⟩:=(h.oe hbr).atE hlt;have HC:=aH (wU hx);have hal:aA wr (wr.alloc (Obj.cells #[x.kind,x.job,x.every,x.time,x.client] 27)):=(Below.refl _ _).alloc (Nat.le_refl _) _;clear hx;go_wp2_with fail;refine Calls.mono (eT x.kind x.job x.every x.time x.client _) ?_;rintro e w2⟨rfl,hb2⟩;have b0:w2.cell? ⟨wr.heap.size,0,none⟩=some (.int .i64 x.kind):=aB hb2 (by simp[go_sem]);have b1:w2.cell? ⟨wr.heap.size,1,none⟩=some (.int .i64 x.job):=aB hb2 (by simp[go_sem]);have b2:w2.cell? ⟨wr.heap.size,2,none⟩=some (.int .i64 x.every):=aB hb2 (by simp[go_sem]);have b3:w2.cell? ⟨wr.heap.size,3,none⟩=some (.int .i64 x.time):=aB hb2 (by simp[go_sem]);have b4:w2.cell? ⟨wr.heap.size,4,none⟩=some (.int .i64 x.client):=aB hb2 (by simp[go_sem]);obtain⟨q,hq⟩:∃q,q=aG ⟨x.kind,x.job,x.every,x.time,x.client⟩:=⟨_,rfl⟩
      rw[←hq];have HQ:Hid (aG x=q):=hq.symm;have h2:=(aA.to hbr hal).to hb2;have k0:=aC b0;have k1:=aC b1;have k2:=aC b2;have k3:=aC b3;have k4:=aC b4;clear hq hb2 hal b0 b1 b2 b3 b4 c0 c1 c2 c3 c4;go_wp2_with fail;by_cases hq0:q=0
      · have hq1:(q !=0)=false:=by simp[hq0]
        have hstep:eV (cs.drop k)=eV (cs.drop (k+1)):=by
         rw[HC.out];by_cases hbl:x=fK
         · rw[if_pos hbl]
         rw[if_neg hbl,if_neg (by rw[HQ.out];simp[hq0])]
        have HST:=aH hstep;clear hstep hq0;refine aS (by kernel_rfl) (by kernel_rfl) ?_
        repeat(go_big_quiet_step ((first| (go_at_call 73;exact dO (dU _)))))
        refine wpQuiet_nil ?_;intro w3 hb3;have h3:=aA.to h2 hb3;clear k0 k1 k2 k3 k4 h2 hb3;go_wp2_with fail
        go_roundw
        case measure=>simp[intOf]<;>omega
        case rel=>exact⟨k+1,by omega,by go_num,h3,by show _=_;rw[HK.out,HST.out]⟩
      have hq1:(q !=0)=true:=by simpa using hq0
      by_cases hbl:x=fK
      · have hd2:(!(x.kind ==4&&x.job ==0&&x.every ==0&&x.time ==0&&x.client ==0))=false:=wH hbl;have hstep:eV (cs.drop k)=eV (cs.drop (k+1)):=by rw[HC.out,if_pos hbl]
        have HST:=aH hstep;clear hstep hq0 hbl;refine aS (by kernel_rfl) (by kernel_rfl) ?_
        repeat(go_big_quiet_step ((first| (go_at_call 73;exact dO (dU _)))))
        refine wpQuiet_nil ?_;intro w3 hb3;have h3:=aA.to h2 hb3;clear k0 k1 k2 k3 k4 h2 hb3;go_wp2_with fail
        go_roundw
        case measure=>simp[intOf]<;>omega
        case rel=>exact⟨k+1,by omega,by go_num,h3,by show _=_;rw[HK.out,HST.out]⟩
      have hd2:(!(x.kind ==4&&x.job ==0&&x.every ==0&&x.time ==0&&x.client ==0))=true:=vL hbl;have hfin:q=r:=by rw[HR.out,HK.out,HC.out,if_neg hbl,if_pos (by rw[HQ.out];exact hq0),HQ.out]
      have HF:=aH hfin;clear hfin hq0 hbl;refine aS (by kernel_rfl) (by kernel_rfl) ?_
      repeat(go_big_quiet_step ((first| (go_at_call 73;exact dO (dU _)))))
      refine wpQuiet_nil ?_;intro w3 hb3;have h3:=aA.to h2 hb3;clear k0 k1 k2 k3 k4 h2 hb3;go_wp2_with fail;go_ret;exact⟨aO HF.out,h3⟩
    obtain rfl:k=60:=by omega
    have hfin:(0:Int)=r:=by rw[HR.out,HK.out,List.drop_eq_nil_of_le (by have:=HL.out;omega)];rfl
    have HF:=aH hfin;clear hfin;go_wp2_with fail;go_ret;exact⟨aO HF.out,hbr⟩
 have hnn:((n:Int) !=60)=true:=by simp;omega
 have hnn':¬ ((n:Int)=60):=by omega
 rw[if_pos (by omega)]at hr;subst hr;clear h h1 hl h60;go_enter func88,ntmps88;go_wp2_with (go_at_call 18;refine Calls.mono (aM _ _ _ _) ?_;rintro e w'⟨rfl,rfl⟩;rw[hd])
 go_ret;exact⟨rfl,(Below.refl _ _).alloc (Nat.le_refl _) _⟩
theorem nT (ep ep' : Int)(A A' : Option Addr)(c c' : Nat)(cs cs' : List aL)(w : World)(h : S w 5 A 60 (cs.map bA))(h' : S w 5 A' 60 (cs'.map bA))(hok : ∀x ∈ cs, OQ x) :
    Calls prog 23 #[.agg #[ep,.slice A 60 c],.agg #[ep',.slice A' 60 c']] w fun e w'=>e=.returned (.bool (decide (fO cs' cs)))∧aA w w':=by
 have HOK:=aH hok;clear hok;go_enter func23,ntmps23;have hne:=rM;go_wp2_with fail;have q1:((w.alloc (Obj.cells #[ep,.slice A 60 c] 50)).alloc (Obj.cells #[ep',.slice A' 60 c'] 50)).cell? ⟨w.heap.size+1,1,none⟩=some (.slice A' 60 c'):=by simp[go_sem]
 have h1:=(h.new (Obj.cells #[ep,.slice A 60 c] 50)).new (Obj.cells #[ep',.slice A' 60 c'] 50);have h1':=(h'.new (Obj.cells #[ep,.slice A 60 c] 50)).new (Obj.cells #[ep',.slice A' 60 c'] 50);have h01:aA w ((w.alloc (Obj.cells #[ep,.slice A 60 c] 50)).alloc (Obj.cells #[ep',.slice A' 60 c'] 50)):=((Below.refl _ _).alloc (Nat.le_refl _) _).alloc (by simp) _
 go_loopw [10] (fun s wr=>∃k:Nat,k≤60∧s=.int .i64 k∧aA ((w.alloc (Obj.cells #[ep,.slice A 60 c] 50)).alloc (Obj.cells #[ep',.slice A' 60 c'] 50)) wr∧Hid (∀j,j<k→(bF cs j).kind=4∨bF cs' j=bF cs j)) (fun s _=>60-(intOf s).toNat)
 case atStart=>exact⟨0,by omega,rfl,Below.refl _ _,fun j hj=>absurd hj (Nat.not_lt_zero _)⟩
 case round =>
  obtain⟨k,hk,rfl,hbr,HJ⟩:=hrel;have h02:=aA.to h01 hbr;by_cases hlt:k<60
  · obtain⟨b1,off1,x,rfl,hz1,hx,c0,c1,c2,c3,c4⟩:=(S.oe h1 hbr).atE hlt;obtain⟨b2,off2,y,rfl,hz2,hy,d0,d1,d2,d3,d4⟩:=(S.oe h1' hbr).atE hlt;have q2:=aB hbr q1;have hkk:(k:Int)<60:=by omega
    have hxm:=List.mem_of_getElem? hx;have hox:=sD (HOK.out x hxm);have HX:=aH (dH hx);have HY:=aH (dH hy);have hbA:aA wr (wr.alloc (Obj.cells #[x.kind,x.job,x.every,x.time,x.client] 27)):=(Below.refl _ _).alloc (Nat.le_refl _) _;have e0:(wr.alloc (Obj.cells #[x.kind,x.job,x.every,x.time,x.client] 27)).cell? ⟨wr.heap.size,0,none⟩=some (.int .i64 x.kind):=by simp[go_sem]
    have e1:(wr.alloc (Obj.cells #[x.kind,x.job,x.every,x.time,x.client] 27)).cell? ⟨wr.heap.size,1,none⟩=some (.int .i64 x.job):=by simp[go_sem]
    have e2:(wr.alloc (Obj.cells #[x.kind,x.job,x.every,x.time,x.client] 27)).cell? ⟨wr.heap.size,2,none⟩=some (.int .i64 x.every):=by simp[go_sem]
    have e3:(wr.alloc (Obj.cells #[x.kind,x.job,x.every,x.time,x.client] 27)).cell? ⟨wr.heap.size,3,none⟩=some (.int .i64 x.time):=by simp[go_sem]
    have e4:(wr.alloc (Obj.cells #[x.kind,x.job,x.every,x.time,x.client] 27)).cell? ⟨wr.heap.size,4,none⟩=some (.int .i64 x.client):=by simp[go_sem]
    have k0:=aC e0;have k1:=aC e1;have k2:=aC e2;have k3:=aC e3;have k4:=aC e4;have k5:=aC (aB hbA d0);have k6:=aC (aB hbA d1);have k7:=aC (aB hbA d2);have k8:=aC (aB hbA d3);have k9:=aC (aB hbA d4);have k10:=aC (aB hbA q2);clear hx hy hxm;go_upto_region 4 with fail
    generalize wr.alloc (Obj.cells #[x.kind,x.job,x.every,x.time,x.client] 27)=w4 at *;by_cases hbl:x=fK
    · have hd:(!(x.kind ==4&&x.job ==0&&x.every ==0&&x.time ==0&&x.client ==0))=false:=wH hbl;have HB:=aH (hox.2.2.2 hbl);clear hox hbl;refine aS (by kernel_rfl) (by kernel_rfl) ?_
      repeat(go_big_quiet_step ((first| (go_at_call 73;exact dO (dU _)))))
      refine wpQuiet_nil ?_;intro w3 hb3;have h3:=aA.to (aA.to hbr hbA) hb3;clear k0 k1 k2 k3 k4 k5 k6 k7 k8 k9 k10 hb3 e0 e1 e2 e3 e4 d0 d1 d2 d3 d4 c0 c1 c2 c3 c4 q2 hbA;go_wp2_with fail
      go_roundw
      case measure=>simp[intOf]<;>omega
      case rel =>
       refine⟨k+1,by omega,by go_num,h3,?_⟩
       show∀j,_
       intro j hj;by_cases hjk:j=k
       · subst hjk;rw[HX.out];exact .inl HB.out
       exact HJ.out j (by omega)
    have hd:(!(x.kind ==4&&x.job ==0&&x.every ==0&&x.time ==0&&x.client ==0))=true:=vL hbl;have HB:=aH (fun h4=>hbl (hox.2.2.1 h4));by_cases hxy:x=y
    · have hd2:(!(x.kind ==y.kind&&x.job ==y.job&&x.every ==y.every&&x.time ==y.time&&x.client ==y.client))=false:=wH hxy;have HXY:=aH hxy;clear hox hbl hxy;refine aS (by kernel_rfl) (by kernel_rfl) ?_
      repeat(go_big_quiet_step ((first| (go_at_call 73;exact dO (dU _)))))
      refine wpQuiet_nil ?_;intro w3 hb3;have h3:=aA.to (aA.to hbr hbA) hb3;clear k0 k1 k2 k3 k4 k5 k6 k7 k8 k9 k10 hb3 e0 e1 e2 e3 e4 d0 d1 d2 d3 d4 c0 c1 c2 c3 c4 q2 hbA;go_wp2_with fail
      go_roundw
      case measure=>simp[intOf]<;>omega
      case rel =>
       refine⟨k+1,by omega,by go_num,h3,?_⟩
       show∀j,_
       intro j hj;by_cases hjk:j=k
       · subst hjk;rw[HX.out,HY.out];exact .inr HXY.out.symm
       exact HJ.out j (by omega)
    have hd2:(!(x.kind ==y.kind&&x.job ==y.job&&x.every ==y.every&&x.time ==y.time&&x.client ==y.client))=true:=vL hxy
    have hfin:decide (fO cs' cs)=false:=by
     refine decide_eq_false fun hf=>?_
     have:=hf k hlt;rw[HX.out,HY.out]at this;rcases this with e|e
     · exact HB.out e
     exact hxy e.symm
    have HF:=aH hfin;clear hox hbl hxy hfin;refine aS (by kernel_rfl) (by kernel_rfl) ?_
    repeat(go_big_quiet_step ((first| (go_at_call 73;exact dO (dU _)))))
    refine wpQuiet_nil ?_;intro w3 hb3;have h3:=aA.to h01 (aA.to (aA.to hbr hbA) hb3);clear k0 k1 k2 k3 k4 k5 k6 k7 k8 k9 k10 hb3 e0 e1 e2 e3 e4 d0 d1 d2 d3 d4 c0 c1 c2 c3 c4 q2 hbA;go_wp2_with fail;go_ret;exact⟨QS HF.out.symm,h3⟩
  obtain rfl:k=60:=by omega
  have hfin:decide (fO cs' cs)=true:=decide_eq_true HJ.out;have HF:=aH hfin;clear hfin;go_wp2_with fail;go_ret;exact⟨QS HF.out.symm,h02⟩
end
section
theorem BL (s p:List UInt8)(w:World):Calls prog 136 #[dC s,dC p] w fun e w'=>e=.returned (.bool (p.isPrefixOf s))∧aA w w' :=
 (vB s p w).mono fun e w' ⟨he,hw⟩=>⟨he,hw▸aA.Zz w⟩
theorem LB (s p:List UInt8)(hs:s.length≤4000000000)(w:World)(E:fR w):Calls prog 138 #[dC s,dC p] w fun e w'=>e=.returned (.int .i64 (Lib.index s p))∧aA w w' :=
 (DP s p hs w E).mono fun e w' ⟨he,hw⟩=>⟨he,hw▸aA.Zz w⟩
theorem IR (l:List UInt8)(k:Nat)(h:k≤l.length)(w:World):(Instr.slice 9 (dC l) (some (.int .i64 (k:Int))) none none).run prog w=.ok (dC (l.drop k)) w:=by
 rw[run_slice_string_l w _ _ underlying9 .i64 (k:Int) (by omega) (by rw[eF];omega),ByteArray.extract_mk,eF,Int.toNat_natCast,List.take_of_length_le (by rw[List.length_drop];omega)]
theorem OK (l:List UInt8)(k:Nat)(h:k≤l.length)(w:World):(Instr.slice 9 (dC l) none (some (.int .i64 (k:Int))) none).run prog w=.ok (dC (l.take k)) w:=by
 rw[run_slice_string_h w _ _ underlying9 .i64 (k:Int) (by omega) (by rw[eF];omega),ByteArray.extract_mk,Int.toNat_natCast,List.drop_zero,Nat.sub_zero]
theorem zG (s sep:List UInt8):(Lib.index s sep<0→(Lib.cut s sep).2.2=false)∧(∀k:Nat,Lib.index s sep=k→k+sep.length≤s.length∧Lib.cut s sep=(s.take k,s.drop (k+sep.length),true)):=by
 refine⟨fun h=>?_,fun k h=>?_⟩
 · unfold Lib.cut;rw[if_neg (by omega)]
 refine⟨?_,?_⟩
 · rcases Lib.index_spec s sep with ⟨h1,_⟩| ⟨i,h1,h2,h3,_⟩
   · omega
   have:i=k:=by omega
   subst this;unfold Lib.occAt at h3;obtain⟨r,hr⟩:=List.isPrefixOf_iff_prefix.1 h3;have:=congrArg List.length hr;rw[List.length_append,List.length_drop]at this;omega
 unfold Lib.cut;rw[h,if_pos (by omega),Int.toNat_natCast]
theorem AJ (k a ep : Int)(x : aL)(w : World)(E : fR w) :
    Calls prog 90 #[.agg #[k,a,ep,x.kind,x.job,x.every,x.time,x.client]] w fun e w'=>e=.returned (.tuple #[dC (dS ⟨k,a,ep,x⟩).1,.int .i64 (dS ⟨k,a,ep,x⟩).2])∧aA w w':=by
 obtain⟨q,hq⟩:∃q,q=bI ⟨k,a,ep,x⟩:=⟨_,rfl⟩
 obtain⟨r,hr⟩:∃r,r=dS ⟨k,a,ep,x⟩:=⟨_,rfl⟩
 rw[←hr];unfold dS at hr;rw[←hq]at hr;have HQ:=aH hq;have HR:=aH hr;clear hq hr;go_enter func90,ntmps90;go_upto_region 1 with fail
 have ob:=(aA.Zz w).new (Obj.cells #[k,a,ep,x.kind,x.job,x.every,x.time,x.client] 90);have B:Bx (w.alloc (Obj.cells #[k,a,ep,x.kind,x.job,x.every,x.time,x.client] 90)) w.heap.size [k,a,ep,x.kind,x.job,x.every,x.time,x.client]:=Bx.Zt _ _ _;have on:=ob;clear ob
 try change Code.wp _ _ _ _ (w.alloc (Obj.cells #[k,a,ep,x.kind,x.job,x.every,x.time,x.client] 90))
 generalize(w.alloc (Obj.cells #[k,a,ep,x.kind,x.job,x.every,x.time,x.client] 90))=v1 at *;generalize w.heap.size=z at *;obtain⟨b0,b1,b2,b3,b4,b5,b6,b7⟩:=B.p8;go_wp2_with fail;refine Calls.mono (qD k a ep x _) ?_;rw[show bI ⟨k,a,ep,x⟩=q from HQ.out.symm];rintro e v2⟨rfl,b⟩;replace on:=on.to b;replace B:=B.oe b;clear b;clear b0 b1 b2 b3 b4 b5 b6 b7;by_cases hq0:q=0
 · have hr:=HR.out;rw[if_neg (by simp[hq0])]at hr;subst hr;have hc:bI ⟨k,a,ep,x⟩=0:=by rw[←HQ.out,hq0]
   have HC:=aH hc;subst hq0;clear hc HQ;by_cases hk:k=2
   · subst hk;obtain⟨h1,h2,_⟩:=rF HC.out rfl
     try dsimp only at h1 h2
     obtain⟨I,hI⟩:∃I,I=Lib.itoa ep:=⟨_,rfl⟩
     have hl:I.length≤100:=by rw[hI];have:=Lib.itoa_length_le ep (by omega) (by omega);omega
     have s1:∀w,(Op.stringOp .add ⟨#[115,101,97,108,32]⟩ ⟨I.toArray⟩).run prog w=.ok (dC (iS ++I)) w:=fun w=>run_string_add_lists w [115,101,97,108,32] I (by simp) (by omega)
     have HI:=aH hI;clear hI;obtain⟨b0,b1,b2,b3,b4,b5,b6,b7⟩:=B.p8;go_wp2_with fail;refine Calls.mono (dX ep (by omega) (by omega) _ (E.oe on)) ?_;rw[show Lib.itoa ep=I from HI.out.symm];rintro e v3⟨rfl,b⟩;replace on:=on.to b;replace B:=B.oe b;clear b;clear hl b0 b1 b2 b3 b4 b5 b6 b7;go_wp2_with fail;refine bodyPost_ret (v:=.tuple #[dC (iS ++I),()]) (by simp[results,results90,go_sem]) rfl ⟨?_,on⟩
     try dsimp only
     unfold fT;rw[if_pos rfl,HI.out]
   have hkb:(k ==2)=false:=by simp[hk]
   obtain⟨h0,h1,h2,h3,h4⟩:=pN HC.out hk
   try dsimp only at h0 h1 h2 h3 h4
   subst h0;have htx:fT ⟨1,a,ep,x⟩=Lib.itoa a ++dJ ++gC x:=by unfold fT;exact if_neg (by simp)
   obtain⟨I,hI⟩:∃I,I=Lib.itoa a:=⟨_,rfl⟩
   obtain⟨T,hT⟩:∃I,I=gC x:=⟨_,rfl⟩
   rw[←hI,←hT]at htx;have hl:I.length≤100:=by rw[hI];have:=Lib.itoa_length_le a (by omega) (by omega);omega
   have hlT:T.length≤100:=by rw[hT];have:=pR h4;omega
   obtain⟨U,hU⟩:∃U,U=I ++[58,32]:=⟨_,rfl⟩
   obtain⟨V,hV⟩:∃V,V=U ++T:=⟨_,rfl⟩
   have hlU:U.length≤200:=by rw[hU,List.length_append];simp only[List.length_cons,List.length_nil];omega
   have s1:∀w,(Op.stringOp .add ⟨I.toArray⟩ ⟨#[58,32]⟩).run prog w=.ok (dC U) w:=fun w=>by rw[hU];exact run_string_add_lists w I [58,32] (by omega) (by simp)
   have s2:∀w,(Op.stringOp .add ⟨U.toArray⟩ ⟨T.toArray⟩).run prog w=.ok (dC V) w:=fun w=>by rw[hV];exact run_string_add_lists w U T (by omega) (by omega)
   have i1:=fun(x w:World) (hx:fR (eP w x))=>dX a (by omega) (by omega) (eP w x) hx
   have i2:=fun(y w:World) (hx:fR (eP w y))=>DH x.kind x.job x.every x.time x.client (eP w y) hx h4
   have I1:=aH i1;have I2:=aH i2;have HI:=aH hI;have HT:=aH hT;have HTX:=aH htx;have HU:=aH hU;have HV:=aH hV;clear i1 i2 hI hT htx hU hV hl hlT hlU h1 h2 h3 h4 hk;have E1:=E.oe on;have b0:=B.at_ 0 rfl;go_upto_region 6 with fail
   have c1:=aC (B.at_ 1 rfl);have c3:=aC (B.at_ 3 rfl);have c4:=aC (B.at_ 4 rfl);have c5:=aC (B.at_ 5 rfl);have c6:=aC (B.at_ 6 rfl);have c7:=aC (B.at_ 7 rfl);refine aS (by kernel_rfl) (by kernel_rfl) ?_
   repeat(go_big_quiet_step (first| (go_at_call 121;exact bT (u:=dC I) (by with_reducible exact I1.out _ v2 (E1.oe (dK v2 _))) (by rw[HI.out]))| (go_at_call 122;exact bT (u:=dC T) (by with_reducible exact I2.out _ v2 (E1.oe (dK v2 _))) (by rw[HT.out]))))
   refine wpQuiet_nil ?_;intro w2 b2;replace on:=on.to b2;clear b2 c1 c3 c4 c5 c6 c7 b0 B;go_wp2_with fail;refine bodyPost_ret (v:=.tuple #[dC V,()]) (by simp[results,results90,go_sem]) rfl ⟨?_,on⟩;rw[HTX.out,HV.out,HU.out];rfl
 have hr:=HR.out;rw[if_pos hq0]at hr;subst hr;have hq1:(q ==0)=false:=by simp[hq0]
 have hq2:(q !=0)=true:=by simp[hq0]
 clear hq0;go_wp2_with fail;refine bodyPost_ret (v:=.tuple #[dC [],q]) (by simp[results,results90,go_sem]) rfl ⟨rfl,on⟩
theorem zS (s : List UInt8)(w : World)(E : fR w)(hs : s.length ≤ 30000) :
    Calls prog 110 #[dC s] w (vW w (iU s)):=by
 have HS:=aH hs;obtain⟨r,hr⟩:∃r,r=iU s:=⟨_,rfl⟩
 rw[←hr];have HR:=aH hr;clear hs hr;go_enter func110,ntmps110;go_upto_region 2 with fail
 have BZ:Bx ((w.alloc (Obj.cells #[(),(),(),(),(),(),(),()] 90)).alloc (Obj.cells #[(2:Int),(),(),(),(),(),(),()] 90)) w.heap.size [(),(),(),(),(),(),(),()]:=(Bx.Zt w #[(),(),(),(),(),(),(),()] 90).new _
 have BR:Bx ((w.alloc (Obj.cells #[(),(),(),(),(),(),(),()] 90)).alloc (Obj.cells #[(2:Int),(),(),(),(),(),(),()] 90)) (w.heap.size+1) [(2:Int),(),(),(),(),(),(),()]:=by
  have:=Bx.Zt (w.alloc (Obj.cells #[(),(),(),(),(),(),(),()] 90)) #[(2:Int),(),(),(),(),(),(),()] 90;simpa using this
 have on:aA w ((w.alloc (Obj.cells #[(),(),(),(),(),(),(),()] 90)).alloc (Obj.cells #[(2:Int),(),(),(),(),(),(),()] 90)):=((aA.Zz w).new _).new _
 try change Code.wp _ _ _ _ ((w.alloc (Obj.cells #[(),(),(),(),(),(),(),()] 90)).alloc (Obj.cells #[(2:Int),(),(),(),(),(),(),()] 90))
 generalize((w.alloc (Obj.cells #[(),(),(),(),(),(),(),()] 90)).alloc (Obj.cells #[(2:Int),(),(),(),(),(),(),()] 90))=w1 at *;have hz':w.heap.size≤w.heap.size:=Nat.le_refl _;have hzr:w.heap.size≤w.heap.size+1:=by omega
 have hzz:w.heap.size≠w.heap.size+1:=by omega
 generalize w.heap.size+1=zr at BR hzr hzz⊢;generalize hz0:w.heap.size=z at BZ hzz⊢;replace hz':w.heap.size≤z:=by omega
 clear hz0;obtain⟨pf,hpf⟩:∃pf,pf=iS.isPrefixOf s:=⟨_,rfl⟩
 go_wp2_with fail;refine Calls.mono (BL s [115,101,97,108,32] _) ?_;rw[show([115,101,97,108,32]:List UInt8).isPrefixOf s=pf from hpf.symm];rintro e v1⟨rfl,b⟩;replace on:=on.to b;replace BZ:=BZ.oe b;replace BR:=BR.oe b;clear b
 cases pf with
 |true =>
   have hp:iS.isPrefixOf s=true:=hpf.symm
   have hl5:5≤s.length:=by
    obtain⟨t,ht⟩:=List.isPrefixOf_iff_prefix.1 hp;rw[←ht,List.length_append];simp[iS]
   obtain⟨t,ht⟩:∃t,t=s.drop 5:=⟨_,rfl⟩
   have htl:t.length≤30000:=by rw[ht];have:=HS.out;simp;omega
   have sl:∀w,(Instr.slice 9 (dC s) (some (.int .i64 5)) none none).run prog w=.ok (dC t) w:=fun w=>by rw[ht];exact IR s 5 hl5 w
   have HP:=aH hp;have HT:=aH ht;clear hp ht hpf;obtain⟨ok,hok⟩:∃ok,ok=(jJ t).isSome:=⟨_,rfl⟩
   go_wp2_with fail;refine Calls.mono (pQ t (by omega) _ (E.oe on)) ?_;rw[←hok];rintro e v2⟨n,rfl,b,hn⟩;replace on:=on.to b;replace BZ:=BZ.oe b;replace BR:=BR.oe b;clear b;clear sl;have fz:=fun o=>BR.Zy o
   have HN0:=aH hn;have HOK:=aH hok;clear hn hok;obtain⟨b0,b1,b2,b3,b4,b5,b6,b7⟩:=BR.p8;go_upto_region 5 with fail
   clear b0 b1 b2 b3 b4 b5 b6 b7;have BR':=BR.Zq (j:=2) (by simp) (.int .i64 n);simp only[List.set_cons_zero,List.set_cons_succ]at BR';replace BZ:=BZ.Zr (p:=⟨zr,2,none⟩) hzz (.int .i64 n);replace on:=on.put (p:=⟨zr,2,none⟩) hzr (.int .i64 n);clear BR fz;have BR:=BR';clear BR'
   try change Code.wp _ _ _ _ (v2.setCell ⟨zr,2,none⟩ (.int .i64 n))
   generalize(v2.setCell ⟨zr,2,none⟩ (.int .i64 n))=v3 at *
   cases ok with
   |false =>
     have hnt:jJ t=none:=by
      have:=HOK.out
      cases hx:jJ t with
      |none=>rfl
      |some u=>rw[hx]at this;cases this
     have hr:r=(dR,1):=by rw[HR.out];unfold iU;rw[if_pos HP.out,show s.drop 5=t from HT.out.symm,hnt]
     subst hr;clear hnt HR HN0 HOK BR;go_wp2_with (refine pU BZ [(),(),(),(),(),(),(),()] 90 jL ?_)
     have hF:=BZ.put (us:=[(),(),(),(),(),(),(),()]) rfl;have oF:=aA.Zw (b:=z) (o:=0) (us:=[(),(),(),(),(),(),(),()]) hz' on;generalize World.setCells _ z 0 [.int .i64 0,.int .i64 0,.int .i64 0,.int .i64 0,.int .i64 0,.int .i64 0,.int .i64 0,.int .i64 0]=wF at hF oF⊢;go_wp2_with fail;obtain⟨p0,p1,p2,p3,p4,p5,p6,p7⟩:=hF.p8;refine bodyPost_ret (v:=.tuple #[.agg #[(),(),(),(),(),(),(),()],(1:Int)]) (by simp[results,results110,go_sem,p0,p1,p2,p3,p4,p5,p6,p7]) rfl ⟨rfl,oF⟩
   |true =>
     have hnt:jJ t=some n:=HN0.out rfl;have hr:r=qG ⟨2,0,n,⟨0,0,0,0,0⟩⟩:=by rw[HR.out];unfold iU;rw[if_pos HP.out,show s.drop 5=t from HT.out.symm,hnt];rfl
     clear hnt HR HN0 HOK;go_upto_region 18 with fail
     obtain⟨q,hqq⟩:∃q,q=bI ⟨2,0,n,⟨0,0,0,0,0⟩⟩:=⟨_,rfl⟩
     unfold qG at hr;rw[←hqq]at hr;have HQ:=aH hqq;have HRQ:=aH hr;clear hqq hr;obtain⟨b0,b1,b2,b3,b4,b5,b6,b7⟩:=BR.p8;go_wp2_with fail;refine Calls.mono (qD 2 0 n ⟨0,0,0,0,0⟩ _) ?_;rw[show bI ⟨2,0,n,⟨0,0,0,0,0⟩⟩=q from HQ.out.symm];rintro e v4⟨rfl,b⟩;replace on:=on.to b;replace BZ:=BZ.oe b;replace BR:=BR.oe b;clear b;clear b0 b1 b2 b3 b4 b5 b6 b7;by_cases hq0:q=0
     · have hr:=HRQ.out;rw[if_neg (by simp[hq0])]at hr;subst hr;have hq1:(q ==0)=true:=by simp[hq0]
       have hq2:(q !=0)=false:=by simp[hq0]
       obtain⟨b0,b1,b2,b3,b4,b5,b6,b7⟩:=BR.p8;clear hq0 HRQ;go_wp2_with (refine pU BZ [(2:Int),(),n,(),(),(),(),()] 90 jL ?_)
       have hF:=BZ.put (us:=[(2:Int),(),n,(),(),(),(),()]) rfl;have oF:=aA.Zw (b:=z) (o:=0) (us:=[(2:Int),(),n,(),(),(),(),()]) hz' on;generalize World.setCells _ z 0 [.int .i64 2,.int .i64 0,.int .i64 n,.int .i64 0,.int .i64 0,.int .i64 0,.int .i64 0,.int .i64 0]=wF at hF oF⊢;go_wp2_with fail;obtain⟨p0,p1,p2,p3,p4,p5,p6,p7⟩:=hF.p8;refine bodyPost_ret (v:=.tuple #[.agg #[(2:Int),(),n,(),(),(),(),()],()]) (by simp[results,results110,go_sem,p0,p1,p2,p3,p4,p5,p6,p7]) rfl ⟨rfl,oF⟩
     have hr:=HRQ.out;rw[if_pos hq0]at hr;subst hr;have hq1:(q ==0)=false:=by simp[hq0]
     have hq2:(q !=0)=true:=by simp[hq0]
     clear hq0 BR HRQ;go_wp2_with (refine pU BZ [(),(),(),(),(),(),(),()] 90 jL ?_)
     have hF:=BZ.put (us:=[(),(),(),(),(),(),(),()]) rfl;have oF:=aA.Zw (b:=z) (o:=0) (us:=[(),(),(),(),(),(),(),()]) hz' on;generalize World.setCells _ z 0 [.int .i64 0,.int .i64 0,.int .i64 0,.int .i64 0,.int .i64 0,.int .i64 0,.int .i64 0,.int .i64 0]=wF at hF oF⊢;go_wp2_with fail;obtain⟨p0,p1,p2,p3,p4,p5,p6,p7⟩:=hF.p8;refine bodyPost_ret (v:=.tuple #[.agg #[(),(),(),(),(),(),(),()],q]) (by simp[results,results110,go_sem,p0,p1,p2,p3,p4,p5,p6,p7]) rfl ⟨rfl,oF⟩
 |false =>
   have hp:¬iS.isPrefixOf s=true:=by rw[←hpf];simp
   have HP:=aH hp;clear hp hpf;have fz:=fun o=>BR.Zy o
   obtain⟨b0,b1,b2,b3,b4,b5,b6,b7⟩:=BR.p8;go_upto_region 8 with fail
   clear b0 b1 b2 b3 b4 b5 b6 b7;have BR':=BR.Zq (j:=0) (by simp) (.int .i64 1);simp only[List.set_cons_zero,List.set_cons_succ]at BR';replace BZ:=BZ.Zr (p:=⟨zr,0,none⟩) hzz (.int .i64 1);replace on:=on.put (p:=⟨zr,0,none⟩) hzr (.int .i64 1);clear BR fz;have BR:=BR';clear BR'
   try change Code.wp _ _ _ _ (v1.setCell ⟨zr,0,none⟩ (.int .i64 1))
   generalize(v1.setCell ⟨zr,0,none⟩ (.int .i64 1))=v2 at *;obtain⟨ix,hix⟩:∃ix,ix=Lib.index s dJ:=⟨_,rfl⟩
   go_wp2_with fail;refine Calls.mono (LB s [58,32] (by have:=HS.out;omega) _ (E.oe on)) ?_;rw[show Lib.index s [58,32]=ix from hix.symm];rintro e v3⟨rfl,b⟩;replace on:=on.to b;replace BZ:=BZ.oe b;replace BR:=BR.oe b;clear b;by_cases hneg:ix<0
   · have hr:r=(dR,1):=by rw[HR.out];unfold iU;rw[if_neg HP.out,if_pos ((zG s dJ).1 (by omega))]
     subst hr;clear HR BR hix;go_wp2_with (refine pU BZ [(),(),(),(),(),(),(),()] 90 jL ?_)
     have hF:=BZ.put (us:=[(),(),(),(),(),(),(),()]) rfl;have oF:=aA.Zw (b:=z) (o:=0) (us:=[(),(),(),(),(),(),(),()]) hz' on;generalize World.setCells _ z 0 [.int .i64 0,.int .i64 0,.int .i64 0,.int .i64 0,.int .i64 0,.int .i64 0,.int .i64 0,.int .i64 0]=wF at hF oF⊢;go_wp2_with fail;obtain⟨p0,p1,p2,p3,p4,p5,p6,p7⟩:=hF.p8;refine bodyPost_ret (v:=.tuple #[.agg #[(),(),(),(),(),(),(),()],(1:Int)]) (by simp[results,results110,go_sem,p0,p1,p2,p3,p4,p5,p6,p7]) rfl ⟨rfl,oF⟩
   obtain⟨k,hk⟩:∃k:Nat,ix=k:=⟨ix.toNat,by omega⟩
   subst hk;obtain⟨hkl,hcut⟩:=(zG s dJ).2 k hix.symm;rw[show dJ.length=2 from rfl]at hkl hcut;obtain⟨a,ha⟩:∃a,a=s.take k:=⟨_,rfl⟩
   obtain⟨c,hc⟩:∃c,c=s.drop (k+2):=⟨_,rfl⟩
   have hsl:=HS.out;have hal:a.length≤30000:=by rw[ha,List.length_take];omega
   have hcl:c.length≤30000:=by rw[hc,List.length_drop];omega
   have sa:∀w,(Instr.slice 9 (dC s) none (some (.int .i64 (k:Int))) none).run prog w=.ok (dC a) w:=fun w=>by rw[ha];exact OK s k (by omega) w
   have sc:∀w,(Instr.slice 9 (dC s) (some (.int .i64 ((k:Int)+2))) none none).run prog w=.ok (dC c) w:=fun w=>by rw[hc,show((k:Int)+2)=((k+2:Nat):Int) by omega];exact IR s (k+2) (by omega) w
   have hr0:r=(match jJ a with|none=>(dR,1)|some n=>if(bY (bO 32 c)).2≠0 then(dR,(bY (bO 32 c)).2)else qG ⟨1,n,0,(bY (bO 32 c)).1⟩):=by
    rw[HR.out];unfold iU;rw[if_neg HP.out,hcut,ha,hc];rfl
   have HR0:=aH hr0;have hk3:k≤30000:=by omega
   clear hr0 ha hc hcut hix HR hsl hkl;obtain⟨ok,hok⟩:∃ok,ok=(jJ a).isSome:=⟨_,rfl⟩
   go_wp2_with fail;refine Calls.mono (pQ a (by omega) _ (E.oe on)) ?_;rw[←hok];rintro e v4⟨n,rfl,b,hn⟩;replace on:=on.to b;replace BZ:=BZ.oe b;replace BR:=BR.oe b;clear b;clear sa;have fz:=fun o=>BR.Zy o
   have HN0:=aH hn;have HOK:=aH hok;clear hn hok;obtain⟨b0,b1,b2,b3,b4,b5,b6,b7⟩:=BR.p8;go_upto_region 12 with fail
   clear b0 b1 b2 b3 b4 b5 b6 b7;have BR':=BR.Zq (j:=1) (by simp) (.int .i64 n);simp only[List.set_cons_zero,List.set_cons_succ]at BR';replace BZ:=BZ.Zr (p:=⟨zr,1,none⟩) hzz (.int .i64 n);replace on:=on.put (p:=⟨zr,1,none⟩) hzr (.int .i64 n);clear BR fz;have BR:=BR';clear BR'
   try change Code.wp _ _ _ _ (v4.setCell ⟨zr,1,none⟩ (.int .i64 n))
   generalize(v4.setCell ⟨zr,1,none⟩ (.int .i64 n))=v5 at *
   cases ok with
   |false =>
     have hnt:jJ a=none:=by
      have:=HOK.out
      cases hx:jJ a with
      |none=>rfl
      |some u=>rw[hx]at this;cases this
     have hr:r=(dR,1):=by rw[HR0.out,hnt]
     subst hr;clear hnt HR0 HN0 HOK BR;go_wp2_with (refine pU BZ [(),(),(),(),(),(),(),()] 90 jL ?_)
     have hF:=BZ.put (us:=[(),(),(),(),(),(),(),()]) rfl;have oF:=aA.Zw (b:=z) (o:=0) (us:=[(),(),(),(),(),(),(),()]) hz' on;generalize World.setCells _ z 0 [.int .i64 0,.int .i64 0,.int .i64 0,.int .i64 0,.int .i64 0,.int .i64 0,.int .i64 0,.int .i64 0]=wF at hF oF⊢;go_wp2_with fail;obtain⟨p0,p1,p2,p3,p4,p5,p6,p7⟩:=hF.p8;refine bodyPost_ret (v:=.tuple #[.agg #[(),(),(),(),(),(),(),()],(1:Int)]) (by simp[results,results110,go_sem,p0,p1,p2,p3,p4,p5,p6,p7]) rfl ⟨rfl,oF⟩
   |true =>
     have hnt:jJ a=some n:=HN0.out rfl;obtain⟨x,hx⟩:∃x,x=(bY (bO 32 c)).1:=⟨_,rfl⟩
     obtain⟨g,hg⟩:∃g,g=(bY (bO 32 c)).2:=⟨_,rfl⟩
     have hr1:r=if g≠0 then(dR,g)else qG ⟨1,n,0,x⟩:=by rw[HR0.out,hnt,hx,hg]
     have HR1:=aH hr1;have HX:=aH hx;have HG:=aH hg;clear hnt HR0 HN0 HOK hx hg hr1;go_wp2_with fail;refine Calls.mono (FI c _ (E.oe on) hcl) ?_;unfold xL;rw[show(bY (bO 32 c)).1=x from HX.out.symm,show(bY (bO 32 c)).2=g from HG.out.symm];rintro e v6⟨rfl,b⟩;replace on:=on.to b;replace BZ:=BZ.oe b;replace BR:=BR.oe b;clear b;clear sc;go_upto_region 16 with (refine pM BR 3 [x.kind,x.job,x.every,x.time,x.client] 27 (by simp) fV ?_)
     have BR':=BR.putM (o:=3) (us:=[x.kind,x.job,x.every,x.time,x.client]) (by simp);simp only[gV,List.set_cons_zero,List.set_cons_succ]at BR';replace BZ:=BZ.off (b:=zr) (o:=3) (us:=[x.kind,x.job,x.every,x.time,x.client]) hzz;replace on:=aA.Zw (b:=zr) (o:=3) (us:=[x.kind,x.job,x.every,x.time,x.client]) hzr on;clear BR;have BR:=BR';clear BR';generalize World.setCells _ zr 3 [.int .i64 x.kind,.int .i64 x.job,.int .i64 x.every,.int .i64 x.time,.int .i64 x.client]=wy at BR BZ on⊢;by_cases hg0:g=0
     · have hr:=HR1.out;rw[if_neg (by simp[hg0])]at hr;subst hg0;go_upto_region 18 with fail
       obtain⟨q,hqq⟩:∃q,q=bI ⟨1,n,0,x⟩:=⟨_,rfl⟩
       unfold qG at hr;rw[←hqq]at hr;have HQ:=aH hqq;have HRQ:=aH hr;clear hqq hr;obtain⟨b0,b1,b2,b3,b4,b5,b6,b7⟩:=BR.p8;go_wp2_with fail;refine Calls.mono (qD 1 n 0 x _) ?_;rw[show bI ⟨1,n,0,x⟩=q from HQ.out.symm];rintro e v7⟨rfl,b⟩;replace on:=on.to b;replace BZ:=BZ.oe b;replace BR:=BR.oe b;clear b;clear b0 b1 b2 b3 b4 b5 b6 b7;by_cases hq0:q=0
       · have hr:=HRQ.out;rw[if_neg (by simp[hq0])]at hr;subst hr;have hq1:(q ==0)=true:=by simp[hq0]
         have hq2:(q !=0)=false:=by simp[hq0]
         obtain⟨b0,b1,b2,b3,b4,b5,b6,b7⟩:=BR.p8;clear hq0 HRQ;go_wp2_with (refine pU BZ [(1:Int),n,(),x.kind,x.job,x.every,x.time,x.client] 90 jL ?_)
         have hF:=BZ.put (us:=[(1:Int),n,(),x.kind,x.job,x.every,x.time,x.client]) rfl;have oF:=aA.Zw (b:=z) (o:=0) (us:=[(1:Int),n,(),x.kind,x.job,x.every,x.time,x.client]) hz' on;generalize World.setCells _ z 0 [.int .i64 1,.int .i64 n,.int .i64 0,.int .i64 x.kind,.int .i64 x.job,.int .i64 x.every,.int .i64 x.time,.int .i64 x.client]=wF at hF oF⊢;go_wp2_with fail;obtain⟨p0,p1,p2,p3,p4,p5,p6,p7⟩:=hF.p8;refine bodyPost_ret (v:=.tuple #[.agg #[(1:Int),n,(),x.kind,x.job,x.every,x.time,x.client],()]) (by simp[results,results110,go_sem,p0,p1,p2,p3,p4,p5,p6,p7]) rfl ⟨rfl,oF⟩
       have hr:=HRQ.out;rw[if_pos hq0]at hr;subst hr;have hq1:(q ==0)=false:=by simp[hq0]
       have hq2:(q !=0)=true:=by simp[hq0]
       clear hq0 BR HRQ;go_wp2_with (refine pU BZ [(),(),(),(),(),(),(),()] 90 jL ?_)
       have hF:=BZ.put (us:=[(),(),(),(),(),(),(),()]) rfl;have oF:=aA.Zw (b:=z) (o:=0) (us:=[(),(),(),(),(),(),(),()]) hz' on;generalize World.setCells _ z 0 [.int .i64 0,.int .i64 0,.int .i64 0,.int .i64 0,.int .i64 0,.int .i64 0,.int .i64 0,.int .i64 0]=wF at hF oF⊢;go_wp2_with fail;obtain⟨p0,p1,p2,p3,p4,p5,p6,p7⟩:=hF.p8;refine bodyPost_ret (v:=.tuple #[.agg #[(),(),(),(),(),(),(),()],q]) (by simp[results,results110,go_sem,p0,p1,p2,p3,p4,p5,p6,p7]) rfl ⟨rfl,oF⟩
     have hr:=HR1.out;rw[if_pos hg0]at hr;subst hr;have hg1:(g ==0)=false:=by simp[hg0]
     have hg2:(g !=0)=true:=by simp[hg0]
     clear hg0 HR1 BR;go_wp2_with (refine pU BZ [(),(),(),(),(),(),(),()] 90 jL ?_)
     have hF:=BZ.put (us:=[(),(),(),(),(),(),(),()]) rfl;have oF:=aA.Zw (b:=z) (o:=0) (us:=[(),(),(),(),(),(),(),()]) hz' on;generalize World.setCells _ z 0 [.int .i64 0,.int .i64 0,.int .i64 0,.int .i64 0,.int .i64 0,.int .i64 0,.int .i64 0,.int .i64 0]=wF at hF oF⊢;go_wp2_with fail;obtain⟨p0,p1,p2,p3,p4,p5,p6,p7⟩:=hF.p8;refine bodyPost_ret (v:=.tuple #[.agg #[(),(),(),(),(),(),(),()],g]) (by simp[results,results110,go_sem,p0,p1,p2,p3,p4,p5,p6,p7]) rfl ⟨rfl,oF⟩
end
section
theorem FM {c:UInt8}:∀ {l:List (List UInt8)}{k:Nat}{p:List UInt8},l[k]?=some p→(kH c l)[k]?=some (if k+1=l.length then p else p ++[c])
 | [],k,p,h=>by simp at h
 | [t],0,p,h=>by simp at h;subst h;simp[kH]
 | [t],k+1,p,h=>by simp at h
 |t ::u ::r,0,p,h=>by simp at h;subst h;simp[kH]
 |t ::u ::r,k+1,p,h=>by
   have h':(u ::r)[k]?=some p:=by simpa using h
   have:=FM (c:=c) h';rw[kH,List.getElem?_cons_succ,this];simp only[List.length_cons,Nat.add_right_cancel_iff]
theorem S.atP {w:World}{A:Option Addr}{n:Nat}{l:List (List UInt8)}(h:S w 1 A n ((kH 10 l).map vF)){i:Nat}(hi:i<l.length)(hn:n=l.length):∃b off p,A=some ⟨b,off,none⟩∧b<w.heap.size∧l[i]?=some p∧w.cell? ⟨b,off+i,none⟩=some (dC (if i+1=l.length then p else p ++[10])):=by
 obtain⟨b,off,x,e,hb,hx,hc⟩:=S.atS h (i:=i) (by omega);have hp:l[i]?=some l[i]:=List.getElem?_eq_getElem hi;rw[FM hp]at hx;injection hx with hx;exact⟨b,off,l[i],e,hb,hp,hx▸hc⟩
theorem GI (p:List UInt8):Lib.hasSuffix (p ++[10]) [10]=true:=by
 unfold Lib.hasSuffix;rw[List.isSuffixOf_iff_suffix];exact⟨p,rfl⟩
theorem KO {p:List UInt8}(h:(10:UInt8)∉p):Lib.hasSuffix p [10]=false:=by
 cases hs:Lib.hasSuffix p [10]with
 |false=>rfl
 |true =>
   unfold Lib.hasSuffix at hs;rw[List.isSuffixOf_iff_suffix]at hs;obtain⟨t,ht⟩:=hs;exact absurd (by rw[←ht];simp) h
theorem sU (s p:List UInt8)(hs:s.length≤9223372036854775807)(w:World):Calls prog 109 #[dC s,dC p] w fun e w'=>e=.returned (.bool (Lib.hasSuffix s p))∧aA w w' :=
 (vC s p hs w).mono fun e w' ⟨he,hw⟩=>⟨he,hw▸aA.Zz w⟩
theorem nK (s : List UInt8)(most : Nat)(hs : s.length ≤ 30000)(hm : most ≤ 200)(w : World)(E : fR w) :
    Calls prog 69 #[dC s,most] w fun e w'=>∃A n c,e=.returned (.tuple #[.slice A n c,.int .i64 (bS s most).2.1,.int .i64 (bS s most).2.2])∧cH w' w.heap.size 90 8 (.slice A n c) n ((bS s most).1.map eO)∧aA w w':=by
 obtain⟨L,hL⟩:∃L,L=bS s most:=⟨_,rfl⟩
 rw[←hL];have hL0:L=eS dF most [] 0 (bO 10 s):=hL;have HL0:=aH hL0;clear hL hL0;have hne:=jZ 10 s;have hmem:∀p∈bO 10 s,(10:UInt8)∉p∧p.length≤30000:=fun p hp=>⟨oV hp,Nat.le_trans (pX hp) hs⟩
 have hN:(bO 10 s).length≤30001:=by rw[oM];have:=List.count_le_length (a:=(10:UInt8)) (l:=s);omega
 have hN0:0<(bO 10 s).length:=List.length_pos_iff.2 hne;obtain⟨ts,hts⟩:∃ts,ts=bO 10 s:=⟨_,rfl⟩
 go_enter func69,ntmps69;go_wp2_with fail;refine Calls.mono (tM 10 s (by omega) _ E) ?_;rw[←hts]at HL0 hmem hN hN0⊢;rintro e w1⟨T,rfl,sT,on⟩;have HMEM:=aH hmem;have E1:=E.oe on;have HSZ:=aH on.size;have HS:=aH hs;clear hmem hne hts hs;generalize hNN:ts.length=N at *;have hT:∀ {wr:World},aA w1 wr→S wr 1 T N ((kH 10 ts).map vF):=fun b=>sT.oe b
 go_wp2_with fail
 go_loopg [7,8,16] N (fun g sl s8 si wr=>∃ (kk:Nat) (acc:List dI) (k c:Nat) (A:Option Addr),kk<N∧N-kk≤g∧si=.int .i64 kk∧sl=.slice A acc.length c∧s8=.int .i64 (k:Int)∧k≤30001*(kk+1)∧acc.length≤most∧acc.length≤c∧Hid (L=eS dF most acc k (ts.drop kk))∧Hid (cH wr w1.heap.size 90 8 (.slice A acc.length c) acc.length (acc.map eO))∧aA w1 wr)
 case atStart=>exact⟨0,[],0,0,none,hN0,by omega,rfl,rfl,rfl,by omega,by simp,by simp,by rw[List.drop_zero];exact HL0,cH.nil _ _ _ _,aA.Zz _⟩
 case round =>
  obtain⟨kk,acc,k,c,A,hkk,hg,rfl,rfl,rfl,hk3,ham,hac,HL,HO,on1⟩:=hrel;obtain⟨bb,off,p,rfl,hb,hp,e0⟩:=S.atP (hT on1) (i:=kk) (by omega) hNN.symm
  have hdr:ts.drop kk=p ::ts.drop (kk+1):=by
   obtain⟨h2,rfl⟩:=List.getElem?_eq_some_iff.1 hp;exact List.drop_eq_getElem_cons h2
  obtain⟨hno,hpl⟩:=HMEM.out p (List.mem_of_getElem? hp);have hl:=HL.out;rw[hdr]at hl;rw[hNN]at e0;by_cases hlast:kk+1=N
  · rw[if_pos hlast]at e0;have hnil:ts.drop (kk+1)=[]:=List.drop_eq_nil_of_le (by omega);rw[hnil,nM]at hl;have hon:=aH (on.to on1);clear hp hdr hnil hT HL HMEM;by_cases hp0:p=[]
    · rw[if_pos hp0]at hl;subst hp0;have HF:=aH hl;clear hl hno hpl;go_wp2_with fail;refine bodyPost_ret (v:=.tuple #[.slice A acc.length c,(k:Int),()]) (by simp[results,results69,go_sem]) rfl ⟨A,acc.length,c,by rw[HF.out],by rw[HF.out];exact HO.out.lower HSZ.out,hon.out⟩
    rw[if_neg hp0]at hl;have hq1:(p ==[])=false:=by simp[hp0]
    have HF:=aH hl
    have hpos:1≤p.length:=by
     have:p.length≠0:=fun h=>hp0 (List.eq_nil_of_length_eq_zero h)
     omega
    have hsf:=KO hno;clear hl hno hp0;go_wp2_with fail;refine Calls.mono (sU p [10] (by omega) _) ?_;rw[hsf];rintro e w2⟨rfl,b⟩;have hon2:=aH (hon.out.to b);have HO2:=aH (HO.out.below b);clear b e0 hsf;go_wp2_with fail;refine bodyPost_ret (v:=.tuple #[.slice A acc.length c,(k:Int),(9:Int)]) (by simp[results,results69,go_sem]) rfl ⟨A,acc.length,c,by rw[HF.out],by rw[HF.out];exact HO2.out.lower HSZ.out,hon2.out⟩
  rw[if_neg hlast]at e0;have hrest:ts.drop (kk+1)≠[]:=fun h=>by have:=congrArg List.length h;rw[List.length_drop]at this;simp at this;omega
  rw[lX hrest]at hl;have hpar:dF p=iU p:=by unfold dF;rw[if_neg (by omega)]
  obtain⟨x,hx⟩:∃x,x=(dF p).1:=⟨_,rfl⟩
  obtain⟨g2,hg2⟩:∃g,g=(dF p).2:=⟨_,rfl⟩
  rw[←hx,←hg2]at hl;obtain⟨t,ht⟩:∃t,t=p ++[10]:=⟨_,rfl⟩
  rw[←ht]at e0;have htl:t.length=p.length+1:=by rw[ht];simp
  have hq1:(t ==[])=false:=by rw[beq_eq_false_iff_ne];intro h;rw[h]at htl;simp at htl
  have sl:∀w,(Instr.slice 9 (dC t) none (some (.int .i64 ((t.length:Int)-1))) none).run prog w=.ok (dC p) w:=fun w=>by
   rw[show((t.length:Int)-1)=((p.length:Nat):Int) by omega];have:=OK t p.length (by omega) w;rw[this,ht,List.take_left]
  have ht1:(1:Int)≤(t.length:Int):=by omega
  have ht2:t.length≤30001:=by omega
  have HX:=aH hx;have HG:=aH hg2;have HPAR:=aH hpar;have HLL:=aH hl;have HT:=aH ht;have HTL:=aH htl;clear hx hg2 hpar hl ht hp hdr hrest HL hno htl;have hsf:Lib.hasSuffix t [10]=true:=by rw[HT.out];exact GI p
  go_wp2_with fail;refine Calls.mono (sU t [10] (by omega) _) ?_;rw[hsf];rintro e w2⟨rfl,b⟩;replace on1:=on1.to b;have HO2:=aH (HO.out.below b);clear b e0 hsf;go_wp2_with fail;refine Calls.mono (zS p _ (E1.oe on1) hpl) ?_;rw[show iU p=dF p from HPAR.out.symm];unfold vW;rw[show(dF p).1=x from HX.out.symm,show(dF p).2=g2 from HG.out.symm];rintro e w3⟨rfl,b⟩;replace on1:=on1.to b;have HO3:=aH (HO2.out.below b);clear b sl HO2 ;go_upto_region 10 with fail
  have ob:=(aA.Zz w3).new (Obj.cells #[x.kind,x.at_,x.epoch,x.e.kind,x.e.job,x.e.every,x.e.time,x.e.client] 90);have BE:Bx (w3.alloc (Obj.cells #[x.kind,x.at_,x.epoch,x.e.kind,x.e.job,x.e.every,x.e.time,x.e.client] 90)) w3.heap.size [x.kind,x.at_,x.epoch,x.e.kind,x.e.job,x.e.every,x.e.time,x.e.client]:=Bx.Zt _ _ _;replace on1:=on1.to ob;have HO4:=aH (HO3.out.below ob);clear HO3 ob
  try change Code.wp _ _ _ _ (w3.alloc (Obj.cells #[x.kind,x.at_,x.epoch,x.e.kind,x.e.job,x.e.every,x.e.time,x.e.client] 90))
  generalize(w3.alloc (Obj.cells #[x.kind,x.at_,x.epoch,x.e.kind,x.e.job,x.e.every,x.e.time,x.e.client] 90))=w4 at *;generalize w3.heap.size=z3 at *;obtain⟨x0,x1,x2,x3,x4,x5,x6,x7⟩:=BE.p8;by_cases hg0:g2=0
  · by_cases hmn:most≤acc.length
    · have hmm:(most:Int)≤(acc.length:Int):=by omega
      have hl:L=(acc,k,2):=by rw[HLL.out,if_neg (by simp[hg0]),if_pos hmn]
      have HF:=aH hl;have hon:=aH (on.to on1);subst hg0;clear hl HLL on1;go_wp2_with fail;refine bodyPost_ret (v:=.tuple #[.slice A acc.length c,(k:Int),(2:Int)]) (by simp[results,results69,go_sem]) rfl ⟨A,acc.length,c,by rw[HF.out],by rw[HF.out];exact HO4.out.lower HSZ.out,hon.out⟩
    have hmm:¬ (most:Int)≤(acc.length:Int):=by omega
    have hl:L=eS dF most (acc ++[x]) (k+p.length+1) (ts.drop (kk+1)):=by rw[HLL.out,if_neg (by simp[hg0]),if_neg hmn]
    have HF:=aH hl;clear hl HLL;subst hg0;obtain⟨i0,hi0,hzz0,hzz1,hzz2⟩:=info_parts LW;have HI0:=aH hi0;have HZ0:=aH hzz0;have HZ1:=aH hzz1;have HZ2:=aH hzz2;clear hi0 hzz0 hzz1 hzz2;have HNEW:=aH (Sl.oneQ (w:=w4) (t:=90) x);have HAL:=aH ((aA.Zz w4).new (Obj.cells #[x.kind,x.at_,x.epoch,x.e.kind,x.e.job,x.e.every,x.e.time,x.e.client] 90));have ON:=aH on1;have hs4:w1.heap.size≤w4.heap.size:=on1.size;clear on1;go_wp2_with (at_builtin;refine aQ _ rfl (.tmp 49) (.tmp 51) 57 rfl w1.heap.size 90 i0 _ 8 64 underlying57 HI0.out HZ0.out HZ1.out HZ2.out rfl (by decide) (.slice A acc.length c) acc.length (acc.map eO) rfl (HO4.out.below HAL.out) (w4.heap.size+1) (some ⟨w4.heap.size,0,none⟩) 1 1 [eO x] rfl HNEW.out (by simp[eO,Value.oneCell']) (by unfold maxLen;omega) (by omega) (by simp;omega) ?_)
    intro v8 w8 own8 grow8 hv8;obtain⟨A8,c8,rfl,hc8,_⟩:=own8.slice;have hB8:aA w1 w8:=aT (ON.out.to HAL.out) (ON.out.to HAL.out).size grow8 (fun g hg=>by have:=(HO4.out.1.lt g hg).1;omega);have HO8:=aH own8;clear grow8 hv8 own8 HO4 HNEW HAL x0 x1 x2 x3 x4 x5 x6 x7;go_wp2_with fail;go_roundg (N-(kk+1))
    case measure=>omega
    case rel =>
     refine⟨kk+1,acc ++[x],k+p.length+1,c8,A8,by omega,Nat.le_refl _,by go_num,by simp,by rw[HTL.out];go_num,by omega,by simp;omega,?_,HF,?_,hB8⟩
     · have:=HO8.out.Zs;simp;omega
     refine aH ?_;rw[List.map_append,List.length_append];exact HO8.out
  have hgb:(g2 ==0)=false:=by simp[hg0]
  have hgn:(g2 !=0)=true:=by simp[hg0]
  have hl:L=(acc,k,g2):=by rw[HLL.out,if_pos hg0]
  have HF:=aH hl;have hon:=aH (on.to on1);clear hl HLL hg0 on1;go_wp2_with fail;refine bodyPost_ret (v:=.tuple #[.slice A acc.length c,(k:Int),g2]) (by simp[results,results69,go_sem]) rfl ⟨A,acc.length,c,by rw[HF.out],by rw[HF.out];exact HO4.out.lower HSZ.out,hon.out⟩
end
section
theorem zC (A : Option Addr)(n c : Nat)(l : List UV)(w : World)(h : Us w A n l) :
    Calls prog 92 #[.slice A n c] w fun e w'=>e=.returned (.int .i64 (gR (jW l)))∧aA w w':=by
 have hl:=h.len;obtain⟨r,hr⟩:∃r,r=gR (jW l):=⟨_,rfl⟩
 rw[←hr];unfold gR at hr;by_cases h3:n=3
 · subst h3;rw[if_neg (by simp[hl])]at hr;have HR:=aH hr;have HL:=aH hl;clear hr hl;go_enter func92,ntmps92;go_wp2_with fail
   go_loopw [11] (fun s wr=>∃k:Nat,k≤3∧s=.int .i64 k∧aA w wr∧Hid (r=mF (oQ (jW l) k) ((jW l).drop k))∧Hid (∀j v,j<k→l[j]?=some v→v.n=60)) (fun s _=>3-(intOf s).toNat)
   case atStart=>exact⟨0,by omega,rfl,Below.refl _ _,by show _=_;rw[HR.out];rfl,fun j v hj=>absurd hj (Nat.not_lt_zero _)⟩
   case round =>
    obtain⟨i,hi,rfl,hbr,HK,HN⟩:=hrel;by_cases hlt:i<3
    · obtain⟨b,off,u,rfl,hb,hu,e0,e1,hs,hul⟩:=(h.oe hbr).atU hlt
      have p0:0<i→∃v,l[i-1]?=some v∧wr.cell? ⟨b,off+(i-1)*2,none⟩=some (.int .i64 v.ep)∧wr.cell? ⟨b,off+(i-1)*2+1,none⟩=some (.slice v.A v.n v.c)∧S wr 5 v.A v.n (v.cells.map bA)∧v.n=60:=by
       intro hp;obtain⟨b',off',v,e',_,hv,e0',e1',hs',_⟩:=(h.oe hbr).atU (i:=i-1) (by omega);injection e' with e';injection e' with e1 e2 _;subst e1;subst e2;exact⟨v,hv,e0',e1',hs',HN.out _ v (by omega) hv⟩
      have HU:=aH (kB hu);have HU0:=aH hu;have hk:=HK.out;rw[yP HU.out]at hk;have HKK:=aH hk;have hal:aA wr (wr.alloc (Obj.cells #[u.ep,.slice u.A u.n u.c] 50)):=(Below.refl _ _).alloc (Nat.le_refl _) _;clear hk hu;go_wp2_with fail;refine Calls.mono (tC u.ep u.A u.n u.c u.cells _ (hs.new _)) ?_;rintro e w1⟨rfl,hb1⟩;obtain⟨q,hq⟩:∃q,q=eJ u.ep u.cells:=⟨_,rfl⟩
      rw[←hq];have hk:=HKK.out;rw[show eJ u.u.ep u.u.cells=q from hq.symm]at hk;have HKQ:=aH hk;have HQ:=aH hq;have q0:w1.cell? ⟨wr.heap.size,0,none⟩=some (.int .i64 u.ep):=aB hb1 (by simp[go_sem]);have q1:w1.cell? ⟨wr.heap.size,1,none⟩=some (.slice u.A u.n u.c):=aB hb1 (by simp[go_sem]);have h01:=(aA.to hbr hal).to hb1;have h11:=hal.to hb1;clear hk hq HKK;by_cases hq0:q=0
      · subst hq0;have hg:=dE.1 HQ.out.symm;have hun:u.n=60:=by rw[←hul];exact hg.len
        have hk:=HKQ.out;rw[if_neg (by simp)]at hk;rcases Nat.eq_zero_or_pos i with rfl|hpos
        · clear p0;have HK1:=aH hk;clear hk HKQ;have k0:=aC q0;have k1:=aC q1;go_wp2_with fail;refine aS (by kernel_rfl) (by kernel_rfl) ?_
          repeat(go_big_quiet_step (fail))
          refine wpQuiet_nil ?_;intro w3 hb3;have h03:=aA.to h01 hb3;clear k0 k1 hb3 q0 q1 e0 e1;go_wp2_with fail
          go_roundw
          case measure=>simp[intOf]<;>omega
          case rel =>
           refine⟨1,by omega,rfl,h03,?_,?_⟩
           · show _=_
             rw[HK1.out];simp[oQ,HU.out]
           show∀j v,_
           intro j v hj hv;obtain rfl:j=0:=by omega
           rw[HU0.out]at hv;injection hv with hv;rw[←hv];exact hun
        obtain⟨v,hv,ev0,ev,hsv,hv60⟩:=p0 hpos
        have ha:oQ (jW l) i=some v.u:=by
         obtain⟨i',rfl⟩:∃i',i=i'+1:=⟨i-1,by omega⟩
         simp only[Nat.add_sub_cancel]at hv;exact kB hv
        rw[ha]at hk;dsimp only at hk;have HK1:=aH hk;have HV:=aH hv;have ev1:=aB h11 ev;have ev2:=aB h11 ev0;have hsv1:=hsv.oe h11;have hs1:=hs.oe h11;have hzb:b<w1.heap.size:=by have:=h11.size;omega
        have HOKU:=aH hg.ok;clear hk HKQ p0 ha hv ev hsv hs e0 e1 ev0 hg;have hi0:¬ ((i:Int)=0):=by omega
        have hpos':(0:Int)<(i:Int):=by omega
        have hpd:decide ((0:Int)<(i:Int))=true:=by simpa using hpos'
        have hw:IntKind.i64.wrap ((i:Int)-1)=(i:Int)-1:=by rw[IntKind.wrap_i64];omega
        rw[hun]at hs1 q1⊢;rw[hv60]at hsv1 ev1;have k0:=aC q0;have k1:=aC q1;have k2:=aC ev2;have k3:=aC ev1;have k4:=mQ hzb;obtain⟨ft,hft⟩:∃ft,ft=decide (fO v.cells u.cells):=⟨_,rfl⟩
        have HFT:=aH hft;clear hft;go_wp2_with fail
        cases ft with
        |true =>
          refine aS (by kernel_rfl) (by kernel_rfl) ?_
          repeat(go_big_quiet_step ((first| (go_at_call 23;exact bT (u:=.bool true) (nT u.ep v.ep u.A v.A u.c v.c u.cells v.cells _ (hs1.ontoX _) (hsv1.ontoX _) HOKU.out) (by rw[←HFT.out])))))
          refine wpQuiet_nil ?_;intro w3 hb3;have h03:=aA.to h01 hb3;have hfit:fO v.u.cells u.u.cells:=of_decide_eq_true HFT.out.symm;have hk:=HK1.out;rw[if_pos hfit]at hk;have HK2:=aH hk;clear k0 k1 k2 k3 k4 hb3 q0 q1 ev1 ev2 hk hfit;go_wp2_with fail
          go_roundw
          case measure=>simp[intOf]<;>omega
          case rel =>
           refine⟨i+1,by omega,by go_num,h03,?_,?_⟩
           · show _=_
             rw[HK2.out];simp[oQ,HU.out]
           show∀j v,_
           intro j v' hj hv';by_cases hji:j=i
           · subst hji;rw[HU0.out]at hv';injection hv' with hv';rw[←hv'];exact hun
           exact HN.out j v' (by omega) hv'
        |false =>
          refine aS (by kernel_rfl) (by kernel_rfl) ?_
          repeat(go_big_quiet_step ((first| (go_at_call 23;exact bT (u:=.bool false) (nT u.ep v.ep u.A v.A u.c v.c u.cells v.cells _ (hs1.ontoX _) (hsv1.ontoX _) HOKU.out) (by rw[←HFT.out])))))
          refine wpQuiet_nil ?_;intro w3 hb3;have h03:=aA.to h01 hb3;have hfit:¬fO v.u.cells u.u.cells:=of_decide_eq_false HFT.out.symm;have hfin:(4:Int)=r:=by rw[HK1.out,if_neg hfit]
          have HF:=aH hfin;clear k0 k1 k2 k3 k4 hb3 q0 q1 ev1 ev2 hfit hfin;go_wp2_with fail;go_ret;exact⟨aO HF.out,h03⟩
      have hq1:(q !=0)=true:=by simpa using hq0
      have hfin:q=r:=by rw[HKQ.out,if_pos hq0]
      have HF:=aH hfin;clear hfin;go_wp2_with fail;go_ret;exact⟨aO HF.out,h01⟩
    obtain rfl:i=3:=by omega
    have hfin:(0:Int)=r:=by rw[HK.out,List.drop_eq_nil_of_le (by simp[HL.out])];rfl
    have HF:=aH hfin;clear hfin;go_wp2_with fail;go_ret;exact⟨aO HF.out,hbr⟩
 rw[if_pos (by simp[hl];omega)]at hr;subst hr;have hnn:((n:Int) !=3)=true:=by simp;omega
 have hnn':¬ ((n:Int)=3):=by omega
 clear h hl h3;go_enter func92,ntmps92;go_wp2_with fail;go_ret;exact⟨rfl,Below.refl _ _⟩
end
section
theorem CY (A : Option Addr)(n c : Nat)(l : List UV)(a : Int)(w : World)(h : Us w A n l) :
    Calls prog 58 #[.slice A n c,a] w (LL w (nY (jW l) a)):=by
 obtain⟨q,hq⟩:∃q,q=gR (jW l):=⟨_,rfl⟩
 obtain⟨r,hr⟩:∃r,r=nY (jW l) a:=⟨_,rfl⟩
 rw[←hr];unfold nY at hr;rw[←hq]at hr;have HQ:=aH hq;have HR0:=aH hr;clear hq hr;go_enter func58,ntmps58;have heq:=OD;go_wp2_with fail;refine Calls.mono (zC A n c l _ (h.new _)) ?_;rw[←HQ.out];rintro e w1⟨rfl,hb1⟩;have y0a:w1.cell? ⟨w.heap.size,0,none⟩=some (.int .i64 0):=aB hb1 (by simp[go_sem]);have fy0a:w1.frozen? ⟨w.heap.size,0,none⟩=false:=aJ hb1 (v:=.int .i64 0) (by simp[go_sem]) (by simp[go_sem]);have y1a:w1.cell? ⟨w.heap.size,1,none⟩=some (.int .i64 0):=aB hb1 (by simp[go_sem]);have fy1a:w1.frozen? ⟨w.heap.size,1,none⟩=false:=aJ hb1 (v:=.int .i64 0) (by simp[go_sem]) (by simp[go_sem]);have y2a:w1.cell? ⟨w.heap.size,2,none⟩=some (.int .i64 0):=aB hb1 (by simp[go_sem]);have fy2a:w1.frozen? ⟨w.heap.size,2,none⟩=false:=aJ hb1 (v:=.int .i64 0) (by simp[go_sem]) (by simp[go_sem]);have y3a:w1.cell? ⟨w.heap.size,3,none⟩=some (.int .i64 0):=aB hb1 (by simp[go_sem]);have fy3a:w1.frozen? ⟨w.heap.size,3,none⟩=false:=aJ hb1 (v:=.int .i64 0) (by simp[go_sem]) (by simp[go_sem]);have y4a:w1.cell? ⟨w.heap.size,4,none⟩=some (.int .i64 0):=aB hb1 (by simp[go_sem]);have fy4a:w1.frozen? ⟨w.heap.size,4,none⟩=false:=aJ hb1 (v:=.int .i64 0) (by simp[go_sem]) (by simp[go_sem]);have h01:aA w w1:=((Below.refl _ _).alloc (Nat.le_refl _) _).trans (hb1.mono (by simp));have hu1:=h.oe h01;have hz1:w.heap.size<w1.heap.size:=World.block_lt_of_cell? _ _ y0a;clear hb1 h;by_cases h0:q=0
 · have hg:=lB.1 (HQ.out.symm.trans h0);have hn:n=3:=by rw[←hu1.len,←List.length_map (f:=UV.u)];exact hg.len
   subst h0;subst hn;have HG:=aH hg;have hr:=HR0.out;rw[if_neg (by simp)]at hr;by_cases hbad:a<0∨60≤a
   · rw[if_pos hbad]at hr;have HR:=aH hr;have hin:(decide (0≤a)&&decide (a≤59))=false:=by simp;omega
     clear hr HR0 hu1 hg hbad;go_wp2_with (go_at_call 18;refine Calls.mono (aM _ _ _ _) ?_;rintro e w'⟨rfl,rfl⟩;rw[hin])
     rw[show(((((w1.setCell ⟨w.heap.size,0,none⟩ (.int .i64 0)).setCell ⟨w.heap.size,1,none⟩ (.int .i64 0)).setCell ⟨w.heap.size,2,none⟩ (.int .i64 0)).setCell ⟨w.heap.size,3,none⟩ (.int .i64 0)).setCell ⟨w.heap.size,4,none⟩ (.int .i64 0))=(w1.setCells w.heap.size 0 [(),(),(),(),()])from rfl];have hE:aA w (w1.setCells w.heap.size 0 [(),(),(),(),()]):=cJ (by omega) h01;have F:∀ (j:Nat) v,[.int .i64 0,.int .i64 0,.int .i64 0,.int .i64 0,.int .i64 0][j]?=some v→(w1.setCells w.heap.size 0 [(),(),(),(),()]).cell? ⟨w.heap.size,j,none⟩=some v:=fun j v hv=>mC (w:=w1) (b:=w.heap.size) (vs:=[(),(),(),(),()]) (nV y0a y1a y2a y3a y4a) hv
     generalize(w1.setCells w.heap.size 0 [(),(),(),(),()])=wf at F hE⊢;have z0:=F 0 _ rfl;have z1:=F 1 _ rfl;have z2:=F 2 _ rfl;have z3:=F 3 _ rfl;have z4:=F 4 _ rfl;refine bodyPost_ret (v:=.tuple #[.agg #[(),(),(),(),()],(5:Int)]) (by simp[results,results58,go_sem,z0,z1,z2,z3,z4]) rfl ?_;rw[HR.out];exact⟨rfl,hE⟩
   rw[if_neg hbad]at hr;have hin:(decide (0≤a)&&decide (a≤59))=true:=by simp;omega
   obtain⟨j,rfl⟩:∃j:Nat,a=j:=⟨a.toNat,by omega⟩
   have hj60:j<60:=by omega
   have hj60':(j:Int)<60:=by omega
   obtain⟨b,off,u,rfl,hbz,hu,e0,e1,hs,hul⟩:=hu1.atU (i:=2) (by omega);have hgu:=HG.out.ok u.u (List.mem_map.2 ⟨u,List.mem_of_getElem? hu,rfl⟩);have hun:u.n=60:=by rw[←hul];exact hgu.len
   rw[hun]at hs e1;obtain⟨b1,off1,y,hA1,hyz,hy,d0,d1,d2,d3,d4⟩:=hs.atE hj60;have hoy:=sD (hgu.ok y (List.mem_of_getElem? hy));rw[hA1]at e1;rw[Int.toNat_natCast,mT (kB hu),show bF u.u.cells j=y from dH hy]at hr;simp only[Nat.reduceMul]at e1;have HR1:=aH hr;clear hr hbad HR0 hg hs hgu hu hy e0 hu1;go_wp2_with (go_at_call 18;refine Calls.mono (aM _ _ _ _) ?_;rintro e w'⟨rfl,rfl⟩;rw[hin])
   have k0:=aC e1;have k1:=aC d0;have k2:=aC d1;have k3:=aC d2;have k4:=aC d3;have k5:=aC d4;have k6:=mQ hbz;have k7:=mQ hyz;by_cases h4:y=fK
   all_goals
    have hr:=HR1.out
    first|rw[if_pos (hoy.2.2.2 h4)]at hr|rw[if_neg (fun h=>h4 (hoy.2.2.1 h))]at hr
    have HR:=aH hr
    first| (have hd:(y.kind ==4&&y.job ==0&&y.every ==0&&y.time ==0&&y.client ==0)=true:=by rw[h4];rfl)| (have hd:(y.kind ==4&&y.job ==0&&y.every ==0&&y.time ==0&&y.client ==0)=false:=by refine Bool.eq_false_iff.2 fun h=>h4 ?_;simp at h;rw[cD];simp[fK];omega)
    clear hr HR1 h4 hoy;refine aS (by kernel_rfl) (by kernel_rfl) ?_
    repeat(go_big_quiet_step ((first| (go_at_call 73;exact dO (dU _)))))
    refine wpQuiet_nil ?_;intro w2 hb2;have y0b:=aB hb2 y0a;have fy0b:=aJ hb2 y0a fy0a;have y1b:=aB hb2 y1a;have fy1b:=aJ hb2 y1a fy1a;have y2b:=aB hb2 y2a;have fy2b:=aJ hb2 y2a fy2a;have y3b:=aB hb2 y3a;have fy3b:=aJ hb2 y3a fy3a;have y4b:=aB hb2 y4a;have fy4b:=aJ hb2 y4a fy4a;clear y0a fy0a y1a fy1a y2a fy2a y3a fy3a y4a fy4a;have h02:=h01.to hb2;have hz2:w.heap.size<w2.heap.size:=World.block_lt_of_cell? _ _ y0b;have e1':=aB hb2 e1;have d0':=aB hb2 d0;have d1':=aB hb2 d1;have d2':=aB hb2 d2;have d3':=aB hb2 d3;have d4':=aB hb2 d4;have hbz':=World.block_lt_of_cell? _ _ e1';have hyz':=World.block_lt_of_cell? _ _ d0';simp only at hbz' hyz';clear hb2 h01 e1 d0 d1 d2 d3 d4 k0 k1 k2 k3 k4 k5 k6 k7
   · go_wp2_with fail;rw[show(((((w2.setCell ⟨w.heap.size,0,none⟩ (.int .i64 0)).setCell ⟨w.heap.size,1,none⟩ (.int .i64 0)).setCell ⟨w.heap.size,2,none⟩ (.int .i64 0)).setCell ⟨w.heap.size,3,none⟩ (.int .i64 0)).setCell ⟨w.heap.size,4,none⟩ (.int .i64 0))=(w2.setCells w.heap.size 0 [(),(),(),(),()])from rfl];have hE:aA w (w2.setCells w.heap.size 0 [(),(),(),(),()]):=cJ (by omega) h02;have F:∀ (j:Nat) v,[.int .i64 0,.int .i64 0,.int .i64 0,.int .i64 0,.int .i64 0][j]?=some v→(w2.setCells w.heap.size 0 [(),(),(),(),()]).cell? ⟨w.heap.size,j,none⟩=some v:=fun j v hv=>mC (w:=w2) (b:=w.heap.size) (vs:=[(),(),(),(),()]) (nV y0b y1b y2b y3b y4b) hv
     generalize(w2.setCells w.heap.size 0 [(),(),(),(),()])=wf at F hE⊢;have z0:=F 0 _ rfl;have z1:=F 1 _ rfl;have z2:=F 2 _ rfl;have z3:=F 3 _ rfl;have z4:=F 4 _ rfl;refine bodyPost_ret (v:=.tuple #[.agg #[(),(),(),(),()],(7:Int)]) (by simp[results,results58,go_sem,z0,z1,z2,z3,z4]) rfl ?_;rw[HR.out];exact⟨rfl,hE⟩
   go_wp2_with fail;rw[show(((((w2.setCell ⟨w.heap.size,0,none⟩ (.int .i64 y.kind)).setCell ⟨w.heap.size,1,none⟩ (.int .i64 y.job)).setCell ⟨w.heap.size,2,none⟩ (.int .i64 y.every)).setCell ⟨w.heap.size,3,none⟩ (.int .i64 y.time)).setCell ⟨w.heap.size,4,none⟩ (.int .i64 y.client))=(w2.setCells w.heap.size 0 [y.kind,y.job,y.every,y.time,y.client])from rfl];have hE:aA w (w2.setCells w.heap.size 0 [y.kind,y.job,y.every,y.time,y.client]):=cJ (by omega) h02;have F:∀ (j:Nat) v,[.int .i64 y.kind,.int .i64 y.job,.int .i64 y.every,.int .i64 y.time,.int .i64 y.client][j]?=some v→(w2.setCells w.heap.size 0 [y.kind,y.job,y.every,y.time,y.client]).cell? ⟨w.heap.size,j,none⟩=some v:=fun j v hv=>mC (w:=w2) (b:=w.heap.size) (vs:=[y.kind,y.job,y.every,y.time,y.client]) (nV y0b y1b y2b y3b y4b) hv
   generalize(w2.setCells w.heap.size 0 [y.kind,y.job,y.every,y.time,y.client])=wf at F hE⊢;have z0:=F 0 _ rfl;have z1:=F 1 _ rfl;have z2:=F 2 _ rfl;have z3:=F 3 _ rfl;have z4:=F 4 _ rfl;refine bodyPost_ret (v:=.tuple #[.agg #[y.kind,y.job,y.every,y.time,y.client],()]) (by simp[results,results58,go_sem,z0,z1,z2,z3,z4]) rfl ?_;rw[HR.out];exact⟨rfl,hE⟩
 have hr:=HR0.out;rw[if_pos h0]at hr;have HR:=aH hr;have hd:(q !=0)=true:=by simpa using h0
 clear hr HR0 h0 hu1;go_wp2_with fail;rw[show(((((w1.setCell ⟨w.heap.size,0,none⟩ (.int .i64 0)).setCell ⟨w.heap.size,1,none⟩ (.int .i64 0)).setCell ⟨w.heap.size,2,none⟩ (.int .i64 0)).setCell ⟨w.heap.size,3,none⟩ (.int .i64 0)).setCell ⟨w.heap.size,4,none⟩ (.int .i64 0))=(w1.setCells w.heap.size 0 [(),(),(),(),()])from rfl];have hE:aA w (w1.setCells w.heap.size 0 [(),(),(),(),()]):=cJ (by omega) h01;have F:∀ (j:Nat) v,[.int .i64 0,.int .i64 0,.int .i64 0,.int .i64 0,.int .i64 0][j]?=some v→(w1.setCells w.heap.size 0 [(),(),(),(),()]).cell? ⟨w.heap.size,j,none⟩=some v:=fun j v hv=>mC (w:=w1) (b:=w.heap.size) (vs:=[(),(),(),(),()]) (nV y0a y1a y2a y3a y4a) hv
 generalize(w1.setCells w.heap.size 0 [(),(),(),(),()])=wf at F hE⊢;have z0:=F 0 _ rfl;have z1:=F 1 _ rfl;have z2:=F 2 _ rfl;have z3:=F 3 _ rfl;have z4:=F 4 _ rfl;refine bodyPost_ret (v:=.tuple #[.agg #[(),(),(),(),()],q]) (by simp[results,results58,go_sem,z0,z1,z2,z3,z4]) rfl ?_;rw[HR.out];exact⟨rfl,hE⟩
end
end Go.Proofs.YtpfkagghooihfaaGreatDoor
