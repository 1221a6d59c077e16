/- Part 18. -/
import Derived.Test.YtpfkagghooihfaaGreatDoorBa14
import Derived.Test.YtpfkagghooihfaaGreatDoorBa13
namespace Go.Proofs.YtpfkagghooihfaaGreatDoor
set_option linter.unusedSimpArgs false
set_option linter.unusedVariables false
set_option maxHeartbeats 4000000
set_option maxRecDepth 100000
open Go.Proofs.Tryz
open Go.RowKit
section
set_option maxHeartbeats 4000000 in
theorem qD (k a ep : Int)(x : aL)(w : World) :
    Calls prog 89 #[.agg #[k,a,ep,x.kind,x.job,x.every,x.time,x.client]] w fun e w'=>e=.returned (.int .i64 (bI ⟨k,a,ep,x⟩))∧aA w w':=by
 obtain⟨r,hr⟩:∃r,r=bI ⟨k,a,ep,x⟩:=⟨_,rfl⟩
 rw[←hr];unfold bI at hr;simp only[ne_eq,cD,bP]at hr;go_enter func89,ntmps89;have hne:=rM;have HR:=aH hr;clear hr
 go_wp2_with (first
  | (go_at_call 18;refine Calls.mono (aM _ _ _ _) ?_;rintro e w'⟨rfl,rfl⟩)
  | (go_at_call 74;refine Calls.mono (eT x.kind x.job x.every x.time x.client _) ?_;rintro e w2⟨rfl,hb2⟩))
 all_goals
  go_ret;refine⟨aO ?_,?_⟩
  · rw[HR.out];clear HR hne
    (try simp only[beq_iff_eq,beq_eq_false_iff_ne,bne_iff_ne,bne_eq_false_iff_eq,ne_eq,Bool.and_eq_true,Bool.and_eq_false_iff,Bool.not_eq_true',Bool.not_eq_false',Bool.or_eq_true,Bool.or_eq_false_iff,decide_eq_true_eq,decide_eq_false_iff_not]at *)
    (repeat' split)<;>first|rfl|omega
  repeat(first|exact Below.refl _ _|exact aA.to (by repeat(first|exact Below.refl _ _|refine Below.alloc ?_ (by simp<;>omega) _)) hb2|refine bV ?_ _|refine Below.alloc ?_ (by simp<;>omega) _)
end
section
theorem yG {k j v t c:Int}(h:aG ⟨k,j,v,t,c⟩=0):0≤k∧k≤3∧0≤j∧j≤5∧0≤v∧v≤100∧0≤t∧t≤100000∧0≤c∧c≤2:=by
 unfold aG at h;dsimp only at h
 split at h
 · cases h
 split at h
 · cases h
 omega
theorem DH (k j v t c : Int)(w : World)(E : fR w)(hc : aG ⟨k, j, v, t, c⟩ = 0) :
    Calls prog 122 #[.agg #[k,j,v,t,c]] w fun e w'=>e=.returned (dC (gC ⟨k,j,v,t,c⟩))∧aA w w':=by
 obtain⟨b0,b1,b2,b3,b4,b5,b6,b7,b8,b9⟩:=yG hc;clear hc;obtain⟨J,hJ⟩:∃l,l=Lib.itoa j:=⟨_,rfl⟩
 obtain⟨V,hV⟩:∃l,l=Lib.itoa v:=⟨_,rfl⟩
 obtain⟨T,hT⟩:∃l,l=Lib.itoa t:=⟨_,rfl⟩
 obtain⟨C,hC⟩:∃l,l=Lib.itoa c:=⟨_,rfl⟩
 have lJ:J.length≤30:=by rw[hJ];have:=Lib.itoa_length_le j (by omega) (by omega);omega
 have lV:V.length≤30:=by rw[hV];have:=Lib.itoa_length_le v (by omega) (by omega);omega
 have lT:T.length≤30:=by rw[hT];have:=Lib.itoa_length_le t (by omega) (by omega);omega
 have lC:C.length≤30:=by rw[hC];have:=Lib.itoa_length_le c (by omega) (by omega);omega
 obtain⟨p1,hp1⟩:∃v,v=[112,117,116,32] ++J:=⟨_,rfl⟩
 have lp1:p1.length≤34:=by rw[hp1,List.length_append];(try simp only[List.length_cons,List.length_nil]);omega
 obtain⟨p2,hp2⟩:∃v,v=p1 ++[32]:=⟨_,rfl⟩
 have lp2:p2.length≤35:=by rw[hp2,List.length_append];(try simp only[List.length_cons,List.length_nil]);omega
 obtain⟨p3,hp3⟩:∃v,v=p2 ++V:=⟨_,rfl⟩
 have lp3:p3.length≤65:=by rw[hp3,List.length_append];(try simp only[List.length_cons,List.length_nil]);omega
 obtain⟨p4,hp4⟩:∃v,v=p3 ++[32]:=⟨_,rfl⟩
 have lp4:p4.length≤66:=by rw[hp4,List.length_append];(try simp only[List.length_cons,List.length_nil]);omega
 obtain⟨p5,hp5⟩:∃v,v=p4 ++T:=⟨_,rfl⟩
 have lp5:p5.length≤96:=by rw[hp5,List.length_append];(try simp only[List.length_cons,List.length_nil]);omega
 obtain⟨d1,hd1⟩:∃v,v=[100,114,111,112,32] ++J:=⟨_,rfl⟩
 have ld1:d1.length≤35:=by rw[hd1,List.length_append];(try simp only[List.length_cons,List.length_nil]);omega
 obtain⟨r1,hr1⟩:∃v,v=[114,105,110,103,32] ++J:=⟨_,rfl⟩
 have lr1:r1.length≤35:=by rw[hr1,List.length_append];(try simp only[List.length_cons,List.length_nil]);omega
 obtain⟨r2,hr2⟩:∃v,v=r1 ++[32]:=⟨_,rfl⟩
 have lr2:r2.length≤36:=by rw[hr2,List.length_append];(try simp only[List.length_cons,List.length_nil]);omega
 obtain⟨r3,hr3⟩:∃v,v=r2 ++T:=⟨_,rfl⟩
 have lr3:r3.length≤66:=by rw[hr3,List.length_append];(try simp only[List.length_cons,List.length_nil]);omega
 obtain⟨r4,hr4⟩:∃v,v=r3 ++[32]:=⟨_,rfl⟩
 have lr4:r4.length≤67:=by rw[hr4,List.length_append];(try simp only[List.length_cons,List.length_nil]);omega
 obtain⟨r5,hr5⟩:∃v,v=r4 ++C:=⟨_,rfl⟩
 have lr5:r5.length≤97:=by rw[hr5,List.length_append];(try simp only[List.length_cons,List.length_nil]);omega
 have sp1:∀w,(Op.stringOp .add ⟨#[112,117,116,32]⟩ ⟨J.toArray⟩).run prog w=.ok (dC p1) w:=fun w=>by rw[hp1];exact run_string_add_lists w [112,117,116,32] J (by(try simp only[List.length_cons,List.length_nil]);omega) (by(try simp only[List.length_cons,List.length_nil]);omega)
 have sp2:∀w,(Op.stringOp .add ⟨p1.toArray⟩ ⟨#[32]⟩).run prog w=.ok (dC p2) w:=fun w=>by rw[hp2];exact run_string_add_lists w p1 [32] (by(try simp only[List.length_cons,List.length_nil]);omega) (by(try simp only[List.length_cons,List.length_nil]);omega)
 have sp3:∀w,(Op.stringOp .add ⟨p2.toArray⟩ ⟨V.toArray⟩).run prog w=.ok (dC p3) w:=fun w=>by rw[hp3];exact run_string_add_lists w p2 V (by(try simp only[List.length_cons,List.length_nil]);omega) (by(try simp only[List.length_cons,List.length_nil]);omega)
 have sp4:∀w,(Op.stringOp .add ⟨p3.toArray⟩ ⟨#[32]⟩).run prog w=.ok (dC p4) w:=fun w=>by rw[hp4];exact run_string_add_lists w p3 [32] (by(try simp only[List.length_cons,List.length_nil]);omega) (by(try simp only[List.length_cons,List.length_nil]);omega)
 have sp5:∀w,(Op.stringOp .add ⟨p4.toArray⟩ ⟨T.toArray⟩).run prog w=.ok (dC p5) w:=fun w=>by rw[hp5];exact run_string_add_lists w p4 T (by(try simp only[List.length_cons,List.length_nil]);omega) (by(try simp only[List.length_cons,List.length_nil]);omega)
 have sd1:∀w,(Op.stringOp .add ⟨#[100,114,111,112,32]⟩ ⟨J.toArray⟩).run prog w=.ok (dC d1) w:=fun w=>by rw[hd1];exact run_string_add_lists w [100,114,111,112,32] J (by(try simp only[List.length_cons,List.length_nil]);omega) (by(try simp only[List.length_cons,List.length_nil]);omega)
 have sr1:∀w,(Op.stringOp .add ⟨#[114,105,110,103,32]⟩ ⟨J.toArray⟩).run prog w=.ok (dC r1) w:=fun w=>by rw[hr1];exact run_string_add_lists w [114,105,110,103,32] J (by(try simp only[List.length_cons,List.length_nil]);omega) (by(try simp only[List.length_cons,List.length_nil]);omega)
 have sr2:∀w,(Op.stringOp .add ⟨r1.toArray⟩ ⟨#[32]⟩).run prog w=.ok (dC r2) w:=fun w=>by rw[hr2];exact run_string_add_lists w r1 [32] (by(try simp only[List.length_cons,List.length_nil]);omega) (by(try simp only[List.length_cons,List.length_nil]);omega)
 have sr3:∀w,(Op.stringOp .add ⟨r2.toArray⟩ ⟨T.toArray⟩).run prog w=.ok (dC r3) w:=fun w=>by rw[hr3];exact run_string_add_lists w r2 T (by(try simp only[List.length_cons,List.length_nil]);omega) (by(try simp only[List.length_cons,List.length_nil]);omega)
 have sr4:∀w,(Op.stringOp .add ⟨r3.toArray⟩ ⟨#[32]⟩).run prog w=.ok (dC r4) w:=fun w=>by rw[hr4];exact run_string_add_lists w r3 [32] (by(try simp only[List.length_cons,List.length_nil]);omega) (by(try simp only[List.length_cons,List.length_nil]);omega)
 have sr5:∀w,(Op.stringOp .add ⟨r4.toArray⟩ ⟨C.toArray⟩).run prog w=.ok (dC r5) w:=fun w=>by rw[hr5];exact run_string_add_lists w r4 C (by(try simp only[List.length_cons,List.length_nil]);omega) (by(try simp only[List.length_cons,List.length_nil]);omega)
 have i1:=fun(x w:World) (hx:fR (eP w x))=>dX j (by omega) (by omega) (eP w x) hx
 have i2:=fun(x w:World) (hx:fR (eP w x))=>dX v (by omega) (by omega) (eP w x) hx
 have i3:=fun(x w:World) (hx:fR (eP w x))=>dX t (by omega) (by omega) (eP w x) hx
 have i4:=fun(x w:World) (hx:fR (eP w x))=>dX c (by omega) (by omega) (eP w x) hx
 have I1:=aH i1;have I2:=aH i2;have I3:=aH i3;have I4:=aH i4;have HJ:=aH hJ;have HV:=aH hV;have HT:=aH hT;have HC:=aH hC;have Hp1:=aH hp1;have Hp2:=aH hp2;have Hp3:=aH hp3;have Hp4:=aH hp4;have Hp5:=aH hp5;have Hd1:=aH hd1;have Hr1:=aH hr1;have Hr2:=aH hr2;have Hr3:=aH hr3;have Hr4:=aH hr4;have Hr5:=aH hr5;clear hp1 lp1 hp2 lp2 hp3 lp3 hp4 lp4 hp5 lp5 hd1 ld1 hr1 lr1 hr2 lr2 hr3 lr3 hr4 lr4 hr5 lr5 i1 i2 i3 i4 hJ hV hT hC lJ lV lT lC b2 b3 b4 b5 b6 b7 b8 b9;rcases(by omega:k=0∨k=1∨k=2∨k=3)with rfl|rfl|rfl|rfl
 · clear b0 b1;go_enter func122,ntmps122;go_upto_region 1 with fail
   have on:=(aA.Zz w).new (Obj.cells #[(),j,v,t,c] 27);have B:Bx (w.alloc (Obj.cells #[(),j,v,t,c] 27)) w.heap.size [(),j,v,t,c]:=Bx.Zt w #[(),j,v,t,c] 27;have E1:=E.oe on
   try change Code.wp _ _ _ _ (w.alloc (Obj.cells #[(),j,v,t,c] 27))
   generalize(w.alloc (Obj.cells #[(),j,v,t,c] 27))=w1 at *;generalize w.heap.size=z at *;have c1:=aC (B.at_ 1 rfl);have c2:=aC (B.at_ 2 rfl);have c3:=aC (B.at_ 3 rfl);have c4:=aC (B.at_ 4 rfl);refine aS (by kernel_rfl) (by kernel_rfl) ?_
   repeat(go_big_quiet_step ((go_at_call 121;first|exact bT (u:=dC J) (by with_reducible exact I1.out _ w1 (E1.oe (dK w1 _))) (by rw[HJ.out])|exact bT (u:=dC V) (by with_reducible exact I2.out _ w1 (E1.oe (dK w1 _))) (by rw[HV.out])|exact bT (u:=dC T) (by with_reducible exact I3.out _ w1 (E1.oe (dK w1 _))) (by rw[HT.out])|exact bT (u:=dC C) (by with_reducible exact I4.out _ w1 (E1.oe (dK w1 _))) (by rw[HC.out]))))
   refine wpQuiet_nil ?_;intro w2 b2;replace on:=on.to b2;replace B:=B.oe b2;clear b2 c1 c2 c3 c4;have b0:=B.at_ 0 rfl;have hz:=B.lt;go_wp2_with fail;go_ret;refine⟨?_,on.new _⟩;refine congrArg (fun l=>Ending.returned (dC l)) ?_;exact rfl
 · clear b0 b1;go_enter func122,ntmps122;go_upto_region 1 with fail
   have on:=(aA.Zz w).new (Obj.cells #[(1:Int),j,v,t,c] 27);have B:Bx (w.alloc (Obj.cells #[(1:Int),j,v,t,c] 27)) w.heap.size [(1:Int),j,v,t,c]:=Bx.Zt w #[(1:Int),j,v,t,c] 27;have E1:=E.oe on
   try change Code.wp _ _ _ _ (w.alloc (Obj.cells #[(1:Int),j,v,t,c] 27))
   generalize(w.alloc (Obj.cells #[(1:Int),j,v,t,c] 27))=w1 at *;generalize w.heap.size=z at *;have c1:=aC (B.at_ 1 rfl);have c2:=aC (B.at_ 2 rfl);have c3:=aC (B.at_ 3 rfl);have c4:=aC (B.at_ 4 rfl);refine aS (by kernel_rfl) (by kernel_rfl) ?_
   repeat(go_big_quiet_step ((go_at_call 121;first|exact bT (u:=dC J) (by with_reducible exact I1.out _ w1 (E1.oe (dK w1 _))) (by rw[HJ.out])|exact bT (u:=dC V) (by with_reducible exact I2.out _ w1 (E1.oe (dK w1 _))) (by rw[HV.out])|exact bT (u:=dC T) (by with_reducible exact I3.out _ w1 (E1.oe (dK w1 _))) (by rw[HT.out])|exact bT (u:=dC C) (by with_reducible exact I4.out _ w1 (E1.oe (dK w1 _))) (by rw[HC.out]))))
   refine wpQuiet_nil ?_;intro w2 b2;replace on:=on.to b2;replace B:=B.oe b2;clear b2 c1 c2 c3 c4;have b0:=B.at_ 0 rfl;have hz:=B.lt;go_wp2_with fail;go_ret;refine⟨?_,on.new _⟩;refine congrArg (fun l=>Ending.returned (dC l)) ?_;simp only[Hp5.out,Hp4.out,Hp3.out,Hp2.out,Hp1.out,HJ.out,HV.out,HT.out];simp[gC,lN,fJ,gG,LN]
 · clear b0 b1;go_enter func122,ntmps122;go_upto_region 1 with fail
   have on:=(aA.Zz w).new (Obj.cells #[(2:Int),j,v,t,c] 27);have B:Bx (w.alloc (Obj.cells #[(2:Int),j,v,t,c] 27)) w.heap.size [(2:Int),j,v,t,c]:=Bx.Zt w #[(2:Int),j,v,t,c] 27;have E1:=E.oe on
   try change Code.wp _ _ _ _ (w.alloc (Obj.cells #[(2:Int),j,v,t,c] 27))
   generalize(w.alloc (Obj.cells #[(2:Int),j,v,t,c] 27))=w1 at *;generalize w.heap.size=z at *;have c1:=aC (B.at_ 1 rfl);have c2:=aC (B.at_ 2 rfl);have c3:=aC (B.at_ 3 rfl);have c4:=aC (B.at_ 4 rfl);refine aS (by kernel_rfl) (by kernel_rfl) ?_
   repeat(go_big_quiet_step ((go_at_call 121;first|exact bT (u:=dC J) (by with_reducible exact I1.out _ w1 (E1.oe (dK w1 _))) (by rw[HJ.out])|exact bT (u:=dC V) (by with_reducible exact I2.out _ w1 (E1.oe (dK w1 _))) (by rw[HV.out])|exact bT (u:=dC T) (by with_reducible exact I3.out _ w1 (E1.oe (dK w1 _))) (by rw[HT.out])|exact bT (u:=dC C) (by with_reducible exact I4.out _ w1 (E1.oe (dK w1 _))) (by rw[HC.out]))))
   refine wpQuiet_nil ?_;intro w2 b2;replace on:=on.to b2;replace B:=B.oe b2;clear b2 c1 c2 c3 c4;have b0:=B.at_ 0 rfl;have hz:=B.lt;go_wp2_with fail;go_ret;refine⟨?_,on.new _⟩;refine congrArg (fun l=>Ending.returned (dC l)) ?_;simp only[Hd1.out,HJ.out];simp[gC,lN,fJ,gG,FG]
 clear b0 b1;go_enter func122,ntmps122;go_upto_region 1 with fail
 have on:=(aA.Zz w).new (Obj.cells #[(3:Int),j,v,t,c] 27);have B:Bx (w.alloc (Obj.cells #[(3:Int),j,v,t,c] 27)) w.heap.size [(3:Int),j,v,t,c]:=Bx.Zt w #[(3:Int),j,v,t,c] 27;have E1:=E.oe on
 try change Code.wp _ _ _ _ (w.alloc (Obj.cells #[(3:Int),j,v,t,c] 27))
 generalize(w.alloc (Obj.cells #[(3:Int),j,v,t,c] 27))=w1 at *;generalize w.heap.size=z at *;have c1:=aC (B.at_ 1 rfl);have c2:=aC (B.at_ 2 rfl);have c3:=aC (B.at_ 3 rfl);have c4:=aC (B.at_ 4 rfl);refine aS (by kernel_rfl) (by kernel_rfl) ?_
 repeat(go_big_quiet_step ((go_at_call 121;first|exact bT (u:=dC J) (by with_reducible exact I1.out _ w1 (E1.oe (dK w1 _))) (by rw[HJ.out])|exact bT (u:=dC V) (by with_reducible exact I2.out _ w1 (E1.oe (dK w1 _))) (by rw[HV.out])|exact bT (u:=dC T) (by with_reducible exact I3.out _ w1 (E1.oe (dK w1 _))) (by rw[HT.out])|exact bT (u:=dC C) (by with_reducible exact I4.out _ w1 (E1.oe (dK w1 _))) (by rw[HC.out]))))
 refine wpQuiet_nil ?_;intro w2 b2;replace on:=on.to b2;replace B:=B.oe b2;clear b2 c1 c2 c3 c4;have b0:=B.at_ 0 rfl;have hz:=B.lt;go_wp2_with fail;go_ret;refine⟨?_,on.new _⟩;refine congrArg (fun l=>Ending.returned (dC l)) ?_;simp only[Hr5.out,Hr4.out,Hr3.out,Hr2.out,Hr1.out,HJ.out,HT.out,HC.out];simp[gC,lN,fJ,gG,FJ]
end
section
section
variable {P:Program}{w:World}{z:Nat}{vs:List Value}{ops:Array Oper}{op:Oper}{a:Act}{K:Act→World→Prop}{Q:Exit→Act→World→Prop}{F:Prop}
end
theorem PP:(prog.info? 3).map (fun i=>(i.zero,i.size,i.bytes))=some (some (.int .i64 0),1,8):=by kernel_rfl
theorem Sl.oneI {w:World}(n:Int):Sl (w.alloc (Obj.cells #[n] 3)) (w.heap.size+1) 1 (some ⟨w.heap.size,0,none⟩) 1 [iW n]:=by
 have:=Sl.block (k:=1) [iW n] (mM (w:=w) (o:=.cells #[n] 3) rfl) (by simp[iW]) (by simp[iW]);simpa using this
theorem LO {t:List UInt8}{ts:List (List UInt8)}{kk:Nat}{l:List Int}{n:Int}(ht:ts[kk]?=some t)(hl:gZ (ts.take kk)=some l)(hn:jJ t=some n):gZ (ts.take (kk+1))=some (l ++[n]):=by
 obtain⟨hlt,rfl⟩:=List.getElem?_eq_some_iff.1 ht;rw[List.take_succ_eq_append_getElem hlt,rA hl,hn];rfl
theorem FI (s : List UInt8)(w : World)(E : fR w)(hs : s.length ≤ 30000) :
    Calls prog 139 #[dC s] w (xL w (bY (bO 32 s))):=by
 have HS:=aH hs;obtain⟨r,hr⟩:∃r,r=bY (bO 32 s):=⟨_,rfl⟩
 rw[←hr];have HR:=aH hr;clear hs hr;go_enter func139,ntmps139;go_wp2_with fail;refine Calls.mono (uZ 32 s (by have:=HS.out;omega) _ (E.new _)) ?_;rintro e w1⟨A,rfl,sA,b⟩;have on:aA w w1:=aA.to ((aA.Zz w).new _) b;have Bz:Bx w1 w.heap.size [(),(),(),(),()]:=(Bx.Zt w #[(),(),(),(),()] 27).oe b;have E1:=E.oe on;have hz:=Bz.lt;clear b;obtain⟨ws,hws⟩:∃ws,ws=bO 32 s:=⟨_,rfl⟩
 have hne:ws≠[]:=hws▸jZ 32 s;have hlw:∀t∈ws,t.length≤30000:=fun t ht=>Nat.le_trans (pX (hws▸ht)) HS.out
 have hlen0:ws.length≤30001:=by rw[hws,oM];have:=HS.out;have:=List.count_le_length (a:=(32:UInt8)) (l:=s);omega
 rw[←hws]at sA HR⊢;clear hws
 obtain⟨y,ts,rfl⟩:∃h ts,ws=h ::ts:=by
  cases ws with
  |nil=>exact absurd rfl hne
  |cons h ts=>exact⟨h,ts,rfl⟩
 clear hne;have HTL:=aH (show∀t∈ts,t.length≤30000 from fun t ht=>hlw t (by simp[ht]));have hts:ts.length≤30000:=by simp at hlen0;omega
 clear hlw hlen0;generalize hzz:w.heap.size=z at *;obtain⟨bb,off,y',rfl,hb,hy,d0⟩:=S.atS sA (i:=0) (by simp);have hy:y'=y:=by simpa using hy.symm
 subst hy;rw[Nat.add_zero]at d0;have hn0:(0:Int)<((y' ::ts).length:Int):=by simp
 obtain⟨A',hA',sA'⟩:∃A',(∀w,(Instr.slice 146 (.slice (some ⟨bb,off,none⟩) (ts.length+1) (ts.length+1)) (some (.int .i64 1)) none none).run prog w=.ok (.slice A' ts.length ts.length) w)∧S w1 1 A' ts.length (ts.map vF):=by
  refine⟨_,fun w=>gO (size:=1) (some ⟨bb,off,none⟩) (ts.length+1) (ts.length+1) 1 underlying146 sizeOf9 (by omega) w,?_⟩;have:=Sl.cut (c:=ts.length+1) (m:=1) sA (by simp) (by simp);simpa using this
 clear hy sA;go_wp2_with fail
 go_loopg [4,17] ts.length (fun g s4 s17 wr=>∃ (kk:Nat) (l:List Int) (N1:Option Addr) (c1:Nat),kk≤ts.length∧ts.length-kk≤g∧s17=.int .i64 kk∧s4=.slice N1 kk c1∧Hid (gZ (ts.take kk)=some l)∧Hid (cH wr w1.heap.size 3 1 (.slice N1 kk c1) kk (l.map iW))∧aA w1 wr)
 case atStart=>exact⟨0,[],none,0,Nat.zero_le _,by omega,rfl,rfl,aH rfl,cH.nil _ _ _ _,aA.Zz _⟩
 case round =>
  obtain⟨kk,l,N1,c1,hkk,hg,rfl,rfl,HL,HO,hon⟩:=hrel;have hkl:l.length=kk:=by have:=HO.out.2.1;simpa using this
  have HLL:=aH hkl;clear hkl;have BZ:=Bz.oe hon;have ow:=on.to hon;by_cases hlt:kk<ts.length
  · obtain⟨bb',off',t,rfl,hb',ht,e0⟩:=S.atS (sA'.oe hon) hlt;have HT:=aH ht;have htl:=HTL.out t (List.mem_of_getElem? ht);clear ht;obtain⟨ok,hok⟩:∃b,b=(jJ t).isSome:=⟨_,rfl⟩
    go_wp2_with fail;refine Calls.mono (pQ t (by omega) _ (E1.oe hon)) ?_;rw[←hok];rintro e w8⟨v,rfl,b,hnv⟩;have HNV:=aH hnv;have HOK:=aH hok;replace BZ:=BZ.oe b;replace ow:=ow.to b;replace hon:=hon.to b;have HO8:=aH (HO.out.below b);clear b e0 HO hnv hok d0
    cases ok with
    |true =>
      have hnum:jJ t=some v:=HNV.out rfl;have HNUM:=aH hnum;clear hnum HNV HOK;obtain⟨i0,hi0,hzz0,hzz1,hzz2⟩:=info_parts PP;have HI0:=aH hi0;have HZ0:=aH hzz0;have HZ1:=aH hzz1;have HZ2:=aH hzz2;clear hi0 hzz0 hzz1 hzz2;have hnew:=Sl.oneI (w:=w8) v;have HNEW:=aH hnew;clear hnew;have hs8:=hon.size;go_wp2_with (at_builtin;refine aQ _ rfl (.tmp 29) (.tmp 31) 195 rfl w1.heap.size 3 i0 _ 1 8 underlying195 HI0.out HZ0.out HZ1.out HZ2.out rfl (by decide) (.slice N1 kk c1) kk (l.map iW) rfl (HO8.out.alloc _) (w8.heap.size+1) (some ⟨w8.heap.size,0,none⟩) 1 1 [iW v] rfl HNEW.out (by simp[iW,Value.oneCell']) (by unfold maxLen;omega) (by omega) (by simp;omega) ?_)
      intro v9 w9 own9 grow9 hv9;obtain⟨A9,c9,rfl,_,_⟩:=own9.slice;have on9:aA w1 w9:=aT (hon.new _) (by simp;omega) grow9 (fun g hg=>(HO8.out.1.lt g hg).1);have HO9:=aH own9;clear own9 grow9 hv9 HI0 HZ0 HZ1 HZ2 HNEW BZ ow;go_wp2_with fail;go_roundg (ts.length-(kk+1))
      case measure=>omega
      case rel=>exact⟨kk+1,l ++[v],A9,c9,by omega,Nat.le_refl _,by go_num,rfl,aH (LO HT.out HL.out HNUM.out),aH (by rw[List.map_append];exact HO9.out),on9⟩
    |false =>
      have hn:jJ t=none:=by
       have:=HOK.out
       cases hx:jJ t with
       |none=>rfl
       |some u=>rw[hx]at this;cases this
      have hr:r=(bP,1):=by
       rw[HR.out];unfold bY;rw[List.headD_cons]
       cases gQ y' with
       |none=>rfl
       |some km =>
         obtain⟨k,m⟩:=km;dsimp only;rw[List.tail_cons,mY (List.mem_of_getElem? HT.out) hn]
         split<;>rfl
      subst hr;clear hn HNV HOK HR;go_wp2_with (refine pU BZ [(),(),(),(),()] 27 fV ?_)
      have hF:=BZ.put (us:=[(),(),(),(),()]) rfl;have oF:=aA.Zw (b:=z) (o:=0) (us:=[(),(),(),(),()]) (by omega) ow;generalize World.setCells _ z 0 [.int .i64 0,.int .i64 0,.int .i64 0,.int .i64 0,.int .i64 0]=wF at hF oF⊢;go_wp2_with fail;obtain⟨p0,p1,p2,p3,p4⟩:=hF.p5;refine bodyPost_ret (v:=.tuple #[.agg #[(),(),(),(),()],(1:Int)]) (by simp[results,results139,go_sem,p0,p1,p2,p3,p4]) rfl ⟨rfl,oF⟩
  have hkn:kk=ts.length:=by omega
  subst hkn;rw[List.take_length]at HL;clear hkk hg hlt hA' sA' HTL;replace d0:=aB hon d0;obtain⟨y,hyy⟩:∃y,y=y':=⟨_,rfl⟩
  rw[←hyy]at d0 HR;clear hyy;by_cases hyjunk:y=[106,117,110,107]
  · subst hyjunk;by_cases hlen:ts.length=0
    · have hT:ts.length=0:=hlen;have hll:l.length=0:=by rw[HLL.out,hT]
      obtain rfl:l=[]:=List.eq_nil_of_length_eq_zero hll
      have hr:r=if aG ⟨0,0,0,0,0⟩≠0 then(bP,aG ⟨0,0,0,0,0⟩)else(⟨0,0,0,0,0⟩,0):=by
       rw[HR.out];unfold bY;rw[List.headD_cons,show gQ [106,117,110,107]=some (0,0)from rfl];dsimp only;rw[List.tail_cons,if_neg (by simp[hT]),HL.out];rfl
      have HRR:=aH hr;clear hr hll;rw[hT]at *;clear hT hlen;have SN:=HO.out.sl;have ofN:=SN.Zx (Nat.le_refl wr.heap.size);go_upto_block 2 with fail
      have oc:aA wr (wr.alloc (Obj.cells #[(),(),(),(),()] 27)):=(aA.Zz _).new _;have BE:Bx (wr.alloc (Obj.cells #[(),(),(),(),()] 27)) wr.heap.size [(),(),(),(),()]:=Bx.Zt _ _ _;have hze:w1.heap.size≤wr.heap.size:=hon.size;replace BZ:=BZ.oe oc;replace ow:=ow.to oc;replace SN:=S.oe SN oc;replace d0:=aB oc d0
      try change Code.wp _ _ _ _ (wr.alloc (Obj.cells #[(),(),(),(),()] 27))
      generalize(wr.alloc (Obj.cells #[(),(),(),(),()] 27))=w12 at *;generalize wr.heap.size=ze at *;go_upto_region 20 with fail
      clear d0 SN HO HL HLL;have hr:=HRR.out;clear HRR HR;obtain⟨q,hqq⟩:∃q,q=aG ⟨0,0,0,0,0⟩:=⟨_,rfl⟩
      rw[←hqq]at hr;have HQ:=aH hqq;have HRQ:=aH hr;clear hqq hr;obtain⟨b0,b1,b2,b3,b4⟩:=BE.p5;go_wp2_with fail;refine Calls.mono (eT 0 0 0 0 0 _) ?_;rintro e w13⟨rfl,bq⟩;rw[show aG ⟨0,0,0,0,0⟩=q from HQ.out.symm];replace BZ:=BZ.oe bq;replace ow:=ow.to bq;replace BE:=BE.oe bq;clear bq b0 b1 b2 b3 b4;by_cases hq0:q=0
      · have hr:=HRQ.out;rw[if_neg (by simp[hq0])]at hr;subst hr;have hq1:(q ==0)=true:=by simp[hq0]
        have hq2:(q !=0)=false:=by simp[hq0]
        obtain⟨b0,b1,b2,b3,b4⟩:=BE.p5;clear hq0 HRQ;go_wp2_with (refine pU BZ [(),(),(),(),()] 27 fV ?_)
        have hF:=BZ.put (us:=[(),(),(),(),()]) rfl;have oF:=aA.Zw (b:=z) (o:=0) (us:=[(),(),(),(),()]) (by omega) ow;generalize World.setCells _ z 0 [.int .i64 0,.int .i64 0,.int .i64 0,.int .i64 0,.int .i64 0]=wF at hF oF⊢;go_wp2_with fail;obtain⟨p0,p1,p2,p3,p4⟩:=hF.p5;refine bodyPost_ret (v:=.tuple #[.agg #[(),(),(),(),()],()]) (by simp[results,results139,go_sem,p0,p1,p2,p3,p4]) rfl ⟨rfl,oF⟩
      have hr:=HRQ.out;rw[if_pos hq0]at hr;subst hr;have hq1:(q ==0)=false:=by simp[hq0]
      have hq2:(q !=0)=true:=by simp[hq0]
      clear hq0 BE HRQ;go_wp2_with (refine pU BZ [(),(),(),(),()] 27 fV ?_)
      have hF:=BZ.put (us:=[(),(),(),(),()]) rfl;have oF:=aA.Zw (b:=z) (o:=0) (us:=[(),(),(),(),()]) (by omega) ow;generalize World.setCells _ z 0 [.int .i64 0,.int .i64 0,.int .i64 0,.int .i64 0,.int .i64 0]=wF at hF oF⊢;go_wp2_with fail;obtain⟨p0,p1,p2,p3,p4⟩:=hF.p5;refine bodyPost_ret (v:=.tuple #[.agg #[(),(),(),(),()],q]) (by simp[results,results139,go_sem,p0,p1,p2,p3,p4]) rfl ⟨rfl,oF⟩
    have hr:r=(bP,1):=by rw[HR.out];unfold bY;rw[List.headD_cons,show gQ [106,117,110,107]=some (0,0)from rfl];dsimp only;rw[List.tail_cons,if_pos hlen]
    have hl1:((ts.length:Int) ==0)=false:=by rw[beq_eq_false_iff_ne];omega
    have hl2:¬ (ts.length:Int)=0:=by omega
    clear HR HL HLL hlen;subst hr;have oc:aA wr (wr.alloc (Obj.cells #[(),(),(),(),()] 27)):=(aA.Zz _).new _;replace d0:=aB oc d0;replace BZ:=BZ.oe oc;replace ow:=ow.to oc;go_wp2_with (refine pU BZ [(),(),(),(),()] 27 fV ?_)
    have hF:=BZ.put (us:=[(),(),(),(),()]) rfl;have oF:=aA.Zw (b:=z) (o:=0) (us:=[(),(),(),(),()]) (by omega) ow;generalize World.setCells _ z 0 [.int .i64 0,.int .i64 0,.int .i64 0,.int .i64 0,.int .i64 0]=wF at hF oF⊢;go_wp2_with fail;obtain⟨p0,p1,p2,p3,p4⟩:=hF.p5;refine bodyPost_ret (v:=.tuple #[.agg #[(),(),(),(),()],(1:Int)]) (by simp[results,results139,go_sem,p0,p1,p2,p3,p4]) rfl ⟨rfl,oF⟩
  have hjunk:(y ==[106,117,110,107])=false:=by rw[beq_eq_false_iff_ne];exact hyjunk
  by_cases hyput:y=[112,117,116]
  · subst hyput;by_cases hlen:ts.length=3
    · have hT:ts.length=3:=hlen;have hll:l.length=3:=by rw[HLL.out,hT]
      obtain⟨a,b,c,rfl⟩:∃a b c,l=[a,b,c]:=by match l,hll with| [a,b,c],_=>exact⟨a,b,c,rfl⟩
      have hr:r=if aG ⟨1,a,b,c,0⟩≠0 then(bP,aG ⟨1,a,b,c,0⟩)else(⟨1,a,b,c,0⟩,0):=by
       rw[HR.out];unfold bY;rw[List.headD_cons,show gQ [112,117,116]=some (1,3)from rfl];dsimp only;rw[List.tail_cons,if_neg (by simp[hT]),HL.out];rfl
      have HRR:=aH hr;clear hr hll;rw[hT]at *;clear hT hlen;have SN:=HO.out.sl;have ofN:=SN.Zx (Nat.le_refl wr.heap.size);go_upto_block 2 with fail
      have oc:aA wr (wr.alloc (Obj.cells #[(),(),(),(),()] 27)):=(aA.Zz _).new _;have BE:Bx (wr.alloc (Obj.cells #[(),(),(),(),()] 27)) wr.heap.size [(),(),(),(),()]:=Bx.Zt _ _ _;have hze:w1.heap.size≤wr.heap.size:=hon.size;replace BZ:=BZ.oe oc;replace ow:=ow.to oc;replace SN:=S.oe SN oc;replace d0:=aB oc d0
      try change Code.wp _ _ _ _ (wr.alloc (Obj.cells #[(),(),(),(),()] 27))
      generalize(wr.alloc (Obj.cells #[(),(),(),(),()] 27))=w12 at *;generalize wr.heap.size=ze at *;obtain⟨bn,on_,rfl,_,hcn⟩:=SN.2.2 (by omega);have n0:=hcn 0 0 _ _ rfl rfl;have n1:=hcn 1 0 _ _ rfl rfl;have n2:=hcn 2 0 _ _ rfl rfl;simp only[Nat.zero_mul,Nat.one_mul,Nat.mul_one,Nat.add_zero]at n0 n1 n2;clear hcn;have hzE:z≠ze:=by omega
      have hne:bn≠ze:=ofN (by omega) _ rfl;obtain⟨g0,g1,g2,g3,g4⟩:=BE.p5;have fz:=fun o=>BE.Zy o
      go_cut [] (fun wx=>Bx wx ze [(1:Int),a,b,c,()]∧Bx wx z [(),(),(),(),()]∧aA w wx)
      case first =>
       go_upto_region 15 with fail
       go_region
       all_goals
        have X1:Bx (World.setCells w12 ze 0 [(1:Int),a,b,c,()]).drew ze [(1:Int),a,b,c,()]:=(BE.put (us:=[(1:Int),a,b,c,()]) rfl).draw;have X2:Bx (World.setCells w12 ze 0 [(1:Int),a,b,c,()]).drew z [(),(),(),(),()]:=(BZ.off (us:=[(1:Int),a,b,c,()]) (o:=0) hzE).draw;have X3:aA w (World.setCells w12 ze 0 [(1:Int),a,b,c,()]).drew:=(aA.Zw (b:=ze) (o:=0) (us:=[(1:Int),a,b,c,()]) (by omega) ow).draw
        try change Exit.inBlock _ _ _ _ (World.setCells w12 ze 0 [(1:Int),a,b,c,()]).drew
        clear n0 n1 n2 g0 g1 g2 g3 g4 fz BE BZ ow SN d0 HO oc;generalize(World.setCells w12 ze 0 [(1:Int),a,b,c,()]).drew=wX at *;go_wp2_with fail;go_meet;exact⟨X1,X2,X3⟩
      case rest =>
       obtain⟨BE',BZ',ow'⟩:=hcut;clear BE BZ ow g0 g1 g2 g3 g4 fz n0 n1 n2 d0 SN HO HL HLL oc;have BE:=BE';have BZ:=BZ';have ow:=ow';clear BE' BZ' ow';have hr:=HRR.out;clear HRR HR;obtain⟨q,hqq⟩:∃q,q=aG ⟨1,a,b,c,0⟩:=⟨_,rfl⟩
       rw[←hqq]at hr;have HQ:=aH hqq;have HRQ:=aH hr;clear hqq hr;obtain⟨b0,b1,b2,b3,b4⟩:=BE.p5;go_wp2_with fail;refine Calls.mono (eT 1 a b c 0 _) ?_;rintro e w13⟨rfl,bq⟩;rw[show aG ⟨1,a,b,c,0⟩=q from HQ.out.symm];replace BZ:=BZ.oe bq;replace ow:=ow.to bq;replace BE:=BE.oe bq;clear bq b0 b1 b2 b3 b4;by_cases hq0:q=0
       · have hr:=HRQ.out;rw[if_neg (by simp[hq0])]at hr;subst hr;have hq1:(q ==0)=true:=by simp[hq0]
         have hq2:(q !=0)=false:=by simp[hq0]
         obtain⟨b0,b1,b2,b3,b4⟩:=BE.p5;clear hq0 HRQ;go_wp2_with (refine pU BZ [(1:Int),a,b,c,()] 27 fV ?_)
         have hF:=BZ.put (us:=[(1:Int),a,b,c,()]) rfl;have oF:=aA.Zw (b:=z) (o:=0) (us:=[(1:Int),a,b,c,()]) (by omega) ow;generalize World.setCells _ z 0 [.int .i64 1,.int .i64 a,.int .i64 b,.int .i64 c,.int .i64 0]=wF at hF oF⊢;go_wp2_with fail;obtain⟨p0,p1,p2,p3,p4⟩:=hF.p5;refine bodyPost_ret (v:=.tuple #[.agg #[(1:Int),a,b,c,()],()]) (by simp[results,results139,go_sem,p0,p1,p2,p3,p4]) rfl ⟨rfl,oF⟩
       have hr:=HRQ.out;rw[if_pos hq0]at hr;subst hr;have hq1:(q ==0)=false:=by simp[hq0]
       have hq2:(q !=0)=true:=by simp[hq0]
       clear hq0 BE HRQ;go_wp2_with (refine pU BZ [(),(),(),(),()] 27 fV ?_)
       have hF:=BZ.put (us:=[(),(),(),(),()]) rfl;have oF:=aA.Zw (b:=z) (o:=0) (us:=[(),(),(),(),()]) (by omega) ow;generalize World.setCells _ z 0 [.int .i64 0,.int .i64 0,.int .i64 0,.int .i64 0,.int .i64 0]=wF at hF oF⊢;go_wp2_with fail;obtain⟨p0,p1,p2,p3,p4⟩:=hF.p5;refine bodyPost_ret (v:=.tuple #[.agg #[(),(),(),(),()],q]) (by simp[results,results139,go_sem,p0,p1,p2,p3,p4]) rfl ⟨rfl,oF⟩
    have hr:r=(bP,1):=by rw[HR.out];unfold bY;rw[List.headD_cons,show gQ [112,117,116]=some (1,3)from rfl];dsimp only;rw[List.tail_cons,if_pos hlen]
    have hl1:((ts.length:Int) ==3)=false:=by rw[beq_eq_false_iff_ne];omega
    have hl2:¬ (ts.length:Int)=3:=by omega
    clear HR HL HLL hlen;subst hr;have oc:aA wr (wr.alloc (Obj.cells #[(),(),(),(),()] 27)):=(aA.Zz _).new _;replace d0:=aB oc d0;replace BZ:=BZ.oe oc;replace ow:=ow.to oc;go_wp2_with (refine pU BZ [(),(),(),(),()] 27 fV ?_)
    have hF:=BZ.put (us:=[(),(),(),(),()]) rfl;have oF:=aA.Zw (b:=z) (o:=0) (us:=[(),(),(),(),()]) (by omega) ow;generalize World.setCells _ z 0 [.int .i64 0,.int .i64 0,.int .i64 0,.int .i64 0,.int .i64 0]=wF at hF oF⊢;go_wp2_with fail;obtain⟨p0,p1,p2,p3,p4⟩:=hF.p5;refine bodyPost_ret (v:=.tuple #[.agg #[(),(),(),(),()],(1:Int)]) (by simp[results,results139,go_sem,p0,p1,p2,p3,p4]) rfl ⟨rfl,oF⟩
  have hput:(y ==[112,117,116])=false:=by rw[beq_eq_false_iff_ne];exact hyput
  by_cases hydrop:y=[100,114,111,112]
  · subst hydrop;by_cases hlen:ts.length=1
    · have hT:ts.length=1:=hlen;have hll:l.length=1:=by rw[HLL.out,hT]
      obtain⟨a,rfl⟩:∃a,l=[a]:=by match l,hll with| [a],_=>exact⟨a,rfl⟩
      have hr:r=if aG ⟨2,a,0,0,0⟩≠0 then(bP,aG ⟨2,a,0,0,0⟩)else(⟨2,a,0,0,0⟩,0):=by
       rw[HR.out];unfold bY;rw[List.headD_cons,show gQ [100,114,111,112]=some (2,1)from rfl];dsimp only;rw[List.tail_cons,if_neg (by simp[hT]),HL.out];rfl
      have HRR:=aH hr;clear hr hll;rw[hT]at *;clear hT hlen;have SN:=HO.out.sl;have ofN:=SN.Zx (Nat.le_refl wr.heap.size);go_upto_block 2 with fail
      have oc:aA wr (wr.alloc (Obj.cells #[(),(),(),(),()] 27)):=(aA.Zz _).new _;have BE:Bx (wr.alloc (Obj.cells #[(),(),(),(),()] 27)) wr.heap.size [(),(),(),(),()]:=Bx.Zt _ _ _;have hze:w1.heap.size≤wr.heap.size:=hon.size;replace BZ:=BZ.oe oc;replace ow:=ow.to oc;replace SN:=S.oe SN oc;replace d0:=aB oc d0
      try change Code.wp _ _ _ _ (wr.alloc (Obj.cells #[(),(),(),(),()] 27))
      generalize(wr.alloc (Obj.cells #[(),(),(),(),()] 27))=w12 at *;generalize wr.heap.size=ze at *;obtain⟨bn,on_,rfl,_,hcn⟩:=SN.2.2 (by omega);have n0:=hcn 0 0 _ _ rfl rfl;simp only[Nat.zero_mul,Nat.add_zero]at n0;clear hcn;go_upto_region 20 with (refine pU BE [(2:Int),a,(),(),()] 27 fV ?_)
      have hzE:z≠ze:=by omega
      have BE':=BE.put (us:=[(2:Int),a,(),(),()]) rfl;have BZ':Bx (World.setCells w12 ze 0 [(2:Int),a,(),(),()]) z [(),(),(),(),()]:=BZ.off hzE;have ow':=aA.Zw (b:=ze) (o:=0) (us:=[(2:Int),a,(),(),()]) (by omega) ow;clear d0 SN HO HL HLL BE BZ ow n0 oc;have BE:=BE';have BZ:=BZ';have ow:=ow';clear BE' BZ' ow';generalize World.setCells w12 ze 0 [.int .i64 2,.int .i64 a,.int .i64 0,.int .i64 0,.int .i64 0]=w13' at *;have hr:=HRR.out;clear HRR HR;obtain⟨q,hqq⟩:∃q,q=aG ⟨2,a,0,0,0⟩:=⟨_,rfl⟩
      rw[←hqq]at hr;have HQ:=aH hqq;have HRQ:=aH hr;clear hqq hr;obtain⟨b0,b1,b2,b3,b4⟩:=BE.p5;go_wp2_with fail;refine Calls.mono (eT 2 a 0 0 0 _) ?_;rintro e w13⟨rfl,bq⟩;rw[show aG ⟨2,a,0,0,0⟩=q from HQ.out.symm];replace BZ:=BZ.oe bq;replace ow:=ow.to bq;replace BE:=BE.oe bq;clear bq b0 b1 b2 b3 b4;by_cases hq0:q=0
      · have hr:=HRQ.out;rw[if_neg (by simp[hq0])]at hr;subst hr;have hq1:(q ==0)=true:=by simp[hq0]
        have hq2:(q !=0)=false:=by simp[hq0]
        obtain⟨b0,b1,b2,b3,b4⟩:=BE.p5;clear hq0 HRQ;go_wp2_with (refine pU BZ [(2:Int),a,(),(),()] 27 fV ?_)
        have hF:=BZ.put (us:=[(2:Int),a,(),(),()]) rfl;have oF:=aA.Zw (b:=z) (o:=0) (us:=[(2:Int),a,(),(),()]) (by omega) ow;generalize World.setCells _ z 0 [.int .i64 2,.int .i64 a,.int .i64 0,.int .i64 0,.int .i64 0]=wF at hF oF⊢;go_wp2_with fail;obtain⟨p0,p1,p2,p3,p4⟩:=hF.p5;refine bodyPost_ret (v:=.tuple #[.agg #[(2:Int),a,(),(),()],()]) (by simp[results,results139,go_sem,p0,p1,p2,p3,p4]) rfl ⟨rfl,oF⟩
      have hr:=HRQ.out;rw[if_pos hq0]at hr;subst hr;have hq1:(q ==0)=false:=by simp[hq0]
      have hq2:(q !=0)=true:=by simp[hq0]
      clear hq0 BE HRQ;go_wp2_with (refine pU BZ [(),(),(),(),()] 27 fV ?_)
      have hF:=BZ.put (us:=[(),(),(),(),()]) rfl;have oF:=aA.Zw (b:=z) (o:=0) (us:=[(),(),(),(),()]) (by omega) ow;generalize World.setCells _ z 0 [.int .i64 0,.int .i64 0,.int .i64 0,.int .i64 0,.int .i64 0]=wF at hF oF⊢;go_wp2_with fail;obtain⟨p0,p1,p2,p3,p4⟩:=hF.p5;refine bodyPost_ret (v:=.tuple #[.agg #[(),(),(),(),()],q]) (by simp[results,results139,go_sem,p0,p1,p2,p3,p4]) rfl ⟨rfl,oF⟩
    have hr:r=(bP,1):=by rw[HR.out];unfold bY;rw[List.headD_cons,show gQ [100,114,111,112]=some (2,1)from rfl];dsimp only;rw[List.tail_cons,if_pos hlen]
    have hl1:((ts.length:Int) ==1)=false:=by rw[beq_eq_false_iff_ne];omega
    have hl2:¬ (ts.length:Int)=1:=by omega
    clear HR HL HLL hlen;subst hr;have oc:aA wr (wr.alloc (Obj.cells #[(),(),(),(),()] 27)):=(aA.Zz _).new _;replace d0:=aB oc d0;replace BZ:=BZ.oe oc;replace ow:=ow.to oc;go_wp2_with (refine pU BZ [(),(),(),(),()] 27 fV ?_)
    have hF:=BZ.put (us:=[(),(),(),(),()]) rfl;have oF:=aA.Zw (b:=z) (o:=0) (us:=[(),(),(),(),()]) (by omega) ow;generalize World.setCells _ z 0 [.int .i64 0,.int .i64 0,.int .i64 0,.int .i64 0,.int .i64 0]=wF at hF oF⊢;go_wp2_with fail;obtain⟨p0,p1,p2,p3,p4⟩:=hF.p5;refine bodyPost_ret (v:=.tuple #[.agg #[(),(),(),(),()],(1:Int)]) (by simp[results,results139,go_sem,p0,p1,p2,p3,p4]) rfl ⟨rfl,oF⟩
  have hdrop:(y ==[100,114,111,112])=false:=by rw[beq_eq_false_iff_ne];exact hydrop
  by_cases hyring:y=[114,105,110,103]
  · subst hyring;by_cases hlen:ts.length=3
    · have hT:ts.length=3:=hlen;have hll:l.length=3:=by rw[HLL.out,hT]
      obtain⟨a,b,c,rfl⟩:∃a b c,l=[a,b,c]:=by match l,hll with| [a,b,c],_=>exact⟨a,b,c,rfl⟩
      have hr:r=if aG ⟨3,a,0,b,c⟩≠0 then(bP,aG ⟨3,a,0,b,c⟩)else(⟨3,a,0,b,c⟩,0):=by
       rw[HR.out];unfold bY;rw[List.headD_cons,show gQ [114,105,110,103]=some (3,3)from rfl];dsimp only;rw[List.tail_cons,if_neg (by simp[hT]),HL.out];rfl
      have HRR:=aH hr;clear hr hll;rw[hT]at *;clear hT hlen;have SN:=HO.out.sl;have ofN:=SN.Zx (Nat.le_refl wr.heap.size);go_upto_block 2 with fail
      have oc:aA wr (wr.alloc (Obj.cells #[(),(),(),(),()] 27)):=(aA.Zz _).new _;have BE:Bx (wr.alloc (Obj.cells #[(),(),(),(),()] 27)) wr.heap.size [(),(),(),(),()]:=Bx.Zt _ _ _;have hze:w1.heap.size≤wr.heap.size:=hon.size;replace BZ:=BZ.oe oc;replace ow:=ow.to oc;replace SN:=S.oe SN oc;replace d0:=aB oc d0
      try change Code.wp _ _ _ _ (wr.alloc (Obj.cells #[(),(),(),(),()] 27))
      generalize(wr.alloc (Obj.cells #[(),(),(),(),()] 27))=w12 at *;generalize wr.heap.size=ze at *;obtain⟨bn,on_,rfl,_,hcn⟩:=SN.2.2 (by omega);have n0:=hcn 0 0 _ _ rfl rfl;have n1:=hcn 1 0 _ _ rfl rfl;have n2:=hcn 2 0 _ _ rfl rfl;simp only[Nat.zero_mul,Nat.one_mul,Nat.mul_one,Nat.add_zero]at n0 n1 n2;clear hcn;have hzE:z≠ze:=by omega
      have hne:bn≠ze:=ofN (by omega) _ rfl;obtain⟨g0,g1,g2,g3,g4⟩:=BE.p5;have fz:=fun o=>BE.Zy o
      go_cut [] (fun wx=>Bx wx ze [(3:Int),a,(),b,c]∧Bx wx z [(),(),(),(),()]∧aA w wx)
      case first =>
       go_upto_region 19 with fail
       go_region
       all_goals
        have X1:Bx (World.setCells w12 ze 0 [(3:Int),a,(),b,c]).drew ze [(3:Int),a,(),b,c]:=(BE.put (us:=[(3:Int),a,(),b,c]) rfl).draw;have X2:Bx (World.setCells w12 ze 0 [(3:Int),a,(),b,c]).drew z [(),(),(),(),()]:=(BZ.off (us:=[(3:Int),a,(),b,c]) (o:=0) hzE).draw;have X3:aA w (World.setCells w12 ze 0 [(3:Int),a,(),b,c]).drew:=(aA.Zw (b:=ze) (o:=0) (us:=[(3:Int),a,(),b,c]) (by omega) ow).draw
        try change Exit.inBlock _ _ _ _ (World.setCells w12 ze 0 [(3:Int),a,(),b,c]).drew
        clear n0 n1 n2 g0 g1 g2 g3 g4 fz BE BZ ow SN d0 HO oc;generalize(World.setCells w12 ze 0 [(3:Int),a,(),b,c]).drew=wX at *;go_wp2_with fail;go_meet;exact⟨X1,X2,X3⟩
      case rest =>
       obtain⟨BE',BZ',ow'⟩:=hcut;clear BE BZ ow g0 g1 g2 g3 g4 fz n0 n1 n2 d0 SN HO HL HLL oc;have BE:=BE';have BZ:=BZ';have ow:=ow';clear BE' BZ' ow';have hr:=HRR.out;clear HRR HR;obtain⟨q,hqq⟩:∃q,q=aG ⟨3,a,0,b,c⟩:=⟨_,rfl⟩
       rw[←hqq]at hr;have HQ:=aH hqq;have HRQ:=aH hr;clear hqq hr;obtain⟨b0,b1,b2,b3,b4⟩:=BE.p5;go_wp2_with fail;refine Calls.mono (eT 3 a 0 b c _) ?_;rintro e w13⟨rfl,bq⟩;rw[show aG ⟨3,a,0,b,c⟩=q from HQ.out.symm];replace BZ:=BZ.oe bq;replace ow:=ow.to bq;replace BE:=BE.oe bq;clear bq b0 b1 b2 b3 b4;by_cases hq0:q=0
       · have hr:=HRQ.out;rw[if_neg (by simp[hq0])]at hr;subst hr;have hq1:(q ==0)=true:=by simp[hq0]
         have hq2:(q !=0)=false:=by simp[hq0]
         obtain⟨b0,b1,b2,b3,b4⟩:=BE.p5;clear hq0 HRQ;go_wp2_with (refine pU BZ [(3:Int),a,(),b,c] 27 fV ?_)
         have hF:=BZ.put (us:=[(3:Int),a,(),b,c]) rfl;have oF:=aA.Zw (b:=z) (o:=0) (us:=[(3:Int),a,(),b,c]) (by omega) ow;generalize World.setCells _ z 0 [.int .i64 3,.int .i64 a,.int .i64 0,.int .i64 b,.int .i64 c]=wF at hF oF⊢;go_wp2_with fail;obtain⟨p0,p1,p2,p3,p4⟩:=hF.p5;refine bodyPost_ret (v:=.tuple #[.agg #[(3:Int),a,(),b,c],()]) (by simp[results,results139,go_sem,p0,p1,p2,p3,p4]) rfl ⟨rfl,oF⟩
       have hr:=HRQ.out;rw[if_pos hq0]at hr;subst hr;have hq1:(q ==0)=false:=by simp[hq0]
       have hq2:(q !=0)=true:=by simp[hq0]
       clear hq0 BE HRQ;go_wp2_with (refine pU BZ [(),(),(),(),()] 27 fV ?_)
       have hF:=BZ.put (us:=[(),(),(),(),()]) rfl;have oF:=aA.Zw (b:=z) (o:=0) (us:=[(),(),(),(),()]) (by omega) ow;generalize World.setCells _ z 0 [.int .i64 0,.int .i64 0,.int .i64 0,.int .i64 0,.int .i64 0]=wF at hF oF⊢;go_wp2_with fail;obtain⟨p0,p1,p2,p3,p4⟩:=hF.p5;refine bodyPost_ret (v:=.tuple #[.agg #[(),(),(),(),()],q]) (by simp[results,results139,go_sem,p0,p1,p2,p3,p4]) rfl ⟨rfl,oF⟩
    have hr:r=(bP,1):=by rw[HR.out];unfold bY;rw[List.headD_cons,show gQ [114,105,110,103]=some (3,3)from rfl];dsimp only;rw[List.tail_cons,if_pos hlen]
    have hl1:((ts.length:Int) ==3)=false:=by rw[beq_eq_false_iff_ne];omega
    have hl2:¬ (ts.length:Int)=3:=by omega
    clear HR HL HLL hlen;subst hr;have oc:aA wr (wr.alloc (Obj.cells #[(),(),(),(),()] 27)):=(aA.Zz _).new _;replace d0:=aB oc d0;replace BZ:=BZ.oe oc;replace ow:=ow.to oc;go_wp2_with (refine pU BZ [(),(),(),(),()] 27 fV ?_)
    have hF:=BZ.put (us:=[(),(),(),(),()]) rfl;have oF:=aA.Zw (b:=z) (o:=0) (us:=[(),(),(),(),()]) (by omega) ow;generalize World.setCells _ z 0 [.int .i64 0,.int .i64 0,.int .i64 0,.int .i64 0,.int .i64 0]=wF at hF oF⊢;go_wp2_with fail;obtain⟨p0,p1,p2,p3,p4⟩:=hF.p5;refine bodyPost_ret (v:=.tuple #[.agg #[(),(),(),(),()],(1:Int)]) (by simp[results,results139,go_sem,p0,p1,p2,p3,p4]) rfl ⟨rfl,oF⟩
  have hring:(y ==[114,105,110,103])=false:=by rw[beq_eq_false_iff_ne];exact hyring
  have hr:r=(bP,1):=by rw[HR.out];unfold bY;rw[List.headD_cons,OF hjunk hput hdrop hring]
  clear hyjunk hyput hydrop hyring HR HL HLL;subst hr;have oc:aA wr (wr.alloc (Obj.cells #[(),(),(),(),()] 27)):=(aA.Zz _).new _;replace d0:=aB oc d0;replace BZ:=BZ.oe oc;replace ow:=ow.to oc;go_wp2_with (refine pU BZ [(),(),(),(),()] 27 fV ?_)
  have hF:=BZ.put (us:=[(),(),(),(),()]) rfl;have oF:=aA.Zw (b:=z) (o:=0) (us:=[(),(),(),(),()]) (by omega) ow;generalize World.setCells _ z 0 [.int .i64 0,.int .i64 0,.int .i64 0,.int .i64 0,.int .i64 0]=wF at hF oF⊢;go_wp2_with fail;obtain⟨p0,p1,p2,p3,p4⟩:=hF.p5;refine bodyPost_ret (v:=.tuple #[.agg #[(),(),(),(),()],(1:Int)]) (by simp[results,results139,go_sem,p0,p1,p2,p3,p4]) rfl ⟨rfl,oF⟩
end
end Go.Proofs.YtpfkagghooihfaaGreatDoor
