/- Part 11. -/
import Derived.Test.YtpfkagghooihfaaGreatDoorBa07
import Derived.Test.YtpfkagghooihfaaGreatDoorBa08
import Derived.Test.YtpfkagghooihfaaGreatDoorBa09
import Derived.Test.YtpfkagghooihfaaGreatDoorBa10
namespace Go.Proofs.YtpfkagghooihfaaGreatDoor
set_option linter.unusedSimpArgs false
set_option linter.unusedVariables false
set_option maxHeartbeats 4000000
set_option maxRecDepth 100000
open Go.Proofs.Tryz
section
open Go.RowKit
theorem jL:(prog.info? 90).map (·.size)=some 8:=by kernel_rfl
def vW (w:World)(r:dI×Int)(e:Ending)(w':World):Prop:=e=.returned (.tuple #[.agg #[r.1.kind,r.1.at_,r.1.epoch,r.1.e.kind,r.1.e.job,r.1.e.every,r.1.e.time,r.1.e.client],r.2])∧aA w w'
theorem rI (s : List UInt8)(hs : s.length ≤ 281474976710656)(w : World)(E : fR w) :
    Calls prog 164 #[dC s] w fun e w'=>∃n:Int,e=.returned (.tuple #[n,.bool (jJ s).isSome])∧aA w w'∧((jJ s).isSome=true→jJ s=some n):=by
 go_enter func164,ntmps164;go_wp2_with fail;refine Calls.mono (vN s hs _ E) ?_;rintro e w8⟨v,er,rfl,on,hres⟩;rcases hres with ⟨rfl,hok,hv0,hv1⟩| ⟨⟨et,ep,rfl⟩,hno⟩
 · have hnum:jJ s=if Lib.itoa v=s then some v else none:=by unfold jJ;rw[hok]
   have HNUM:=aH hnum;clear hok hnum;go_wp2_with (go_at_call 121;refine(dX v hv0 hv1 _ (E.oe on)).mono ?_;rintro e w9⟨rfl,b9⟩;refine Hid.out ?_)
   refine aH ?_;replace on:=on.to b9;clear b9;by_cases hbt:Lib.itoa v=s
   · have hq1:(Lib.itoa v ==s)=true:=by simp[hbt]
     have hn:jJ s=some v:=by rw[HNUM.out,if_pos hbt]
     clear hbt;have HN:=aH hn;clear hn;go_wp2_with fail;refine bodyPost_ret (v:=.tuple #[v,.bool true]) (by simp[results,results164,go_sem]) rfl ⟨v,by rw[HN.out];rfl,on,fun _=>HN.out⟩
   have hq1:(Lib.itoa v ==s)=false:=by simp[hbt]
   have hn:jJ s=none:=by rw[HNUM.out,if_neg hbt]
   clear hbt;have HN:=aH hn;clear hn;go_wp2_with fail;refine bodyPost_ret (v:=.tuple #[v,.bool false]) (by simp[results,results164,go_sem]) rfl ⟨v,by rw[HN.out];rfl,on,fun h=>by rw[HN.out]at h;cases h⟩
 have hn:jJ s=none:=by
  rcases wY s with ⟨v,h1,_⟩| ⟨_,h2⟩
  · exact absurd h1 (hno v)
  exact h2
 have HN:=aH hn;clear hn hno;go_wp2_with fail;refine bodyPost_ret (v:=.tuple #[v,.bool false]) (by simp[results,results164,go_sem]) rfl ⟨v,by rw[HN.out];rfl,on,fun h=>by rw[HN.out]at h;cases h⟩
theorem zY (k a ep : Int)(x : aL)(w : World)(E : fR w) :
    Calls prog 154 #[.agg #[k,a,ep,x.kind,x.job,x.every,x.time,x.client]] w fun e w'=>e=.returned (.tuple #[dC (dS ⟨k,a,ep,x⟩).1,.int .i64 (dS ⟨k,a,ep,x⟩).2])∧aA w w':=by
 obtain⟨q,hq⟩:∃q,q=bI ⟨k,a,ep,x⟩:=⟨_,rfl⟩
 obtain⟨r,hr⟩:∃r,r=dS ⟨k,a,ep,x⟩:=⟨_,rfl⟩
 rw[←hr];unfold dS at hr;rw[←hq]at hr;have HQ:=aH hq;have HR:=aH hr;clear hq hr;go_enter func154,ntmps154;go_wp2_with fail;refine Calls.mono (jE k a ep x _) ?_;rintro e w1⟨rfl,b⟩;rw[show bI ⟨k,a,ep,x⟩=q from HQ.out.symm];have on:aA w w1:=aA.to ((aA.Zz w).new _) b;have B:Bx w1 w.heap.size [k,a,ep,x.kind,x.job,x.every,x.time,x.client]:=(Bx.Zt w #[k,a,ep,x.kind,x.job,x.every,x.time,x.client] 90).oe b;have E1:=E.oe on;clear b;generalize w.heap.size=z at *;by_cases hq0:q=0
 · have hr:=HR.out;rw[if_neg (by simp[hq0])]at hr;subst hr;have hc:bI ⟨k,a,ep,x⟩=0:=by rw[←HQ.out,hq0]
   have HC:=aH hc;subst hq0;clear hc HQ;obtain⟨b0,b1,b2,b3,b4,b5,b6,b7⟩:=B.p8;by_cases hk:k=2
   · subst hk;obtain⟨h1,h2,_⟩:=rF HC.out rfl
     try dsimp only at h1 h2
     have hl:=Lib.itoa_length_le ep (by omega) (by omega);have s1:∀w,(Op.stringOp .add ⟨#[115,101,97,108,32]⟩ ⟨(Lib.itoa ep).toArray⟩).run prog w=.ok (dC (iS ++Lib.itoa ep)) w:=fun w=>run_string_add_lists w [115,101,97,108,32] (Lib.itoa ep) (by simp) (by omega)
     go_wp2_with (go_at_call 121;refine(dX ep (by omega) (by omega) _ E1).mono ?_;rintro e w9⟨rfl,b9⟩;refine Hid.out ?_)
     refine aH ?_;replace on:=on.to b9;clear b9 hl;go_wp2_with fail;refine bodyPost_ret (v:=.tuple #[dC (iS ++Lib.itoa ep),()]) (by simp[results,results154,go_sem]) rfl ⟨?_,on⟩
     try dsimp only
     unfold fT;rw[if_pos rfl]
   have hkb:(k ==2)=false:=by simp[hk]
   obtain⟨h0,h1,h2,h3,h4⟩:=pN HC.out hk
   try dsimp only at h0 h1 h2 h3 h4
   have hpr:vP x=(gC x,0):=by unfold vP;rw[if_neg (by simp[h4])]
   have htl:=pR h4;have HPR:=aH hpr;subst h0;have htx:fT ⟨1,a,ep,x⟩=Lib.itoa a ++dJ ++gC x:=by unfold fT;exact if_neg (by simp)
   have HTX:=aH htx;clear hpr h4 h3 hk htx;go_wp2_with fail;refine Calls.mono (AU x _ E1) ?_;rw[HPR.out];rintro e w2⟨rfl,b⟩;replace on:=on.to b;replace E1:=E1.oe b;replace B:=B.oe b;clear b b0 b1 b2 b3 b4 b5 b6 b7;have b1:=B.at_ 1 rfl
   try dsimp only
   have hl:=Lib.itoa_length_le a (by omega) (by omega);have s1:∀w,(Op.stringOp .add ⟨(Lib.itoa a).toArray⟩ ⟨#[58,32]⟩).run prog w=.ok (dC (Lib.itoa a ++[58,32])) w:=fun w=>run_string_add_lists w (Lib.itoa a) [58,32] (by omega) (by simp)
   have s2:∀w,(Op.stringOp .add ⟨(Lib.itoa a ++[58,32]).toArray⟩ ⟨(gC x).toArray⟩).run prog w=.ok (dC (Lib.itoa a ++[58,32] ++gC x)) w:=fun w=>run_string_add_lists w _ _ (by rw[List.length_append];simp;omega) (by omega)
   have s3:∀w,(Op.stringOp .add ⟨(Lib.itoa a).toArray⟩ ⟨#[58,32]⟩).run prog w=.ok (.string ⟨(Lib.itoa a ++[58,32]).toArray⟩) w:=s1;obtain⟨I,hI⟩:∃I,I=Lib.itoa a:=⟨_,rfl⟩
   obtain⟨J,hJ⟩:∃J,J=Lib.itoa a ++[58,32]:=⟨_,rfl⟩
   obtain⟨T,hT⟩:∃T,T=Lib.itoa a ++[58,32] ++gC x:=⟨_,rfl⟩
   rw[←hT]at s2;rw[←hJ]at s1 s2;rw[←hI]at s1;have HI:=aH hI;have HT:=aH hT;clear hI hJ hT s3 htl hl;go_wp2_with (go_at_call 121;refine(dX a (by omega) (by omega) _ E1).mono ?_;rw[show Lib.itoa a=I from HI.out.symm];rintro e w9⟨rfl,b9⟩;refine Hid.out ?_)
   refine aH ?_;replace on:=on.to b9;clear b9;go_wp2_with fail;refine bodyPost_ret (v:=.tuple #[dC T,()]) (by simp[results,results154,go_sem]) rfl ⟨?_,on⟩;rw[HTX.out,HT.out];rfl
 have hr:=HR.out;rw[if_pos hq0]at hr;subst hr;have hq1:(q ==0)=false:=by simp[hq0]
 have hq2:(q !=0)=true:=by simp[hq0]
 clear hq0;go_wp2_with fail;refine bodyPost_ret (v:=.tuple #[dC [],q]) (by simp[results,results154,go_sem]) rfl ⟨rfl,on⟩
theorem IW (s sep:List UInt8):(Lib.cut s sep).1.length≤s.length∧(Lib.cut s sep).2.1.length≤s.length:=by
 unfold Lib.cut
 split
 · exact⟨by simp;omega,by simp⟩
 simp
theorem AR (s : List UInt8)(w : World)(E : fR w)(hs : s.length ≤ 30000) :
    Calls prog 141 #[dC s] w (vW w (iU s)):=by
 have HS:=aH hs;have hd2:decide ((30000:Int)<(s.length:Int))=false:=by simp;omega
 obtain⟨r,hr⟩:∃r,r=iU s:=⟨_,rfl⟩
 rw[←hr];have HR:=aH hr;clear hs hr;go_enter func141,ntmps141;go_upto_region 4 with fail
 have Bz:Bx ((w.alloc (Obj.cells #[(),(),(),(),(),(),(),()] 90)).alloc (Obj.cells #[(),(),(),(),(),(),(),()] 90)) w.heap.size [(),(),(),(),(),(),(),()]:=(Bx.Zt w _ _).new _
 have B4:Bx ((w.alloc (Obj.cells #[(),(),(),(),(),(),(),()] 90)).alloc (Obj.cells #[(),(),(),(),(),(),(),()] 90)) (w.heap.size+1) [(),(),(),(),(),(),(),()]:=by
  have:=Bx.Zt (w.alloc (Obj.cells #[(),(),(),(),(),(),(),()] 90)) #[(),(),(),(),(),(),(),()] 90;simpa using this
 have on:aA w ((w.alloc (Obj.cells #[(),(),(),(),(),(),(),()] 90)).alloc (Obj.cells #[(),(),(),(),(),(),(),()] 90)):=((aA.Zz w).new _).new _;generalize((w.alloc (Obj.cells #[(),(),(),(),(),(),(),()] 90)).alloc (Obj.cells #[(),(),(),(),(),(),(),()] 90))=w1 at *;obtain⟨z4,hz4⟩:∃z4,z4=w.heap.size+1:=⟨_,rfl⟩
 obtain⟨z,hz⟩:∃z,z=w.heap.size:=⟨_,rfl⟩
 rw[←hz4]at B4⊢;rw[←hz]at Bz⊢;have hzz:z≠z4:=by omega
 have hz4':w.heap.size≤z4:=by omega
 have hz':w.heap.size≤z:=by omega
 clear hz4 hz;have E1:=E.oe on;obtain⟨t,ht⟩:∃t,t=(if iS.isPrefixOf s then s.drop iS.length else s):=⟨_,rfl⟩
 go_wp2_with fail;refine Calls.mono (vI s [115,101,97,108,32] _) ?_;rw[show(if([115,101,97,108,32]:List UInt8).isPrefixOf s then s.drop ([115,101,97,108,32]:List UInt8).length else s)=t from ht.symm];rintro e w2⟨rfl,b⟩;replace Bz:=Bz.oe b;replace on:=on.to b;replace B4:=B4.oe b;replace E1:=E1.oe b;clear b;by_cases hp:iS.isPrefixOf s=true
 · have hpb:(([115,101,97,108,32]:List UInt8).isPrefixOf s)=true:=hp;rw[if_pos hp]at ht;have htl:t.length≤30000:=by rw[ht];have:=HS.out;simp;omega
   have HP:=aH hp;have HT:=aH ht;clear hp ht;rw[hpb];clear hpb;go_wp2_with fail;refine Calls.mono (rI t (by omega) _ E1) ?_;rintro e w3⟨n,rfl,b,hn⟩;replace Bz:=Bz.oe b;replace on:=on.to b;replace B4:=B4.oe b;replace E1:=E1.oe b;clear b
   cases hnt:jJ t with
   |none =>
     rw[show(none:Option Int).isSome=false from rfl];clear hn;have hr:r=(dR,1):=by rw[HR.out];unfold iU;rw[if_pos HP.out,show s.drop 5=t from HT.out.symm,hnt]
     subst hr;go_wp2_with (refine pU Bz [(),(),(),(),(),(),(),()] 90 jL ?_)
     have hF:=Bz.put (us:=[(),(),(),(),(),(),(),()]) rfl;have oF:=aA.Zw (b:=z) (o:=0) (us:=[(),(),(),(),(),(),(),()]) hz' on;generalize World.setCells _ z 0 [.int .i64 0,.int .i64 0,.int .i64 0,.int .i64 0,.int .i64 0,.int .i64 0,.int .i64 0,.int .i64 0]=wF at hF oF⊢;go_wp2_with fail;obtain⟨p0,p1,p2,p3,p4,p5,p6,p7⟩:=hF.p8;refine bodyPost_ret (v:=.tuple #[.agg #[(),(),(),(),(),(),(),()],(1:Int)]) (by simp[results,results141,go_sem,p0,p1,p2,p3,p4,p5,p6,p7]) rfl ⟨rfl,oF⟩
   |some v =>
     rw[hnt]at hn;have hv:v=n:=by have:=hn rfl;injection this
     subst hv;have HN:=aH hnt;clear hn hnt;rw[show(some v:Option Int).isSome=true from rfl];go_upto_region 18 with (refine pU B4 [(2:Int),(),v,(),(),(),(),()] 90 jL ?_)
     have B4':=B4.put (us:=[(2:Int),(),v,(),(),(),(),()]) rfl;replace Bz:=Bz.off (b:=z4) (o:=0) (us:=[(2:Int),(),v,(),(),(),(),()]) hzz;replace on:=aA.Zw (b:=z4) (o:=0) (us:=[(2:Int),(),v,(),(),(),(),()]) hz4' on;clear B4;have B4:=B4';clear B4' E1;generalize World.setCells _ z4 0 [.int .i64 2,.int .i64 0,.int .i64 v,.int .i64 0,.int .i64 0,.int .i64 0,.int .i64 0,.int .i64 0]=w5 at B4 Bz on⊢;have hr:r=qG ⟨2,0,v,⟨0,0,0,0,0⟩⟩:=by rw[HR.out];unfold iU;rw[if_pos HP.out,show s.drop 5=t from HT.out.symm,HN.out];rfl
     obtain⟨q,hqq⟩:∃q,q=bI ⟨2,0,v,⟨0,0,0,0,0⟩⟩:=⟨_,rfl⟩
     unfold qG at hr;rw[←hqq]at hr;have HQ:=aH hqq;have HRQ:=aH hr;clear hqq hr;obtain⟨b0,b1,b2,b3,b4,b5,b6,b7⟩:=B4.p8;go_wp2_with fail;refine Calls.mono (jE 2 0 v ⟨0,0,0,0,0⟩ _) ?_;rintro e wk⟨rfl,b⟩;rw[show bI ⟨2,0,v,⟨0,0,0,0,0⟩⟩=q from HQ.out.symm];replace Bz:=Bz.oe b;replace on:=on.to b;replace B4:=B4.oe b;clear b b0 b1 b2 b3 b4 b5 b6 b7;by_cases hq0:q=0
     · have hr:=HRQ.out;rw[if_neg (by simp[hq0])]at hr;subst hr;have hq1:(q ==0)=true:=by simp[hq0]
       have hq2:(q !=0)=false:=by simp[hq0]
       obtain⟨b0,b1,b2,b3,b4,b5,b6,b7⟩:=B4.p8;clear hq0 HRQ;go_wp2_with (refine pU Bz [(2:Int),(),v,(),(),(),(),()] 90 jL ?_)
       have hF:=Bz.put (us:=[(2:Int),(),v,(),(),(),(),()]) rfl;have oF:=aA.Zw (b:=z) (o:=0) (us:=[(2:Int),(),v,(),(),(),(),()]) hz' on;generalize World.setCells _ z 0 [.int .i64 2,.int .i64 0,.int .i64 v,.int .i64 0,.int .i64 0,.int .i64 0,.int .i64 0,.int .i64 0]=wF at hF oF⊢;go_wp2_with fail;obtain⟨p0,p1,p2,p3,p4,p5,p6,p7⟩:=hF.p8;refine bodyPost_ret (v:=.tuple #[.agg #[(2:Int),(),v,(),(),(),(),()],()]) (by simp[results,results141,go_sem,p0,p1,p2,p3,p4,p5,p6,p7]) rfl ⟨rfl,oF⟩
     have hr:=HRQ.out;rw[if_pos hq0]at hr;subst hr;have hq1:(q ==0)=false:=by simp[hq0]
     have hq2:(q !=0)=true:=by simp[hq0]
     clear hq0 B4 HRQ;go_wp2_with (refine pU Bz [(),(),(),(),(),(),(),()] 90 jL ?_)
     have hF:=Bz.put (us:=[(),(),(),(),(),(),(),()]) rfl;have oF:=aA.Zw (b:=z) (o:=0) (us:=[(),(),(),(),(),(),(),()]) hz' on;generalize World.setCells _ z 0 [.int .i64 0,.int .i64 0,.int .i64 0,.int .i64 0,.int .i64 0,.int .i64 0,.int .i64 0,.int .i64 0]=wF at hF oF⊢;go_wp2_with fail;obtain⟨p0,p1,p2,p3,p4,p5,p6,p7⟩:=hF.p8;refine bodyPost_ret (v:=.tuple #[.agg #[(),(),(),(),(),(),(),()],q]) (by simp[results,results141,go_sem,p0,p1,p2,p3,p4,p5,p6,p7]) rfl ⟨rfl,oF⟩
 have hpb:(([115,101,97,108,32]:List UInt8).isPrefixOf s)=false:=(Bool.not_eq_true _).mp hp;rw[if_neg hp]at ht;subst ht;have HP:=aH hp;clear hp;rw[hpb];clear hpb;obtain⟨a,ha⟩:∃a,a=(Lib.cut t [58,32]).1:=⟨_,rfl⟩
 obtain⟨c,hc⟩:∃a,a=(Lib.cut t [58,32]).2.1:=⟨_,rfl⟩
 obtain⟨k,hk⟩:∃a,a=(Lib.cut t [58,32]).2.2:=⟨_,rfl⟩
 have hal:a.length≤30000:=by rw[ha];have:=(IW t [58,32]).1;have:=HS.out;omega
 have hcl:c.length≤30000:=by rw[hc];have:=(IW t [58,32]).2;have:=HS.out;omega
 go_wp2_with fail;refine Calls.mono (zB t [58,32] (by have:=HS.out;omega) _ E1) ?_;rw[←ha,←hc,←hk];have HA:=aH ha;have HCC:=aH hc;have HK:=aH hk;clear ha hc hk;rintro e w3⟨rfl,b⟩;replace Bz:=Bz.oe b;replace on:=on.to b;replace B4:=B4.oe b;replace E1:=E1.oe b;clear b;go_wp2_with fail;refine Calls.mono (rI a (by omega) _ E1) ?_;rintro e w4⟨n,rfl,b,hn⟩;replace Bz:=Bz.oe b;replace on:=on.to b;replace B4:=B4.oe b;replace E1:=E1.oe b;clear b
 cases k with
 |false =>
   clear hn;have hr:r=(dR,1):=by rw[HR.out];unfold iU;rw[if_neg HP.out,if_pos (show(Lib.cut t dJ).2.2=false from HK.out.symm)]
   subst hr;go_wp2_with (refine pU Bz [(),(),(),(),(),(),(),()] 90 jL ?_)
   have hF:=Bz.put (us:=[(),(),(),(),(),(),(),()]) rfl;have oF:=aA.Zw (b:=z) (o:=0) (us:=[(),(),(),(),(),(),(),()]) hz' on;generalize World.setCells _ z 0 [.int .i64 0,.int .i64 0,.int .i64 0,.int .i64 0,.int .i64 0,.int .i64 0,.int .i64 0,.int .i64 0]=wF at hF oF⊢;go_wp2_with fail;obtain⟨p0,p1,p2,p3,p4,p5,p6,p7⟩:=hF.p8;refine bodyPost_ret (v:=.tuple #[.agg #[(),(),(),(),(),(),(),()],(1:Int)]) (by simp[results,results141,go_sem,p0,p1,p2,p3,p4,p5,p6,p7]) rfl ⟨rfl,oF⟩
 |true =>
   have hr0:r=(match jJ a with|none=>(dR,1)|some n=>if(bY (bO 32 c)).2≠0 then(dR,(bY (bO 32 c)).2)else qG ⟨1,n,0,(bY (bO 32 c)).1⟩):=by
    rw[HR.out];unfold iU;rw[if_neg HP.out,if_neg (show¬ (Lib.cut t dJ).2.2=false by rw[show(Lib.cut t dJ).2.2=true from HK.out.symm];simp),HA.out,HCC.out];rfl
   have HR0:=aH hr0;clear hr0
   cases hnt:jJ a with
   |none =>
     rw[show(none:Option Int).isSome=false from rfl];clear hn;have hr:r=(dR,1):=by rw[HR0.out,hnt]
     subst hr;go_wp2_with (refine pU Bz [(),(),(),(),(),(),(),()] 90 jL ?_)
     have hF:=Bz.put (us:=[(),(),(),(),(),(),(),()]) rfl;have oF:=aA.Zw (b:=z) (o:=0) (us:=[(),(),(),(),(),(),(),()]) hz' on;generalize World.setCells _ z 0 [.int .i64 0,.int .i64 0,.int .i64 0,.int .i64 0,.int .i64 0,.int .i64 0,.int .i64 0,.int .i64 0]=wF at hF oF⊢;go_wp2_with fail;obtain⟨p0,p1,p2,p3,p4,p5,p6,p7⟩:=hF.p8;refine bodyPost_ret (v:=.tuple #[.agg #[(),(),(),(),(),(),(),()],(1:Int)]) (by simp[results,results141,go_sem,p0,p1,p2,p3,p4,p5,p6,p7]) rfl ⟨rfl,oF⟩
   |some v =>
     rw[hnt]at hn;have hv:v=n:=by have:=hn rfl;injection this
     subst hv;have HN:=aH hnt;clear hn hnt;rw[show(some v:Option Int).isSome=true from rfl];have hpc:zL c=bY (bO 32 c):=by unfold zL;rw[if_neg (by omega)]
     obtain⟨x,hx⟩:∃x,x=(bY (bO 32 c)).1:=⟨_,rfl⟩
     obtain⟨g,hg⟩:∃x,x=(bY (bO 32 c)).2:=⟨_,rfl⟩
     go_wp2_with fail;refine Calls.mono (zK c _ E1 (by omega)) ?_;rw[hpc];rintro e w5⟨rfl,b⟩;rw[←hx,←hg];have HX:=aH hx;have HG:=aH hg;replace Bz:=Bz.oe b;replace on:=on.to b;replace B4:=B4.oe b;clear b hx hg hpc E1;go_upto_region 15 with fail
     have ob:=(aA.Zz w5).new (Obj.cells #[x.kind,x.job,x.every,x.time,x.client] 27);have BE:Bx (w5.alloc (Obj.cells #[x.kind,x.job,x.every,x.time,x.client] 27)) w5.heap.size [x.kind,x.job,x.every,x.time,x.client]:=Bx.Zt _ _ _;replace Bz:=Bz.oe ob;replace on:=on.to ob;replace B4:=B4.oe ob;generalize(w5.alloc (Obj.cells #[x.kind,x.job,x.every,x.time,x.client] 27))=w6 at *;generalize w5.heap.size=ze at *;by_cases hg0:g=0
     · have hgb:(g ==0)=true:=by simp[hg0]
       have hgn:(g !=0)=false:=by simp[hg0]
       have HG0:=aH hg0;clear hg0;obtain⟨e0,e1,e2,e3,e4⟩:=BE.p5;go_upto_region 18 with (refine pU B4 [(1:Int),v,(),x.kind,x.job,x.every,x.time,x.client] 90 jL ?_)
       have B4':=B4.put (us:=[(1:Int),v,(),x.kind,x.job,x.every,x.time,x.client]) rfl;replace Bz:=Bz.off (b:=z4) (o:=0) (us:=[(1:Int),v,(),x.kind,x.job,x.every,x.time,x.client]) hzz;replace on:=aA.Zw (b:=z4) (o:=0) (us:=[(1:Int),v,(),x.kind,x.job,x.every,x.time,x.client]) hz4' on;clear B4 BE e0 e1 e2 e3 e4;have B4:=B4';clear B4';generalize World.setCells _ z4 0 [.int .i64 1,.int .i64 v,.int .i64 0,.int .i64 x.kind,.int .i64 x.job,.int .i64 x.every,.int .i64 x.time,.int .i64 x.client]=w7 at B4 Bz on⊢;have hr:r=qG ⟨1,v,0,⟨x.kind,x.job,x.every,x.time,x.client⟩⟩:=by rw[HR0.out,HN.out];dsimp only;rw[←HG.out,if_neg (by simp[HG0.out]),←HX.out]
       obtain⟨q,hqq⟩:∃q,q=bI ⟨1,v,0,⟨x.kind,x.job,x.every,x.time,x.client⟩⟩:=⟨_,rfl⟩
       unfold qG at hr;rw[←hqq]at hr;have HQ:=aH hqq;have HRQ:=aH hr;clear hqq hr;obtain⟨b0,b1,b2,b3,b4,b5,b6,b7⟩:=B4.p8;go_wp2_with fail;refine Calls.mono (jE 1 v 0 x _) ?_;rintro e wk⟨rfl,b⟩;rw[show bI ⟨1,v,0,⟨x.kind,x.job,x.every,x.time,x.client⟩⟩=q from HQ.out.symm];replace Bz:=Bz.oe b;replace on:=on.to b;replace B4:=B4.oe b;clear b b0 b1 b2 b3 b4 b5 b6 b7;by_cases hq0:q=0
       · have hr:=HRQ.out;rw[if_neg (by simp[hq0])]at hr;subst hr;have hq1:(q ==0)=true:=by simp[hq0]
         have hq2:(q !=0)=false:=by simp[hq0]
         obtain⟨b0,b1,b2,b3,b4,b5,b6,b7⟩:=B4.p8;clear hq0 HRQ;go_wp2_with (refine pU Bz [(1:Int),v,(),x.kind,x.job,x.every,x.time,x.client] 90 jL ?_)
         have hF:=Bz.put (us:=[(1:Int),v,(),x.kind,x.job,x.every,x.time,x.client]) rfl;have oF:=aA.Zw (b:=z) (o:=0) (us:=[(1:Int),v,(),x.kind,x.job,x.every,x.time,x.client]) hz' on;generalize World.setCells _ z 0 [.int .i64 1,.int .i64 v,.int .i64 0,.int .i64 x.kind,.int .i64 x.job,.int .i64 x.every,.int .i64 x.time,.int .i64 x.client]=wF at hF oF⊢;go_wp2_with fail;obtain⟨p0,p1,p2,p3,p4,p5,p6,p7⟩:=hF.p8;refine bodyPost_ret (v:=.tuple #[.agg #[(1:Int),v,(),x.kind,x.job,x.every,x.time,x.client],()]) (by simp[results,results141,go_sem,p0,p1,p2,p3,p4,p5,p6,p7]) rfl ⟨rfl,oF⟩
       have hr:=HRQ.out;rw[if_pos hq0]at hr;subst hr;have hq1:(q ==0)=false:=by simp[hq0]
       have hq2:(q !=0)=true:=by simp[hq0]
       clear hq0 B4 HRQ;go_wp2_with (refine pU Bz [(),(),(),(),(),(),(),()] 90 jL ?_)
       have hF:=Bz.put (us:=[(),(),(),(),(),(),(),()]) rfl;have oF:=aA.Zw (b:=z) (o:=0) (us:=[(),(),(),(),(),(),(),()]) hz' on;generalize World.setCells _ z 0 [.int .i64 0,.int .i64 0,.int .i64 0,.int .i64 0,.int .i64 0,.int .i64 0,.int .i64 0,.int .i64 0]=wF at hF oF⊢;go_wp2_with fail;obtain⟨p0,p1,p2,p3,p4,p5,p6,p7⟩:=hF.p8;refine bodyPost_ret (v:=.tuple #[.agg #[(),(),(),(),(),(),(),()],q]) (by simp[results,results141,go_sem,p0,p1,p2,p3,p4,p5,p6,p7]) rfl ⟨rfl,oF⟩
     have hgb:(g ==0)=false:=by simp[hg0]
     have hgn:(g !=0)=true:=by simp[hg0]
     have hr:r=(dR,g):=by rw[HR0.out,HN.out];dsimp only;rw[←HG.out,if_pos hg0]
     subst hr;clear hg0;go_wp2_with (refine pU Bz [(),(),(),(),(),(),(),()] 90 jL ?_)
     have hF:=Bz.put (us:=[(),(),(),(),(),(),(),()]) rfl;have oF:=aA.Zw (b:=z) (o:=0) (us:=[(),(),(),(),(),(),(),()]) hz' on;generalize World.setCells _ z 0 [.int .i64 0,.int .i64 0,.int .i64 0,.int .i64 0,.int .i64 0,.int .i64 0,.int .i64 0,.int .i64 0]=wF at hF oF⊢;go_wp2_with fail;obtain⟨p0,p1,p2,p3,p4,p5,p6,p7⟩:=hF.p8;refine bodyPost_ret (v:=.tuple #[.agg #[(),(),(),(),(),(),(),()],g]) (by simp[results,results141,go_sem,p0,p1,p2,p3,p4,p5,p6,p7]) rfl ⟨rfl,oF⟩
theorem FE (s : List UInt8)(w : World)(hs : 30000 < s.length)(hm : s.length ≤ 9223372036854775807) :
    Calls prog 141 #[dC s] w (vW w (dR,2)):=by
 have hd:((30000:Int)<(s.length:Int)):=by omega
 have hd2:decide ((30000:Int)<(s.length:Int))=true:=by simp;omega
 go_enter func141,ntmps141;go_wp2;refine bodyPost_ret (v:=.tuple #[.agg #[(),(),(),(),(),(),(),()],(2:Int)]) (by simp[results,results141,go_sem]) rfl ⟨rfl,?_⟩
 repeat(first|exact aA.Zz _|refine aA.draw ?_|refine aA.new ?_ _|refine aA.put ?_ (by simp) _)
theorem AP (s : List UInt8)(w : World)(E : fR w)(hm : s.length ≤ 9223372036854775807) :
    Calls prog 141 #[dC s] w (vW w (dF s)):=by
 unfold dF;by_cases h:30000<s.length
 · rw[if_pos h];exact FE s w h hm
 rw[if_neg h];exact AR s w E (by omega)
end
section
open Go.RowKit
theorem PM (s:List UInt8):(∃t r,s=t ++10 ::r∧(10:UInt8)∉t∧Lib.cut s [10]=(t,r,true))∨((10:UInt8)∉s∧Lib.cut s [10]=(s,[],false)):=by
 rw[NA];by_cases h:(10:UInt8)∈s
 · obtain⟨t,r,e,ht⟩:=List.eq_append_cons_of_mem h;refine .inl ⟨t,r,e,ht,?_⟩;rw[if_pos h,e,gH ht];simp[jO]
 exact .inr ⟨h,by rw[if_neg h]⟩
theorem LW:(prog.info? 90).map (fun i=>(i.zero,i.size,i.bytes))=some (some (.agg #[(),(),(),(),(),(),(),()]),8,64):=by kernel_rfl
theorem sI (l:List dI):∀r∈l.map eO,∀u∈r,u.oneCell'=true:=by
 intro r hr u hu;obtain⟨x,_,rfl⟩:=List.mem_map.1 hr;simp[eO]at hu;rcases hu with rfl|rfl|rfl|rfl|rfl|rfl|rfl|rfl<;>rfl
theorem Sl.oneQ {w:World}{t:TypeId}(x:dI):Sl (w.alloc (Obj.cells #[x.kind,x.at_,x.epoch,x.e.kind,x.e.job,x.e.every,x.e.time,x.e.client] t)) (w.heap.size+1) 8 (some ⟨w.heap.size,0,none⟩) 1 [eO x]:=by
 have:=Sl.block (k:=8) (w:=w.alloc (Obj.cells #[x.kind,x.at_,x.epoch,x.e.kind,x.e.job,x.e.every,x.e.time,x.e.client] t)) [eO x] (mM rfl) (by simp[eO]) (by rfl);simpa using this
theorem oU (s : List UInt8)(most : Nat)(hs : s.length ≤ 60000)(hm : most ≤ 200)(w : World)(E : fR w) :
    Calls prog 115 #[dC s,most] w fun e w'=>∃A n c,e=.returned (.tuple #[.slice A n c,.int .i64 (bS s most).2.1,.int .i64 (bS s most).2.2])∧cH w' w.heap.size 90 8 (.slice A n c) n ((bS s most).1.map eO)∧aA w w':=by
 obtain⟨L,hL⟩:∃L,L=bS s most:=⟨_,rfl⟩
 rw[←hL];have hL0:L=eS dF most [] 0 (bO 10 s):=hL;have HL0:=aH hL0;clear hL hL0;go_enter func115,ntmps115;go_wp2_with fail
 go_loopg [0,7] s.length (fun g s0 s7 wr=>∃ (rest:List UInt8) (acc:List dI) (k c:Nat) (A:Option Addr),s0=dC rest∧s7=.slice A acc.length c∧rest.length≤g∧k+rest.length=s.length∧acc.length≤most∧acc.length≤c∧Hid (L=eS dF most acc k (bO 10 rest))∧Hid (cH wr w.heap.size 90 8 (.slice A acc.length c) acc.length (acc.map eO))∧aA w wr)
 case atStart=>exact⟨s,[],0,0,none,rfl,rfl,by omega,by omega,by simp,by simp,HL0,cH.nil _ _ _ _,aA.Zz w⟩
 case round =>
  obtain⟨rest,acc,k,c,A,rfl,rfl,hg,hk,hnm,hnc,HL,HO,on⟩:=hrel;have hw1:wrap64 ((s.length:Int)-(rest.length:Int))=(k:Int):=by unfold wrap64;omega
  by_cases h0:rest=[]
  · subst h0;have hl:L=(acc,k,0):=by rw[HL.out,show bO 10 []=[[]]from rfl,nM,if_pos rfl]
    have hks:(s.length:Int)=(k:Int):=by simp at hk;omega
    have ON:=aH on;have HLL:=aH hl;clear on hl;go_wp2_with fail;refine bodyPost_ret (v:=.tuple #[.slice A acc.length c,(k:Int),()]) (by simp[results,results115,go_sem]<;>first|omega| (refine⟨by omega,?_⟩;omega)) rfl ⟨A,acc.length,c,by rw[HLL.out],by rw[HLL.out];exact HO.out,ON.out⟩
  have hq1:(rest ==[])=false:=by simp[h0]
  have hq2:(rest !=[])=true:=by simp[h0]
  have hrl:rest.length≤60000:=by omega
  have H0:=aH h0;clear h0;go_wp2_with fail;refine Calls.mono (zB rest [10] (by omega) _ (E.oe on)) ?_;rcases PM rest with ⟨t,r,hr,ht,hcut⟩| ⟨hno,hcut⟩
  · rw[hcut];have hrl2:rest.length=t.length+1+r.length:=by rw[hr];simp;omega
    have hl:L=if(dF t).2≠0 then(acc,k,(dF t).2)else if most≤acc.length then(acc,k,2)else eS dF most (acc ++[(dF t).1]) (k+t.length+1) (bO 10 r):=by
     rw[HL.out,hr,gH ht,lX (jZ _ _)]
    have HLL:=aH hl;clear hl hr ht hcut HL;rintro e w1⟨rfl,b⟩;replace on:=on.to b;have HO1:=aH (HO.out.below b);clear HO b;obtain⟨x,hx⟩:∃x,x=(dF t).1:=⟨_,rfl⟩
    obtain⟨g2,hg2⟩:∃x,x=(dF t).2:=⟨_,rfl⟩
    go_wp2_with fail;refine Calls.mono (AP t _ (E.oe on) (by omega)) ?_;rw[←hg2,←hx]at HLL;rintro e w2⟨rfl,b⟩;rw[←hx,←hg2];clear hx hg2;replace on:=on.to b;have HO2:=aH (HO1.out.below b);clear HO1 b;go_upto_region 8 with fail
    have ob:=(aA.Zz w2).new (Obj.cells #[x.kind,x.at_,x.epoch,x.e.kind,x.e.job,x.e.every,x.e.time,x.e.client] 90);have BE:Bx (w2.alloc (Obj.cells #[x.kind,x.at_,x.epoch,x.e.kind,x.e.job,x.e.every,x.e.time,x.e.client] 90)) w2.heap.size [x.kind,x.at_,x.epoch,x.e.kind,x.e.job,x.e.every,x.e.time,x.e.client]:=Bx.Zt _ _ _;replace on:=on.to ob;have HO3:=aH (HO2.out.below ob);clear HO2 ob;generalize(w2.alloc (Obj.cells #[x.kind,x.at_,x.epoch,x.e.kind,x.e.job,x.e.every,x.e.time,x.e.client] 90))=w3 at *;generalize w2.heap.size=z2 at *;obtain⟨x0,x1,x2,x3,x4,x5,x6,x7⟩:=BE.p8;clear BE;have ON:=aH on;clear on;by_cases hg0:g2=0
    · by_cases hmn:most≤acc.length
      · have hmm:(acc.length:Int)=(most:Int):=by omega
        have hl:L=(acc,k,2):=by rw[HLL.out,if_neg (by simp[hg0]),if_pos hmn]
        have HF:=aH hl;clear hl HLL;subst hg0;go_wp2_with fail;refine bodyPost_ret (v:=.tuple #[.slice A acc.length c,(k:Int),(2:Int)]) (by simp[results,results115,go_sem]<;>first|omega| (refine⟨by omega,?_⟩;omega)) rfl ⟨A,acc.length,c,by rw[HF.out],by rw[HF.out];exact HO3.out,ON.out⟩
      have hmm:¬ (acc.length:Int)=(most:Int):=by omega
      have hl:L=eS dF most (acc ++[x]) (k+t.length+1) (bO 10 r):=by rw[HLL.out,if_neg (by simp[hg0]),if_neg hmn]
      have HF:=aH hl;clear hl HLL;subst hg0;obtain⟨i0,hi0,hzz0,hzz1,hzz2⟩:=info_parts LW;have HI0:=aH hi0;have HZ0:=aH hzz0;have HZ1:=aH hzz1;have HZ2:=aH hzz2;clear hi0 hzz0 hzz1 hzz2;have HNEW:=aH (Sl.oneQ (w:=w3) (t:=90) x);have hal:aA w3 (w3.alloc (Obj.cells #[x.kind,x.at_,x.epoch,x.e.kind,x.e.job,x.e.every,x.e.time,x.e.client] 90)):=(aA.Zz w3).new _;have HAL:=aH hal;clear hal;go_wp2_with (at_builtin;refine aQ _ rfl _ _ 57 rfl w.heap.size 90 i0 _ 8 64 underlying57 HI0.out HZ0.out HZ1.out HZ2.out rfl (by decide) (.slice A acc.length c) acc.length (acc.map eO) rfl (HO3.out.below HAL.out) _ (some ⟨w3.heap.size,0,none⟩) 1 1 [eO x] rfl HNEW.out (by simpa using sI [x]) (by unfold maxLen;omega) (by omega) (ON.out.to HAL.out).size ?_)
      intro v8 w8 own8 grow8 hv8;obtain⟨A8,c8,rfl,hc8,_⟩:=own8.slice;have hB8:aA w w8:=aT (ON.out.to HAL.out) (ON.out.to HAL.out).size grow8 (fun g hg=>by have:=(HO3.out.1.lt g hg).1;omega);have HO8:=aH own8;clear grow8 hv8 own8 HO3 HNEW HAL x0 x1 x2 x3 x4 x5 x6 x7;go_wp2_with fail;go_roundg r.length
      case measure=>omega
      case rel =>
       refine⟨r,acc ++[x],k+t.length+1,c8,A8,rfl,by simp,Nat.le_refl _,by omega,by simp;omega,?_,HF,?_,hB8⟩
       · have:=HO8.out.Zs;simp;omega
       refine aH ?_;rw[List.map_append,List.length_append];exact HO8.out
    have hgb:(g2 ==0)=false:=by simp[hg0]
    have hgn:(g2 !=0)=true:=by simp[hg0]
    have hl:L=(acc,k,g2):=by rw[HLL.out,if_pos hg0]
    have HF:=aH hl;clear hl HLL hg0;go_wp2_with fail;refine bodyPost_ret (v:=.tuple #[.slice A acc.length c,(k:Int),g2]) (by simp[results,results115,go_sem]<;>first|omega| (refine⟨by omega,?_⟩;omega)) rfl ⟨A,acc.length,c,by rw[HF.out],by rw[HF.out];exact HO3.out,ON.out⟩
  rw[hcut];have hl:L=(acc,k,9):=by rw[HL.out,mK hno,nM,if_neg H0.out]
  have HF:=aH hl;clear hl hcut hno HL;rintro e w1⟨rfl,b⟩;replace on:=on.to b;have HO1:=aH (HO.out.below b);clear HO b;have ON:=aH on;clear on;go_wp2_with fail;refine bodyPost_ret (v:=.tuple #[.slice A acc.length c,(k:Int),(9:Int)]) (by simp[results,results115,go_sem]<;>first|omega| (refine⟨by omega,?_⟩;omega)) rfl ⟨A,acc.length,c,by rw[HF.out],by rw[HF.out];exact HO1.out,ON.out⟩
end
section
open Go.RowKit
structure DK (w:World)(A:Option Addr)(n c:Nat)(A':Option Addr)(m d:Nat)(x:iM):Prop where
 safe:S w 1 A n (x.safe.map cA)
 wait:S w 1 A' m (x.wait.map cA)
 n_le:n≤c
 c_le:c≤maxLen
 m_le:m≤d
 d_le:d≤maxLen
theorem DK.oe {w w':World}{A A':Option Addr}{n c m d:Nat}{x:iM}(h:DK w A n c A' m d x)(b:aA w w'):DK w' A n c A' m d x:=⟨h.safe.oe b,h.wait.oe b,h.n_le,h.c_le,h.m_le,h.d_le⟩
theorem DK.n_eq {w:World}{A A':Option Addr}{n c m d:Nat}{x:iM}(h:DK w A n c A' m d x):n=x.safe.length:=by have:=h.safe.len;simpa using this.symm
theorem DK.m_eq {w:World}{A A':Option Addr}{n c m d:Nat}{x:iM}(h:DK w A n c A' m d x):m=x.wait.length:=by have:=h.wait.len;simpa using this.symm
theorem DK.Zp (w:World):DK w none 0 0 none 0 0 GL:=⟨Sl.nil,Sl.nil,by omega,by simp[maxLen],by omega,by simp[maxLen]⟩
theorem gX (A A' : Option Addr)(n c m d : Nat)(x : iM)(w : World)(E : fR w)(K : DK w A n c A' m d x) :
    Calls prog 78 #[.agg #[.slice A n c,.slice A' m d]] w fun e w'=>e=.returned (.int .i64 (bE x))∧aA w w':=by
 obtain⟨q,hq⟩:∃q,q=bE x:=⟨_,rfl⟩
 rw[←hq];have hn:=K.n_eq;have hm:=K.m_eq;have hq0:q=if 30000<n∨30000<n+m then 2 else(bS x.safe 160).2.2:=by rw[hq,hn,hm];rfl
 have hnb:n≤9223372036854775807:=by have:=K.n_le;have:=K.c_le;unfold maxLen at *;omega
 have hmb:m≤9223372036854775807:=by have:=K.m_le;have:=K.d_le;unfold maxLen at *;omega
 have HN:=aH hn;have HM:=aH hm;have HQ:=aH hq0;clear hn hm hq hq0;go_enter func78,ntmps78;go_upto_region 1 with fail
 have on:aA w (w.alloc (Obj.cells #[.slice A n c,.slice A' m d] 53)):=(aA.Zz w).new _;have B:Bx (w.alloc (Obj.cells #[.slice A n c,.slice A' m d] 53)) w.heap.size [.slice A n c,.slice A' m d]:=Bx.Zt _ _ _;generalize(w.alloc (Obj.cells #[.slice A n c,.slice A' m d] 53))=w1 at *;generalize w.heap.size=z at B⊢;obtain⟨b0,b1⟩:=B.p2;by_cases h1:30000<n
 · have hd:decide ((30000:Int)<(n:Int))=true:=by simp;omega
   have h1':(30000:Int)<(n:Int):=by omega
   have hqq:q=2:=by rw[HQ.out,if_pos (.inl h1)]
   subst hqq;clear h1;go_wp2_with fail;go_ret;exact⟨aO rfl,on⟩
 have h1':¬ (30000:Int)<(n:Int):=by omega
 have hw:wrap64 ((30000:Int)-(n:Int))=30000-(n:Int):=by unfold wrap64;omega
 by_cases h2:30000<n+m
 · have h2':(30000:Int)-(n:Int)<(m:Int):=by omega
   have hqq:q=2:=by rw[HQ.out,if_pos (.inr h2)]
   subst hqq;clear h1 h2;go_wp2_with fail;go_ret;exact⟨aO rfl,on⟩
 have h2':¬ (30000:Int)-(n:Int)<(m:Int):=by omega
 have hqq:q=(bS x.safe 160).2.2:=by rw[HQ.out,if_neg (by omega)]
 have cv:=jT (c:=c) (K.safe.oe on);have E1:=E.oe on;have hsl:x.safe.length≤60000:=by rw[←HN.out];omega
 have HQQ:=aH hqq;have ON:=aH on;clear h1 h2 hqq on;go_wp2_with fail;refine Calls.mono (oU x.safe 160 hsl (by omega) _ E1) ?_;rintro e w2⟨A1,n1,c1,rfl,_,b⟩;have ON2:=aH (ON.out.to b);clear b b0 b1 B;rw[show(bS x.safe 160).2.2=q from HQQ.out.symm];go_wp2_with fail;go_ret;exact⟨aO rfl,ON2.out⟩
theorem EV (A A' : Option Addr)(n c m d : Nat)(x : iM)(F F' : Option Addr)(k i l j : Nat)(y : iM)(w : World)(K : DK w A n c A' m d x)(K' : DK w F k i F' l j y) :
    Calls prog 39 #[.agg #[.slice A n c,.slice A' m d],.agg #[.slice F k i,.slice F' l j]] w fun e w'=>e=.returned (.bool (decide (x=y)))∧aA w w':=by
 obtain⟨q,hq⟩:∃q,q=decide (x=y):=⟨_,rfl⟩
 rw[←hq]
 have hq0:q=(decide (x.safe=y.safe)&&decide (x.wait=y.wait)):=by
  rw[hq,Bool.eq_iff_iff]
  cases x;cases y
  simp
 have hnb:n≤9223372036854775807:=by have:=K.n_le;have:=K.c_le;unfold maxLen at *;omega
 have hmb:m≤9223372036854775807:=by have:=K.m_le;have:=K.d_le;unfold maxLen at *;omega
 have HQ:=aH hq0;clear hq hq0;go_enter func39,ntmps39;go_upto_region 1 with fail
 have on:aA w ((w.alloc (Obj.cells #[.slice A n c,.slice A' m d] 53)).alloc (Obj.cells #[.slice F k i,.slice F' l j] 53)):=((aA.Zz w).new _).new _;have B:Bx ((w.alloc (Obj.cells #[.slice A n c,.slice A' m d] 53)).alloc (Obj.cells #[.slice F k i,.slice F' l j] 53)) w.heap.size [.slice A n c,.slice A' m d]:=(Bx.Zt _ _ _).new _
 have B':Bx ((w.alloc (Obj.cells #[.slice A n c,.slice A' m d] 53)).alloc (Obj.cells #[.slice F k i,.slice F' l j] 53)) (w.heap.size+1) [.slice F k i,.slice F' l j]:=by
  have:=Bx.Zt (w.alloc (Obj.cells #[.slice A n c,.slice A' m d] 53)) #[.slice F k i,.slice F' l j] 53;simpa using this
 generalize((w.alloc (Obj.cells #[.slice A n c,.slice A' m d] 53)).alloc (Obj.cells #[.slice F k i,.slice F' l j] 53))=w1 at *;generalize w.heap.size+1=z' at *;generalize w.heap.size=z at B⊢;obtain⟨b0,b1⟩:=B.p2;obtain⟨f0,f1⟩:=B'.p2;have K1:=K.oe on;have K1':=K'.oe on;have ON:=aH on;clear on K K';go_wp2_with fail;refine Calls.mono (kT A F n k c i _ x.safe y.safe _ K1.safe K1'.safe hnb) ?_;rintro e w2⟨rfl,q2,rfl⟩;by_cases h1:x.safe=y.safe
 · have hd:decide (x.safe=y.safe)=true:=by simp[h1]
   have hqq:q=decide (x.wait=y.wait):=by rw[HQ.out,hd,Bool.true_and]
   rw[hd];have HQQ:=aH hqq;clear hd hqq h1;have d1:=b1;have g1:=f1;go_wp2_with fail;refine Calls.mono (kT A' F' m l d j _ x.wait y.wait _ (K1.wait.oe ((aA.Zz _).Zv _)) (K1'.wait.oe ((aA.Zz _).Zv _)) hmb) ?_;rintro e w2⟨rfl,q3,rfl⟩;rw[show decide (x.wait=y.wait)=q from HQQ.out.symm];go_wp2_with fail;go_ret;exact⟨rfl,ON.out.Zv _⟩
 have hd:decide (x.safe=y.safe)=false:=by simp[h1]
 have hqq:q=false:=by rw[HQ.out,hd,Bool.false_and]
 subst hqq;rw[hd];clear hd h1;go_wp2_with fail;go_ret;exact⟨rfl,ON.out.Zv _⟩
end
section
open Go.RowKit
theorem aA.sz {w w':World}(h:aA w w'):w.heap.size≤w'.heap.size:=h.size
theorem Bx.grown {w w':World}{z:Nat}{vs:List Value}{row:Option Nat}(h:Bx w z vs)(hg:w.grownBy w' row)(hne:some z≠row):Bx w' z vs:=⟨fun j v hv=>aD hg (h.cells j v hv) hne,h.unf.grown hg hne⟩
theorem S.grown {w w':World}{k n:Nat}{A:Option Addr}{rows:List (List Value)}{row:Option Nat}(h:S w k A n rows)(hg:w.grownBy w' row)(hne:∀b,row=some b→bQ n b A):S w' k A n rows :=
 ⟨h.1,h.2.1,fun hn=>by
  obtain⟨b,off,e,hb,hc⟩:=h.2.2 hn
  exact⟨b,off,e,Nat.lt_of_lt_of_le hb hg.size,fun i j r u hr hu=>aD hg (hc i j r u hr hu) (fun e'=>hne b e'.symm hn _ e rfl)⟩⟩
theorem DK.grown {w w':World}{A A':Option Addr}{n c m d:Nat}{x:iM}{row:Option Nat}(h:DK w A n c A' m d x)(hg:w.grownBy w' row)(h1:∀b,row=some b→bQ n b A)(h2:∀b,row=some b→bQ m b A'):DK w' A n c A' m d x :=
 ⟨h.safe.grown hg h1,h.wait.grown hg h2,h.n_le,h.c_le,h.m_le,h.d_le⟩
theorem DK.Zw {w:World}{A A':Option Addr}{n c m d z:Nat}{x:iM}(h:DK w A n c A' m d x)(h1:bQ n z A)(h2:bQ m z A'){us:List Value}{o:Nat}:DK (w.setCells z o us) A n c A' m d x :=
 ⟨dM (w:=w) h1 h.safe,dM (w:=w) h2 h.wait,h.n_le,h.c_le,h.m_le,h.d_le⟩
abbrev aK (w w':World)(z:Nat):Prop:=w.grownBy w' (some z)
theorem aK.Zz (w:World)(z:Nat):aK w w z:=kU (World.grownBy.refl w _) (aA.Zz w)
theorem aK.of {w w':World}(h:aA w w')(z:Nat):aK w w' z:=kU (World.grownBy.refl w _) h
theorem aK.oe {w w' w'':World}{z:Nat}(h:aK w w' z)(b:aA w' w''):aK w w'' z:=kU h b
theorem aK.put {w w':World}{z:Nat}(h:aK w w' z){p:Addr}(hp:p.block=z)(u:Value):aK w (w'.setCell p u) z:=lD h hp u
theorem aK.Zw {w:World}{z:Nat}:∀ {us:List Value}{o:Nat}{w':World},aK w w' z→aK w (w'.setCells z o us) z
 | [],_,_,h=>h
 |u ::r,o,w',h=>by rw[World.setCells];exact aK.Zw (h.put rfl u)
theorem aK.to {w w' w'':World}{z:Nat}(h:aK w w' z)(h':aK w' w'' z)(hz:z<w.heap.size):aK w w'' z:=World.grownBy.andThen h h' (fun g hg=>.inr hg)
theorem aK.up {w0 w w':World}{z:Nat}(on:aA w0 w)(h:aK w w' z)(hz:w0.heap.size≤z):aA w0 w':=aT on on.size h (fun g hg=>by injection hg with hg;omega)
structure NV where
 x:iC
 A:Option Addr
 n:Nat
 c:Nat
 F:Option Addr
 k:Nat
 i:Nat
 G:Option Addr
 l:Nat
 j:Nat
def bW (v:NV):List Value:=[v.x.u.ep,.slice v.A v.n v.c,.slice v.F v.k v.i,.slice v.G v.l v.j,.bool v.x.up]
structure NV.In (w:World)(v:NV):Prop where
 cells:S w 5 v.A v.n (v.x.u.cells.map bA)
 disk:DK w v.F v.k v.i v.G v.l v.j v.x.d
 le:v.n≤v.c
 max:v.c≤maxLen
structure NV.off (z:Nat)(v:NV):Prop where
 a:bQ v.n z v.A
 f:bQ v.k z v.F
 g:bQ v.l z v.G
structure CV where
 x:eB
 A:Option Addr
 n:Nat
 c:Nat
 G:Option Addr
 m:Nat
 d:Nat
def aE (v:CV):List Value:=[v.x.epoch,v.x.doing,v.x.e.kind,v.x.e.job,v.x.e.every,v.x.e.time,v.x.e.client,v.x.at_,v.x.link,v.x.played,.slice v.A v.n v.c,.slice v.G v.m v.d]
structure CV.In (w:World)(v:CV):Prop where
 jobs:S w 3 v.A v.n (v.x.b.jobs.map bX)
 rung:S w 3 v.G v.m (v.x.b.rung.map dN)
 le:v.n≤v.c
 le':v.m≤v.d
structure CV.off (z:Nat)(v:CV):Prop where
 a:bQ v.n z v.A
 g:bQ v.m z v.G
section
variable {w w':World}{v:NV}{c:CV}{z o:Nat}{us:List Value}
theorem NV.In.oe (h:v.In w)(b:aA w w'):v.In w':=⟨h.cells.oe b,h.disk.oe b,h.le,h.max⟩
theorem NV.In.Zw (h:v.In w)(f:v.off z):v.In (w.setCells z o us):=⟨dM (w:=w) f.a h.cells,h.disk.Zw f.f f.g,h.le,h.max⟩
theorem NV.In.grown (h:v.In w)(b:aK w w' z)(f:v.off z):v.In w' :=
 ⟨h.cells.grown b (fun g e=>by injection e with e;subst e;exact f.a),h.disk.grown b (fun g e=>by injection e with e;subst e;exact f.f) (fun g e=>by injection e with e;subst e;exact f.g),h.le,h.max⟩
theorem NV.In.put (h:v.In w){p:Addr}(f:v.off p.block)(u:Value):v.In (w.setCell p u):=⟨S.off h.cells f.a u,⟨S.off h.disk.safe f.f u,S.off h.disk.wait f.g u,h.disk.n_le,h.disk.c_le,h.disk.m_le,h.disk.d_le⟩,h.le,h.max⟩
theorem CV.In.put (h:c.In w){p:Addr}(f:c.off p.block)(u:Value):c.In (w.setCell p u):=⟨S.off h.jobs f.a u,S.off h.rung f.g u,h.le,h.le'⟩
theorem CV.In.oe (h:c.In w)(b:aA w w'):c.In w':=⟨h.jobs.oe b,h.rung.oe b,h.le,h.le'⟩
theorem CV.In.Zw (h:c.In w)(f:c.off z):c.In (w.setCells z o us):=⟨dM (w:=w) f.a h.jobs,dM (w:=w) f.g h.rung,h.le,h.le'⟩
theorem CV.In.grown (h:c.In w)(b:aK w w' z)(f:c.off z):c.In w' :=
 ⟨h.jobs.grown b (fun g e=>by injection e with e;subst e;exact f.a),h.rung.grown b (fun g e=>by injection e with e;subst e;exact f.g),h.le,h.le'⟩
theorem NV.In.Zn (h:v.In w)(hz:w.heap.size≤z):v.off z:=⟨h.cells.Zx hz,h.disk.safe.Zx hz,h.disk.wait.Zx hz⟩
theorem CV.In.Zn (h:c.In w)(hz:w.heap.size≤z):c.off z:=⟨h.jobs.Zx hz,h.rung.Zx hz⟩
end
structure WR (w:World)(A:Option Addr)(n:Nat)(C:Option Addr)(m:Nat)(ns:List NV)(cs:List CV):Prop where
 nr:S w 5 A n (ns.map bW)
 cr:S w 12 C m (cs.map aE)
 ni:∀v∈ns,v.In w
 ci:∀v∈cs,v.In w
abbrev bC (ns:List NV):List iC:=ns.map NV.x
abbrev bL (cs:List CV):List eB:=cs.map CV.x
abbrev aY (ns:List NV)(tip:Int)(cs:List CV)(time:Int):iA:=⟨bC ns,tip,bL cs,time⟩
section
variable {w w':World}{A C:Option Addr}{n m:Nat}{ns:List NV}{cs:List CV}
theorem WR.oe (h:WR w A n C m ns cs)(b:aA w w'):WR w' A n C m ns cs:=⟨h.nr.oe b,h.cr.oe b,fun v hv=>(h.ni v hv).oe b,fun v hv=>(h.ci v hv).oe b⟩
theorem WR.new (h:WR w A n C m ns cs)(o:Obj):WR (w.alloc o) A n C m ns cs:=h.oe ((aA.Zz w).new o)
theorem WR.nlen (h:WR w A n C m ns cs):ns.length=n:=by have:=h.nr.len;simpa using this
theorem WR.clen (h:WR w A n C m ns cs):cs.length=m:=by have:=h.cr.len;simpa using this
theorem WR.atN (h : WR w A n C m ns cs){i : Nat}(hi : i < n) : ∃b off v, A = some ⟨b, off, none⟩ ∧ b < w.heap.size ∧ ns[i]? = some v ∧ v.In w ∧
    w.cell? ⟨b,off+i*5,none⟩=some (.int .i64 v.x.u.ep)∧w.cell? ⟨b,off+i*5+1,none⟩=some (.slice v.A v.n v.c)∧w.cell? ⟨b,off+i*5+2,none⟩=some (.slice v.F v.k v.i)∧w.cell? ⟨b,off+i*5+3,none⟩=some (.slice v.G v.l v.j)∧w.cell? ⟨b,off+i*5+4,none⟩=some (.bool v.x.up):=by
 obtain⟨b,off,x,e,hb,hx,hc⟩:=h.nr.at_ hi;exact⟨b,off,x,e,hb,hx,h.ni x (List.mem_of_getElem? hx),hc 0 _ rfl,hc 1 _ rfl,hc 2 _ rfl,hc 3 _ rfl,hc 4 _ rfl⟩
theorem WR.atC (h : WR w A n C m ns cs){i : Nat}(hi : i < m) : ∃b off v, C = some ⟨b, off, none⟩ ∧ b < w.heap.size ∧ cs[i]? = some v ∧ v.In w ∧
    w.cell? ⟨b,off+i*12,none⟩=some (.int .i64 v.x.epoch)∧w.cell? ⟨b,off+i*12+1,none⟩=some (.int .i64 v.x.doing)∧w.cell? ⟨b,off+i*12+2,none⟩=some (.int .i64 v.x.e.kind)∧w.cell? ⟨b,off+i*12+3,none⟩=some (.int .i64 v.x.e.job)∧w.cell? ⟨b,off+i*12+4,none⟩=some (.int .i64 v.x.e.every)∧w.cell? ⟨b,off+i*12+5,none⟩=some (.int .i64 v.x.e.time)∧w.cell? ⟨b,off+i*12+6,none⟩=some (.int .i64 v.x.e.client)∧w.cell? ⟨b,off+i*12+7,none⟩=some (.int .i64 v.x.at_)∧w.cell? ⟨b,off+i*12+8,none⟩=some (.int .i64 v.x.link)∧w.cell? ⟨b,off+i*12+9,none⟩=some (.int .i64 v.x.played)∧w.cell? ⟨b,off+i*12+10,none⟩=some (.slice v.A v.n v.c)∧w.cell? ⟨b,off+i*12+11,none⟩=some (.slice v.G v.m v.d):=by
 obtain⟨b,off,x,e,hb,hx,hc⟩:=h.cr.at_ hi;exact⟨b,off,x,e,hb,hx,h.ci x (List.mem_of_getElem? hx),hc 0 _ rfl,hc 1 _ rfl,hc 2 _ rfl,hc 3 _ rfl,hc 4 _ rfl,hc 5 _ rfl,hc 6 _ rfl,hc 7 _ rfl,hc 8 _ rfl,hc 9 _ rfl,hc 10 _ rfl,hc 11 _ rfl⟩
end
abbrev Rx (w:World)(z:Nat)(rows:List (List Value)):Prop:=Bx w z rows.flatten
section
variable {w:World}{z k i:Nat}{rows:List (List Value)}{r:List Value}
theorem Rx.at_ (h:Rx w z rows)(hk:∀r∈rows,r.length=k)(hr:rows[i]?=some r)(j:Nat){u:Value}(hu:r[j]?=some u):w.cell? ⟨z,i*k+j,none⟩=some u :=
 Bx.at_ h _ (eG hk i j r u hr hu)
theorem Rx.s (h:Rx w z rows)(hk:∀r∈rows,r.length=k):S w k (some ⟨z,0,none⟩) rows.length rows :=
 ⟨rfl,hk,fun _=>⟨z,0,rfl,Bx.lt h,fun i j r u hr hu=>by rw[Nat.zero_add];exact Rx.at_ h hk hr j hu⟩⟩
theorem uX:∀ (us vs:List Value)(o i:Nat),o+us.length≤vs.length→(gV vs o us)[i]?=if o≤i∧i<o+us.length then us[i-o]? else vs[i]?
 | [],vs,o,i,_=>by rw[gV,if_neg (by simp<;>omega)]
 |u ::r,vs,o,i,h=>by
   simp only[List.length_cons]at h;rw[gV,uX r _ _ _ (by simp;omega)];by_cases h1:o+1≤i∧i<o+1+r.length
   · rw[if_pos h1,if_pos (by simp;omega),show i-o=(i-(o+1))+1 by omega,List.getElem?_cons_succ]
   rw[if_neg h1,List.getElem?_set];by_cases h2:o=i
   · subst h2;rw[if_pos rfl,if_pos (by omega),if_pos (by simp),Nat.sub_self];rfl
   rw[if_neg h2,if_neg (by simp;omega)]
theorem ED:∀ {rows:List (List Value)}{i:Nat}{r us:List Value},(∀r∈rows,r.length=k)→rows[i]?=some r→us.length=k→gV rows.flatten (i*k) us=(rows.set i us).flatten:=by
 intro rows i r us hk hr hu;have hi:i<rows.length:=(List.getElem?_eq_some_iff.1 hr).1;have hl:=aN hk
 have hk':∀r∈rows.set i us,r.length=k:=fun r hr=>by
  rcases List.mem_or_eq_of_mem_set hr with h|rfl
  · exact hk r h
  exact hu
 have hl':=aN hk';have hik:i*k+k≤rows.length*k:=by have:=Nat.mul_le_mul_right k hi;rw[Nat.succ_mul]at this;exact this
 rcases Nat.eq_zero_or_pos k with h0|hpos
 · subst h0;obtain rfl:us=[]:=List.eq_nil_of_length_eq_zero hu;rw[gV,List.eq_nil_of_length_eq_zero (l:=rows.flatten) (by rw[hl];simp),List.eq_nil_of_length_eq_zero (l:=(rows.set i []).flatten) (by rw[hl'];simp)]
 refine jX (by rw[lO,hl,hl',List.length_set]) fun j hj=>?_
 rw[lO,hl]at hj;rw[uX _ _ _ _ (by rw[hl,hu];exact hik),hu];have hq:j / k<rows.length:=Nat.div_lt_of_lt_mul (by rw[Nat.mul_comm];exact hj);have hm:j % k<k:=Nat.mod_lt _ hpos;have hdm:j / k*k+j % k=j:=by rw[Nat.mul_comm];exact Nat.div_add_mod j k
 by_cases hin:i*k≤j∧j<i*k+k
 · rw[if_pos hin];have e:us[j-i*k]?=some us[j-i*k]:=List.getElem?_eq_getElem (by omega);have:=eG hk' i (j-i*k) us us[j-i*k] (by rw[List.getElem?_set,if_pos rfl,if_pos hi]) e;rw[show i*k+(j-i*k)=j by omega]at this;rw[this,e]
 rw[if_neg hin]
 have hne:i≠j / k:=by
  rintro rfl;exact hin ⟨by omega,by omega⟩
 have hr0:rows[j / k]?=some rows[j / k]:=List.getElem?_eq_getElem hq;have hlr:rows[j / k].length=k:=hk _ (List.getElem_mem hq);have hu0:rows[j / k][j % k]?=some (rows[j / k][j % k]'(by omega)):=List.getElem?_eq_getElem (by omega);have h1:=eG hk _ _ _ _ hr0 hu0;have h2:=eG hk' (j / k) (j % k) _ _ (by rw[List.getElem?_set,if_neg hne];exact hr0) hu0;rw[hdm]at h1 h2;rw[h1,h2]
theorem BH {rows:List (List Value)}{i j:Nat}{r:List Value}{u:Value}(hk:∀r∈rows,r.length=k)(hr:rows[i]?=some r)(hj:j<k):rows.flatten.set (i*k+j) u=(rows.set i (r.set j u)).flatten:=by
 have hi:i<rows.length:=(List.getElem?_eq_some_iff.1 hr).1;have hrk:r.length=k:=hk r (List.mem_of_getElem? hr);have hl:=aN hk
 have hk':∀x∈rows.set i (r.set j u),x.length=k:=fun x hx=>by
  rcases List.mem_or_eq_of_mem_set hx with h|rfl
  · exact hk x h
  simpa using hrk
 have hl':=aN hk';have hik:i*k+k≤rows.length*k:=by have:=Nat.mul_le_mul_right k hi;rw[Nat.succ_mul]at this;exact this
 refine jX (by rw[List.length_set,hl,hl',List.length_set]) fun m hm=>?_
 rw[List.length_set,hl]at hm;have hq:m / k<rows.length:=Nat.div_lt_of_lt_mul (by rw[Nat.mul_comm];exact hm);have hmk:m % k<k:=Nat.mod_lt _ (by omega);have hdm:m / k*k+m % k=m:=by rw[Nat.mul_comm];exact Nat.div_add_mod m k
 have hr0:rows[m / k]?=some rows[m / k]:=List.getElem?_eq_getElem hq;have hlr:rows[m / k].length=k:=hk _ (List.getElem_mem hq);have hu0:rows[m / k][m % k]?=some (rows[m / k][m % k]'(by omega)):=List.getElem?_eq_getElem (by omega);have h1:=eG hk _ _ _ _ hr0 hu0;rw[hdm]at h1;by_cases e:i=m / k
 · subst e;rw[hr]at hr0;injection hr0 with hr0;subst hr0;rw[List.getElem?_set];by_cases e2:j=m % k
   · subst e2;rw[if_pos hdm,if_pos (by rw[hl];omega)];have h2:=eG hk' (m / k) (m % k) (rows[m / k].set (m % k) u) u (by rw[List.getElem?_set,if_pos rfl,if_pos hi]) (by rw[List.getElem?_set,if_pos rfl,if_pos (by omega)]);rw[hdm]at h2;exact h2.symm
   rw[if_neg (by omega),h1];have h2:=eG hk' (m / k) (m % k) (rows[m / k].set j u) _ (by rw[List.getElem?_set,if_pos rfl,if_pos hi]) (by rw[List.getElem?_set,if_neg e2];exact hu0);rw[hdm]at h2;exact h2.symm
 have hne:¬i*k+j=m:=fun e'=>e (by rw[←e',Nat.mul_comm,Nat.mul_add_div (by omega),Nat.div_eq_of_lt hj];rfl)
 rw[List.getElem?_set,if_neg hne,h1];have h2:=eG hk' (m / k) (m % k) _ _ (by rw[List.getElem?_set,if_neg e];exact hr0) hu0;rw[hdm]at h2;exact h2.symm
theorem mU {rows:List (List Value)}{i:Nat}{r:List Value}(hr:rows[i]?=some r):rows.set i r=rows:=by
 obtain⟨h,rfl⟩:=List.getElem?_eq_some_iff.1 hr;exact List.set_getElem_self h
theorem Rx.cell1 (h:Rx w z (rows.set i r))(hk:∀x∈rows,x.length=k)(hi:i<rows.length)(hr:r.length=k){j:Nat}(hj:j<k)(u:Value):Rx (w.setCell ⟨z,i*k+j,none⟩ u) z (rows.set i (r.set j u)):=by
 have hk':∀x∈rows.set i r,x.length=k:=fun x hx=>by
  rcases List.mem_or_eq_of_mem_set hx with h|rfl
  · exact hk x h
  exact hr
 have hik:i*k+k≤rows.length*k:=by have:=Nat.mul_le_mul_right k hi;rw[Nat.succ_mul]at this;exact this
 have h1:=Bx.Zq (j:=i*k+j) h (by rw[aN hk',List.length_set];omega) u;rw[BH (r:=r) hk' (by rw[List.getElem?_set,if_pos rfl,if_pos hi]) hj,List.set_set]at h1;exact h1
theorem Rx.put (h:Rx w z rows)(hk:∀r∈rows,r.length=k)(hr:rows[i]?=some r){us:List Value}(hu:us.length=k):Rx (w.setCells z (i*k) us) z (rows.set i us):=by
 have hi:i<rows.length:=(List.getElem?_eq_some_iff.1 hr).1;have hik:i*k+k≤rows.length*k:=by have:=Nat.mul_le_mul_right k hi;rw[Nat.succ_mul]at this;exact this
 have:=Bx.putM (us:=us) (o:=i*k) h (by rw[aN hk,hu];exact hik);rw[ED hk hr hu]at this;exact this
end
theorem bB (ns:List NV):∀r∈ns.map bW,r.length=5:=fun r hr=>by obtain⟨v,_,rfl⟩:=List.mem_map.1 hr;rfl
theorem aX (cs:List CV):∀r∈cs.map aE,r.length=12:=fun r hr=>by obtain⟨v,_,rfl⟩:=List.mem_map.1 hr;rfl
structure NV.fresh (lo:Nat)(v:NV):Prop where
 a:aR lo v.A
 f:aR lo v.F
 g:aR lo v.G
structure CV.fresh (lo:Nat)(v:CV):Prop where
 a:aR lo v.A
 g:aR lo v.G
theorem NV.fresh.off {lo z:Nat}{v:NV}(h:v.fresh lo)(hz:z<lo):v.off z:=⟨h.a.Zx hz,h.f.Zx hz,h.g.Zx hz⟩
theorem CV.fresh.off {lo z:Nat}{v:CV}(h:v.fresh lo)(hz:z<lo):v.off z:=⟨h.a.Zx hz,h.g.Zx hz⟩
structure WF (w0 w:World)(nb cN cb cC:Nat)(ns:List NV)(cs:List CV):Prop where
 nr:Rx w nb (ns.map bW)
 cr:Rx w cb (cs.map aE)
 nl:ns.length=3
 cl:cs.length=3
 ni:∀v∈ns,v.In w∧v.off nb∧v.off cb
 ci:∀v∈cs,v.In w∧v.off nb∧v.off cb
 hn:w0.heap.size≤nb
 hc:w0.heap.size≤cb
 nc:nb≠cb
 kN:3≤cN∧cN≤maxLen
 kC:3≤cC∧cC≤maxLen
 on:aA w0 w
section
variable {w0 w w':World}{z nb cN cb cC:Nat}{ns:List NV}{cs:List CV}{tip time:Int}
theorem WF.oe (h:WF w0 w nb cN cb cC ns cs)(b:aA w w'):WF w0 w' nb cN cb cC ns cs :=
 ⟨Bx.oe h.nr b,Bx.oe h.cr b,h.nl,h.cl,fun v hv=>⟨(h.ni v hv).1.oe b,(h.ni v hv).2⟩,fun v hv=>⟨(h.ci v hv).1.oe b,(h.ci v hv).2⟩,h.hn,h.hc,h.nc,h.kN,h.kC,h.on.to b⟩
theorem WF.wr (h:WF w0 w nb cN cb cC ns cs):WR w (some ⟨nb,0,none⟩) 3 (some ⟨cb,0,none⟩) 3 ns cs :=
 ⟨by have:=Rx.s h.nr (bB ns);rw[List.length_map,h.nl]at this;exact this,by have:=Rx.s h.cr (aX cs);rw[List.length_map,h.cl]at this;exact this,fun v hv=>(h.ni v hv).1,fun v hv=>(h.ci v hv).1⟩
theorem WF.setN (h:WF w0 w nb cN cb cC ns cs){k:Nat}{v:NV}(t:aK w w' nb)(hr:Rx w' nb ((ns.set k v).map bW))(hv:v.In w'∧v.off nb∧v.off cb):WF w0 w' nb cN cb cC (ns.set k v) cs :=
 ⟨hr,Bx.grown h.cr t (by intro e;injection e with e;exact h.nc e.symm),by rw[List.length_set,h.nl],h.cl,
  fun u hu=>by
   rcases List.mem_or_eq_of_mem_set hu with hu|rfl
   · exact⟨(h.ni u hu).1.grown t (h.ni u hu).2.1,(h.ni u hu).2⟩
   exact hv,fun u hu=>⟨(h.ci u hu).1.grown t (h.ci u hu).2.1,(h.ci u hu).2⟩,h.hn,h.hc,h.nc,h.kN,h.kC,aK.up h.on t h.hn⟩
theorem WF.setC (h:WF w0 w nb cN cb cC ns cs){k:Nat}{v:CV}(t:aK w w' cb)(hr:Rx w' cb ((cs.set k v).map aE))(hv:v.In w'∧v.off nb∧v.off cb):WF w0 w' nb cN cb cC ns (cs.set k v) :=
 ⟨Bx.grown h.nr t (by intro e;injection e with e;exact h.nc e),hr,h.nl,by rw[List.length_set,h.cl],
  fun u hu=>⟨(h.ni u hu).1.grown t (h.ni u hu).2.2,(h.ni u hu).2⟩,fun u hu=>by
   rcases List.mem_or_eq_of_mem_set hu with hu|rfl
   · exact⟨(h.ci u hu).1.grown t (h.ci u hu).2.2,(h.ci u hu).2⟩
   exact hv,h.hn,h.hc,h.nc,h.kN,h.kC,aK.up h.on t h.hc⟩
theorem WF.turn (h:WF w0 w nb cN cb cC ns cs)(t:aK w w' z)(hz:w0.heap.size≤z)(zn:z≠nb)(zc:z≠cb)(hn:∀v∈ns,v.off z)(hc:∀v∈cs,v.off z):WF w0 w' nb cN cb cC ns cs :=
 ⟨Bx.grown h.nr t (by intro e;injection e with e;exact zn e.symm),Bx.grown h.cr t (by intro e;injection e with e;exact zc e.symm),h.nl,h.cl,
  fun u hu=>⟨(h.ni u hu).1.grown t (hn u hu),(h.ni u hu).2⟩,fun u hu=>⟨(h.ci u hu).1.grown t (hc u hu),(h.ci u hu).2⟩,h.hn,h.hc,h.nc,h.kN,h.kC,aK.up h.on t hz⟩
theorem WF.atN (h : WF w0 w nb cN cb cC ns cs){i : Nat}(hi : i < 3) : ∃v, ns[i]? = some v ∧ v.In w ∧ v.off nb ∧ v.off cb ∧
    w.cell? ⟨nb,i*5,none⟩=some (.int .i64 v.x.u.ep)∧w.cell? ⟨nb,i*5+1,none⟩=some (.slice v.A v.n v.c)∧w.cell? ⟨nb,i*5+2,none⟩=some (.slice v.F v.k v.i)∧w.cell? ⟨nb,i*5+3,none⟩=some (.slice v.G v.l v.j)∧w.cell? ⟨nb,i*5+4,none⟩=some (.bool v.x.up):=by
 have hi':i<ns.length:=by rw[h.nl];exact hi
 have hx:ns[i]?=some ns[i]:=List.getElem?_eq_getElem hi';have hr:(ns.map bW)[i]?=some (bW ns[i]):=by rw[List.getElem?_map,hx];rfl
 have hm:=h.ni _ (List.getElem_mem hi');exact⟨ns[i],hx,hm.1,hm.2.1,hm.2.2,Rx.at_ h.nr (bB ns) hr 0 rfl,Rx.at_ h.nr (bB ns) hr 1 rfl,Rx.at_ h.nr (bB ns) hr 2 rfl,Rx.at_ h.nr (bB ns) hr 3 rfl,Rx.at_ h.nr (bB ns) hr 4 rfl⟩
theorem WF.atC (h : WF w0 w nb cN cb cC ns cs){i : Nat}(hi : i < 3) : ∃v, cs[i]? = some v ∧ v.In w ∧ v.off nb ∧ v.off cb ∧
    ∀j u,(aE v)[j]?=some u→w.cell? ⟨cb,i*12+j,none⟩=some u:=by
 have hi':i<cs.length:=by rw[h.cl];exact hi
 have hx:cs[i]?=some cs[i]:=List.getElem?_eq_getElem hi';have hr:(cs.map aE)[i]?=some (aE cs[i]):=by rw[List.getElem?_map,hx];rfl
 have hm:=h.ci _ (List.getElem_mem hi');exact⟨cs[i],hx,hm.1,hm.2.1,hm.2.2,fun j u hu=>Rx.at_ h.cr (aX cs) hr j hu⟩
end
structure Kp (K w:World)(z nb cb:Nat):Prop where
 size:K.heap.size≤w.heap.size
 block:∀b,b<K.heap.size→b≠z→b≠nb→b≠cb→w.heap[b]?=K.heap[b]?
section
variable {K w w':World}{z nb cb b:Nat}
theorem Kp.Zz (w:World)(z nb cb:Nat):Kp w w z nb cb:=⟨Nat.le_refl _,fun _ _ _ _ _=>rfl⟩
theorem Kp.oe (h:Kp K w z nb cb)(b:aA w w'):Kp K w' z nb cb:=⟨Nat.le_trans h.size b.size,fun i hi h1 h2 h3=>(b.block i (Nat.lt_of_lt_of_le hi h.size)).trans (h.block i hi h1 h2 h3)⟩
theorem Kp.turn (h:Kp K w z nb cb)(t:aK w w' b)(hb:b=z∨b=nb∨b=cb∨K.heap.size≤b):Kp K w' z nb cb :=
 ⟨Nat.le_trans h.size t.size,fun i hi h1 h2 h3=>(t.block i (Nat.lt_of_lt_of_le hi h.size) (by intro e;injection e with e;omega)).trans (h.block i hi h1 h2 h3)⟩
theorem Kp.far (h:Kp K w z nb cb)(t:aK w w' b)(hb:K.heap.size≤b):Kp K w' z nb cb:=h.turn t (.inr (.inr (.inr hb)))
end
structure WM (K w0 w:World)(z nb cN cb cC:Nat)(ns:List NV)(tip:Int)(cs:List CV)(time:Int):Prop where
 bx:Bx w z [.slice (some ⟨nb,0,none⟩) 3 cN,tip,.slice (some ⟨cb,0,none⟩) 3 cC,time]
 f:WF w0 w nb cN cb cC ns cs
 nz:∀v∈ns,v.off z
 cz:∀v∈cs,v.off z
 hz:w0.heap.size≤z
 zn:z≠nb
 zc:z≠cb
 kp:Kp K w z nb cb
 fN:∀v∈ns,∀b,b<w0.heap.size→v.off b
 fC:∀v∈cs,∀b,b<w0.heap.size→v.off b
section
variable {K w0 w w':World}{z nb cN cb cC:Nat}{ns:List NV}{cs:List CV}{tip time:Int}
theorem WM.oe (h:WM K w0 w z nb cN cb cC ns tip cs time)(b:aA w w'):WM K w0 w' z nb cN cb cC ns tip cs time:=⟨h.bx.oe b,h.f.oe b,h.nz,h.cz,h.hz,h.zn,h.zc,h.kp.oe b,h.fN,h.fC⟩
theorem WM.setN (h:WM K w0 w z nb cN cb cC ns tip cs time){k:Nat}{v:NV}(t:aK w w' nb)(hr:Rx w' nb ((ns.set k v).map bW))(hv:v.In w'∧v.off nb∧v.off cb)(hz:v.off z)(hf:∀b,b<w0.heap.size→v.off b):WM K w0 w' z nb cN cb cC (ns.set k v) tip cs time :=
 ⟨h.bx.grown t (by intro e;injection e with e;exact h.zn e),h.f.setN t hr hv,fun u hu=>by
  rcases List.mem_or_eq_of_mem_set hu with hu|rfl
  · exact h.nz u hu
  · exact hz,h.cz,h.hz,h.zn,h.zc,h.kp.turn t (.inr (.inl rfl)),fun u hu=>by
  rcases List.mem_or_eq_of_mem_set hu with hu|rfl
  · exact h.fN u hu
  exact hf,h.fC⟩
theorem WM.setC (h:WM K w0 w z nb cN cb cC ns tip cs time){k:Nat}{v:CV}(t:aK w w' cb)(hr:Rx w' cb ((cs.set k v).map aE))(hv:v.In w'∧v.off nb∧v.off cb)(hz:v.off z)(hf:∀b,b<w0.heap.size→v.off b):WM K w0 w' z nb cN cb cC ns tip (cs.set k v) time :=
 ⟨h.bx.grown t (by intro e;injection e with e;exact h.zc e),h.f.setC t hr hv,h.nz,fun u hu=>by
  rcases List.mem_or_eq_of_mem_set hu with hu|rfl
  · exact h.cz u hu
  · exact hz,h.hz,h.zn,h.zc,h.kp.turn t (.inr (.inr (.inl rfl))),h.fN,fun u hu=>by
  rcases List.mem_or_eq_of_mem_set hu with hu|rfl
  · exact h.fC u hu
  exact hf⟩
theorem WM.setZ (h:WM K w0 w z nb cN cb cC ns tip cs time){tip' time':Int}(t:aK w w' z)(hb:Bx w' z [.slice (some ⟨nb,0,none⟩) 3 cN,tip',.slice (some ⟨cb,0,none⟩) 3 cC,time']):WM K w0 w' z nb cN cb cC ns tip' cs time' :=
 ⟨hb,h.f.turn t h.hz h.zn h.zc h.nz h.cz,h.nz,h.cz,h.hz,h.zn,h.zc,h.kp.turn t (.inl rfl),h.fN,h.fC⟩
end
end
section
open Go.RowKit
theorem wW (x:dI):(dS x).1.length≤100:=by
 unfold dS
 split
 · simp
 rename_i h;exact mR (Decidable.not_not.1 h)
end
section
open Go.ChangeShapes Go.WideShapes Go.ChangeAt Go.RowKit Go.Deep Go.Joins
theorem GQ:prog.cellsOf 5=1:=by kernel_rfl
theorem DQ:prog.cellsOf 51=1:=by kernel_rfl
theorem wL:prog.cellsOf 53=2:=by kernel_rfl
theorem GB {w:World}{cs:List Value}(h:iG w 5 cs):∃b:UInt8,cs=cA b∧True:=by
 obtain⟨H,enc,spare,held,fuel,y,h⟩:=h;obtain⟨k,e,_,hw⟩:=DataW.trod_int underlying5 h;simp[Lit.wf,IntKind.min,IntKind.max,IntKind.signed,IntKind.bits]at hw;obtain⟨h0,h1⟩:=hw;refine⟨UInt8.ofNat k.toNat,?_,trivial⟩;rw[e];have:(UInt8.ofNat k.toNat).toNat=k.toNat:=by rw[UInt8.toNat_ofNat'];omega
 simp[cA,this];omega
theorem uT {w:World}{cs:List Value}(h:iG w 51 cs):∃ (A:Option Addr)(n c:Nat)(l:List UInt8),cs=[.slice A n c]∧n≤c∧c≤maxLen∧S w 1 A n (l.map cA):=by
 obtain⟨A,n,c,l,e,hnc,hcm,_,hs⟩:=jP cA (fun _=>True) underlying51 GQ (by omega) (fun _=>rfl) (fun _ _ h=>GB h) h;exact⟨A,n,c,l,e,hnc,hcm,hs⟩
structure DV where
 A:Option Addr
 n:Nat
 c:Nat
 A':Option Addr
 m:Nat
 d:Nat
 x:iM
def OX (v:DV):List Value:=[.slice v.A v.n v.c,.slice v.A' v.m v.d]
set_option maxRecDepth 100000 in
theorem GS {w:World}{cs:List Value}(h:iG w 53 cs):∃v:DV,cs=OX v∧DK w v.A v.n v.c v.A' v.m v.d v.x:=by
 obtain⟨hl,hf⟩:=dQ underlying53 h;rw[wL]at hl
 match cs,hl with
 | [c0,c1],_ =>
   simp only[sZ,DQ]at hf;obtain⟨h0,h1,_⟩:=hf;obtain⟨A,n,c,l,e0,hnc,hcm,hs⟩:=uT h0;obtain⟨A',m,d,l',e1,hmd,hdm,hs'⟩:=uT h1;simp at e0 e1;exact⟨⟨A,n,c,A',m,d,⟨l,l'⟩⟩,by simp[OX,e0,e1],hs,hs',hnc,hcm,hmd,hdm⟩
end
section
open Go.RowKit
def NV.uv (v:NV):UV:=⟨v.x.u.ep,v.A,v.n,v.c,v.x.u.cells⟩
theorem rO (ns:List NV):jW (ns.map NV.uv)=iB (bC ns):=by simp[jW,iB,bC,Function.comp_def,NV.uv,UV.u]
theorem WR.us {w:World}{A C:Option Addr}{n m:Nat}{ns:List NV}{cs:List CV}(h:WR w A n C m ns cs){B:Option Addr}{b:Nat}(hr:S w 2 B b ((ns.map NV.uv).map cP)):Us w B b (ns.map NV.uv) :=
 ⟨hr,fun v hv=>by obtain⟨u,hu,rfl⟩:=List.mem_map.1 hv;exact(h.ni u hu).cells,fun v hv=>by obtain⟨u,hu,rfl⟩:=List.mem_map.1 hv;exact⟨(h.ni u hu).le,(h.ni u hu).max⟩⟩
theorem yS:(prog.info? 50).map (fun i=>(i.zero,i.size,i.bytes))=some (some (.agg #[(),Nat]),2,32):=by kernel_rfl
theorem uQ (A : Option Addr)(n c : Nat)(tip : Int)(C : Option Addr)(m d : Nat)(time : Int)(ns : List NV)(cs : List CV)(w : World)(R : WR w A n C m ns cs)(hn : n ≤ 100) :
    Calls prog 103 #[.agg #[.slice A n c,tip,.slice C m d,time]] w fun e w'=>∃B b y,e=.returned (.slice B b y)∧Us w' B b (ns.map NV.uv)∧aA w w':=by
 have hl:=R.nlen;have HL:=aH hl;clear hl;go_enter func103,ntmps103;go_wp2_with fail
 go_loopg [3,9] n (fun g s3 s9 wr=>∃ (k y:Nat) (B:Option Addr),k≤n∧n-k≤g∧s9=.int .i64 k∧s3=.slice B k y∧Hid (cH wr w.heap.size 50 2 (.slice B k y) k ((ns.take k).map fun v=>cP v.uv))∧aA w wr)
 case atStart=>exact⟨0,0,none,Nat.zero_le _,Nat.le_refl _,rfl,rfl,cH.nil _ _ _ _,by repeat(first|exact aA.Zz _|refine aA.new ?_ _)⟩
 case round =>
  obtain⟨k,y,B,hk,hg,rfl,rfl,HO,on⟩:=hrel;have hol:=HO.out.lt;by_cases hlt:k<n
  · obtain⟨b,off,v,rfl,hb,hv,vi,d0,d1,d2,d3,d4⟩:=(R.oe on).atN hlt;have hsw:=on.size;obtain⟨i0,hi0,hzz0,hzz1,hzz2⟩:=info_parts yS;have HI0:=aH hi0;have HZ0:=aH hzz0;have HZ1:=aH hzz1;have HZ2:=aH hzz2;have HV:=aH hv;clear hi0 hzz0 hzz1 hzz2 hv vi;go_upto_region 5 with fail
    refine aW (v1:=[v.x.u.ep,.slice v.A v.n v.c,.slice v.F v.k v.i,.slice v.G v.l v.j,.bool v.x.up]) rfl fun w5 ob BV=>?_
    have HO5:=aH (HO.out.below ob);replace on:=on.to ob;clear HO ob d0 d1 d2 d3 d4 hb;generalize wr.heap.size=zr at *;obtain⟨b0,b1⟩:=BV.p2;have hs5:=on.size
    have hnew:Sl (w5.alloc (Obj.cells #[v.x.u.ep,.slice v.A v.n v.c] 50)) (w5.heap.size+1) 2 (some ⟨w5.heap.size,0,none⟩) 1 [cP v.uv]:=by
     have:=Sl.block (w:=w5.alloc (Obj.cells #[v.x.u.ep,.slice v.A v.n v.c] 50)) (k:=2) [cP v.uv] (heap_alloc_new w5 _) (by simp[cP]) rfl;simpa using this
    have HNEW:=aH hnew;clear hnew;go_wp2_with (at_builtin;refine aQ _ rfl _ _ 96 rfl w.heap.size 50 i0 _ 2 32 underlying96 HI0.out HZ0.out HZ1.out HZ2.out rfl (by decide) (.slice B k y) k ((ns.take k).map fun v=>cP v.uv) (by rfl) (HO5.out.alloc _) (w5.heap.size+1) (some ⟨w5.heap.size,0,none⟩) 1 1 [cP v.uv] (by rfl) HNEW.out (by simp[cP,Value.oneCell']) (by unfold maxLen;omega) (by omega) (by simp;omega) ?_)
    intro v8 w8 own8 grow8 hv8;obtain⟨A8,c8,rfl,_,_⟩:=own8.slice;have on8:aA w w8:=aT (on.new _) (by simp;omega) grow8 (fun g hg=>(HO5.out.lt g hg).1);have HO8:=aH own8;clear own8 grow8 hv8 HO5 HNEW HI0 HZ0 HZ1 HZ2 b0 b1 BV on;go_wp2_with fail;go_roundg (n-(k+1))
    case measure=>omega
    case rel =>
     refine⟨k+1,c8,A8,by omega,Nat.le_refl _,by go_num,rfl,?_,on8⟩;refine aH ?_
     have e:(ns.take (k+1)).map (fun v=>cP v.uv)=(ns.take k).map (fun v=>cP v.uv) ++[cP v.uv]:=by
      obtain⟨h2,rfl⟩:=List.getElem?_eq_some_iff.1 HV.out;rw[List.take_add_one,HV.out,List.map_append];rfl
     rw[e]
     first|exact HO8.out| (rw[List.map_take];exact HO8.out)
  obtain rfl:k=n:=by omega
  have hall:(ns.take k).map (fun v=>cP v.uv)=(ns.map NV.uv).map cP:=by
   rw[List.take_of_length_le (by have:=HL.out;omega),List.map_map];rfl
  have HA:=aH hall;have RW:=R.oe on;have HR:=aH RW;clear hall R RW;go_wp2_with fail;go_ret;refine⟨B,k,y,rfl,HR.out.us ?_,on⟩;rw[←HA.out];exact HO.out.sl
end
end Go.Proofs.YtpfkagghooihfaaGreatDoor
