/- Part 13. -/
import Derived.Test.YtpfkagghooihfaaGreatDoorBa07
import Derived.Test.YtpfkagghooihfaaGreatDoorBa09
import Derived.Test.YtpfkagghooihfaaGreatDoorBa08
import Derived.Test.YtpfkagghooihfaaGreatDoorBa10
namespace Go.Proofs.YtpfkagghooihfaaGreatDoor
set_option linter.unusedSimpArgs false
set_option linter.unusedVariables false
set_option maxHeartbeats 8000000
set_option maxRecDepth 100000
open Go.Proofs.Tryz
section
open Go.RowKit
theorem vE (n : Int)(h0 : -9223372036854775808 ≤ n)(h1 : n ≤ 9223372036854775807)(w : World)(E : fR w) :
    Calls Tryz.prog 159 #[.int .i64 n,.int .i64 10] w fun e w'=>e=.returned (dC (Lib.itoa n))∧aA w w' :=
 (Any.strconv_FormatInt_10 Tryz.laysM173 n h0 h1 w E.tab).mono fun e w' ⟨he,k,os,hw⟩=>⟨he,hw▸yZ w k os⟩
theorem xS (s : List UInt8)(hs : s.length ≤ 281474976710656)(w : World)(E : fR w) :
    Calls Tryz.prog 158 #[dC s,.int .i64 10,.int .i64 64] w fun e w'=>∃v er,e=.returned (.tuple #[.int .i64 v,er])∧aA w w' ∧
     ((er=.nilIface∧Lib.atoiAll s=.ok v∧-9223372036854775808≤v∧v≤9223372036854775807)∨((∃t p,er=.iface t p)∧∀v,Lib.atoiAll s≠.ok v)):=by
 obtain⟨t1,p1,c1⟩:=E.syn
 obtain⟨t2,p2,c2⟩:=E.rng
 have e0:=Lib.parseIntB_64 s
 cases h:Lib.atoiAll s with
 |ok v =>
   rw[h]at e0
   refine(Any.strconv_ParseInt_10_at64_ok Tryz.laysC174 ⟨s.toArray⟩ (by rw[eF];omega) v (by simpa using e0) w).mono ?_
   rintro e w'⟨rfl,hw⟩
   refine⟨v,_,rfl,?_,.inl ⟨rfl,rfl,Lib.atoiAll_bounds h⟩⟩
   rcases hw with rfl| ⟨t,rfl⟩
   · exact aA.Zz _
   · exact Lib.bytesWorld_below _ _ _
 |range =>
   rw[h]at e0
   refine(Any.strconv_ParseInt_10_at64_range Tryz.laysC174 ⟨s.toArray⟩ (by rw[eF];omega) (by simpa using e0) _ w c2 (.inr ⟨_,_,rfl⟩)).mono ?_
   rintro e w'⟨N,rfl,_,_,hw⟩
   exact⟨_,_,rfl,hw,.inr ⟨⟨_,_,rfl⟩,by simp⟩⟩
 |_ =>
   rw[h]at e0
   refine(Any.strconv_ParseInt_10_at64_syntax Tryz.laysC174 ⟨s.toArray⟩ (by rw[eF];omega) (by simpa using e0) _ w c1 (.inr ⟨_,_,rfl⟩)).mono ?_
   rintro e w'⟨N,rfl,_,_,hw⟩
   exact⟨_,_,rfl,hw,.inr ⟨⟨_,_,rfl⟩,by simp⟩⟩
theorem vB (s p : List UInt8)(w : World) :
    Calls Tryz.prog 136 #[dC s,dC p] w fun e w'=>e=.returned (.bool (Lib.hasPrefix s p))∧w=w' :=
 (Any.strings_HasPrefix Tryz.lays99 ⟨s.toArray⟩ ⟨p.toArray⟩ w).mono fun e w' ⟨he,hw⟩=>⟨he,hw.symm⟩
theorem vC (s p : List UInt8)(hs : s.length ≤ 9223372036854775807)(w : World) :
    Calls Tryz.prog 109 #[dC s,dC p] w fun e w'=>e=.returned (.bool (Lib.hasSuffix s p))∧w=w' :=
 (Any.strings_HasSuffix Tryz.lays100 ⟨s.toArray⟩ ⟨p.toArray⟩ w (by rw[eF];exact hs)).mono fun e w' ⟨he,hw⟩=>⟨he,hw.symm⟩
theorem DP (s p : List UInt8)(hs : s.length ≤ 4000000000)(w : World)(E : fR w) :
    Calls Tryz.prog 138 #[dC s,dC p] w fun e w'=>e=.returned (.int .i64 (Lib.index s p))∧w=w':=by
 obtain⟨m,hm⟩:=E.big
 exact(Any.strings_Index Tryz.laysM143.ton143 ⟨s.toArray⟩ ⟨p.toArray⟩ m w (by rw[eF];omega) hm).mono fun e w' ⟨he,hw⟩=>⟨he,hw.symm⟩
theorem pQ (s : List UInt8)(hs : s.length ≤ 281474976710656)(w : World)(E : fR w) :
    Calls Tryz.prog 137 #[dC s] w fun e w'=>∃n:Int,e=.returned (.tuple #[.int .i64 n,.bool (jJ s).isSome])∧aA w w'∧((jJ s).isSome=true→jJ s=some n):=by
 go_enter Tryz.func137,Tryz.ntmps137
 go_wp2_with fail
 refine Calls.mono (xS s hs _ E) ?_
 rintro e w8⟨v,er,rfl,on,hres⟩
 rcases hres with ⟨rfl,hok,hv0,hv1⟩| ⟨⟨et,ep,rfl⟩,hno⟩
 · have hnum:jJ s=if Lib.itoa v=s then some v else none:=by unfold jJ;rw[hok]
   have HNUM:=Lib.hid hnum
   clear hok hnum
   go_wp2_with (go_at_call 159;refine(vE v hv0 hv1 _ (E.oe on)).mono ?_;rintro e w9⟨rfl,b9⟩;refine Hid.out ?_)
   refine Lib.hid ?_
   replace on:=on.to b9
   clear b9
   by_cases hbt:Lib.itoa v=s
   · have hq1:(Lib.itoa v ==s)=true:=by simp[hbt]
     have hn:jJ s=some v:=by rw[HNUM.out,if_pos hbt]
     clear hbt
     have HN:=Lib.hid hn
     clear hn
     go_wp2_with fail
     refine bodyPost_ret (v:=.tuple #[.int .i64 v,.bool true]) (by simp[results,Tryz.results137,go_sem]) rfl ⟨v,by rw[HN.out];rfl,on,fun _=>HN.out⟩
   · have hq1:(Lib.itoa v ==s)=false:=by simp[hbt]
     have hn:jJ s=none:=by rw[HNUM.out,if_neg hbt]
     clear hbt
     have HN:=Lib.hid hn
     clear hn
     go_wp2_with fail
     refine bodyPost_ret (v:=.tuple #[.int .i64 v,.bool false]) (by simp[results,Tryz.results137,go_sem]) rfl ⟨v,by rw[HN.out];rfl,on,fun h=>by rw[HN.out]at h;cases h⟩
 · have hn:jJ s=none:=by
    rcases wY s with ⟨v,h1,_⟩| ⟨_,h2⟩
    · exact absurd h1 (hno v)
    · exact h2
   have HN:=Lib.hid hn
   clear hn hno
   go_wp2_with fail
   refine bodyPost_ret (v:=.tuple #[.int .i64 v,.bool false]) (by simp[results,Tryz.results137,go_sem]) rfl ⟨v,by rw[HN.out];rfl,on,fun h=>by rw[HN.out]at h;cases h⟩
/-! ### Pieces,each with its end -/
def kH (c:UInt8):List (List UInt8)→List (List UInt8)
 | []=>[]
 | [t]=>[t]
 |t ::u ::r=>(t ++[c]) ::kH c (u ::r)
theorem tP (c:UInt8):∀l:List (List UInt8),(kH c l).length=l.length
 | []=>rfl
 | [t]=>rfl
 |t ::u ::r=>by rw[kH,List.length_cons,tP c (u ::r)];rfl
theorem rJ (c:UInt8):∀ (l:List (List UInt8)),l≠[]→(∀p∈l,c∉p)→Lib.splitK [c] 1 (l.length-1) (gD c l)=kH c l
 | [],h,_=>absurd rfl h
 | [t],_,_=>rfl
 |t ::u ::r,_,h=>by
   have ht:=h t (by simp)
   rw[show(t ::u ::r).length-1=((u ::r).length-1)+1 by simp,gD,Lib.splitK,kH]
   have hx:=(pZ c (t ++c ::gD c (u ::r))).2 t (gD c (u ::r)) rfl ht
   rw[hx,if_neg (by rw[beq_iff_eq];omega)]
   congr 1
   · rw[Int.toNat_natCast]
     rw[show t ++c ::gD c (u ::r)=(t ++[c]) ++gD c (u ::r) by simp]
     rw[show t.length+1=(t ++[c]).length by simp,List.take_left]
   · rw[Int.toNat_natCast]
     rw[show t ++c ::gD c (u ::r)=(t ++[c]) ++gD c (u ::r) by simp]
     rw[show t.length+([c]:List UInt8).length=(t ++[c]).length by simp,List.drop_left]
     exact rJ c (u ::r) (by simp) (fun p hp=>h p (by simp at hp⊢;exact Or.inr hp))
theorem NH (c:UInt8)(s:List UInt8):(Lib.splitB ⟨#[c]⟩ 1 (Lib.countB ⟨s.toArray⟩ ⟨#[c]⟩) ⟨s.toArray⟩).map Value.string=(kH c (bO c s)).map dC:=by
 have h:=Lib.splitB_data ⟨#[c]⟩ 1 (Lib.countB ⟨s.toArray⟩ ⟨#[c]⟩) ⟨s.toArray⟩
 have hl:=CK c s
 have e:Lib.splitK (⟨#[c]⟩:ByteArray).data.toList 1 (Lib.countB ⟨s.toArray⟩ ⟨#[c]⟩) (⟨s.toArray⟩:ByteArray).data.toList=kH c (bO c s):=by
  have h1:=rJ c (bO c s) (jZ c s) (fun p hp=>oV hp)
  rw[jO,←hl,Nat.add_sub_cancel]at h1
  exact h1
 rw[e]at h
 rw[←h,List.map_map]
 apply List.map_congr_left
 intro x _
 show Value.string x=dC x.data.toList
 rw[dC,←LP]
theorem EM {l:List ByteArray}{N:Nat}(h:l.length=N):Lib.cellsOf l N=(l.map Value.string).toArray:=by subst h;exact Lib.cellsOf_full l
theorem tM (c : UInt8)(s : List UInt8)(hs : s.length ≤ 4000000000)(w : World)(E : fR w) :
    Calls Tryz.prog 108 #[dC s,dC [c]] w fun e w'=>∃A,e=.returned (.slice A (bO c s).length (bO c s).length)∧S w' 1 A (bO c s).length ((kH c (bO c s)).map vF)∧aA w w':=by
 obtain⟨m,hm⟩:=E.big
 have hcl:=oM c s
 have hcnt:s.count c≤s.length:=List.count_le_length
 have hcb:=CK c s
 have key:=Any.strings_genSplit Tryz.lays221 (by kernel_rfl) ⟨s.toArray⟩ ⟨#[c]⟩ 1 (-1) (bO c s).length m w (by rw[eF];omega) hm (Nat.le_refl 1) (Nat.le_refl 1) (by omega) (by omega) (by rw[eF,if_pos (by omega)];omega)
 have hab:=NH c s
 have hN:Lib.countB ⟨s.toArray⟩ ⟨#[c]⟩=(bO c s).length-1:=by omega
 rw[hN]at hab
 have hlen:(Lib.splitB ⟨#[c]⟩ 1 ((bO c s).length-1) ⟨s.toArray⟩).length=(bO c s).length:=by
  have:=congrArg List.length hab
  rw[List.length_map,List.length_map,tP]at this
  exact this
 rw[hlen,EM hlen,hab]at key
 have HK:=Lib.hid key
 clear key hab hlen hN hcb hcnt hcl hm
 go_enter Tryz.func108,Tryz.ntmps108
 go_wp2_with fail
 refine Calls.mono HK.out ?_
 rintro e w'⟨rfl,rfl⟩
 have hS:=Sl.block (k:=1) ((kH c (bO c s)).map vF) (mM (w:=w) (o:=.cells ((kH c (bO c s)).map dC).toArray 9) rfl) (by
  intro r hr
  obtain⟨x,_,rfl⟩:=List.mem_map.1 hr
  rfl) (by
  generalize kH c (bO c s)=l
  induction l with
  |nil=>rfl
  |cons a l ih=>simp[vF]at ih⊢;exact ih)
 rw[List.length_map,tP]at hS
 have HS:=Lib.hid hS
 clear hS
 go_wp2_with fail
 go_ret
 exact⟨_,rfl,HS.out,(aA.Zz w).new _⟩
end
section
open Go.RowKit
theorem qP (ep dg at_ ln pl : Int)(x : aL)(A A' : Option Addr)(n c m d : Nat)(b : cW)(w : World)(h : S w 3 A n (b.jobs.map bX))(h' : S w 3 A' m (b.rung.map dN)) :
    Calls prog 33 #[.agg #[ep,dg,x.kind,x.job,x.every,x.time,x.client,at_,ln,pl,.slice A n c,.slice A' m d]] w fun e w'=>e=.returned (.int .i64 (aP ⟨ep,dg,x,at_,ln,pl,b⟩))∧aA w w':=by
 obtain⟨r,hr⟩:∃r,r=aP ⟨ep,dg,x,at_,ln,pl,b⟩:=⟨_,rfl⟩
 rw[←hr];unfold aP at hr;simp only[ne_eq,cD,bP]at hr;obtain⟨q,hq⟩:∃q,q=aG x:=⟨_,rfl⟩
 obtain⟨qb,hqb⟩:∃q,q=cF b:=⟨_,rfl⟩
 rw[←hq,←hqb]at hr;have HQ:=aH hq;have HQB:=aH hqb;go_enter func33,ntmps33;have hne:=rM;have HR:=aH hr;have HS:=aH h;have HS':=aH h';clear hr hq hqb h h'
 go_wp2_with (first
  | (go_at_call 81;refine Calls.mono (dG x.kind x.job x.every x.time x.client _) ?_;rw[show aG ⟨x.kind,x.job,x.every,x.time,x.client⟩=q from HQ.out.symm];rintro e w2⟨rfl,hb2⟩;have b0:w2.cell? ⟨w.heap.size,0,none⟩=some (.int .i64 ep):=aB hb2 (by simp[go_sem]);have b1:w2.cell? ⟨w.heap.size,1,none⟩=some (.int .i64 dg):=aB hb2 (by simp[go_sem]);have b2:w2.cell? ⟨w.heap.size,2,none⟩=some (.int .i64 x.kind):=aB hb2 (by simp[go_sem]);have b3:w2.cell? ⟨w.heap.size,3,none⟩=some (.int .i64 x.job):=aB hb2 (by simp[go_sem]);have b4:w2.cell? ⟨w.heap.size,4,none⟩=some (.int .i64 x.every):=aB hb2 (by simp[go_sem]);have b5:w2.cell? ⟨w.heap.size,5,none⟩=some (.int .i64 x.time):=aB hb2 (by simp[go_sem]);have b6:w2.cell? ⟨w.heap.size,6,none⟩=some (.int .i64 x.client):=aB hb2 (by simp[go_sem]);have b7:w2.cell? ⟨w.heap.size,7,none⟩=some (.int .i64 at_):=aB hb2 (by simp[go_sem]);have b8:w2.cell? ⟨w.heap.size,8,none⟩=some (.int .i64 ln):=aB hb2 (by simp[go_sem]);have b9:w2.cell? ⟨w.heap.size,9,none⟩=some (.int .i64 pl):=aB hb2 (by simp[go_sem]);have b10:w2.cell? ⟨w.heap.size,10,none⟩=some (.slice A n c):=aB hb2 (by simp[go_sem]);have b11:w2.cell? ⟨w.heap.size,11,none⟩=some (.slice A' m d):=aB hb2 (by simp[go_sem]);have h02:aA w w2:=aA.to (aA.new (aA.Zz w) (Obj.cells #[ep,dg,x.kind,x.job,x.every,x.time,x.client,at_,ln,pl,.slice A n c,.slice A' m d] 68)) hb2;clear hb2)
  | (go_at_call 82;refine Calls.mono (gY A A' n c m d _ b.jobs b.rung _ (S.oe HS.out h02) (S.oe HS'.out h02) (Nat.le_refl _)) ?_;rw[show cF ⟨b.jobs,b.rung⟩=qb from HQB.out.symm];rintro e w3⟨rfl,hb3⟩;have h03:=aA.to h02 hb3;clear hb3 b0 b1 b2 b3 b4 b5 b6 b7 b8 b9 b10 b11))
 all_goals
  go_ret;refine⟨aO ?_,?_⟩
  · rw[HR.out];clear HR hne HS HS' HQ HQB
    (try simp only[beq_iff_eq,beq_eq_false_iff_ne,bne_iff_ne,bne_eq_false_iff_eq,ne_eq,Bool.and_eq_true,Bool.and_eq_false_iff,Bool.not_eq_true',Bool.not_eq_false',Bool.or_eq_true,Bool.or_eq_false_iff,decide_eq_true_eq,decide_eq_false_iff_not]at *)
    (try unfold wrap64 at *)
    (repeat' split)<;>first|rfl|omega
  first|exact h03|exact h02|exact(Below.refl _ _).alloc (Nat.le_refl _) _
end
section
open Go.RowKit
theorem CC (ep dg at_ ln pl ep2 dg2 at2_ ln2 pl2 : Int)(x x2 : aL)(A A' D D' : Option Addr)(n c m d n' c' m' d' : Nat)(b b2 : cW)(w : World)(h : S w 3 A n (b.jobs.map bX))(h' : S w 3 A' m (b.rung.map dN))
    (g:S w 3 D n' (b2.jobs.map bX))(g':S w 3 D' m' (b2.rung.map dN))(hn:n≤9223372036854775807)(hm:m≤9223372036854775807) :
    Calls prog 35 #[.agg #[ep,dg,x.kind,x.job,x.every,x.time,x.client,at_,ln,pl,.slice A n c,.slice A' m d],.agg #[ep2,dg2,x2.kind,x2.job,x2.every,x2.time,x2.client,at2_,ln2,pl2,.slice D n' c',.slice D' m' d']] w fun e w'=>e=.returned (.bool (decide ((⟨ep,dg,x,at_,ln,pl,b⟩:eB)=⟨ep2,dg2,x2,at2_,ln2,pl2,b2⟩)))∧aA w w':=by
 obtain⟨r,hr⟩:∃r,r=decide ((⟨ep,dg,x,at_,ln,pl,b⟩:eB)=⟨ep2,dg2,x2,at2_,ln2,pl2,b2⟩):=⟨_,rfl⟩
 rw[←hr];obtain⟨qb,hqb⟩:∃q,q=decide (b=b2):=⟨_,rfl⟩
 have hr2:r=(ep ==ep2&&dg ==dg2&&(x.kind ==x2.kind&&x.job ==x2.job&&x.every ==x2.every&&x.time ==x2.time&&x.client ==x2.client)&&at_ ==at2_&&ln ==ln2&&pl ==pl2&&qb):=by
  rw[hr,hqb,Bool.eq_iff_iff];simp only[decide_eq_true_eq,eB.mk.injEq,cD,Bool.and_eq_true,beq_iff_eq];constructor
  · rintro⟨h1,h2,h3,h4,h5,h6,h7⟩;exact⟨⟨⟨⟨⟨⟨h1,h2⟩,⟨⟨⟨h3.1,h3.2.1⟩,h3.2.2.1⟩,h3.2.2.2.1⟩,h3.2.2.2.2⟩,h4⟩,h5⟩,h6⟩,h7⟩
  rintro⟨⟨⟨⟨⟨⟨h1,h2⟩,⟨⟨⟨h3,h4⟩,h5⟩,h6⟩,h7⟩,h8⟩,h9⟩,h10⟩,h11⟩;exact⟨h1,h2,⟨h3,h4,h5,h6,h7⟩,h8,h9,h10,h11⟩
 have HR:=aH hr2;have HQB:=aH hqb;have HS:=aH h;have HS':=aH h';have HG:=aH g;have HG':=aH g';have HN:=aH hn;have HM:=aH hm;clear hr hr2 hqb h h' g g' hn hm;go_enter func35,ntmps35;have heq:=OD;go_wp2_with (go_at_call 83;refine Calls.mono (DM A A' D D' n c m d n' c' m' d' _ b.jobs b2.jobs b.rung b2.rung _ ((HS.out.new _).new _) ((HS'.out.new _).new _) ((HG.out.new _).new _) ((HG'.out.new _).new _) (Nat.le_refl _) HN.out HM.out) ?_;rw[show decide ((⟨b.jobs,b.rung⟩:cW)=⟨b2.jobs,b2.rung⟩)=qb from HQB.out.symm];rintro e w2⟨rfl,hb2⟩;have h02:aA w w2:=aA.to (((Below.refl _ _).alloc (Nat.le_refl _) _).alloc (by simp) _) hb2;clear hb2)
 all_goals
  go_ret;refine⟨QS ?_,?_⟩
  · rw[HR.out];clear HR HS HS' HG HG' HN HM HQB heq
    simp_all
  first|exact h02|exact((Below.refl _ _).alloc (Nat.le_refl _) _).alloc (by simp) _
end
section
open Go.RowKit
def LL (w:World)(r:aL×Int)(e:Ending)(w':World):Prop:=e=.returned (.tuple #[.agg #[r.1.kind,r.1.job,r.1.every,r.1.time,r.1.client],r.2])∧aA w w'
theorem GE (A : Option Addr)(n c : Nat)(l : List UV)(a : Int)(w : World)(h : Us w A n l) :
    Calls prog 102 #[.slice A n c,a] w (LL w (nY (jW l) a)):=by
 obtain⟨q,hq⟩:∃q,q=gR (jW l):=⟨_,rfl⟩
 obtain⟨r,hr⟩:∃r,r=nY (jW l) a:=⟨_,rfl⟩
 rw[←hr];unfold nY at hr;rw[←hq]at hr;have HQ:=aH hq;have HR0:=aH hr;clear hq hr;go_enter func102,ntmps102;go_wp2_with fail;refine Calls.mono (rQ A n c l _ (h.new _)) ?_;rw[←HQ.out];rintro e w1⟨rfl,hb1⟩;have y0a:w1.cell? ⟨w.heap.size,0,none⟩=some (.int .i64 0):=aB hb1 (by simp[go_sem]);have fy0a:w1.frozen? ⟨w.heap.size,0,none⟩=false:=aJ hb1 (v:=.int .i64 0) (by simp[go_sem]) (by simp[go_sem]);have y1a:w1.cell? ⟨w.heap.size,1,none⟩=some (.int .i64 0):=aB hb1 (by simp[go_sem]);have fy1a:w1.frozen? ⟨w.heap.size,1,none⟩=false:=aJ hb1 (v:=.int .i64 0) (by simp[go_sem]) (by simp[go_sem]);have y2a:w1.cell? ⟨w.heap.size,2,none⟩=some (.int .i64 0):=aB hb1 (by simp[go_sem]);have fy2a:w1.frozen? ⟨w.heap.size,2,none⟩=false:=aJ hb1 (v:=.int .i64 0) (by simp[go_sem]) (by simp[go_sem]);have y3a:w1.cell? ⟨w.heap.size,3,none⟩=some (.int .i64 0):=aB hb1 (by simp[go_sem]);have fy3a:w1.frozen? ⟨w.heap.size,3,none⟩=false:=aJ hb1 (v:=.int .i64 0) (by simp[go_sem]) (by simp[go_sem]);have y4a:w1.cell? ⟨w.heap.size,4,none⟩=some (.int .i64 0):=aB hb1 (by simp[go_sem]);have fy4a:w1.frozen? ⟨w.heap.size,4,none⟩=false:=aJ hb1 (v:=.int .i64 0) (by simp[go_sem]) (by simp[go_sem]);have h01:aA w w1:=((Below.refl _ _).alloc (Nat.le_refl _) _).trans (hb1.mono (by simp));have hu1:=h.oe h01;have hz1:w.heap.size<w1.heap.size:=World.block_lt_of_cell? _ _ y0a;clear hb1 h;by_cases h0:q=0
 · have hg:=lB.1 (HQ.out.symm.trans h0);have hn:n=3:=by rw[←hu1.len,←List.length_map (f:=UV.u)];exact hg.len
   subst h0;subst hn;have HG:=aH hg;have hr:=HR0.out;rw[if_neg (by simp)]at hr;by_cases hbad:a<0∨60≤a
   · rw[if_pos hbad]at hr;have HR:=aH hr;clear hr HR0 hu1 hg;by_cases hb1:a<0
     · clear hbad;go_wp2_with fail;rw[show(((((w1.setCell ⟨w.heap.size,0,none⟩ (.int .i64 0)).setCell ⟨w.heap.size,1,none⟩ (.int .i64 0)).setCell ⟨w.heap.size,2,none⟩ (.int .i64 0)).setCell ⟨w.heap.size,3,none⟩ (.int .i64 0)).setCell ⟨w.heap.size,4,none⟩ (.int .i64 0))=(w1.setCells w.heap.size 0 [(),(),(),(),()])from rfl];have hE:aA w (w1.setCells w.heap.size 0 [(),(),(),(),()]):=cJ (by omega) h01;have F:∀ (j:Nat) v,[.int .i64 0,.int .i64 0,.int .i64 0,.int .i64 0,.int .i64 0][j]?=some v→(w1.setCells w.heap.size 0 [(),(),(),(),()]).cell? ⟨w.heap.size,j,none⟩=some v:=fun j v hv=>mC (w:=w1) (b:=w.heap.size) (vs:=[(),(),(),(),()]) (nV y0a y1a y2a y3a y4a) hv
       generalize(w1.setCells w.heap.size 0 [(),(),(),(),()])=wf at F hE⊢;have z0:=F 0 _ rfl;have z1:=F 1 _ rfl;have z2:=F 2 _ rfl;have z3:=F 3 _ rfl;have z4:=F 4 _ rfl;refine bodyPost_ret (v:=.tuple #[.agg #[(),(),(),(),()],(5:Int)]) (by simp[results,results102,go_sem,z0,z1,z2,z3,z4]) rfl ?_;rw[HR.out];exact⟨rfl,hE⟩
     have hb2:60≤a:=by omega
     clear hbad;go_wp2_with fail;rw[show(((((w1.setCell ⟨w.heap.size,0,none⟩ (.int .i64 0)).setCell ⟨w.heap.size,1,none⟩ (.int .i64 0)).setCell ⟨w.heap.size,2,none⟩ (.int .i64 0)).setCell ⟨w.heap.size,3,none⟩ (.int .i64 0)).setCell ⟨w.heap.size,4,none⟩ (.int .i64 0))=(w1.setCells w.heap.size 0 [(),(),(),(),()])from rfl];have hE:aA w (w1.setCells w.heap.size 0 [(),(),(),(),()]):=cJ (by omega) h01;have F:∀ (j:Nat) v,[.int .i64 0,.int .i64 0,.int .i64 0,.int .i64 0,.int .i64 0][j]?=some v→(w1.setCells w.heap.size 0 [(),(),(),(),()]).cell? ⟨w.heap.size,j,none⟩=some v:=fun j v hv=>mC (w:=w1) (b:=w.heap.size) (vs:=[(),(),(),(),()]) (nV y0a y1a y2a y3a y4a) hv
     generalize(w1.setCells w.heap.size 0 [(),(),(),(),()])=wf at F hE⊢;have z0:=F 0 _ rfl;have z1:=F 1 _ rfl;have z2:=F 2 _ rfl;have z3:=F 3 _ rfl;have z4:=F 4 _ rfl;refine bodyPost_ret (v:=.tuple #[.agg #[(),(),(),(),()],(5:Int)]) (by simp[results,results102,go_sem,z0,z1,z2,z3,z4]) rfl ?_;rw[HR.out];exact⟨rfl,hE⟩
   rw[if_neg hbad]at hr;obtain⟨j,rfl⟩:∃j:Nat,a=j:=⟨a.toNat,by omega⟩
   have hj60:j<60:=by omega
   have hn3:¬ (j:Int)<0:=by omega
   have hn4:¬ (60:Int)≤(j:Int):=by omega
   have hj60':(j:Int)<60:=by omega
   obtain⟨b,off,u,rfl,hbz,hu,e0,e1,hs,hul⟩:=hu1.atU (i:=2) (by omega);have hgu:=HG.out.ok u.u (List.mem_map.2 ⟨u,List.mem_of_getElem? hu,rfl⟩);have hun:u.n=60:=by rw[←hul];exact hgu.len
   rw[hun]at hs e1;obtain⟨b1,off1,y,hA1,hyz,hy,d0,d1,d2,d3,d4⟩:=hs.atE hj60;rw[hA1]at e1;rw[Int.toNat_natCast,mT (kB hu),show bF u.u.cells j=y from dH hy]at hr;simp only[Nat.reduceMul]at e1;have HR1:=aH hr;clear hr hbad HR0 hg hs hgu hu hy e0 hu1;by_cases h4:y.kind=4
   all_goals
    have hr:=HR1.out
    first|rw[if_pos h4]at hr|rw[if_neg h4]at hr
    have HR:=aH hr
    first| (have hd:(y.kind ==4)=true:=by simpa using h4)| (have hd:(y.kind ==4)=false:=by simpa using h4)
    clear hr HR1 h4;go_upto_region 7 with fail
    have hb2:aA w1 (w1.alloc (Obj.cells #[y.kind,y.job,y.every,y.time,y.client] 27)):=(Below.refl _ _).alloc (Nat.le_refl _) _;have y0b:=aB hb2 y0a;have fy0b:=aJ hb2 y0a fy0a;have y1b:=aB hb2 y1a;have fy1b:=aJ hb2 y1a fy1a;have y2b:=aB hb2 y2a;have fy2b:=aJ hb2 y2a fy2a;have y3b:=aB hb2 y3a;have fy3b:=aJ hb2 y3a fy3a;have y4b:=aB hb2 y4a;have fy4b:=aJ hb2 y4a fy4a;clear y0a fy0a y1a fy1a y2a fy2a y3a fy3a y4a fy4a;have k0:(w1.alloc (Obj.cells #[y.kind,y.job,y.every,y.time,y.client] 27)).cell? ⟨w1.heap.size,0,none⟩=some (.int .i64 y.kind):=by simp[go_sem]
    have k1:(w1.alloc (Obj.cells #[y.kind,y.job,y.every,y.time,y.client] 27)).cell? ⟨w1.heap.size,1,none⟩=some (.int .i64 y.job):=by simp[go_sem]
    have k2:(w1.alloc (Obj.cells #[y.kind,y.job,y.every,y.time,y.client] 27)).cell? ⟨w1.heap.size,2,none⟩=some (.int .i64 y.every):=by simp[go_sem]
    have k3:(w1.alloc (Obj.cells #[y.kind,y.job,y.every,y.time,y.client] 27)).cell? ⟨w1.heap.size,3,none⟩=some (.int .i64 y.time):=by simp[go_sem]
    have k4:(w1.alloc (Obj.cells #[y.kind,y.job,y.every,y.time,y.client] 27)).cell? ⟨w1.heap.size,4,none⟩=some (.int .i64 y.client):=by simp[go_sem]
    have h02:=h01.to hb2;have hz2:w1.heap.size<(w1.alloc (Obj.cells #[y.kind,y.job,y.every,y.time,y.client] 27)).heap.size:=by simp
    clear hb2 h01 e1 d0 d1 d2 d3 d4;generalize(w1.alloc (Obj.cells #[y.kind,y.job,y.every,y.time,y.client] 27))=w2 at *
   · go_wp2_with fail;rw[show(((((w2.setCell ⟨w.heap.size,0,none⟩ (.int .i64 0)).setCell ⟨w.heap.size,1,none⟩ (.int .i64 0)).setCell ⟨w.heap.size,2,none⟩ (.int .i64 0)).setCell ⟨w.heap.size,3,none⟩ (.int .i64 0)).setCell ⟨w.heap.size,4,none⟩ (.int .i64 0))=(w2.setCells w.heap.size 0 [(),(),(),(),()])from rfl];have hE:aA w (w2.setCells w.heap.size 0 [(),(),(),(),()]):=cJ (by omega) h02;have F:∀ (j:Nat) v,[.int .i64 0,.int .i64 0,.int .i64 0,.int .i64 0,.int .i64 0][j]?=some v→(w2.setCells w.heap.size 0 [(),(),(),(),()]).cell? ⟨w.heap.size,j,none⟩=some v:=fun j v hv=>mC (w:=w2) (b:=w.heap.size) (vs:=[(),(),(),(),()]) (nV y0b y1b y2b y3b y4b) hv
     generalize(w2.setCells w.heap.size 0 [(),(),(),(),()])=wf at F hE⊢;have z0:=F 0 _ rfl;have z1:=F 1 _ rfl;have z2:=F 2 _ rfl;have z3:=F 3 _ rfl;have z4:=F 4 _ rfl;refine bodyPost_ret (v:=.tuple #[.agg #[(),(),(),(),()],(7:Int)]) (by simp[results,results102,go_sem,z0,z1,z2,z3,z4]) rfl ?_;rw[HR.out];exact⟨rfl,hE⟩
   go_wp2_with fail;rw[show(((((w2.setCell ⟨w.heap.size,0,none⟩ (.int .i64 y.kind)).setCell ⟨w.heap.size,1,none⟩ (.int .i64 y.job)).setCell ⟨w.heap.size,2,none⟩ (.int .i64 y.every)).setCell ⟨w.heap.size,3,none⟩ (.int .i64 y.time)).setCell ⟨w.heap.size,4,none⟩ (.int .i64 y.client))=(w2.setCells w.heap.size 0 [y.kind,y.job,y.every,y.time,y.client])from rfl];have hE:aA w (w2.setCells w.heap.size 0 [y.kind,y.job,y.every,y.time,y.client]):=cJ (by omega) h02;have F:∀ (j:Nat) v,[.int .i64 y.kind,.int .i64 y.job,.int .i64 y.every,.int .i64 y.time,.int .i64 y.client][j]?=some v→(w2.setCells w.heap.size 0 [y.kind,y.job,y.every,y.time,y.client]).cell? ⟨w.heap.size,j,none⟩=some v:=fun j v hv=>mC (w:=w2) (b:=w.heap.size) (vs:=[y.kind,y.job,y.every,y.time,y.client]) (nV y0b y1b y2b y3b y4b) hv
   generalize(w2.setCells w.heap.size 0 [y.kind,y.job,y.every,y.time,y.client])=wf at F hE⊢;have z0:=F 0 _ rfl;have z1:=F 1 _ rfl;have z2:=F 2 _ rfl;have z3:=F 3 _ rfl;have z4:=F 4 _ rfl;refine bodyPost_ret (v:=.tuple #[.agg #[y.kind,y.job,y.every,y.time,y.client],()]) (by simp[results,results102,go_sem,z0,z1,z2,z3,z4]) rfl ?_;rw[HR.out];exact⟨rfl,hE⟩
 have hr:=HR0.out;rw[if_pos h0]at hr;have HR:=aH hr;have hd:(q !=0)=true:=by simpa using h0
 clear hr HR0 h0 hu1;go_wp2_with fail;rw[show(((((w1.setCell ⟨w.heap.size,0,none⟩ (.int .i64 0)).setCell ⟨w.heap.size,1,none⟩ (.int .i64 0)).setCell ⟨w.heap.size,2,none⟩ (.int .i64 0)).setCell ⟨w.heap.size,3,none⟩ (.int .i64 0)).setCell ⟨w.heap.size,4,none⟩ (.int .i64 0))=(w1.setCells w.heap.size 0 [(),(),(),(),()])from rfl];have hE:aA w (w1.setCells w.heap.size 0 [(),(),(),(),()]):=cJ (by omega) h01;have F:∀ (j:Nat) v,[.int .i64 0,.int .i64 0,.int .i64 0,.int .i64 0,.int .i64 0][j]?=some v→(w1.setCells w.heap.size 0 [(),(),(),(),()]).cell? ⟨w.heap.size,j,none⟩=some v:=fun j v hv=>mC (w:=w1) (b:=w.heap.size) (vs:=[(),(),(),(),()]) (nV y0a y1a y2a y3a y4a) hv
 generalize(w1.setCells w.heap.size 0 [(),(),(),(),()])=wf at F hE⊢;have z0:=F 0 _ rfl;have z1:=F 1 _ rfl;have z2:=F 2 _ rfl;have z3:=F 3 _ rfl;have z4:=F 4 _ rfl;refine bodyPost_ret (v:=.tuple #[.agg #[(),(),(),(),()],q]) (by simp[results,results102,go_sem,z0,z1,z2,z3,z4]) rfl ?_;rw[HR.out];exact⟨rfl,hE⟩
end
section
/-! ### Clients -/
theorem yN {c:eB}{v:Int}(h:(fP c v).2=0):aP c=0∧c.epoch<v∧v≤20∧(fP c v).1=⟨v,c.doing,c.e,c.at_,c.link,c.played,c.b⟩:=by
 unfold fP at h⊢
 split at h
 · rename_i h1;exact absurd h h1
 rename_i h1
 split at h
 · cases h
 rename_i h2
 split at h
 · cases h
 rename_i h3;rw[if_neg h1,if_neg h2,if_neg h3];exact⟨Decidable.not_not.1 h1,by omega,by omega,rfl⟩
theorem uA {c:eB}:dP c=0↔aP c=0∧c.doing=0:=by
 unfold dP;by_cases h1:aP c≠0
 · rw[if_pos h1];exact⟨fun h=>absurd h h1,fun h=>absurd h.1 h1⟩
 rw[if_neg h1];have h1:=Decidable.not_not.1 h1;by_cases h2:c.doing≠0
 · rw[if_pos h2];exact⟨fun h=>absurd h (by decide),fun h=>absurd h.2 h2⟩
 rw[if_neg h2];exact⟨fun _=>⟨h1,Decidable.not_not.1 h2⟩,fun _=>rfl⟩
theorem AG {c:eB}{y:aL}(h:(fI c y).2=0):aP c=0∧c.doing=0∧aG y=0∧y.kind≠0∧(fI c y).1=⟨c.epoch,1,y,c.at_,c.link,c.played,c.b⟩:=by
 unfold fI at h⊢
 split at h
 · rename_i h1;exact absurd h h1
 rename_i h1;obtain⟨g1,g2⟩:=uA.1 (Decidable.not_not.1 h1)
 split at h
 · rename_i h2;exact absurd h h2
 rename_i h2
 split at h
 · cases h
 rename_i h3;rw[if_neg h1,if_neg h2,if_neg h3];exact⟨g1,g2,Decidable.not_not.1 h2,h3,rfl⟩
theorem BB {c:eB}{me job t:Int}(h:(iQ c me job t).2=0):∃j,j∈c.b.jobs∧j.id=job∧j.next≤t∧iQ c me job t=fI c ⟨3,job,0,j.next,me⟩∧(fI c ⟨3,job,0,j.next,me⟩).2=0:=by
 unfold iQ at h⊢
 split at h
 · rename_i h1;exact absurd h h1
 rename_i h1
 split at h
 · cases h
 rename_i h2
 split at h
 · cases h
 rename_i h3;rw[if_neg h1,if_neg h2,if_neg h3];unfold nX at h⊢
 cases hf:c.b.jobs.find? (fun j=>decide (j.id=job))with
 |none=>rw[hf]at h;cases h
 |some j =>
   rw[hf]at h;dsimp only at h⊢;have hm:=List.mem_of_find?_eq_some hf;have hp:=List.find?_some hf;by_cases h4:j.next≤t
   · rw[if_pos h4]at h⊢;exact⟨j,hm,by simpa using hp,h4,rfl,h⟩
   rw[if_neg h4]at h;cases h
theorem yM {c:eB}{v:Int}(h:(eU c v).2=0):aP c=0∧c.doing=1∧0≤v∧v<60∧(eU c v).1=⟨c.epoch,2,c.e,v,0,c.played,c.b⟩:=by
 unfold eU at h⊢
 split at h
 · rename_i h1;exact absurd h h1
 rename_i h1
 split at h
 · cases h
 rename_i h2
 split at h
 · cases h
 rename_i h3;rw[if_neg h1,if_neg h2,if_neg h3];have hc:=Decidable.not_not.1 h1;have hd:=Decidable.not_not.1 h2;have:=(bK.1 hc).2.2.1 (by omega);exact⟨hc,hd,by omega,by omega,by dsimp only;rw[this.2]⟩
theorem AD {c:eB}{v:Int}(h:(jC c v).2=0):aP c=0∧c.doing=0∧0≤v∧v<60∧(jC c v).1=⟨c.epoch,2,bP,v,0,c.played,c.b⟩:=by
 unfold jC at h⊢
 split at h
 · rename_i h1;exact absurd h h1
 rename_i h1;obtain⟨g1,g2⟩:=uA.1 (Decidable.not_not.1 h1)
 split at h
 · cases h
 rename_i h3;rw[if_neg h1,if_neg h3];have hc:=bK.1 g1;have:=hc.2.2.1 (by omega);exact⟨g1,g2,by omega,by omega,by dsimp only;rw[this.2,hc.2.2.2.1 g2]⟩
theorem yC {c : eB}{y : aL}(h : (cZ c y).2 = 0) : aP c = 0 ∧ c.doing = 2 ∧ aG y = 0 ∧
    ((y≠c.e∧c.e.kind≠0∧(cZ c y).1=⟨c.epoch,1,c.e,0,0,c.played,c.b⟩) ∨
     ((y=c.e∨c.e.kind=0)∧c.link=2∧(cZ c y).1=⟨c.epoch,0,bP,0,0,c.played,c.b⟩) ∨
     ((y=c.e∨c.e.kind=0)∧c.link<2∧(cZ c y).1=⟨c.epoch,2,y,c.at_,c.link+1,c.played,c.b⟩)):=by
 unfold cZ at h⊢
 split at h
 · rename_i h1;exact absurd h h1
 rename_i h1;have hc:=Decidable.not_not.1 h1
 split at h
 · rename_i h2;exact absurd h h2
 rename_i h2
 split at h
 · cases h
 rename_i h3;have hd:=Decidable.not_not.1 h3;rw[if_neg h1,if_neg h2,if_neg h3];refine⟨hc,hd,Decidable.not_not.1 h2,?_⟩;by_cases h4:y≠c.e∧c.e.kind≠0
 · rw[if_pos h4];exact .inl ⟨h4.1,h4.2,rfl⟩
 rw[if_neg h4]
 have h5:y=c.e∨c.e.kind=0:=by
  by_cases h6:y=c.e
  · exact .inl h6
  exact .inr (Decidable.byContradiction fun h7=>h4 ⟨h6,h7⟩)
 right;by_cases h6:c.link+1=3
 · rw[if_pos h6];exact .inl ⟨h5,by omega,rfl⟩
 rw[if_neg h6];have:=(bK.1 hc).1;exact .inr ⟨h5,by omega,by rw[hd]⟩
theorem gS.learn {ns:List iC}{c:eB}{v:Int}(hc:gS ns c)(h:(fP c v).2=0):gS ns (fP c v).1:=by
 obtain⟨h1,h2,h3,e⟩:=yN h;rw[e];have g:=bK.1 h1;exact⟨bK.2 ⟨by dsimp only;omega,g.2⟩,hc.2⟩
theorem gS.want {ns:List iC}{c:eB}{y:aL}(h:(fI c y).2=0):gS ns (fI c y).1:=by
 obtain⟨h1,h2,h3,h4,e⟩:=AG h;rw[e];have g:=bK.1 h1;have g3:=g.2.2.1 (by omega);exact⟨bK.2 ⟨by dsimp only;omega,h3,fun _=>g3,by simp,fun _=>h4,g.2.2.2.2.2⟩,by simp⟩
theorem gS.place {ns:List iC}{c:eB}{v:Int}(h:(eU c v).2=0):gS ns (eU c v).1:=by
 obtain⟨h1,h2,h3,h4,e⟩:=yM h;rw[e];have g:=bK.1 h1;exact⟨bK.2 ⟨by dsimp only;omega,g.2.1,by simp,by simp,by simp,g.2.2.2.2.2⟩,by simp⟩
theorem gS.fill {ns:List iC}{c:eB}{v:Int}(h:(jC c v).2=0):gS ns (jC c v).1:=by
 obtain⟨h1,h2,h3,h4,e⟩:=AD h;rw[e];have g:=bK.1 h1;exact⟨bK.2 ⟨by dsimp only;omega,show aG bP=0 by decide,by simp,by simp,by simp,g.2.2.2.2.2⟩,by simp⟩
theorem gS.play {ns:List iC}{c:eB}{y:aL}(hc:gS ns c)(h:(iP c y).2=0):gS ns (iP c y).1:=by
 obtain⟨h1,h2,h3,e,h4⟩:=AZ h;rw[e];exact⟨h4,hc.2⟩
theorem gS.new {ns:List iC}:gS ns iD:=⟨by decide,fun h=>by simp[iD]at h⟩
theorem gS.heard {ns:List iC}{c:eB}{y:aL}(h:(cZ c y).2=0)(hy:bF (aV ns c.link.toNat).u.cells c.at_.toNat=y):gS ns (cZ c y).1:=by
 obtain⟨h1,h2,h3,h4⟩:=yC h;have g:=bK.1 h1;rcases h4 with ⟨a,b,e⟩| ⟨a,b,e⟩| ⟨a,b,e⟩
 · rw[e];exact⟨bK.2 ⟨by dsimp only;omega,g.2.1,by simp,by simp,fun _=>b,g.2.2.2.2.2⟩,by simp⟩
 · rw[e];exact⟨bK.2 ⟨by dsimp only;omega,show aG bP=0 by decide,by simp,by simp,by simp,g.2.2.2.2.2⟩,by simp⟩
 rw[e];refine⟨bK.2 ⟨by dsimp only;omega,h3,by simp,by simp,by simp,g.2.2.2.2.2⟩,fun _ _=>?_⟩;dsimp only;have:(c.link+1).toNat-1=c.link.toNat:=by omega
 rw[this];exact hy
/-! ### Nodes -/
theorem NG {p u:List aL}{ep:Int}{a:Nat}{e:aL}(hl:a<u.length)(h:fO p u)(he:bF p a=e):fO p (JJ ⟨ep,u⟩ a e).cells:=fun k hk=>by
 unfold JJ;dsimp only;rw[xF hl]
 split
 · rename_i h5;subst h5;exact .inr he
 exact h k hk
theorem EA {n:iC}(h:(bH n).2=0)(hu:n.up=true):gr n=n.u∧∃l,fM n.u n.d l:=by
 obtain⟨l,m,hI⟩:=fX h;obtain⟨_,h2,h3⟩:=hI.holds hu;exact⟨h2,l,h3⟩
theorem fM.gr {u:eM}{d:iM}{l:List dI}(h:fM u d l)(up:Bool):bH ⟨u,d,up⟩=(u,0):=(h.nodI up).chkN
theorem xT {n:iC}{r:dI}(h:(bH n).2=0)(hu:n.up=true)(hr:(bU n.u r).2=0):(cT n r).2=0∧(cT n r).1.u=(bU n.u r).1∧(cT n r).1.up=true∧bH (cT n r).1=((bU n.u r).1,0):=by
 obtain⟨_,l,hl⟩:=EA h hu;obtain⟨e,hl'⟩:=hl.write hr;rw[e];exact⟨rfl,rfl,hu,hl'.gr _⟩
theorem ME {n:iC}{r:dI}(h:(cT n r).2=0):(bU n.u r).2=0:=by
 unfold cT at h
 split at h
 · rename_i h1;exact absurd h h1
 rename_i h1;exact Decidable.not_not.1 h1
theorem JG {n:iC}{r:dI}{k:Int}(h:(bH n).2=0)(hu:n.up=true)(hr:(bU n.u r).2=0):(iH n r k).2=0∧(iH n r k).1.u=n.u∧(iH n r k).1.up=false∧(bH (iH n r k).1=(n.u,0)∨bH (iH n r k).1=((bU n.u r).1,0)):=by
 obtain⟨_,l,hl⟩:=EA h hu;obtain⟨j,e,hI⟩:=hl.tear hr k;rw[e];refine⟨rfl,rfl,rfl,?_⟩;rcases hI with hI|hI
 · exact .inl hI.chkN
 exact .inr hI.chkN
theorem cQ.unitOk {w:iA}(h:cQ w){k:Nat}(hk:k<3):lF (aV w.n k).u.ep (aV w.n k).u.cells:=by
 obtain⟨l,m,hI⟩:=fX (h.node k hk);exact hI.good.1
theorem cQ.write {w : iA}(h : cQ w){k : Nat}(hk : k < 3){r : dI}(hu : (aV w.n k).up = true)(hr : (bU (aV w.n k).u r).2 = 0)(hf : 0 < k → fO (aV w.n (k-1)).u.cells (bU (aV w.n k).u r).1.cells) :
    cQ (Go.Proofs.YtpfkagghooihfaaGreatDoor.setN w k (cT (aV w.n k) r).1):=by
 obtain⟨h1,h2,h3,h4⟩:=xT (h.node k hk) hu hr;refine h.setN hk (by rw[h4]) (fun h0=>?_) (by rw[h2];exact wG hr);unfold gr;rw[h4];exact hf h0
theorem cQ.tear {w : iA}(h : cQ w){k : Nat}(hk : k < 3){r : dI}{n : Int}(hu : (aV w.n k).up = true)(hr : (bU (aV w.n k).u r).2 = 0)(hf : 0 < k → fO (aV w.n (k-1)).u.cells (bU (aV w.n k).u r).1.cells) :
    cQ (Go.Proofs.YtpfkagghooihfaaGreatDoor.setN w k (iH (aV w.n k) r n).1):=by
 obtain⟨h1,h2,h3,h4⟩:=JG (k:=n) (h.node k hk) hu hr;obtain⟨hg,_⟩:=EA (h.node k hk) hu;refine h.setN hk (by rcases h4 with h4|h4<;>rw[h4]) (fun h0=>?_) (by rw[h2];exact lA.Zz _);unfold gr;rcases h4 with h4|h4
 · rw[h4];have:=h.fit (k-1) (by omega);rw[show k-1+1=k by omega,hg]at this;exact this
 rw[h4];exact hf h0
theorem cQ.fitPut {w : iA}(h : cQ w){k a : Nat}{e : aL}(hk : k < 3)(ha : a < 60)(hu : (aV w.n k).up = true)(he : 0 < k → bF (aV w.n (k-1)).u.cells a = e)(h0 : 0 < k) :
    fO (aV w.n (k-1)).u.cells (JJ (aV w.n k).u a e).cells:=by
 obtain⟨hg,_⟩:=EA (h.node k hk) hu;have:=h.fit (k-1) (by omega);rw[show k-1+1=k by omega,hg]at this;exact NG (u:=(aV w.n k).u.cells) (ep:=(aV w.n k).u.ep) (by have:=(h.unitOk hk).len;omega) this (he h0)
theorem cQ.link {w:iA}{x:qY}(h:cQ w)(hi:x.client.toNat<3)(hx:(kP w x).2=0):cQ (kP w x).1:=by
 obtain⟨i,k,a,c,n,r,rfl,rfl,hd,hlk,hk,rfl,hu,hat,ha,he,hep,hfr,rfl,hcase⟩:=KY h hi hx;rcases hcase with ⟨h4,h5,⟨h6,e⟩| ⟨h6,h7,e⟩⟩| ⟨h4,hnx,hh⟩
 · rw[e];exact h
 · rw[e];refine h.setC (gS.heard h7 ?_);rw[hlk,hat];rfl
 have hr:(bU (aV w.n k).u ⟨1,a,0,(cG w.c x.client.toNat).e⟩).2=0:=by rw[hnx]
 have hf:0<k→fO (aV w.n (k-1)).u.cells (bU (aV w.n k).u ⟨1,a,0,(cG w.c x.client.toNat).e⟩).1.cells:=fun h0=>by
  rw[hnx];exact h.fitPut hk ha hu hfr h0
 rcases hh with ⟨h6,e⟩| ⟨h6,e⟩| ⟨h5,h6,h7,e⟩
 · rw[e];exact h.tear hk hu hr hf
 · rw[e];exact h.write hk hu hr hf
 rw[e];refine(h.write hk hu hr hf).setC (gS.heard h7 ?_);rw[hlk,hat]
 show bF (aV (w.n.set k (cT (aV w.n k) _).1) k).u.cells a=_
 have hl:=h.n3;rw[jV (by omega),if_pos rfl,(xT (h.node k hk) hu hr).2.1,hnx]
 show bF ((aV w.n k).u.cells.set a _) a=_
 rw[xF (by have:=(h.unitOk hk).len;omega),if_pos rfl]
theorem cQ.happen {w:iA}{x:qY}(h:cQ w)(hx:(aI w x).2=0):cQ (aI w x).1:=by
 have hl:=h.n3;have hcl:=h.c3;rcases GX hx with ⟨_,h1,h2,e⟩| ⟨_,h1,h2,e⟩| ⟨k,hk,hn,hh⟩| ⟨i,hi,hc,hh⟩
 · rw[e];exact⟨h.n3,h.c3,h1,h2,h.t0,h.t1,h.node,h.fit,h.cli⟩
 · rw[e];exact⟨h.n3,h.c3,h.tip0,h.tip1,by have:=h.t0;dsimp only;omega,by dsimp only;omega,h.node,h.fit,h.cli⟩
 · have hnk:=h.node k hk;obtain⟨l,m,hI⟩:=fX hnk
   have hfit:0<k→fO (aV w.n (k-1)).u.cells (gr (aV w.n k)).cells:=fun h0=>by
    have:=h.fit (k-1) (by omega);rwa[show k-1+1=k by omega]at this
   rcases hh with ⟨_,h2,e⟩| ⟨_,h2,h3,e⟩| ⟨_,h2,h3,e⟩| ⟨_,h2,i,hi,_,h3,e⟩
   · rw[e];have hd:=hI.down.chkN;refine h.setN hk (by rw[hd]) (fun h0=>?_) (lA.Zz _);unfold gr;rw[hd];exact hfit h0
   · rw[e,hI.boot];have hd:=hI.gHolds.gr true;refine h.setN hk (by dsimp only;rw[hd]) (fun h0=>?_) hI.upon;dsimp only;unfold gr;rw[hd];exact hfit h0
   · rw[e];have hr:=ME h3;refine h.write hk h2 hr fun h0=>?_
     obtain⟨e1,_⟩:=rD hr rfl;rw[e1];have:=hfit h0;rw[(EA hnk h2).1]at this;exact this
   rw[e];exact h.setC ((h.cli i hi).learn h3)
 rcases hh with ⟨_,h1,e⟩| ⟨_,_,h1,e⟩| ⟨_,h1,e⟩| ⟨_,h2,h1,e⟩| ⟨_,h1,e⟩| ⟨_,h1,e⟩| ⟨_,e⟩
 · rw[e];exact h.link (by omega) h1
 · rw[e];exact h.setC (gS.want h1)
 · obtain⟨j,_,_,_,e2,h3⟩:=BB h1;rw[e,e2];exact h.setC (gS.want h3)
 · rw[e];have h3:=h.tip0;have h4:=h.tip1;have h5:=h.setC (i:=i) (gS.place (ns:=w.n) h1);exact⟨h5.n3,h5.c3,by dsimp only;omega,by dsimp only;omega,h.t0,h.t1,h5.node,h5.fit,h5.cli⟩
 · rw[e];exact h.setC (gS.fill h1)
 · rw[e];refine h.setC ?_;unfold pA at h1⊢
   split at h1
   · cases h1
   rename_i g1
   split at h1
   · cases h1
   rename_i g2
   split at h1
   · rename_i g3;exact absurd h1 g3
   rename_i g3;rw[if_neg g1,if_neg g2,if_neg g3];exact(h.cli i hi).play h1
 rw[e];exact h.setC gS.new
theorem cQ.step {w:iA}{x:qY}(h:cQ w):cQ (uH w x):=by
 unfold uH
 split
 · rename_i hx;exact h.happen hx
 exact h
theorem cQ.run {l:List qY}:∀ {w:iA},cQ w→cQ (kM w l).1:=by
 induction l with
 |nil=>exact fun h=>h
 |cons x l ih=>exact fun h=>ih h.step
end
section
open Go.ChangeShapes Go.WideShapes Go.ChangeAt Go.RowKit Go.Deep Go.Joins
theorem sE:prog.cellsOf 68=12:=by kernel_rfl
set_option maxRecDepth 100000 in
theorem AO {w : World}{cs : List Value}(h : iG w 68 cs) : ∃ (c : eB)(A : Option Addr)(n k : Nat)(A' : Option Addr)(m d : Nat),
    cs=[.int .i64 c.epoch,.int .i64 c.doing,.int .i64 c.e.kind,.int .i64 c.e.job,.int .i64 c.e.every,.int .i64 c.e.time,.int .i64 c.e.client,.int .i64 c.at_,.int .i64 c.link,.int .i64 c.played,.slice A n k,.slice A' m d] ∧
    n≤k∧k≤maxLen∧m≤d∧d≤maxLen∧pH c.epoch∧pH c.doing∧(pH c.e.kind∧pH c.e.job∧pH c.e.every∧pH c.e.time∧pH c.e.client)∧pH c.at_∧pH c.link∧pH c.played ∧
    S w 3 A n (c.b.jobs.map bX)∧S w 3 A' m (c.b.rung.map dN):=by
 obtain⟨hl,hf⟩:=dQ underlying68 h;rw[sE]at hl
 match cs,hl with
 | [c0,c1,c2,c3,c4,c5,c6,c7,c8,c9,c10,c11],_ =>
   simp only[sZ,jQ,lS,vU]at hf;obtain⟨h0,h1,h2,h3,h4,h5,h6,_⟩:=hf;obtain⟨z0,e0,i0⟩:=cB h0;obtain⟨z1,e1,i1⟩:=cB h1;obtain⟨x,e2,i2⟩:=pD h2;obtain⟨z3,e3,i3⟩:=cB h3;obtain⟨z4,e4,i4⟩:=cB h4;obtain⟨z5,e5,i5⟩:=cB h5;obtain⟨A,n,k,A',m,d,b,e6,hnc,hc,hmd,hd,hR,hR',hs,hs'⟩:=GU h6;simp[bA]at e0 e1 e2 e3 e4 e5 e6;refine⟨⟨z0,z1,x,z3,z4,z5,b⟩,A,n,k,A',m,d,?_,hnc,hc,hmd,hd,i0,i1,i2,i3,i4,i5,hs,hs'⟩;obtain⟨rfl,rfl,rfl,rfl,rfl⟩:=e2;obtain⟨rfl,rfl⟩:=e6;subst e0 e1 e3 e4 e5;rfl
end
section
/-! ### WorldParts -/
/-! ### WorldKeeps -/
structure qZ (w y:iA)(client:Int):Prop where
 time:w.time≤y.time
 cl:∀k,k<3→cG y.c k≠cG w.c k→(k:Int)=client
 one:∃k0,k0<3∧∀k,k≠k0→aV y.n k=aV w.n k
 upon:∀k,lA (aV w.n k).u (aV y.n k).u
theorem qZ.setN {w:iA}{k:Nat}{n':iC}{cl:Int}(hl:w.n.length=3)(hk:k<3)(hu:lA (aV w.n k).u n'.u):qZ w (setN w k n') cl:=by
 refine⟨Int.le_refl _,fun j _ h=>absurd rfl h,⟨k,hk,fun j hj=>?_⟩,zH (by omega) hu⟩
 show aV (w.n.set k n') j=_
 rw[jV (by omega),if_neg hj]
theorem qZ.setC {w y:iA}{i:Nat}{c':eB}{cl:Int}(h:qZ w y cl)(hi:(i:Int)=cl):qZ w (setC y i c') cl:=by
 refine⟨h.time,fun j hj hne=>?_,h.one,h.upon⟩;by_cases hji:j=i
 · rw[hji];exact hi
 refine h.cl j hj fun e=>hne ?_
 show cG (y.c.set i c') j=_
 rw[←e];unfold cG;rw[List.getElem?_set,if_neg (Ne.symm hji)]
theorem qZ.Zz {w:iA}{cl:Int}:qZ w w cl:=⟨Int.le_refl _,fun _ _ h=>absurd rfl h,⟨0,by omega,fun _ _=>rfl⟩,fun _=>lA.Zz _⟩
/-! ### WorldStands -/
/-! ### WorldDeaf,WorldTorn -/
structure QM (w:iA)(i k a:Nat):Prop where
 i3:i<3
 k3:k<3
 a6:a<60
 doing:(cG w.c i).doing=2
 link:(cG w.c i).link=k
 at_:(cG w.c i).at_=a
 up:(aV w.n k).up=true
 ep:(cG w.c i).epoch=(aV w.n k).u.ep
 front:0<k→bF (aV w.n (k-1)).u.cells a=(cG w.c i).e
end
section
def QA (k c:Int):qY:=⟨k,c,0,0,0,bP⟩
def KU:List qY:=[QA 3 0,QA 4 0,QA 4 0,QA 4 0,QA 7 0]
def QQ:aL:=⟨1,2,5,3,0⟩
def OT:qY:=⟨1,0,0,0,0,QQ⟩
def PO:List qY:=[⟨2,0,0,2,0,bP⟩,⟨11,0,4,0,0,bP⟩,⟨2,0,0,2,0,bP⟩]
def KN:List qY:=[OT] ++KU ++PO ++KU
def QE:iA:=(tS qV KN).1
theorem JA:(tS qV KN).2=([0,0,0,0,0,0,5,0,0,0,0,0,0,0],0):=by decide +kernel
theorem xH:QE.tip=2∧(cG QE.c 0).played=2∧(cG QE.c 0).b.rung=[⟨2,3,0⟩]:=by decide +kernel
end
end Go.Proofs.YtpfkagghooihfaaGreatDoor
