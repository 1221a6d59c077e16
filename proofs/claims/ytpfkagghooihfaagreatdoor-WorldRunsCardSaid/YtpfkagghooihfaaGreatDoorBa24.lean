/- Part 24. -/
import Derived.Test.YtpfkagghooihfaaGreatDoorBa22
import Derived.Test.YtpfkagghooihfaaGreatDoorBa19
import Derived.Test.YtpfkagghooihfaaGreatDoorBa06
import Derived.Test.YtpfkagghooihfaaGreatDoorBa20
namespace Go.Proofs.YtpfkagghooihfaaGreatDoor
set_option linter.unusedSimpArgs false
set_option linter.unusedVariables false
set_option maxHeartbeats 8000000
set_option maxRecDepth 100000
open Go.Proofs.Tryz
open Go.RowKit
section
attribute [local go_sem ↓] Go.wp_at_zero Go.wp_at_succ
theorem qR (A A' : Option Addr)(n c m d : Nat)(x : iM)(w : World)(E : fR w)(K : DK w A n c A' m d x) :
    Calls prog 19 #[.agg #[.slice A n c,.slice A' m d]] w fun e w'=>e=.returned (.int .i64 (bE x))∧aA w w':=by
 obtain⟨q,hq⟩:∃q,q=bE x:=⟨_,rfl⟩
 rw[←hq];have hn:=K.n_eq;have hm:=K.m_eq;have hq0:q=if 30000<n∨30000<n+m then 2 else(bS x.safe 160).2.2:=by rw[hq,hn,hm];rfl
 have hnb:n≤9223372036854775807:=by have:=K.n_le;have:=K.c_le;unfold maxLen at *;omega
 have hmb:m≤9223372036854775807:=by have:=K.m_le;have:=K.d_le;unfold maxLen at *;omega
 have HN:=aH hn;have HM:=aH hm;have HQ:=aH hq0;clear hn hm hq hq0;go_enter func19,ntmps19;go_upto_region 1 with fail
 have on:aA w (w.alloc (Obj.cells #[.slice A n c,.slice A' m d] 53)):=(aA.Zz w).new _;have B:Bx (w.alloc (Obj.cells #[.slice A n c,.slice A' m d] 53)) w.heap.size [.slice A n c,.slice A' m d]:=Bx.Zt _ _ _;generalize(w.alloc (Obj.cells #[.slice A n c,.slice A' m d] 53))=w1 at *;generalize w.heap.size=z at B⊢;obtain⟨b0,b1⟩:=B.p2;by_cases h1:30000<n
 · have hd:decide ((30000:Int)<(n:Int))=true:=by simp;omega
   have h1':(30000:Int)<(n:Int):=by omega
   have hqq:q=2:=by rw[HQ.out,if_pos (.inl h1)]
   subst hqq;clear h1;go_wp2_with fail;go_ret;exact⟨aO rfl,on⟩
 have h1':¬ (30000:Int)<(n:Int):=by omega
 have hw:wrap64 ((30000:Int)-(n:Int))=30000-(n:Int):=by unfold wrap64;omega
 by_cases h2:30000<n+m
 · have h2':(30000:Int)-(n:Int)<(m:Int):=by omega
   have hqq:q=2:=by rw[HQ.out,if_pos (.inr h2)]
   subst hqq;clear h1 h2;go_wp2_with fail;go_ret;exact⟨aO rfl,on⟩
 have h2':¬ (30000:Int)-(n:Int)<(m:Int):=by omega
 have hqq:q=(bS x.safe 160).2.2:=by rw[HQ.out,if_neg (by omega)]
 have cv:=jT (c:=c) (K.safe.oe on);have E1:=E.oe on;have hsl:x.safe.length≤30000:=by rw[←HN.out];omega
 have HQQ:=aH hqq;have ON:=aH on;clear h1 h2 hqq on;go_wp2_with fail;refine Calls.mono (nK x.safe 160 hsl (by omega) _ E1) ?_;rintro e w2⟨A1,n1,c1,rfl,_,b⟩;have ON2:=aH (ON.out.to b);clear b b0 b1 B;rw[show(bS x.safe 160).2.2=q from HQQ.out.symm];go_wp2_with fail;go_ret;exact⟨aO rfl,ON2.out⟩
theorem zR (A A' : Option Addr)(n c m d : Nat)(x : iM)(F F' : Option Addr)(k i l j : Nat)(y : iM)(w : World)(K : DK w A n c A' m d x)(K' : DK w F k i F' l j y) :
    Calls prog 42 #[.agg #[.slice A n c,.slice A' m d],.agg #[.slice F k i,.slice F' l j]] w fun e w'=>e=.returned (.bool (decide (x=y)))∧aA w w':=by
 obtain⟨q,hq⟩:∃q,q=decide (x=y):=⟨_,rfl⟩
 rw[←hq]
 have hq0:q=(decide (x.safe=y.safe)&&decide (x.wait=y.wait)):=by
  rw[hq,Bool.eq_iff_iff]
  cases x;cases y
  simp
 have hnb:n≤9223372036854775807:=by have:=K.n_le;have:=K.c_le;unfold maxLen at *;omega
 have hmb:m≤9223372036854775807:=by have:=K.m_le;have:=K.d_le;unfold maxLen at *;omega
 have HQ:=aH hq0;clear hq hq0;go_enter func42,ntmps42;go_upto_region 1 with fail
 have on:aA w ((w.alloc (Obj.cells #[.slice A n c,.slice A' m d] 53)).alloc (Obj.cells #[.slice F k i,.slice F' l j] 53)):=((aA.Zz w).new _).new _;have B:Bx ((w.alloc (Obj.cells #[.slice A n c,.slice A' m d] 53)).alloc (Obj.cells #[.slice F k i,.slice F' l j] 53)) w.heap.size [.slice A n c,.slice A' m d]:=(Bx.Zt _ _ _).new _
 have B':Bx ((w.alloc (Obj.cells #[.slice A n c,.slice A' m d] 53)).alloc (Obj.cells #[.slice F k i,.slice F' l j] 53)) (w.heap.size+1) [.slice F k i,.slice F' l j]:=by
  have:=Bx.Zt (w.alloc (Obj.cells #[.slice A n c,.slice A' m d] 53)) #[.slice F k i,.slice F' l j] 53;simpa using this
 generalize((w.alloc (Obj.cells #[.slice A n c,.slice A' m d] 53)).alloc (Obj.cells #[.slice F k i,.slice F' l j] 53))=w1 at *;generalize w.heap.size+1=z' at *;generalize w.heap.size=z at B⊢;obtain⟨b0,b1⟩:=B.p2;obtain⟨f0,f1⟩:=B'.p2;have K1:=K.oe on;have K1':=K'.oe on;have ON:=aH on;clear on K K';go_wp2_with fail;refine Calls.mono (kT A F n k c i _ x.safe y.safe _ K1.safe K1'.safe hnb) ?_;rintro e w2⟨rfl,q2,rfl⟩;by_cases h1:x.safe=y.safe
 · have hd:decide (x.safe=y.safe)=true:=by simp[h1]
   have hqq:q=decide (x.wait=y.wait):=by rw[HQ.out,hd,Bool.true_and]
   rw[hd];have HQQ:=aH hqq;clear hd hqq h1;have d1:=b1;have g1:=f1;go_wp2_with fail;refine Calls.mono (kT A' F' m l d j _ x.wait y.wait _ (K1.wait.oe ((aA.Zz _).Zv _)) (K1'.wait.oe ((aA.Zz _).Zv _)) hmb) ?_;rintro e w2⟨rfl,q3,rfl⟩;rw[show decide (x.wait=y.wait)=q from HQQ.out.symm];go_wp2_with fail;go_ret;exact⟨rfl,ON.out.Zv _⟩
 have hd:decide (x.safe=y.safe)=false:=by simp[h1]
 have hqq:q=false:=by rw[HQ.out,hd,Bool.false_and]
 subst hqq;rw[hd];clear hd h1;go_wp2_with fail;go_ret;exact⟨rfl,ON.out.Zv _⟩
/-! ### Bytes of a text -/
theorem EX (s:List UInt8)(cap i:Nat)(hi:i<s.length):(bytesRow ⟨s.toArray⟩ cap)[i]?=some (.int .u8 (s[i].toNat:Int)):=by
 unfold bytesRow;rw[Array.getElem?_append_left (by simp;exact hi)];simp[hi]
theorem CH (s:List UInt8)(w:World):∃c w',(convert 9 51 (dC s)).run prog w=.ok (.slice (some ⟨w.heap.size,0,none⟩) s.length c) w'∧S w' 1 (some ⟨w.heap.size,0,none⟩) s.length (s.map cA)∧aA w w':=by
 have h:=run_bytes_of_string w 9 51 5 ⟨s.toArray⟩ underlying9 underlying51 underlying5;refine⟨_,_,h,?_,((aA.Zz w).draw).new _⟩;refine⟨by simp,by simp[cA],fun hn=>⟨w.heap.size,0,rfl,by simp,fun i j r u hr hu=>?_⟩⟩;rw[List.getElem?_map]at hr
 cases hx:s[i]? with
 |none=>rw[hx]at hr;cases hr
 |some b =>
   rw[hx]at hr;simp only[Option.map_some,Option.some.injEq]at hr;subst hr;obtain⟨hi,rfl⟩:=List.getElem?_eq_some_iff.1 hx
   match j,hu with
   |0,hu =>
     simp only[cA,List.getElem?_cons_zero,Option.some.injEq]at hu;subst hu;have:=EX s (grownCap w (⟨s.toArray⟩:ByteArray).size 0 5) i hi;rw[cell_of_row _ _ _ _ _ _ (mM (w:=w.drew) (k:=w.heap.size) rfl),Nat.zero_add,Nat.mul_one,Nat.add_zero];exact this
   |j+1,hu=>simp[cA]at hu
noncomputable def IX (s:List UInt8)(w:World):World:=w.drew.alloc (.cells (bytesRow ⟨s.toArray⟩ (grownCap w (⟨s.toArray⟩:ByteArray).size 0 5)) 5 ((bytesRow ⟨s.toArray⟩ (grownCap w (⟨s.toArray⟩:ByteArray).size 0 5)).size,(bytesRow ⟨s.toArray⟩ (grownCap w (⟨s.toArray⟩:ByteArray).size 0 5)).size+1))
noncomputable def MI (s:List UInt8)(w:World):Nat:=grownCap w (⟨s.toArray⟩:ByteArray).size 0 5
theorem ES (s:List UInt8)(w:World):(convert 9 51 (dC s)).run prog w=.ok (.slice (some ⟨w.heap.size,0,none⟩) s.length (MI s w)) (IX s w) :=
 run_bytes_of_string w 9 51 5 ⟨s.toArray⟩ underlying9 underlying51 underlying5
theorem jB {w0 w:World}(h:aA w0 w)(s:List UInt8):aA w0 (IX s w):=(h.draw).new _
theorem MF (s:List UInt8){Y X:World}(on:aA (IX s Y) X){k:Nat}(hk:Y.heap.size=k):S X 1 (some ⟨k,0,none⟩) s.length (s.map cA):=by
 obtain⟨c,w',h1,h2,_⟩:=CH s Y;rw[ES]at h1;injection h1 with _ h1;subst h1;subst hk;exact h2.oe on
/-! ### Put,Sync,Recover,as the document has them -/
def OG (w:World)(A:Option Addr)(n:Nat)(q:iM×Int)(e:Ending)(w':World):Prop:=∃F k i F' l j,e=.returned (.tuple #[.agg #[.slice F k i,.slice F' l j],q.2])∧DK w' F k i F' l j q.1∧aA w w'∧((F=A∧k=n)∨aR w.heap.size F)∧aR w.heap.size F'
theorem OG.bad {w w':World}{A:Option Addr}{n:Nat}{q:Int}{v:Value}(h:v=.tuple #[.agg #[Nat,Nat],q])(on:aA w w'):OG w A n (GL,q) (.returned v) w':=⟨none,0,0,none,0,0,by rw[h],DK.Zp _,on,.inr (aR.Zp _),aR.Zp _⟩
theorem uO (A A' : Option Addr)(n c m d : Nat)(x : iM)(r : dI)(w : World)(E : fR w)(K : DK w A n c A' m d x)(hok : bE x = 0) :
    Calls prog 52 #[.agg #[.slice A n c,.slice A' m d],.agg #[r.kind,r.at_,r.epoch,r.e.kind,r.e.job,r.e.every,r.e.time,r.e.client]] w (OG w A n (fH x r)):=by
 obtain⟨T,hT⟩:∃T,T=(dS r).1:=⟨_,rfl⟩
 obtain⟨h,hh⟩:∃h,h=(dS r).2:=⟨_,rfl⟩
 obtain⟨q,hq⟩:∃q,q=fH x r:=⟨_,rfl⟩
 rw[←hq];unfold fH at hq;rw[if_neg (by simp[hok]),←hT,←hh,←K.n_eq,←K.m_eq]at hq;have hbd:=GY x hok;rw[←K.n_eq,←K.m_eq]at hbd;have hTl:T.length≤100:=hT▸wW r;have HT:=aH hT;have HH:=aH hh;have HQ:=aH hq;clear hT hh hq hok;go_enter func52,ntmps52;go_upto_region 1 with fail
 have B2:Bx (((w.alloc (Obj.cells #[.slice A n c,.slice A' m d] 53)).alloc (Obj.cells #[r.kind,r.at_,r.epoch,r.e.kind,r.e.job,r.e.every,r.e.time,r.e.client] 90)).alloc (Obj.cells #[Nat,Nat] 53)) w.heap.size [.slice A n c,.slice A' m d]:=by
  have:=(((Bx.Zt w #[.slice A n c,.slice A' m d] 53).new (Obj.cells #[r.kind,r.at_,r.epoch,r.e.kind,r.e.job,r.e.every,r.e.time,r.e.client] 90)).new (Obj.cells #[Nat,Nat] 53))
  simpa using this
 have B3:Bx (((w.alloc (Obj.cells #[.slice A n c,.slice A' m d] 53)).alloc (Obj.cells #[r.kind,r.at_,r.epoch,r.e.kind,r.e.job,r.e.every,r.e.time,r.e.client] 90)).alloc (Obj.cells #[Nat,Nat] 53)) (w.heap.size+1) [r.kind,r.at_,r.epoch,r.e.kind,r.e.job,r.e.every,r.e.time,r.e.client]:=by
  have:=((Bx.Zt (w.alloc (Obj.cells #[.slice A n c,.slice A' m d] 53)) #[r.kind,r.at_,r.epoch,r.e.kind,r.e.job,r.e.every,r.e.time,r.e.client] 90).new (Obj.cells #[Nat,Nat] 53))
  simpa using this
 have Bz:Bx (((w.alloc (Obj.cells #[.slice A n c,.slice A' m d] 53)).alloc (Obj.cells #[r.kind,r.at_,r.epoch,r.e.kind,r.e.job,r.e.every,r.e.time,r.e.client] 90)).alloc (Obj.cells #[Nat,Nat] 53)) (w.heap.size+2) [Nat,Nat]:=by
  have:=(Bx.Zt ((w.alloc (Obj.cells #[.slice A n c,.slice A' m d] 53)).alloc (Obj.cells #[r.kind,r.at_,r.epoch,r.e.kind,r.e.job,r.e.every,r.e.time,r.e.client] 90)) #[Nat,Nat] 53)
  simpa using this
 have on:aA w (((w.alloc (Obj.cells #[.slice A n c,.slice A' m d] 53)).alloc (Obj.cells #[r.kind,r.at_,r.epoch,r.e.kind,r.e.job,r.e.every,r.e.time,r.e.client] 90)).alloc (Obj.cells #[Nat,Nat] 53)):=(((aA.Zz w).new _).new _).new _;generalize(((w.alloc (Obj.cells #[.slice A n c,.slice A' m d] 53)).alloc (Obj.cells #[r.kind,r.at_,r.epoch,r.e.kind,r.e.job,r.e.every,r.e.time,r.e.client] 90)).alloc (Obj.cells #[Nat,Nat] 53))=w1 at *;have hz':w.heap.size≤w.heap.size+2:=by omega
 have hzz:w.heap.size≠w.heap.size+2:=by omega
 have hoA:bQ n (w.heap.size+2) A:=K.safe.Zx (by omega);generalize w.heap.size+2=z at Bz hz' hzz hoA⊢;generalize w.heap.size+1=z3 at B3⊢;generalize hz2:w.heap.size=z2 at B2 hzz⊢;clear hz2;obtain⟨r0,r1,r2,r3,r4,r5,r6,r7⟩:=B3.p8;go_wp2_with fail;refine Calls.mono (AJ r.kind r.at_ r.epoch r.e _ (E.oe on)) ?_;rw[show(dS ⟨r.kind,r.at_,r.epoch,r.e⟩).1=T from HT.out.symm,show(dS ⟨r.kind,r.at_,r.epoch,r.e⟩).2=h from HH.out.symm];rintro e w3⟨rfl,b⟩;replace on:=on.to b;replace B2:=B2.oe b;replace Bz:=Bz.oe b;clear b r0 r1 r2 r3 r4 r5 r6 r7 B3;by_cases hh0:h=0
 · have hq:=HQ.out;rw[if_neg (by simp[hh0])]at hq;replace HQ:=aH hq;subst hh0;clear hq;obtain⟨b0,b1⟩:=B2.p2;by_cases hf:30000<n+m+(T.length+1)
   · have hd:(30000:Int)<(n:Int)+(m:Int)+(T.length:Int)+1:=by omega
     have hq:=HQ.out;rw[if_pos hf]at hq;subst hq;clear hf;go_wp2_with (refine pU Bz [Nat,Nat] 53 iY ?_)
     have hF:=Bz.put (us:=[Nat,Nat]) rfl;have oF:=aA.Zw (b:=z) (o:=0) (us:=[Nat,Nat]) hz' on;generalize World.setCells _ z 0 [.slice none 0 0,.slice none 0 0]=wF at hF oF⊢;go_wp2_with fail;obtain⟨p0,p1⟩:=hF.p2;refine bodyPost_ret (v:=.tuple #[.agg #[Nat,Nat],(2:Int)]) (by simp[results,results52,go_sem,p0,p1]) rfl (OG.bad rfl oF)
   have hd:¬ (30000:Int)≤(n:Int)+(m:Int)+(T.length:Int):=by omega
   have hq:=HQ.out;rw[if_neg hf]at hq;subst hq;have HF2:=aH (show n+m+T.length+1≤30000 by omega);obtain⟨N2,hN2⟩:∃N2:Int,(n:Int)+(m:Int)+(T.length:Int)=N2:=⟨_,rfl⟩
   have hN0:0≤N2:=by omega
   have hN1:N2<30000:=by omega
   clear hf hd;go_upto_region 6 with fail
   have hf2:=HF2.out;clear hN2;have K3:=K.oe on;obtain⟨zb0,zb1⟩:=Bz.p2;have fz0:=Bz.Zy 0;have fz1:=Bz.Zy 1;have hz3:z<w3.heap.size:=Bz.lt;obtain⟨T1,hT1⟩:∃T1,T1=T ++[10]:=⟨_,rfl⟩
   have s1:∀w,(Op.stringOp .add ⟨T.toArray⟩ ⟨#[10]⟩).run prog w=.ok (dC T1) w:=fun w=>by rw[hT1];exact run_string_add_lists w T [10] (by omega) (by simp)
   have hl1:T1.length=T.length+1:=by rw[hT1];simp
   have HT1:=aH hT1;have HL1:=aH hl1;have hl2:m+T1.length≤30000:=by omega
   clear hT1 hl1;have hcv:=ES T1;have hz2w:z2<w3.heap.size:=B2.lt;have g0:=aB (jB (aA.Zz w3).draw T1) b0;have g1:=aB (jB (aA.Zz w3).draw T1) b1;have gs:z2<(IX T1 w3.drew).heap.size:=OL (jB (aA.Zz w3).draw T1) hz2w
   go_region_law (first
       | (go_simp;go_at_call 70;refine Calls.mono (iI _ A' (some ⟨w3.heap.size,0,none⟩) m d T1.length (MI T1 w3.drew) _ 2 (x.wait.map cA) (T1.map cA) (by simp[go_sem];done) (by simp[go_sem];done) (K3.wait.oe (by with_reducible(repeat(first|exact aA.Zz _|refine aA.new ?_ _|refine aA.draw ?_|refine jB ?_ _)))) (MF T1 (by with_reducible(repeat(first|exact aA.Zz _|refine aA.new ?_ _|refine aA.draw ?_|refine jB ?_ _))) (by simp)) (eY _) (eY _) (by omega)) ?_;rintro e wD⟨A5,c5,rfl,own5,bD⟩;replace own5:cH wD w3.heap.size 5 1 (.slice A5 (m+T1.length) c5) (m+T1.length) (x.wait.map cA ++T1.map cA):=own5.lower (Below.size (show aA w3 _ from(by with_reducible(repeat(first|exact aA.Zz _|refine aA.new ?_ _|refine aA.draw ?_|refine jB ?_ _)))));replace bD:aA w3 wD:=aA.to (by with_reducible(repeat(first|exact aA.Zz _|refine aA.new ?_ _|refine aA.draw ?_|refine jB ?_ _))) bD;have BD:=B2.oe bD;obtain⟨q0,q1⟩:=BD.p2;have Z:=Bz.oe bD;obtain⟨p0,p1⟩:=Z.p2;have f0:=Z.Zy 0;have f1:=Z.Zy 1;clear Z)
       | (go_simp;go_at_call 70;refine Calls.mono (iI _ A' (some ⟨w3.heap.size,0,none⟩) m d T1.length (MI T1 w3) _ 2 (x.wait.map cA) (T1.map cA) (by simp[go_sem];done) (by simp[go_sem];done) (K3.wait.oe (by with_reducible(repeat(first|exact aA.Zz _|refine aA.new ?_ _|refine aA.draw ?_|refine jB ?_ _)))) (MF T1 (by with_reducible(repeat(first|exact aA.Zz _|refine aA.new ?_ _|refine aA.draw ?_|refine jB ?_ _))) (by simp)) (eY _) (eY _) (by omega)) ?_;rintro e wD⟨A5,c5,rfl,own5,bD⟩;replace own5:cH wD w3.heap.size 5 1 (.slice A5 (m+T1.length) c5) (m+T1.length) (x.wait.map cA ++T1.map cA):=own5.lower (Below.size (show aA w3 _ from(by with_reducible(repeat(first|exact aA.Zz _|refine aA.new ?_ _|refine aA.draw ?_|refine jB ?_ _)))));replace bD:aA w3 wD:=aA.to (by with_reducible(repeat(first|exact aA.Zz _|refine aA.new ?_ _|refine aA.draw ?_|refine jB ?_ _))) bD;have BD:=B2.oe bD;obtain⟨q0,q1⟩:=BD.p2;have Z:=Bz.oe bD;obtain⟨p0,p1⟩:=Z.p2;have f0:=Z.Zy 0;have f1:=Z.Zy 1;clear Z)
       |fail)
   all_goals
    have HW3:=aH on.size;have on9:=on.to bD;have KS:=(K3.safe.oe bD)
    have HO2:=aH own5;have HON:=aH on9;have HKS:=aH KS;clear own5 on9 KS;go_wp2_with fail;refine bodyPost_ret (v:=.tuple #[.agg #[.slice A n c,.slice A5 (m+T1.length) c5],()]) (by simp[results,results52,go_sem,p0,p1]) rfl ⟨A,n,c,A5,m+T1.length,c5,rfl,⟨S.off (S.off HKS.out (p:=⟨z,0,none⟩) hoA _) (p:=⟨z,1,none⟩) hoA _,?_,K.n_le,K.c_le,HO2.out.Zs,HO2.out.cap_max⟩,(HON.out.put hz' _).put hz' _,.inl ⟨rfl,rfl⟩,HO2.out.fresh HW3.out⟩;rw[show(⟨x.safe,x.wait ++T ++[10]⟩:iM).wait.map cA=x.wait.map cA ++T1.map cA by rw[HT1.out];simp];exact((HO2.out.setCell (p:=⟨z,0,none⟩) hz3 _).setCell (p:=⟨z,1,none⟩) hz3 _).sl
 have hq:=HQ.out;rw[if_pos hh0]at hq;subst hq;have hh1:(h ==0)=false:=by simp[hh0]
 have hh2:(h !=0)=true:=by simp[hh0]
 clear hh0;go_wp2_with (refine pU Bz [Nat,Nat] 53 iY ?_)
 have hF:=Bz.put (us:=[Nat,Nat]) rfl;have oF:=aA.Zw (b:=z) (o:=0) (us:=[Nat,Nat]) hz' on;generalize World.setCells _ z 0 [.slice none 0 0,.slice none 0 0]=wF at hF oF⊢;go_wp2_with fail;obtain⟨p0,p1⟩:=hF.p2;refine bodyPost_ret (v:=.tuple #[.agg #[Nat,Nat],h]) (by simp[results,results52,go_sem,p0,p1]) rfl (OG.bad rfl oF)
theorem zX (A A' : Option Addr)(n c m d : Nat)(x : iM)(w : World)(E : fR w)(K : DK w A n c A' m d x)(hok : bE x = 0) :
    Calls prog 53 #[.agg #[.slice A n c,.slice A' m d]] w (OG w A n (lL x)):=by
 obtain⟨h,hh⟩:∃h,h=bE ⟨x.safe ++x.wait,[]⟩:=⟨_,rfl⟩
 obtain⟨q,hq⟩:∃q,q=lL x:=⟨_,rfl⟩
 rw[←hq];unfold lL at hq;rw[if_neg (by simp[hok]),←hh]at hq;have hbd:=GY x hok;rw[←K.n_eq,←K.m_eq]at hbd;have HH:=aH hh;have HQ:=aH hq;clear hh hq hok;go_enter func53,ntmps53;go_upto_region 1 with fail
 have B2:Bx ((w.alloc (Obj.cells #[.slice A n c,.slice A' m d] 53)).alloc (Obj.cells #[Nat,Nat] 53)) w.heap.size [.slice A n c,.slice A' m d]:=by
  have:=((Bx.Zt w #[.slice A n c,.slice A' m d] 53).new (Obj.cells #[Nat,Nat] 53))
  simpa using this
 have Bz:Bx ((w.alloc (Obj.cells #[.slice A n c,.slice A' m d] 53)).alloc (Obj.cells #[Nat,Nat] 53)) (w.heap.size+1) [Nat,Nat]:=by
  have:=(Bx.Zt (w.alloc (Obj.cells #[.slice A n c,.slice A' m d] 53)) #[Nat,Nat] 53)
  simpa using this
 have on:aA w ((w.alloc (Obj.cells #[.slice A n c,.slice A' m d] 53)).alloc (Obj.cells #[Nat,Nat] 53)):=((aA.Zz w).new _).new _;generalize((w.alloc (Obj.cells #[.slice A n c,.slice A' m d] 53)).alloc (Obj.cells #[Nat,Nat] 53))=w1 at *;have hz':w.heap.size≤w.heap.size+1:=by omega
 have hzz:w.heap.size≠w.heap.size+1:=by omega
 have hwz2:w.heap.size≤w.heap.size:=Nat.le_refl _;generalize w.heap.size+1=z at Bz hz' hzz⊢;generalize hz2:w.heap.size=z2 at B2 hzz⊢;replace hwz2:w.heap.size≤z2:=by omega
 clear hz2;obtain⟨b0,b1⟩:=B2.p2;go_wp2_with fail;refine Calls.mono (iI _ A A' n c m d _ 2 (x.safe.map cA) (x.wait.map cA) (by simp[go_sem]) (by simp[go_sem]) ((K.oe on).safe.new _) ((K.oe on).wait.new _) (eY _) (eY _) (by omega)) ?_;rintro e w3⟨A1,c1,rfl,own1,b⟩;have b3:aA w1 w3:=aA.to ((aA.Zz w1).new _) b;have hz1:z2<w1.heap.size:=B2.lt;have hzw1:z<w1.heap.size:=Bz.lt;have HW1:=aH on.size;have o1:cH w3 w1.heap.size 5 1 (.slice A1 (n+m) c1) (n+m) (x.safe.map cA ++x.wait.map cA):=own1.lower (by simp);replace on:=on.to b3;replace B2:=B2.oe b3;replace Bz:=Bz.oe b3;clear b b3 own1 b0 b1;go_upto_region 2 with (refine pU B2 [.slice A1 (n+m) c1,Nat] 53 iY ?_)
 have B2':=B2.put (us:=[.slice A1 (n+m) c1,Nat]) rfl;have Bz':=Bz.off (b:=z2) (o:=0) (us:=[.slice A1 (n+m) c1,Nat]) (Ne.symm hzz);have on':=aA.Zw (b:=z2) (o:=0) (us:=[.slice A1 (n+m) c1,Nat]) hwz2 on;have o1':=cH.Zw (us:=[.slice A1 (n+m) c1,Nat]) (o:=0) hz1 o1;clear B2 Bz on o1;have B2:=B2';have Bz:=Bz';have on:=on';have o1:=o1';clear B2' Bz' on' o1';generalize World.setCells _ z2 0 [.slice A1 (n+m) c1,.slice none 0 0]=w4 at *;have hz4:z<w4.heap.size:=Bz.lt;obtain⟨b0,b1⟩:=B2.p2;have KK:DK w4 A1 (n+m) c1 none 0 0 ⟨x.safe ++x.wait,[]⟩:=DK.one o1;go_wp2_with fail;refine Calls.mono (qR A1 none (n+m) c1 0 0 ⟨x.safe ++x.wait,[]⟩ _ (E.oe on) KK) ?_;rintro e w6⟨rfl,b⟩;rw[show bE ⟨x.safe ++x.wait,[]⟩=h from HH.out.symm];replace on:=on.to b;replace B2:=B2.oe b;replace Bz:=Bz.oe b;replace KK:=KK.oe b;have HO:=aH (o1.below b);clear b b0 b1 KK o1;by_cases hh0:h=0
 · have hq:=HQ.out;rw[if_neg (by simp[hh0])]at hq;subst hq;subst hh0;obtain⟨b0,b1⟩:=B2.p2;have HOF:=aH (DK.one (cH.Zw (us:=[.slice A1 (n+m) c1,Nat]) (o:=0) hzw1 HO.out));go_wp2_with (refine pU Bz [.slice A1 (n+m) c1,Nat] 53 iY ?_)
   have hF:=Bz.put (us:=[.slice A1 (n+m) c1,Nat]) rfl;have oF:=aA.Zw (b:=z) (o:=0) (us:=[.slice A1 (n+m) c1,Nat]) hz' on;generalize World.setCells _ z 0 [.slice A1 (n+m) c1,.slice none 0 0]=wF at hF oF HOF⊢;go_wp2_with fail;obtain⟨p0,p1⟩:=hF.p2;refine bodyPost_ret (v:=.tuple #[.agg #[.slice A1 (n+m) c1,Nat],()]) (by simp[results,results53,go_sem,p0,p1]) rfl ⟨A1,n+m,c1,none,0,0,rfl,HOF.out,oF,.inr (HO.out.fresh HW1.out),aR.Zp _⟩
 have hq:=HQ.out;rw[if_pos hh0]at hq;subst hq;have hg1:(h ==0)=false:=by simp[hh0]
 have hg2:(h !=0)=true:=by simp[hh0]
 clear hh0;go_wp2_with (refine pU Bz [Nat,Nat] 53 iY ?_)
 have hF:=Bz.put (us:=[Nat,Nat]) rfl;have oF:=aA.Zw (b:=z) (o:=0) (us:=[Nat,Nat]) hz' on;generalize World.setCells _ z 0 [.slice none 0 0,.slice none 0 0]=wF at hF oF⊢;go_wp2_with fail;obtain⟨p0,p1⟩:=hF.p2;refine bodyPost_ret (v:=.tuple #[.agg #[Nat,Nat],h]) (by simp[results,results53,go_sem,p0,p1]) rfl (OG.bad rfl oF)
end
section
theorem GD (c:eB)(me job t:Int):iQ c me job t=if dP c≠0 then(cS,dP c)else if t<0∨100000<t then(cS,3)else nX c me job t:=by
 unfold iQ dP;by_cases h:aP c=0
 · by_cases hd:c.doing=0
   · simp[h,hd]
   simp[h,hd]
 simp[h]
theorem ML {l:List dB}{x:dB}{job:Int}(hp:l.Pairwise (fun a c=>a.id<c.id))(hx:x∈l)(he:x.id=job):l.find? (fun j=>decide (j.id=job))=some x:=by
 induction l with
 |nil=>cases hx
 |cons y l ih =>
   obtain⟨h1,h2⟩:=List.pairwise_cons.1 hp;rcases List.mem_cons.1 hx with rfl|hx
   · simp[he]
   have:=h1 x hx;rw[List.find?_cons_of_neg (by simp;omega)];exact ih h2 hx
theorem LJ {c:eB}{me job t:Int}{x:dB}(hg:nZ c.b)(hx:x∈c.b.jobs)(ht:x.next≤t)(he:x.id=job):nX c me job t=fI c ⟨3,job,0,x.next,me⟩:=by
 unfold nX;rw[ML hg.ord hx he];dsimp only;rw[if_pos ht]
theorem JX {c:eB}{me job t:Int}(h:∀y∈c.b.jobs,y.next≤t→y.id≠job):nX c me job t=(cS,5):=by
 unfold nX
 split
 · rename_i j hj;have h1:=List.mem_of_find?_eq_some hj;have h2:=List.find?_some hj;rw[if_neg];intro h3;exact h j h1 h3 (by simpa using h2)
 rfl
theorem CE (v:CV)(me job t:Int)(w:World)(I:v.In w):Calls prog 99 #[.agg (aE v).toArray,me,job,t] w (oZ w (iQ v.x me job t)):=by
 obtain⟨q,hq⟩:∃q,q=dP v.x:=⟨_,rfl⟩
 obtain⟨r,hr⟩:∃r,r=iQ v.x me job t:=⟨_,rfl⟩
 rw[←hr];rw[GD]at hr;rw[←hq]at hr;have HQ:=aH hq;clear hq;unfold aE;go_enter func99,ntmps99;go_upto_region 1 with fail
 refine kD (v1:=aE v) (v2:=aE zV) rfl rfl fun w1 on B Q=>?_
 generalize hz:w.heap.size=z at B Q⊢;have X:=B.c12;have HR:=aH hr;clear hr;go_wp2_with fail;refine Calls.mono (lY v _ (I.oe on)) ?_;rw[←HQ.out];rintro e w2⟨rfl,ob⟩;replace on:=on.to ob;replace B:=B.oe ob;replace Q:=Q.oe ob;clear ob X;have hr:=HR.out;clear HR;have X:=B.c12;by_cases h0:q≠0
 · rw[if_pos h0]at hr;have HR:=aH hr;have hd:(q !=0)=true:=by simpa using h0
   clear hr h0;go_wp2_with (refine iJ Q ?_)
   exact eI results99 rfl rfl rfl Q rfl on (by omega) HR.out
 rw[if_neg h0]at hr;have hd:(q !=0)=false:=by simpa using h0
 have hq0:q=0:=by simpa using h0
 have hgb:=AE (HQ.out.symm.trans hq0);have HG:=aH hgb;have HR1:=aH hr;clear hgb hr h0 hq0;go_wp2_with fail;refine Calls.mono (KF v.A v.G v.n v.c v.m v.d v.x.b t _ (I.oe on).jobs (I.oe on).rung) ?_;rintro e w3⟨A1,n1,k1,rfl,s1,b3,fA1,_,_⟩;replace on:=on.to b3;replace B:=B.oe b3;replace Q:=Q.oe b3;clear b3 X;have hr:=HR1.out;clear HR1;by_cases hc:t<0∨100000<t
 · rw[if_pos hc]at hr;have hck:jF v.x.b t=3:=by unfold jF;rw[if_neg (by simp[fE.2 HG.out]),if_pos hc]
   rw[hck];have HR:=aH hr;clear hr hc s1 fA1 hck;go_wp2_with (refine iJ Q ?_)
   exact eI results99 rfl rfl rfl Q rfl on (by omega) HR.out
 rw[if_neg hc]at hr;have hck:jF v.x.b t=0:=by unfold jF;rw[if_neg (by simp[fE.2 HG.out]),if_neg hc]
 rw[hck,if_pos rfl]at s1;rw[hck];obtain⟨dl,hdl⟩:∃dl,dl=FT v.x.b.jobs t:=⟨_,rfl⟩
 rw[←hdl]at s1;have hlen:dl.length=n1:=by have:=s1.len;simpa using this
 have hn6:n1≤6:=by have h1:=MH v.x.b.jobs t;have h2:=HG.out.nj;rw[←hdl]at h1;omega
 have HDL:=aH hdl;have HRM:=aH hr;have HLN:=aH hlen;clear hdl hr hc hck hlen fA1;go_wp2_with fail
 go_loopw [34] (fun s wr=>∃k:Nat,k≤n1∧s=.int .i64 k∧Hid (∀ (j:Nat) (y:dB),j<k→dl[j]?=some y→y.id≠job)∧Bx wr z (aE v)∧Bx wr (z+1) (aE zV)∧S wr 3 A1 n1 (dl.map bX)∧aA w wr) (fun s _=>n1-(intOf s).toNat)
 case atStart =>
  exact⟨0,Nat.zero_le _,rfl,(fun j y hj=>by omega:∀ (j:Nat) (y:dB),j<0→dl[j]?=some y→y.id≠job),B,Q,s1,on⟩
 case round =>
  clear B Q s1 on;obtain⟨k,hk,rfl,HN,B,Q,s1,on⟩:=hrel;by_cases hlt:k<n1
  · obtain⟨bb,off,j,rfl,hbb,hj,d0,d1,d2⟩:=s1.atJ hlt;have HJ:=aH hj;clear hj hbb;go_upto_region 10 with fail
    refine aW (v1:=[j.id,j.every,j.next]) rfl fun w4 ob V=>?_
    generalize hv:wr.heap.size=zv at V⊢;replace s1:=S.oe s1 ob;replace on:=on.to ob;replace B:=B.oe ob;replace Q:=Q.oe ob;clear ob d0 d1 d2;obtain⟨v0,v1,v2⟩:=V.p3;by_cases he:j.id=job
    · have hd:(j.id ==job)=true:=by simpa using he
      have hjm:j∈v.x.b.jobs∧j.next≤t:=EC.1 (by rw[←HDL.out];exact List.mem_of_getElem? HJ.out);have hr:=HRM.out;rw[LJ (c:=v.x) HG.out hjm.1 hjm.2 he]at hr;have HR:=aH hr;clear hr he hjm HRM;have X:=B.c12;have hql:=Q.lt;go_wp2_with fail;refine Calls.mono (rT v ⟨3,job,0,j.next,me⟩ _ (I.oe on)) ?_;rw[←HR.out];rintro e w5⟨u,hu,rfl,J,ob,g⟩;have HU:=aH hu;have g':u.fresh w.heap.size:=⟨fun a e=>Nat.le_trans on.size (g.1 a e),fun a e=>Nat.le_trans on.size (g.2 a e)⟩
      have o:u.off (z+1):=⟨g.1.Zx hql,g.2.Zx hql⟩
      replace on:=on.to ob;replace Q:=Q.oe ob;clear s1 X B V v0 v1 v2 ob hu g;go_wp2_with ((with_reducible refine gd ?_);refine oK u Q ?_)
      exact mI results99 rfl rfl rfl Q rfl (u:=u) J o on (by omega) (by rw[HU.out]) g'
    have hd:(j.id ==job)=false:=by simpa using he
    have HE:=aH he;clear he;go_wp2_with fail
    go_roundw
    case measure=>simp[intOf]<;>omega
    case rel =>
     refine⟨k+1,by omega,by go_num,aH fun i y hi hy=>?_,B,Q,s1,on⟩;by_cases hik:i=k
     · subst hik;rw[HJ.out]at hy;cases hy;exact HE.out
     exact HN.out i y (by omega) hy
  have hr:=HRM.out
  rw[JX (c:=v.x) (fun y hy hyt he=>by
   have hm:y∈dl:=by rw[HDL.out];exact EC.2 ⟨hy,hyt⟩
   obtain⟨i,hi,rfl⟩:=List.getElem_of_mem hm
   exact HN.out i _ (by have:=HLN.out;omega) (List.getElem?_eq_getElem hi) he)]at hr
  have HR:=aH hr;have hkn:k=n1:=by omega
  subst hkn;clear hr HRM HN s1;go_wp2_with (refine iJ Q ?_)
  exact eI results99 rfl rfl rfl Q rfl on (by omega) HR.out
end
section
theorem uK (w:World):Calls prog 44 #[] w fun e w'=>e=.returned (.agg #[(1:Int),(),(),(),(),(),(),(),(),(),Nat,Nat])∧aA w w':=by
 go_enter func44,ntmps44;go_wp2_with fail;refine bodyPost_ret (v:=.agg #[(1:Int),(),(),(),(),(),(),(),(),(),Nat,Nat]) (by simp[results,results44,go_sem]) rfl ?_;exact⟨rfl,by repeat(first|exact Below.refl _ _|refine aA.put ?_ (by simp) _|refine aA.new ?_ _)⟩
end
end Go.Proofs.YtpfkagghooihfaaGreatDoor
