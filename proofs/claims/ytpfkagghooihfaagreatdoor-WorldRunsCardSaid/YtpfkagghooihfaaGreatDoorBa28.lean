/- Part 28. -/
import Derived.Test.YtpfkagghooihfaaGreatDoorBa24
import Derived.Test.YtpfkagghooihfaaGreatDoorBa26
import Derived.Test.YtpfkagghooihfaaGreatDoorBa25
namespace Go.Proofs.YtpfkagghooihfaaGreatDoor
set_option linter.unusedSimpArgs false
set_option linter.unusedVariables false
set_option maxHeartbeats 8000000
set_option maxRecDepth 100000
open Go.Proofs.Tryz
open Go.RowKit
section
attribute [local go_sem ↓] Go.wp_at_zero Go.wp_at_succ
theorem aF.litQ {w0 w:World}{L:List (Option xV)}(h:aF w0 w L){i:Nat}(hi:i<L.length){A A':Option Addr}{n c m d:Nat}:aF w0 (w.alloc (.cells #[.slice A n c,.slice A' m d] 57)) (L.set i (some ⟨.slice (some ⟨w.heap.size,0,none⟩) 2 2,57,1,2,[[.slice A n c],[.slice A' m d]]⟩)) :=
 h.lit hi _ _ _ _ _ (by simp) rfl (by simp) (by simp[maxLen])
theorem BJ {w0 w : World}{L : List (Option xV)}(LV : aF w0 w L)(i p s t : Nat)(hi : i < L.length)(A A' : Option Addr)(n c m d : Nat)(Z E : Nat)(l l' : List dI)(hs : L[s]? = some (some ⟨.slice A n c, 90, 8, n, l.map eO⟩))(ht : L[t]? = some (some ⟨.slice A' m d, 90, 8, m, l'.map eO⟩))(hn : n + m ≤ 1000000)
    (hp:L[p]?=some (some ⟨.slice (some ⟨Z,0,none⟩) 2 2,E,1,2,[[.slice A n c],[.slice A' m d]]⟩)) :
    Calls prog 71 #[.slice (some ⟨Z,0,none⟩) 2 2] w fun e w'=>∃A1 c1,e=.returned (.slice A1 (n+m) c1)∧aF w0 w' (L.set i (some ⟨.slice A1 (n+m) c1,90,8,n+m,l.map eO ++l'.map eO⟩)):=by
 obtain⟨b,off,e,_,hc⟩:=(aF.sl LV hp).2.2 (by omega);injection e with e;injection e with e1 e2 _;subst e1;subst e2;refine Calls.mono (yI w A A' n c m d Z 2 (l.map eO) (l'.map eO) (by simpa using hc 0 0 _ _ rfl rfl) (by simpa using hc 1 0 _ _ rfl rfl) (aF.sl LV hs) (aF.sl LV ht) (sI _) (sI _) (by omega)) ?_;rintro e w'⟨A1,c1,rfl,ho,hb⟩;exact⟨A1,c1,rfl,LV.add hi ho hb⟩
def PK (w:World)(q:iM×List dI)(e:Ending)(w':World):Prop:=∃F k i F' l j B b y,e=.returned (.tuple #[.agg #[.slice F k i,.slice F' l j],.slice B b y])∧DK w' F k i F' l j q.1∧S w' 8 B b (q.2.map eO)∧b≤1000∧aA w w'∧aR w.heap.size F∧aR w.heap.size F'
theorem pF (A A' : Option Addr)(n c m d : Nat)(x : iM)(w : World)(E : fR w)(K : DK w A n c A' m d x)(hok : bE x = 0) :
    Calls prog 20 #[.agg #[.slice A n c,.slice A' m d]] w (PK w (iK x,hH x)):=by
 obtain⟨q,hq⟩:∃q,q=(iK x,hH x):=⟨_,rfl⟩
 rw[←hq];have hbd:=GY x hok;rw[←K.n_eq,←K.m_eq]at hbd;have hn:n≤30000:=by omega
 have hm:m≤30000:=by omega
 have hmd:m≤d:=K.m_le;have hdm:d≤9223372036854775807:=by have:=K.d_le;unfold maxLen at this;omega
 have hsl:x.safe.length≤30000:=by rw[←K.n_eq];omega
 have hwl:x.wait.length≤30000:=by rw[←K.m_eq];omega
 obtain⟨l,hl⟩:∃l,l=(bS x.safe 160).1:=⟨_,rfl⟩
 have hl1:l.length≤160:=by rw[hl];exact(fW x.safe 160).2.1
 have HL:=aH hl;unfold iK hH at hq;rw[←hl]at hq;obtain⟨most,hmost⟩:∃most:Nat,most=160-l.length:=⟨_,rfl⟩
 have hmi:(160:Int)-(l.length:Int)=(most:Int):=by omega
 rw[←hmost]at hq;obtain⟨k,hk⟩:∃k,k=(bS x.wait most).1:=⟨_,rfl⟩
 obtain⟨j,hj⟩:∃j,j=(bS x.wait most).2.1:=⟨_,rfl⟩
 have hj1:j≤m:=by
  obtain⟨_,_,h3,h4,_⟩:=fW x.wait most;have h5:=congrArg List.length h4;rw[←h3,←hj,List.length_take]at h5;rw[K.m_eq];omega
 have hk1:l.length+k.length≤160:=by have:=(fW x.wait most).2.1;rw[←hk]at this;omega
 rw[←hk,←hj]at hq;have HQ2:=aH hq;have HK:=aH hk;have HJ:=aH hj;have hm160:most≤160:=by omega
 clear hq hk hj hl hok hmost;go_enter func20,ntmps20;go_upto_region 1 with fail
 have B2:Bx ((w.alloc (Obj.cells #[.slice A n c,.slice A' m d] 53)).alloc (Obj.cells #[Nat,Nat] 53)) w.heap.size [.slice A n c,.slice A' m d]:=by
  have:=((Bx.Zt w #[.slice A n c,.slice A' m d] 53).new (Obj.cells #[Nat,Nat] 53))
  simpa using this
 have Bz:Bx ((w.alloc (Obj.cells #[.slice A n c,.slice A' m d] 53)).alloc (Obj.cells #[Nat,Nat] 53)) (w.heap.size+1) [Nat,Nat]:=by
  have:=(Bx.Zt (w.alloc (Obj.cells #[.slice A n c,.slice A' m d] 53)) #[Nat,Nat] 53)
  simpa using this
 have on:aA w ((w.alloc (Obj.cells #[.slice A n c,.slice A' m d] 53)).alloc (Obj.cells #[Nat,Nat] 53)):=((aA.Zz w).new _).new _;generalize((w.alloc (Obj.cells #[.slice A n c,.slice A' m d] 53)).alloc (Obj.cells #[Nat,Nat] 53))=w1 at *;have hz':w.heap.size≤w.heap.size+1:=by omega
 have hzz:w.heap.size≠w.heap.size+1:=by omega
 have hwz2:w.heap.size≤w.heap.size:=Nat.le_refl _;generalize w.heap.size+1=z at Bz hz' hzz⊢;generalize hz2:w.heap.size=z2 at B2 hzz⊢;replace hwz2:w.heap.size≤z2:=by omega
 clear hz2;obtain⟨b0,b1⟩:=B2.p2;have hs2:=on.size;have E2:=E.oe on;have K2:=K.oe on;have cv:=jT (c:=c) K2.safe;go_wp2_with fail;refine Calls.mono (nK x.safe 160 hsl (by omega) _ E2) ?_;rintro e w3⟨A1,n1,c1,rfl,own1,b⟩;rw[show(bS x.safe 160).1=l from HL.out.symm]at own1;have hn1:n1=l.length:=by have:=own1.2.1;simpa using this.symm
 subst hn1;have LV0:=(aF.start w1 6).add (i:=0) (by simp) own1 b;have LVH:=aH LV0;clear own1 b0 b1 cv LV0;have b0:=aB b (B2.at_ 0 rfl);have b1:=aB b (B2.at_ 1 rfl);have cv:=jT (c:=d) (K2.wait.oe b);have E3:=E2.oe b;clear b;go_wp2_with fail;refine Calls.mono (nK x.wait most hwl (by omega) _ E3) ?_;rintro e w4⟨A2,n2,c2,rfl,own2,b⟩;rw[show(bS x.wait most).1=k from HK.out.symm]at own2;rw[show(bS x.wait most).2.1=j from HJ.out.symm];have hn2:n2=k.length:=by have:=own2.2.1;simpa using this.symm
 subst hn2;have LV:=LVH.out.add (i:=3) (by simp) own2 b;clear b0 b1 cv E3 own2 b LVH;have i0:(0:Int)≤(j:Int):=by omega
 have i1:(j:Int)≤(d:Int):=by omega
 go_upto_region 3 with fail
 have hsj:S w1 1 A' j ((x.wait.take j).map cA):=by rw[List.map_take];exact Sl.take K2.wait hj1
 obtain⟨b0,b1⟩:=B2.p2;have B4:=Bz.oe LV.on;obtain⟨zb0,zb1⟩:=B4.p2;have zf0:=B4.Zy 0;have zf1:=B4.Zy 1;clear B4
 go_region_held3 (fun w'=>w'.cell? ⟨z2,0,none⟩=some (.slice A n c)∧w'.cell? ⟨z2,1,none⟩=some (.slice A' m d))
  (first|exact⟨aB (aF.on (by with_reducible(first|exact LV|exact LV.draw|exact(LV.litP (i:=1) (by simp))|exact(LV.litQ (i:=4) (by simp))|exact(LV.draw.litP (i:=1) (by simp))|exact(LV.draw.litQ (i:=4) (by simp))|exact(LV.litP (i:=1) (by simp)).draw|exact((LV.litP (i:=1) (by simp)).litQ (i:=4) (by simp))|exact(LV.litQ (i:=4) (by simp)).draw|exact((LV.litQ (i:=4) (by simp)).litP (i:=1) (by simp))|exact((LV.draw.litP (i:=1) (by simp)).litQ (i:=4) (by simp))|exact((LV.draw.litQ (i:=4) (by simp)).litP (i:=1) (by simp))|exact((LV.litP (i:=1) (by simp)).draw.litQ (i:=4) (by simp))|exact((LV.litP (i:=1) (by simp)).litQ (i:=4) (by simp)).draw|exact((LV.litQ (i:=4) (by simp)).draw.litP (i:=1) (by simp))|exact((LV.litQ (i:=4) (by simp)).litP (i:=1) (by simp)).draw))) b0,aB (aF.on (by with_reducible(first|exact LV|exact LV.draw|exact(LV.litP (i:=1) (by simp))|exact(LV.litQ (i:=4) (by simp))|exact(LV.draw.litP (i:=1) (by simp))|exact(LV.draw.litQ (i:=4) (by simp))|exact(LV.litP (i:=1) (by simp)).draw|exact((LV.litP (i:=1) (by simp)).litQ (i:=4) (by simp))|exact(LV.litQ (i:=4) (by simp)).draw|exact((LV.litQ (i:=4) (by simp)).litP (i:=1) (by simp))|exact((LV.draw.litP (i:=1) (by simp)).litQ (i:=4) (by simp))|exact((LV.draw.litQ (i:=4) (by simp)).litP (i:=1) (by simp))|exact((LV.litP (i:=1) (by simp)).draw.litQ (i:=4) (by simp))|exact((LV.litP (i:=1) (by simp)).litQ (i:=4) (by simp)).draw|exact((LV.litQ (i:=4) (by simp)).draw.litP (i:=1) (by simp))|exact((LV.litQ (i:=4) (by simp)).litP (i:=1) (by simp)).draw))) b1⟩|exact⟨(((B2.oe (aF.on (by with_reducible(first|exact LV|exact LV.draw|exact(LV.litP (i:=1) (by simp))|exact(LV.litQ (i:=4) (by simp))|exact(LV.draw.litP (i:=1) (by simp))|exact(LV.draw.litQ (i:=4) (by simp))|exact(LV.litP (i:=1) (by simp)).draw|exact((LV.litP (i:=1) (by simp)).litQ (i:=4) (by simp))|exact(LV.litQ (i:=4) (by simp)).draw|exact((LV.litQ (i:=4) (by simp)).litP (i:=1) (by simp))|exact((LV.draw.litP (i:=1) (by simp)).litQ (i:=4) (by simp))|exact((LV.draw.litQ (i:=4) (by simp)).litP (i:=1) (by simp))|exact((LV.litP (i:=1) (by simp)).draw.litQ (i:=4) (by simp))|exact((LV.litP (i:=1) (by simp)).litQ (i:=4) (by simp)).draw|exact((LV.litQ (i:=4) (by simp)).draw.litP (i:=1) (by simp))|exact((LV.litQ (i:=4) (by simp)).litP (i:=1) (by simp)).draw)))).Zr (p:=⟨z,0,none⟩) hzz _).Zr (p:=⟨z,1,none⟩) hzz _).at_ 0 rfl,(((B2.oe (aF.on (by with_reducible(first|exact LV|exact LV.draw|exact(LV.litP (i:=1) (by simp))|exact(LV.litQ (i:=4) (by simp))|exact(LV.draw.litP (i:=1) (by simp))|exact(LV.draw.litQ (i:=4) (by simp))|exact(LV.litP (i:=1) (by simp)).draw|exact((LV.litP (i:=1) (by simp)).litQ (i:=4) (by simp))|exact(LV.litQ (i:=4) (by simp)).draw|exact((LV.litQ (i:=4) (by simp)).litP (i:=1) (by simp))|exact((LV.draw.litP (i:=1) (by simp)).litQ (i:=4) (by simp))|exact((LV.draw.litQ (i:=4) (by simp)).litP (i:=1) (by simp))|exact((LV.litP (i:=1) (by simp)).draw.litQ (i:=4) (by simp))|exact((LV.litP (i:=1) (by simp)).litQ (i:=4) (by simp)).draw|exact((LV.litQ (i:=4) (by simp)).draw.litP (i:=1) (by simp))|exact((LV.litQ (i:=4) (by simp)).litP (i:=1) (by simp)).draw)))).Zr (p:=⟨z,0,none⟩) hzz _).Zr (p:=⟨z,1,none⟩) hzz _).at_ 1 rfl⟩|fail)
  (first
   | (go_at_call 70;refine Calls.mono (rP (by with_reducible(first|exact LV|exact LV.draw|exact(LV.litP (i:=1) (by simp))|exact(LV.litQ (i:=4) (by simp))|exact(LV.draw.litP (i:=1) (by simp))|exact(LV.draw.litQ (i:=4) (by simp))|exact(LV.litP (i:=1) (by simp)).draw|exact((LV.litP (i:=1) (by simp)).litQ (i:=4) (by simp))|exact(LV.litQ (i:=4) (by simp)).draw|exact((LV.litQ (i:=4) (by simp)).litP (i:=1) (by simp))|exact((LV.draw.litP (i:=1) (by simp)).litQ (i:=4) (by simp))|exact((LV.draw.litQ (i:=4) (by simp)).litP (i:=1) (by simp))|exact((LV.litP (i:=1) (by simp)).draw.litQ (i:=4) (by simp))|exact((LV.litP (i:=1) (by simp)).litQ (i:=4) (by simp)).draw|exact((LV.litQ (i:=4) (by simp)).draw.litP (i:=1) (by simp))|exact((LV.litQ (i:=4) (by simp)).litP (i:=1) (by simp)).draw)) 2 1 (by simp) A A' n c j d _ 51 x.safe (x.wait.take j) K2.safe hsj (by omega) (by first|rfl| (simp;done))) ?_;rintro e w6⟨A3,c3,rfl,LV⟩;have Z:=Bz.oe LV.on;obtain⟨p0,p1⟩:=Z.p2;have f0:=Z.Zy 0;have f1:=Z.Zy 1;clear Z)
   | (go_at_call 71;refine Calls.mono (BJ (by with_reducible(first|exact LV|exact LV.draw|exact(LV.litP (i:=1) (by simp))|exact(LV.litQ (i:=4) (by simp))|exact(LV.draw.litP (i:=1) (by simp))|exact(LV.draw.litQ (i:=4) (by simp))|exact(LV.litP (i:=1) (by simp)).draw|exact((LV.litP (i:=1) (by simp)).litQ (i:=4) (by simp))|exact(LV.litQ (i:=4) (by simp)).draw|exact((LV.litQ (i:=4) (by simp)).litP (i:=1) (by simp))|exact((LV.draw.litP (i:=1) (by simp)).litQ (i:=4) (by simp))|exact((LV.draw.litQ (i:=4) (by simp)).litP (i:=1) (by simp))|exact((LV.litP (i:=1) (by simp)).draw.litQ (i:=4) (by simp))|exact((LV.litP (i:=1) (by simp)).litQ (i:=4) (by simp)).draw|exact((LV.litQ (i:=4) (by simp)).draw.litP (i:=1) (by simp))|exact((LV.litQ (i:=4) (by simp)).litP (i:=1) (by simp)).draw)) 5 4 0 3 (by simp) A1 A2 l.length c1 k.length c2 _ 57 l k (by rfl) (by rfl) (by omega) (by first|rfl| (simp;done))) ?_;rintro e w7⟨A5,c5,rfl,LV⟩;have Z:=Bz.oe LV.on;obtain⟨p0,p1⟩:=Z.p2;have f0:=Z.Zy 0;have f1:=Z.Zy 1;clear Z)
   |fail)
 all_goals
  have hz3:z<w1.heap.size:=Bz.lt;have o1:cH _ w1.heap.size 5 1 (.slice A3 (n+j) c3) (n+j) (x.safe.map cA ++(x.wait.take j).map cA):=LV.own 2 _ rfl;have o2:cH _ w1.heap.size 90 8 (.slice A5 (l.length+k.length) c5) (l.length+k.length) (l.map eO ++k.map eO):=LV.own 5 _ rfl;have HW1:=aH on.size;have on9:=on.to LV.on;have HO1:=aH o1;have HO2:=aH o2;have HON:=aH on9;have hq:=HQ2.out;subst hq;clear o1 o2 on9 LV;go_wp2_with fail;refine bodyPost_ret (v:=.tuple #[.agg #[.slice A3 (n+j) c3,Nat],.slice A5 (l.length+k.length) c5]) (by simp[results,results20,go_sem,p0,p1]) rfl ⟨A3,n+j,c3,none,0,0,A5,l.length+k.length,c5,rfl,DK.one ((HO1.out.setCell (p:=⟨z,0,none⟩) hz3 _).setCell (p:=⟨z,1,none⟩) hz3 _),?_,by omega,(HON.out.put hz' _).put hz' _,HO1.out.fresh HW1.out,aR.Zp _⟩;rw[List.map_append];exact((HO2.out.setCell (p:=⟨z,0,none⟩) hz3 _).setCell (p:=⟨z,1,none⟩) hz3 _).sl
end
section
theorem rC (A : Option Addr)(n c : Nat)(l : List dI)(w : World)(h : S w 8 A n (l.map eO)) :
    Calls prog 21 #[.slice A n c] w (fD w (cI l).1 (cI l).2):=by
 have hl:l.length=n:=by have:=h.len;simpa using this
 by_cases hbig:160<n
 · have hs:cI l=(⟨0,[]⟩,2):=by unfold cI;rw[if_pos (by omega)]
   have HS:=aH hs;have hd:decide ((160:Int)<(n:Int))=true:=by simp;omega
   have hd':(160:Int)<(n:Int):=by omega
   clear h hs hl;go_enter func21,ntmps21;go_wp2;refine bodyPost_ret (v:=.tuple #[.agg #[(),Nat],(2:Int)]) (by simp[results,results21,go_sem]) rfl ?_;rw[HS.out];refine⟨none,0,0,rfl,Sl.nil,?_,aR.Zp _,Nat.le_refl _,Nat.zero_le _⟩
   repeat(first|exact aA.Zz _|refine aA.put ?_ (by simp<;>omega) _|refine aA.new ?_ _)
 have hs:cI l=cM jI l:=by unfold cI;rw[if_neg (by omega)]
 have hn60:n≤160:=by omega
 have hd:decide ((160:Int)<(n:Int))=false:=by simp;omega
 have hd':¬ (160:Int)<(n:Int):=by omega
 have HS:=aH hs;have HL:=aH hl;clear hs hl hbig;have h0:=h;go_enter func21,ntmps21;go_wp2_with fail;refine Calls.mono (uP _) ?_;rintro e w1⟨A1,rfl,s1,o1,hfr⟩;have r0:w1.cell? ⟨w.heap.size,0,none⟩=some (.int .i64 0):=aB o1 (by simp[go_sem]);have r1:w1.cell? ⟨w.heap.size,1,none⟩=some (.slice none 0 0):=aB o1 (by simp[go_sem]);have g0:w1.frozen? ⟨w.heap.size,0,none⟩=false:=aJ (v:=.int .i64 0) o1 (by simp[go_sem]) (by simp[go_sem]);have g1:w1.frozen? ⟨w.heap.size,1,none⟩=false:=aJ (v:=.slice none 0 0) o1 (by simp[go_sem]) (by simp[go_sem]);have hzr:w.heap.size<w1.heap.size:=World.block_lt_of_cell? _ _ r0;have hf1:aR (w.heap.size+1) A1:=by simpa using hfr
 have hof1:oL w1.heap.size A1:=Sl.Zx s1 (Nat.le_refl _) (by omega);replace o1:aA w w1:=aA.to ((aA.Zz w).new _) o1;replace h:=S.oe h o1;go_upto_region 4 with fail
 have hO:aA w1 (w1.alloc (Obj.cells #[(1:Int),.slice A1 60 60] 50)):=(aA.Zz w1).new _;have p0:(w1.alloc (Obj.cells #[(1:Int),.slice A1 60 60] 50)).cell? ⟨w1.heap.size,0,none⟩=some (.int .i64 1):=by simp[go_sem]
 have p1:(w1.alloc (Obj.cells #[(1:Int),.slice A1 60 60] 50)).cell? ⟨w1.heap.size,1,none⟩=some (.slice A1 60 60):=by simp[go_sem]
 have f0:(w1.alloc (Obj.cells #[(1:Int),.slice A1 60 60] 50)).frozen? ⟨w1.heap.size,0,none⟩=false:=by simp[go_sem]
 have f1:(w1.alloc (Obj.cells #[(1:Int),.slice A1 60 60] 50)).frozen? ⟨w1.heap.size,1,none⟩=false:=by simp[go_sem]
 replace g0:=aJ hO r0 g0;replace g1:=aJ hO r1 g1;replace r0:=aB hO r0;replace r1:=aB hO r1;replace s1:=S.oe s1 hO;replace h:=S.oe h hO;replace o1:=aA.to o1 hO;have hzz:w1.heap.size<(w1.alloc (Obj.cells #[(1:Int),.slice A1 60 60] 50)).heap.size:=by simp
 have ofb:oL w1.heap.size A1:=hof1;have ofr:oL w.heap.size A1:=hf1.offs (by omega);have ohb:bQ n w1.heap.size A:=h0.Zx (by omega);have ohr:bQ n w.heap.size A:=h0.Zx (Nat.le_refl _);have hfw:aR w.heap.size A1:=fun a e=>by have:=hf1 a e;omega
 clear hO hf1 hfr hof1;change Code.wp _ _ _ _ (w1.alloc (Obj.cells #[(1:Int),.slice A1 60 60] 50));generalize(w1.alloc (Obj.cells #[(1:Int),.slice A1 60 60] 50))=w2 at *;generalize w1.heap.size=zb at *;have hne:zb≠w.heap.size:=by omega
 go_wp2_with fail
 go_loopw [16] (fun s wr => ∃ (k : Nat) (u : eM) (A1 : Option Addr) (n1 c1 : Nat), k ≤ n ∧ s = .int .i64 k ∧ wr.cell? ⟨zb, 0, none⟩ = some (.int .i64 u.ep) ∧ wr.cell? ⟨zb, 1, none⟩ = some (.slice A1 n1 c1) ∧ wr.frozen? ⟨zb, 0, none⟩ = false ∧ wr.frozen? ⟨zb, 1, none⟩ = false ∧
     wr.cell? ⟨w.heap.size,0,none⟩=some (.int .i64 0)∧wr.cell? ⟨w.heap.size,1,none⟩=some (.slice none 0 0)∧wr.frozen? ⟨w.heap.size,0,none⟩=false∧wr.frozen? ⟨w.heap.size,1,none⟩=false ∧
     S wr 5 A1 n1 (u.cells.map bA)∧oL zb A1∧oL w.heap.size A1∧aR w.heap.size A1∧Hid (n1≤c1∧c1≤maxLen)∧S wr 8 A n (l.map eO)∧zb<wr.heap.size∧aA w wr∧Hid (cM jI l=cM u (l.drop k))) (fun s _=>n-(intOf s).toNat)
 case atStart=>exact⟨0,jI,A1,60,60,Nat.zero_le _,rfl,p0,p1,f0,f1,r0,r1,g0,g1,s1,ofb,ofr,hfw,⟨Nat.le_refl _,by decide⟩,h,hzz,o1,rfl⟩
 case round =>
  obtain⟨k,u,A1,n1,c1,hk,rfl,p0,p1,f0,f1,r0,r1,g0,g1,s1,ofb,ofr,hfw,HM,h,hzz,o1,HG⟩:=hrel;by_cases hlt:k<n
  · obtain⟨bb,off,x,rfl,hbb,hx,d0,d1,d2,d3,d4,d5,d6,d7⟩:=h.atQ hlt;have hat:=yR (u:=u) hx;have HAT:=aH hat;clear hat hx;go_upto_region 7 with fail
    have hO:aA wr (wr.alloc (Obj.cells #[x.kind,x.at_,x.epoch,x.e.kind,x.e.job,x.e.every,x.e.time,x.e.client] 90)):=(aA.Zz wr).new _;have e0:(wr.alloc (Obj.cells #[x.kind,x.at_,x.epoch,x.e.kind,x.e.job,x.e.every,x.e.time,x.e.client] 90)).cell? ⟨wr.heap.size,0,none⟩=some (.int .i64 x.kind):=by simp[go_sem]
    have e1:(wr.alloc (Obj.cells #[x.kind,x.at_,x.epoch,x.e.kind,x.e.job,x.e.every,x.e.time,x.e.client] 90)).cell? ⟨wr.heap.size,1,none⟩=some (.int .i64 x.at_):=by simp[go_sem]
    have e2:(wr.alloc (Obj.cells #[x.kind,x.at_,x.epoch,x.e.kind,x.e.job,x.e.every,x.e.time,x.e.client] 90)).cell? ⟨wr.heap.size,2,none⟩=some (.int .i64 x.epoch):=by simp[go_sem]
    have e3:(wr.alloc (Obj.cells #[x.kind,x.at_,x.epoch,x.e.kind,x.e.job,x.e.every,x.e.time,x.e.client] 90)).cell? ⟨wr.heap.size,3,none⟩=some (.int .i64 x.e.kind):=by simp[go_sem]
    have e4:(wr.alloc (Obj.cells #[x.kind,x.at_,x.epoch,x.e.kind,x.e.job,x.e.every,x.e.time,x.e.client] 90)).cell? ⟨wr.heap.size,4,none⟩=some (.int .i64 x.e.job):=by simp[go_sem]
    have e5:(wr.alloc (Obj.cells #[x.kind,x.at_,x.epoch,x.e.kind,x.e.job,x.e.every,x.e.time,x.e.client] 90)).cell? ⟨wr.heap.size,5,none⟩=some (.int .i64 x.e.every):=by simp[go_sem]
    have e6:(wr.alloc (Obj.cells #[x.kind,x.at_,x.epoch,x.e.kind,x.e.job,x.e.every,x.e.time,x.e.client] 90)).cell? ⟨wr.heap.size,6,none⟩=some (.int .i64 x.e.time):=by simp[go_sem]
    have e7:(wr.alloc (Obj.cells #[x.kind,x.at_,x.epoch,x.e.kind,x.e.job,x.e.every,x.e.time,x.e.client] 90)).cell? ⟨wr.heap.size,7,none⟩=some (.int .i64 x.e.client):=by simp[go_sem]
    clear d0 d1 d2 d3 d4 d5 d6 d7 hbb;replace g0:=aJ hO r0 g0;replace g1:=aJ hO r1 g1;replace r0:=aB hO r0;replace r1:=aB hO r1;replace f0:=aJ hO p0 f0;replace f1:=aJ hO p1 f1;replace p0:=aB hO p0;replace p1:=aB hO p1;replace s1:=S.oe s1 hO;replace h:=S.oe h hO;replace o1:=aA.to o1 hO;have hz3:zb<(wr.alloc (Obj.cells #[x.kind,x.at_,x.epoch,x.e.kind,x.e.job,x.e.every,x.e.time,x.e.client] 90)).heap.size:=by simp;omega
    clear hO hzz;change Code.wp _ _ _ _ (wr.alloc (Obj.cells #[x.kind,x.at_,x.epoch,x.e.kind,x.e.job,x.e.every,x.e.time,x.e.client] 90));generalize(wr.alloc (Obj.cells #[x.kind,x.at_,x.epoch,x.e.kind,x.e.job,x.e.every,x.e.time,x.e.client] 90))=w3 at *;generalize wr.heap.size=be at *;obtain⟨r,hr⟩:∃r,r=bU u x:=⟨_,rfl⟩
    have HR:=aH hr;clear hr;go_wp2_with fail;refine Calls.mono (qQ u.ep A1 n1 c1 u.cells x.kind x.at_ x.epoch x.e _ s1) ?_;rw[show bU ⟨u.ep,u.cells⟩ ⟨x.kind,x.at_,x.epoch,x.e⟩=r from HR.out.symm];rintro e w4⟨A2,n2,c2,rfl,s2,hO,aw,hm2⟩
    have of2b:oL zb A2:=by
     rcases aw with ⟨rfl,_⟩|fr
     · exact ofb
     exact fun a e=>by have:=fr a e;omega
    have of2r:oL w.heap.size A2:=by
     rcases aw with ⟨rfl,_⟩|fr
     · exact ofr
     exact fun a e=>by have:=fr a e;omega
    have fw2:aR w.heap.size A2:=by
     rcases aw with ⟨rfl,_⟩|fr
     · exact hfw
     exact fun a e=>by have:=fr a e;omega
    have HM2:=aH (hm2 HM.out);clear aw hm2;replace g0:=aJ hO r0 g0;replace g1:=aJ hO r1 g1;replace r0:=aB hO r0;replace r1:=aB hO r1;replace f0:=aJ hO p0 f0;replace f1:=aJ hO p1 f1;replace p0:=aB hO p0;replace p1:=aB hO p1;replace s1:=S.oe s1 hO;replace h:=S.oe h hO;replace o1:=aA.to o1 hO;have hz4:zb<w4.heap.size:=World.block_lt_of_cell? _ _ p0;clear hO e0 e1 e2 e3 e4 e5 e6 e7 s1 ofb ofr hfw hz3;obtain⟨q,hq⟩:∃q,q=r.2:=⟨_,rfl⟩
    rw[←hq];have HQ:=aH hq;clear hq;go_upto_region 8 with fail
    have hO:aA w4 (w4.alloc (Obj.cells #[r.1.ep,.slice A2 n2 c2] 50)):=(aA.Zz w4).new _;have q0:(w4.alloc (Obj.cells #[r.1.ep,.slice A2 n2 c2] 50)).cell? ⟨w4.heap.size,0,none⟩=some (.int .i64 r.1.ep):=by simp[go_sem]
    have q1:(w4.alloc (Obj.cells #[r.1.ep,.slice A2 n2 c2] 50)).cell? ⟨w4.heap.size,1,none⟩=some (.slice A2 n2 c2):=by simp[go_sem]
    replace s2:S (w4.alloc (Obj.cells #[r.1.ep,.slice A2 n2 c2] 50)) 5 A2 n2 (r.1.cells.map bA):=S.oe s2 hO;have hz5:zb<(w4.alloc (Obj.cells #[r.1.ep,.slice A2 n2 c2] 50)).heap.size:=by simp;omega
    replace g0:=aJ hO r0 g0;replace g1:=aJ hO r1 g1;replace r0:=aB hO r0;replace r1:=aB hO r1;replace f0:=aJ hO p0 f0;replace f1:=aJ hO p1 f1;replace p0:=aB hO p0;replace p1:=aB hO p1;replace h:=S.oe h hO;replace o1:=aA.to o1 hO;clear hO hz4;change Code.wp _ _ _ _ (w4.alloc (Obj.cells #[r.1.ep,.slice A2 n2 c2] 50));generalize(w4.alloc (Obj.cells #[r.1.ep,.slice A2 n2 c2] 50))=w5 at *;by_cases hq0:q=0
    · subst hq0;have HG2:Hid (cM jI l=cM r.1 (l.drop (k+1))):=aH (by rw[HG.out,HAT.out,←HR.out,if_neg (by simp[←HQ.out])]);go_wp2_with fail
      go_roundw
      case measure=>simp[intOf]<;>omega
      case rel =>
       refine⟨k+1,r.1,A2,n2,c2,by omega,by go_num,?_,?_,?_,?_,?_,?_,?_,?_,?_,of2b,of2r,fw2,HM2,?_,?_,?_,HG2⟩
       · simp[go_sem,p0,p1]
       · simp[go_sem,p0,p1]
       · simp[go_sem,f0]
       · simp[go_sem,f1]
       · simp[go_sem,r0,hne]
       · simp[go_sem,r1,hne]
       · simp[go_sem,g0]
       · simp[go_sem,g1]
       · exact S.off (S.off s2 of2b.n _) of2b.n _
       · exact S.off (S.off h ohb _) ohb _
       · simp;omega
       exact aA.put (aA.put o1 (by simp only;omega) _) (by simp only;omega) _
    have hqd:(q !=0)=true:=by simpa using hq0
    have hres:cI l=(⟨0,[]⟩,q):=by rw[HS.out,HG.out,HAT.out,←HR.out,if_pos (by rw[←HQ.out];exact hq0),HQ.out]
    have HRES:=aH hres;clear hres;go_wp2_with fail;refine bodyPost_ret (v:=.tuple #[.agg #[(),Nat],q]) (by simp[results,results21,go_sem,r0,r1,hne]) rfl ?_;rw[HRES.out];refine⟨none,0,0,rfl,Sl.nil,?_,aR.Zp _,Nat.le_refl _,Nat.zero_le _⟩
    repeat(first|exact o1|refine aA.put ?_ (by simp<;>omega) _|refine aA.new ?_ _)
  have hkn:k=n:=by omega
  subst hkn
  have hres:cI l=(u,0):=by
   rw[HS.out,HG.out,List.drop_eq_nil_of_le (by have:=HL.out;omega)];rfl
  have HRES:=aH hres;clear hres h;go_wp2_with fail;refine bodyPost_ret (v:=.tuple #[.agg #[u.ep,.slice A1 n1 c1],()]) (by simp[results,results21,go_sem,r0,r1,g0,g1]) rfl ?_;rw[HRES.out];exact⟨A1,n1,c1,rfl,S.off (S.off s1 ofr.n _) ofr.n _,aA.put (aA.put o1 (by simp only;omega) _) (by simp only;omega) _,hfw,HM.out.1,HM.out.2⟩
end
end Go.Proofs.YtpfkagghooihfaaGreatDoor
