/- Part 19. -/
import Derived.Test.YtpfkagghooihfaaGreatDoorBa15
namespace Go.Proofs.YtpfkagghooihfaaGreatDoor
set_option linter.unusedSimpArgs false
set_option linter.unusedVariables false
set_option maxHeartbeats 8000000
set_option maxRecDepth 100000
open Go.Proofs.Tryz
open Go.RowKit
section
attribute [local go_sem ↓] Go.wp_at_zero Go.wp_at_succ
theorem cH.Zw {base E k n z:Nat}{v:Value}{rows:List (List Value)}(hz:z<base):∀ {us:List Value}{o:Nat}{w:World},cH w base E k v n rows→cH (w.setCells z o us) base E k v n rows
 | [],_,_,h=>h
 |u ::us,o,w,h=>by rw[World.setCells];exact cH.Zw hz (h.setCell (by simpa using hz) u)
theorem DK.one {w:World}{base n m c:Nat}{A:Option Addr}{a b:List UInt8}(h:cH w base 5 1 (.slice A (n+m) c) (n+m) (a.map cA ++b.map cA)):DK w A (n+m) c none 0 0 ⟨a ++b,[]⟩ :=
 ⟨by rw[show(⟨a ++b,[]⟩:iM).safe.map cA=a.map cA ++b.map cA by simp];exact h.sl,Sl.nil,h.Zs,h.cap_max,by omega,by simp[maxLen]⟩
theorem FK (A A' : Option Addr)(n c m d : Nat)(x : iM)(w : World)(E : fR w)(K : DK w A n c A' m d x) :
    Calls prog 133 #[.agg #[.slice A n c,.slice A' m d]] w (gJ w (lL x)):=by
 obtain⟨g,hg⟩:∃g,g=bE x:=⟨_,rfl⟩
 obtain⟨h,hh⟩:∃h,h=bE ⟨x.safe ++x.wait,[]⟩:=⟨_,rfl⟩
 obtain⟨q,hq⟩:∃q,q=lL x:=⟨_,rfl⟩
 rw[←hq];unfold lL at hq;rw[←hg,←hh]at hq;have HG:=aH hg;have HH:=aH hh;have HQ:=aH hq;clear hg hh hq;go_enter func133,ntmps133;go_upto_region 1 with fail
 have B2:Bx ((w.alloc (Obj.cells #[.slice A n c,.slice A' m d] 53)).alloc (Obj.cells #[Nat,Nat] 53)) w.heap.size [.slice A n c,.slice A' m d]:=by
  have:=((Bx.Zt w #[.slice A n c,.slice A' m d] 53).new (Obj.cells #[Nat,Nat] 53))
  simpa using this
 have Bz:Bx ((w.alloc (Obj.cells #[.slice A n c,.slice A' m d] 53)).alloc (Obj.cells #[Nat,Nat] 53)) (w.heap.size+1) [Nat,Nat]:=by
  have:=(Bx.Zt (w.alloc (Obj.cells #[.slice A n c,.slice A' m d] 53)) #[Nat,Nat] 53)
  simpa using this
 have on:aA w ((w.alloc (Obj.cells #[.slice A n c,.slice A' m d] 53)).alloc (Obj.cells #[Nat,Nat] 53)):=((aA.Zz w).new _).new _;generalize((w.alloc (Obj.cells #[.slice A n c,.slice A' m d] 53)).alloc (Obj.cells #[Nat,Nat] 53))=w1 at *;have hz':w.heap.size≤w.heap.size+1:=by omega
 have hzz:w.heap.size≠w.heap.size+1:=by omega
 generalize w.heap.size+1=z at Bz hz' hzz⊢;generalize hz2:w.heap.size=z2 at B2 hzz⊢;clear hz2;obtain⟨b0,b1⟩:=B2.p2;go_wp2_with fail;refine Calls.mono (gX A A' n c m d x _ (E.oe on) (K.oe on)) ?_;rintro e w2⟨rfl,b⟩;rw[show bE x=g from HG.out.symm];replace on:=on.to b;replace B2:=B2.oe b;replace Bz:=Bz.oe b;have hs2:=on.size;clear b b0 b1;by_cases hg0:g=0
 · have hbd:n+m≤30000:=by rw[K.n_eq,K.m_eq];exact GY x (by rw[←HG.out,hg0])
   have hn:n≤30000:=by omega
   have hm:m≤30000:=by omega
   have hq:=HQ.out;rw[if_neg (by simp[hg0])]at hq;replace HQ:=aH hq;have HG0:=aH hg0;subst hg0;clear hq;obtain⟨b0,b1⟩:=B2.p2;have hzw:z<w2.heap.size:=Bz.lt;go_wp2_with fail;refine Calls.mono (iI _ A A' n c m d _ 2 (x.safe.map cA) (x.wait.map cA) (by simp[go_sem]) (by simp[go_sem]) ((K.oe on).safe.new _) ((K.oe on).wait.new _) (eY _) (eY _) (by omega)) ?_;rintro e w3⟨A1,c1,rfl,own1,b⟩;have b3:aA w2 w3:=aA.to ((aA.Zz w2).new _) b;replace on:=on.to b3;replace Bz:=Bz.oe b3;have o1:cH w3 w2.heap.size 5 1 (.slice A1 (n+m) c1) (n+m) (x.safe.map cA ++x.wait.map cA):=own1.lower (by simp);clear b b3 own1 b0 b1 B2;go_upto_region 5 with fail
   have on5:=(aA.Zz w3).new (Obj.cells #[.slice A1 (n+m) c1,Nat] 53);have B5:Bx (w3.alloc (Obj.cells #[.slice A1 (n+m) c1,Nat] 53)) w3.heap.size [.slice A1 (n+m) c1,Nat]:=Bx.Zt _ _ _;replace on:=on.to on5;replace Bz:=Bz.oe on5;replace o1:=o1.below on5;clear on5;generalize(w3.alloc (Obj.cells #[.slice A1 (n+m) c1,Nat] 53))=w5 at *;generalize w3.heap.size=z5 at *;obtain⟨b0,b1⟩:=B5.p2;go_wp2_with fail;refine Calls.mono (gX A1 none (n+m) c1 0 0 ⟨x.safe ++x.wait,[]⟩ _ (E.oe on) (DK.one o1)) ?_;rintro e w6⟨rfl,b⟩;rw[show bE ⟨x.safe ++x.wait,[]⟩=h from HH.out.symm];replace on:=on.to b;replace B5:=B5.oe b;replace Bz:=Bz.oe b;replace o1:=o1.below b;clear b b0 b1;by_cases hh0:h=0
   · have hq:=HQ.out;rw[if_neg (by simp[hh0])]at hq;subst hq;subst hh0;obtain⟨b0,b1⟩:=B5.p2;have HO:=aH o1;clear o1;go_wp2_with (refine pU Bz [.slice A1 (n+m) c1,Nat] 53 iY ?_)
     have hF:=Bz.put (us:=[.slice A1 (n+m) c1,Nat]) rfl;have oF:=aA.Zw (b:=z) (o:=0) (us:=[.slice A1 (n+m) c1,Nat]) hz' on;have HOF:=aH (cH.Zw (us:=[.slice A1 (n+m) c1,Nat]) (o:=0) hzw HO.out);clear HO;generalize World.setCells _ z 0 [.slice A1 (n+m) c1,.slice none 0 0]=wF at hF oF HOF⊢;go_wp2_with fail;obtain⟨p0,p1⟩:=hF.p2;refine bodyPost_ret (v:=.tuple #[.agg #[.slice A1 (n+m) c1,Nat],()]) (by simp[results,results133,go_sem,p0,p1]) rfl ⟨A1,n+m,c1,none,0,0,rfl,DK.one HOF.out,HOF.out.fresh hs2,aR.Zp _,oF⟩
   have hq:=HQ.out;rw[if_pos hh0]at hq;subst hq;have hg1:(h ==0)=false:=by simp[hh0]
   have hg2:(h !=0)=true:=by simp[hh0]
   clear hh0;go_wp2_with (refine pU Bz [Nat,Nat] 53 iY ?_)
   have hF:=Bz.put (us:=[Nat,Nat]) rfl;have oF:=aA.Zw (b:=z) (o:=0) (us:=[Nat,Nat]) hz' on;generalize World.setCells _ z 0 [.slice none 0 0,.slice none 0 0]=wF at hF oF⊢;go_wp2_with fail;obtain⟨p0,p1⟩:=hF.p2;refine bodyPost_ret (v:=.tuple #[.agg #[Nat,Nat],h]) (by simp[results,results133,go_sem,p0,p1]) rfl (gJ.bad rfl oF)
 have hq:=HQ.out;rw[if_pos hg0]at hq;subst hq;have hg1:(g ==0)=false:=by simp[hg0]
 have hg2:(g !=0)=true:=by simp[hg0]
 clear hg0;go_wp2_with (refine pU Bz [Nat,Nat] 53 iY ?_)
 have hF:=Bz.put (us:=[Nat,Nat]) rfl;have oF:=aA.Zw (b:=z) (o:=0) (us:=[Nat,Nat]) hz' on;generalize World.setCells _ z 0 [.slice none 0 0,.slice none 0 0]=wF at hF oF⊢;go_wp2_with fail;obtain⟨p0,p1⟩:=hF.p2;refine bodyPost_ret (v:=.tuple #[.agg #[Nat,Nat],g]) (by simp[results,results133,go_sem,p0,p1]) rfl (gJ.bad rfl oF)
end
section
attribute [local go_sem ↓] Go.wp_at_zero Go.wp_at_succ
theorem aF.litP {w0 w:World}{L:List (Option xV)}(h:aF w0 w L){i:Nat}(hi:i<L.length){A A':Option Addr}{n c m d:Nat}:aF w0 (w.alloc (.cells #[.slice A n c,.slice A' m d] 51)) (L.set i (some ⟨.slice (some ⟨w.heap.size,0,none⟩) 2 2,51,1,2,[[.slice A n c],[.slice A' m d]]⟩)) :=
 h.lit hi _ _ _ _ _ (by simp) rfl (by simp) (by simp[maxLen])
theorem rP {w0 w : World}{L : List (Option xV)}(LV : aF w0 w L)(i p : Nat)(hi : i < L.length)(A A' : Option Addr)(n c m d : Nat)(Z E : Nat)(l l' : List UInt8)(h : S w0 1 A n (l.map cA))(h' : S w0 1 A' m (l'.map cA))(hn : n + m ≤ 140737488355328)
    (hp:L[p]?=some (some ⟨.slice (some ⟨Z,0,none⟩) 2 2,E,1,2,[[.slice A n c],[.slice A' m d]]⟩)) :
    Calls prog 70 #[.slice (some ⟨Z,0,none⟩) 2 2] w fun e w'=>∃A1 c1,e=.returned (.slice A1 (n+m) c1)∧aF w0 w' (L.set i (some ⟨.slice A1 (n+m) c1,5,1,n+m,l.map cA ++l'.map cA⟩)):=by
 obtain⟨b,off,e,_,hc⟩:=(aF.sl LV hp).2.2 (by omega);injection e with e;injection e with e1 e2 _;subst e1;subst e2;refine Calls.mono (iI w A A' n c m d Z 2 (l.map cA) (l'.map cA) (by simpa using hc 0 0 _ _ rfl rfl) (by simpa using hc 1 0 _ _ rfl rfl) (h.oe LV.on) (h'.oe LV.on) (eY _) (eY _) (by omega)) ?_;rintro e w'⟨A1,c1,rfl,ho,hb⟩;exact⟨A1,c1,rfl,LV.add hi ho hb⟩
def nE (w:World)(q:iM×List dI×Int)(e:Ending)(w':World):Prop:=∃F k i F' l j B b y,e=.returned (.tuple #[.agg #[.slice F k i,.slice F' l j],.slice B b y,q.2.2])∧DK w' F k i F' l j q.1∧S w' 8 B b (q.2.1.map eO)∧b≤y∧y≤maxLen∧aR w.heap.size F∧aR w.heap.size F'∧aR w.heap.size B∧aA w w'
theorem nE.bad {w w':World}{q:Int}{v:Value}(h:v=.tuple #[.agg #[Nat,Nat],Nat,q])(on:aA w w'):nE w (GL,[],q) (.returned v) w':=⟨none,0,0,none,0,0,none,0,0,by rw[h],DK.Zp _,Sl.nil,by omega,by simp[maxLen],aR.Zp _,aR.Zp _,aR.Zp _,on⟩
theorem gL (A A' : Option Addr)(n c m d : Nat)(x : iM)(w : World)(E : fR w)(K : DK w A n c A' m d x) :
    Calls prog 79 #[.agg #[.slice A n c,.slice A' m d]] w (nE w (bN x)):=by
 obtain⟨g,hg⟩:∃g,g=bE x:=⟨_,rfl⟩
 obtain⟨q,hq⟩:∃q,q=bN x:=⟨_,rfl⟩
 rw[←hq];unfold bN at hq;rw[←hg]at hq;have HG:=aH hg;have HQ:=aH hq;clear hg hq;go_enter func79,ntmps79;go_upto_region 1 with fail
 have B2:Bx ((w.alloc (Obj.cells #[.slice A n c,.slice A' m d] 53)).alloc (Obj.cells #[Nat,Nat] 53)) w.heap.size [.slice A n c,.slice A' m d]:=by
  have:=((Bx.Zt w #[.slice A n c,.slice A' m d] 53).new (Obj.cells #[Nat,Nat] 53))
  simpa using this
 have Bz:Bx ((w.alloc (Obj.cells #[.slice A n c,.slice A' m d] 53)).alloc (Obj.cells #[Nat,Nat] 53)) (w.heap.size+1) [Nat,Nat]:=by
  have:=(Bx.Zt (w.alloc (Obj.cells #[.slice A n c,.slice A' m d] 53)) #[Nat,Nat] 53)
  simpa using this
 have on:aA w ((w.alloc (Obj.cells #[.slice A n c,.slice A' m d] 53)).alloc (Obj.cells #[Nat,Nat] 53)):=((aA.Zz w).new _).new _;generalize((w.alloc (Obj.cells #[.slice A n c,.slice A' m d] 53)).alloc (Obj.cells #[Nat,Nat] 53))=w1 at *;have hz':w.heap.size≤w.heap.size+1:=by omega
 have hzz:w.heap.size≠w.heap.size+1:=by omega
 generalize w.heap.size+1=z at Bz hz' hzz⊢;generalize hz2:w.heap.size=z2 at B2 hzz⊢;clear hz2;obtain⟨b0,b1⟩:=B2.p2;go_wp2_with fail;refine Calls.mono (gX A A' n c m d x _ (E.oe on) (K.oe on)) ?_;rintro e w2⟨rfl,b⟩;rw[show bE x=g from HG.out.symm];replace on:=on.to b;replace B2:=B2.oe b;replace Bz:=Bz.oe b;have hs2:=on.size;clear b b0 b1;by_cases hg0:g=0
 · have hbd:n+m≤30000:=by rw[K.n_eq,K.m_eq];exact GY x (by rw[←HG.out,hg0])
   have hn:n≤30000:=by omega
   have hm:m≤30000:=by omega
   have hq:=HQ.out;rw[if_neg (by simp[hg0])]at hq;replace HQ:=aH hq;have HG0:=aH hg0;subst hg0;clear hq;have hq:=HQ.out;have hmd:m≤d:=K.m_le;have hdm:d≤9223372036854775807:=by have:=K.d_le;unfold maxLen at this;omega
   have E2:=E.oe on;have K2:=K.oe on;obtain⟨b0,b1⟩:=B2.p2;have cv:=jT (c:=c) K2.safe;have hsl:x.safe.length≤60000:=by rw[←K.n_eq];omega
   have hwl:x.wait.length≤60000:=by rw[←K.m_eq];omega
   obtain⟨l,hl⟩:∃l,l=(bS x.safe 160).1:=⟨_,rfl⟩
   have hl1:l.length≤160:=by rw[hl];exact(fW x.safe 160).2.1
   have HL:=aH hl;unfold iK hH at hq;rw[←hl]at hq;replace HQ:=aH hq;clear hl hq;go_wp2_with fail;refine Calls.mono (oU x.safe 160 hsl (by omega) _ E2) ?_;rintro e w3⟨A1,n1,c1,rfl,own1,b⟩;rw[show(bS x.safe 160).1=l from HL.out.symm]at own1;have hn1:n1=l.length:=by have:=own1.2.1;simpa using this.symm
   subst hn1;obtain⟨most,hmost⟩:∃most:Nat,most=160-l.length:=⟨_,rfl⟩
   have hmi:(160:Int)-(l.length:Int)=(most:Int):=by omega
   have hq:=HQ.out;rw[←hmost]at hq;obtain⟨k,hk⟩:∃k,k=(bS x.wait most).1:=⟨_,rfl⟩
   obtain⟨j,hj⟩:∃j,j=(bS x.wait most).2.1:=⟨_,rfl⟩
   have hj1:j≤m:=by
    obtain⟨_,_,h3,h4,_⟩:=fW x.wait most;have h5:=congrArg List.length h4;rw[←h3,←hj,List.length_take]at h5;rw[K.m_eq];omega
   have hk1:l.length+k.length≤160:=by have:=(fW x.wait most).2.1;rw[←hk]at this;omega
   rw[←hk,←hj]at hq;have HQ2:=aH hq;have HK:=aH hk;have HJ:=aH hj;have LV0:=(aF.start w2 4).add (i:=0) (by simp) own1 b;have LVH:=aH LV0;have HB:=aH b;have hm160:most≤160:=by omega
   clear hq hk hj HQ own1 b0 b1 cv LV0 hmost;have b0:=aB b (B2.at_ 0 rfl);have b1:=aB b (B2.at_ 1 rfl);have cv:=jT (c:=d) (K2.wait.oe b);have E3:=E2.oe b;clear b;go_wp2_with fail;refine Calls.mono (oU x.wait most hwl (by omega) _ E3) ?_;rintro e w4⟨A2,n2,c2,rfl,own2,b⟩;rw[show(bS x.wait most).1=k from HK.out.symm]at own2;rw[show(bS x.wait most).2.1=j from HJ.out.symm];have hn2:n2=k.length:=by have:=own2.2.1;simpa using this.symm
   subst hn2;have LV:=LVH.out.add (i:=3) (by simp) own2 b;clear b0 b1 cv E3 own2 b HB LVH;have i0:(0:Int)≤(j:Int):=by omega
   have i1:(j:Int)≤(d:Int):=by omega
   go_upto_region 6 with fail
   have hsj:S w2 1 A' j ((x.wait.take j).map cA):=by rw[List.map_take];exact Sl.take K2.wait hj1
   obtain⟨b0,b1⟩:=B2.p2;have B4:=Bz.oe LV.on;obtain⟨zb0,zb1⟩:=B4.p2;clear B4
   go_region_held3 (fun w'=>w'.cell? ⟨z2,0,none⟩=some (.slice A n c)∧w'.cell? ⟨z2,1,none⟩=some (.slice A' m d))
    (first|exact⟨aB (aF.on (by with_reducible(first|exact LV|exact LV.draw|exact LV.litP (i:=1) (by simp)|exact LV.draw.litP (i:=1) (by simp)|exact(LV.litP (i:=1) (by simp)).draw))) b0,aB (aF.on (by with_reducible(first|exact LV|exact LV.draw|exact LV.litP (i:=1) (by simp)|exact LV.draw.litP (i:=1) (by simp)|exact(LV.litP (i:=1) (by simp)).draw))) b1⟩|exact⟨(((B2.oe (aF.on (by with_reducible(first|exact LV|exact LV.draw|exact LV.litP (i:=1) (by simp)|exact LV.draw.litP (i:=1) (by simp)|exact(LV.litP (i:=1) (by simp)).draw)))).Zr (p:=⟨z,0,none⟩) hzz _).Zr (p:=⟨z,1,none⟩) hzz _).at_ 0 rfl,(((B2.oe (aF.on (by with_reducible(first|exact LV|exact LV.draw|exact LV.litP (i:=1) (by simp)|exact LV.draw.litP (i:=1) (by simp)|exact(LV.litP (i:=1) (by simp)).draw)))).Zr (p:=⟨z,0,none⟩) hzz _).Zr (p:=⟨z,1,none⟩) hzz _).at_ 1 rfl⟩|fail)
    (first
     | (go_at_call 70;refine Calls.mono (rP (by with_reducible(first|exact LV|exact LV.draw|exact LV.litP (i:=1) (by simp)|exact LV.draw.litP (i:=1) (by simp)|exact(LV.litP (i:=1) (by simp)).draw)) 2 1 (by simp) A A' n c j d _ _ x.safe (x.wait.take j) K2.safe hsj (by omega) (by rfl)) ?_;rintro e w6⟨A3,c3,rfl,LV⟩;have Z:=Bz.oe LV.on;obtain⟨p0,p1⟩:=Z.p2;have f0:=Z.Zy 0;have f1:=Z.Zy 1;clear Z)
     | (refine gW (by with_reducible(first|exact LV|exact LV.draw|exact LV.litP (i:=1) (by simp)|exact LV.draw.litP (i:=1) (by simp)|exact(LV.litP (i:=1) (by simp)).draw)) (by rfl) _ _ 57 (by rfl) 90 8 64 _ LW underlying57 rfl (by omega) 0 (.slice A1 l.length c1) l.length (l.map eO) (by rfl) (by rfl) A2 k.length c2 (k.map eO) (by rfl) (aF.sl (i:=3) (by with_reducible(first|exact LV|exact LV.draw|exact LV.litP (i:=1) (by simp)|exact LV.draw.litP (i:=1) (by simp)|exact(LV.litP (i:=1) (by simp)).draw)) (by rfl)) (sI _) (by unfold maxLen;omega) (by omega) ?_;intro A5 c5 w9 LV;have Z:=Bz.oe LV.on;obtain⟨p0,p1⟩:=Z.p2;have f0:=Z.Zy 0;have f1:=Z.Zy 1;clear Z)
     |fail)
   all_goals
    have hz3:z<w2.heap.size:=Bz.lt;have o1:cH _ w2.heap.size 5 1 (.slice A3 (n+j) c3) (n+j) (x.safe.map cA ++(x.wait.take j).map cA):=LV.own 2 _ rfl;have o2:cH _ w2.heap.size 90 8 (.slice A5 (l.length+k.length) c5) (l.length+k.length) (l.map eO ++k.map eO):=LV.own 0 _ rfl;have on9:=on.to LV.on;have HO1:=aH o1;have HO2:=aH o2;have HON:=aH on9;have hq:=HQ2.out;subst hq;clear o1 o2 on9 LV;go_wp2_with fail;refine bodyPost_ret (v:=.tuple #[.agg #[.slice A3 (n+j) c3,Nat],.slice A5 (l.length+k.length) c5,()]) (by simp[results,results79,go_sem,p0,p1]) rfl ⟨A3,n+j,c3,none,0,0,A5,l.length+k.length,c5,rfl,DK.one ((HO1.out.setCell (p:=⟨z,0,none⟩) hz3 _).setCell (p:=⟨z,1,none⟩) hz3 _),?_,HO2.out.Zs,HO2.out.cap_max,HO1.out.fresh hs2,aR.Zp _,HO2.out.fresh hs2,(HON.out.put hz' _).put hz' _⟩;rw[List.map_append];exact((HO2.out.setCell (p:=⟨z,0,none⟩) hz3 _).setCell (p:=⟨z,1,none⟩) hz3 _).sl
 have hq:=HQ.out;rw[if_pos hg0]at hq;subst hq;have hg1:(g ==0)=false:=by simp[hg0]
 have hg2:(g !=0)=true:=by simp[hg0]
 clear hg0;go_wp2_with (refine pU Bz [Nat,Nat] 53 iY ?_)
 have hF:=Bz.put (us:=[Nat,Nat]) rfl;have oF:=aA.Zw (b:=z) (o:=0) (us:=[Nat,Nat]) hz' on;generalize World.setCells _ z 0 [.slice none 0 0,.slice none 0 0]=wF at hF oF⊢;go_wp2_with fail;obtain⟨p0,p1⟩:=hF.p2;refine bodyPost_ret (v:=.tuple #[.agg #[Nat,Nat],Nat,g]) (by simp[results,results79,go_sem,p0,p1]) rfl (nE.bad rfl oF)
end
section
attribute [local go_sem ↓] Go.wp_at_zero Go.wp_at_succ
theorem BX (A A' : Option Addr)(n c m d : Nat)(x : iM)(k : Int)(w : World)(E : fR w)(K : DK w A n c A' m d x) :
    Calls prog 145 #[.agg #[.slice A n c,.slice A' m d],k] w (gJ w (kQ x k)):=by
 obtain⟨g,hg⟩:∃g,g=bE x:=⟨_,rfl⟩
 obtain⟨q,hq⟩:∃q,q=kQ x k:=⟨_,rfl⟩
 rw[←hq];unfold kQ at hq;rw[←hg,←K.m_eq]at hq;have HG:=aH hg;have HQ:=aH hq;clear hg hq;go_enter func145,ntmps145;go_upto_region 1 with fail
 have B2:Bx ((w.alloc (Obj.cells #[.slice A n c,.slice A' m d] 53)).alloc (Obj.cells #[Nat,Nat] 53)) w.heap.size [.slice A n c,.slice A' m d]:=by
  have:=((Bx.Zt w #[.slice A n c,.slice A' m d] 53).new (Obj.cells #[Nat,Nat] 53))
  simpa using this
 have Bz:Bx ((w.alloc (Obj.cells #[.slice A n c,.slice A' m d] 53)).alloc (Obj.cells #[Nat,Nat] 53)) (w.heap.size+1) [Nat,Nat]:=by
  have:=(Bx.Zt (w.alloc (Obj.cells #[.slice A n c,.slice A' m d] 53)) #[Nat,Nat] 53)
  simpa using this
 have on:aA w ((w.alloc (Obj.cells #[.slice A n c,.slice A' m d] 53)).alloc (Obj.cells #[Nat,Nat] 53)):=((aA.Zz w).new _).new _;generalize((w.alloc (Obj.cells #[.slice A n c,.slice A' m d] 53)).alloc (Obj.cells #[Nat,Nat] 53))=w1 at *;have hz':w.heap.size≤w.heap.size+1:=by omega
 have hzz:w.heap.size≠w.heap.size+1:=by omega
 generalize w.heap.size+1=z at Bz hz' hzz⊢;generalize hz2:w.heap.size=z2 at B2 hzz⊢;clear hz2;obtain⟨b0,b1⟩:=B2.p2;go_wp2_with fail;refine Calls.mono (gX A A' n c m d x _ (E.oe on) (K.oe on)) ?_;rintro e w2⟨rfl,b⟩;rw[show bE x=g from HG.out.symm];replace on:=on.to b;replace B2:=B2.oe b;replace Bz:=Bz.oe b;have hs2:=on.size;clear b b0 b1;by_cases hg0:g=0
 · have hbd:n+m≤30000:=by rw[K.n_eq,K.m_eq];exact GY x (by rw[←HG.out,hg0])
   have hn:n≤30000:=by omega
   have hm:m≤30000:=by omega
   have hq:=HQ.out;rw[if_neg (by simp[hg0])]at hq;replace HQ:=aH hq;have HG0:=aH hg0;subst hg0;clear hq;obtain⟨b0,b1⟩:=B2.p2;have hmd:m≤d:=K.m_le;have hdm:d≤9223372036854775807:=by have:=K.d_le;unfold maxLen at this;omega
   by_cases hk0:k<0
   · have hq:=HQ.out;rw[if_pos (.inl hk0)]at hq;subst hq;go_wp2_with (refine pU Bz [Nat,Nat] 53 iY ?_)
     have hF:=Bz.put (us:=[Nat,Nat]) rfl;have oF:=aA.Zw (b:=z) (o:=0) (us:=[Nat,Nat]) hz' on;generalize World.setCells _ z 0 [.slice none 0 0,.slice none 0 0]=wF at hF oF⊢;go_wp2_with fail;obtain⟨p0,p1⟩:=hF.p2;refine bodyPost_ret (v:=.tuple #[.agg #[Nat,Nat],(3:Int)]) (by simp[results,results145,go_sem,p0,p1]) rfl (gJ.bad rfl oF)
   by_cases hk1:(m:Int)<k
   · have hq:=HQ.out;rw[if_pos (.inr hk1)]at hq;subst hq;go_wp2_with (refine pU Bz [Nat,Nat] 53 iY ?_)
     have hF:=Bz.put (us:=[Nat,Nat]) rfl;have oF:=aA.Zw (b:=z) (o:=0) (us:=[Nat,Nat]) hz' on;generalize World.setCells _ z 0 [.slice none 0 0,.slice none 0 0]=wF at hF oF⊢;go_wp2_with fail;obtain⟨p0,p1⟩:=hF.p2;refine bodyPost_ret (v:=.tuple #[.agg #[Nat,Nat],(3:Int)]) (by simp[results,results145,go_sem,p0,p1]) rfl (gJ.bad rfl oF)
   have hq:=HQ.out;rw[if_neg (by omega)]at hq;subst hq;obtain⟨j,rfl⟩:∃j:Nat,k=(j:Int):=⟨k.toNat,by omega⟩
   have hj:j≤m:=by omega
   have i0:(0:Int)≤(j:Int):=by omega
   have i1:(j:Int)≤(d:Int):=by omega
   have i2:¬ (m:Int)<(j:Int):=hk1;have i3:¬ (j:Int)<0:=hk0;clear hk0 hk1;go_upto_region 6 with fail
   have K3:=K.oe on;have hsj:S w2 1 A' j ((x.wait.take j).map cA):=by rw[List.map_take];exact Sl.take K3.wait hj
   have LV:=aF.start w2 2;obtain⟨zb0,zb1⟩:=Bz.p2
   go_region_held3 (fun w'=>w'.cell? ⟨z2,0,none⟩=some (.slice A n c)∧w'.cell? ⟨z2,1,none⟩=some (.slice A' m d))
    (first|exact⟨aB (aF.on (by with_reducible(first|exact LV|exact LV.draw))) b0,aB (aF.on (by with_reducible(first|exact LV|exact LV.draw))) b1⟩|exact⟨(((B2.oe (aF.on (by with_reducible(first|exact LV|exact LV.draw)))).Zr (p:=⟨z,0,none⟩) hzz _).Zr (p:=⟨z,1,none⟩) hzz _).at_ 0 rfl,(((B2.oe (aF.on (by with_reducible(first|exact LV|exact LV.draw)))).Zr (p:=⟨z,0,none⟩) hzz _).Zr (p:=⟨z,1,none⟩) hzz _).at_ 1 rfl⟩|fail)
    (first
     | (go_at_call 65;refine Calls.mono (lP (by with_reducible(first|exact LV|exact LV.draw)) 0 (by simp) A n c x.safe K3.safe (by omega)) ?_;rintro e w6⟨A1,c1,rfl,LV⟩;have Z:=Bz.oe LV.on;obtain⟨p0,p1⟩:=Z.p2;have f0:=Z.Zy 0;have f1:=Z.Zy 1;clear Z)
     | (go_at_call 65;refine Calls.mono (lP (by with_reducible(first|exact LV|exact LV.draw)) 1 (by simp) A' j d (x.wait.take j) hsj (by omega)) ?_;rintro e w7⟨A2,c2,rfl,LV⟩;have Z:=Bz.oe LV.on;obtain⟨p0,p1⟩:=Z.p2;have f0:=Z.Zy 0;have f1:=Z.Zy 1;clear Z)
     |fail)
   all_goals
    have hz3:z<w2.heap.size:=Bz.lt;have o1:cH _ w2.heap.size 5 1 (.slice A1 n c1) n (x.safe.map cA):=LV.own 0 _ rfl;have o2:cH _ w2.heap.size 5 1 (.slice A2 j c2) j ((x.wait.take j).map cA):=LV.own 1 _ rfl;have on9:=on.to LV.on;have HO1:=aH o1;have HO2:=aH o2;have HON:=aH on9;clear o1 o2 on9 LV;go_wp2_with fail;refine bodyPost_ret (v:=.tuple #[.agg #[.slice A1 n c1,.slice A2 j c2],()]) (by simp[results,results145,go_sem,p0,p1]) rfl ⟨A1,n,c1,A2,j,c2,rfl,⟨((HO1.out.setCell (p:=⟨z,0,none⟩) hz3 _).setCell (p:=⟨z,1,none⟩) hz3 _).sl,?_,HO1.out.Zs,HO1.out.cap_max,HO2.out.Zs,HO2.out.cap_max⟩,HO1.out.fresh hs2,HO2.out.fresh hs2,(HON.out.put hz' _).put hz' _⟩;rw[Int.toNat_natCast];exact((HO2.out.setCell (p:=⟨z,0,none⟩) hz3 _).setCell (p:=⟨z,1,none⟩) hz3 _).sl
 have hq:=HQ.out;rw[if_pos hg0]at hq;subst hq;have hg1:(g ==0)=false:=by simp[hg0]
 have hg2:(g !=0)=true:=by simp[hg0]
 clear hg0;go_wp2_with (refine pU Bz [Nat,Nat] 53 iY ?_)
 have hF:=Bz.put (us:=[Nat,Nat]) rfl;have oF:=aA.Zw (b:=z) (o:=0) (us:=[Nat,Nat]) hz' on;generalize World.setCells _ z 0 [.slice none 0 0,.slice none 0 0]=wF at hF oF⊢;go_wp2_with fail;obtain⟨p0,p1⟩:=hF.p2;refine bodyPost_ret (v:=.tuple #[.agg #[Nat,Nat],g]) (by simp[results,results145,go_sem,p0,p1]) rfl (gJ.bad rfl oF)
end
end Go.Proofs.YtpfkagghooihfaaGreatDoor
