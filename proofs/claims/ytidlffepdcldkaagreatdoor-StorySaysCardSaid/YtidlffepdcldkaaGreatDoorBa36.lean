/- Part 36 of the proof: RDRec, RUNext, RUNext2. -/
import Derived.Test.YtidlffepdcldkaaGreatDoorBa35
import Derived.Test.YtidlffepdcldkaaGreatDoorBa31
import Derived.Test.YtidlffepdcldkaaGreatDoorBa12
import Derived.Test.YtidlffepdcldkaaGreatDoorBa33
namespace Go.Proofs.YtidlffepdcldkaaGreatDoor
set_option linter.unusedSimpArgs false
set_option linter.unusedVariables false
section
open Go.RowKit
attribute [local go_sem ↓] Go.wp_at_zero Go.wp_at_succ
theorem Live.litQ {w0 w:World} {L:List (Option Ent)} (h:Live w0 w L) {i:Nat} (hi:i<L.length) {A A':Option Addr} {n c m d:Nat}:Live w0 (w.alloc (.cells #[.slice A n c,.slice A' m d] 59)) (L.set i (some ⟨.slice (some ⟨w.heap.size,0,none⟩) 2 2,59,1,2,[[.slice A n c],[.slice A' m d]]⟩)) :=
 h.lit hi _ _ _ _ _ (by simp) rfl (by simp) (by simp [maxLen])
theorem ConcatQ_live {w0 w : World} {L : List (Option Ent)} (LV : Live w0 w L) (i p s t : Nat) (hi : i < L.length) (A A' : Option Addr) (n c m d : Nat) (Z E : Nat) (l l' : List Rec) (hs : L[s]? = some (some ⟨.slice A n c, 96, 8, n, l.map encQ⟩)) (ht : L[t]? = some (some ⟨.slice A' m d, 96, 8, m, l'.map encQ⟩)) (hn : n + m ≤ 1000000)
    (hp:L[p]?=some (some ⟨.slice (some ⟨Z,0,none⟩) 2 2,E,1,2,[[.slice A n c],[.slice A' m d]]⟩)) :
    Calls Tryz.prog 43 #[.slice (some ⟨Z,0,none⟩) 2 2] w fun e w'=>∃ A1 c1,e=.returned (.slice A1 (n+m) c1)∧Live w0 w' (L.set i (some ⟨.slice A1 (n+m) c1,96,8,n+m,l.map encQ ++l'.map encQ⟩)):=by
 obtain ⟨b,off,e,_,hc⟩:=(Live.sl LV hp).2.2 (by omega)
 injection e with e
 injection e with e1 e2 _
 subst e1;subst e2
 refine Calls.mono (ConcatQ_calls w A A' n c m d Z 2 (l.map encQ) (l'.map encQ) (by simpa using hc 0 0 _ _ rfl rfl) (by simpa using hc 1 0 _ _ rfl rfl) (Live.sl LV hs) (Live.sl LV ht) (encQ_one _) (encQ_one _) (by omega)) ?_
 rintro e w' ⟨A1,c1,rfl,ho,hb⟩
 exact ⟨A1,c1,rfl,LV.add hi ho hb⟩
def RrPost (w:World) (q:Dsk × List Rec) (e:Ending) (w':World):Prop:=∃ F k i F' l j B b y,e=.returned (.tuple #[.agg #[.slice F k i,.slice F' l j],.slice B b y])∧DK w' F k i F' l j q.1∧S w' 8 B b (q.2.map encQ)∧b≤1000∧Onto w w'
set_option maxHeartbeats 8000000 in
set_option maxRecDepth 100000 in
theorem RDRec_calls (A A' : Option Addr) (n c m d : Nat) (x : Dsk) (w : World) (E : Env w) (K : DK w A n c A' m d x) (hok : checkK x = 0) :
    Calls Tryz.prog 19 #[.agg #[.slice A n c,.slice A' m d]] w (RrPost w (backK x,recsK x)):=by
 obtain ⟨q,hq⟩:∃ q,q=(backK x,recsK x):=⟨_,rfl⟩
 rw [← hq]
 have hbd:=decB x hok
 rw [← K.n_eq,← K.m_eq] at hbd
 have hn:n≤30000:=by omega
 have hm:m≤30000:=by omega
 have hmd:m≤d:=K.m_le
 have hdm:d≤9223372036854775807:=by have:=K.d_le;unfold maxLen at this;omega
 have hsl:x.safe.length≤30000:=by rw [← K.n_eq];omega
 have hwl:x.wait.length≤30000:=by rw [← K.m_eq];omega
 obtain ⟨l,hl⟩:∃ l,l=(linesK x.safe 160).1:=⟨_,rfl⟩
 have hl1:l.length≤160:=by rw [hl];exact (linesK_read x.safe 160).2.1
 have HL:=Lib.hid hl
 unfold backK recsK at hq
 rw [← hl] at hq
 obtain ⟨most,hmost⟩:∃ most:Nat,most=160 - l.length:=⟨_,rfl⟩
 have hmi:(160:Int) - (l.length:Int)=(most:Int):=by omega
 rw [← hmost] at hq
 obtain ⟨k,hk⟩:∃ k,k=(linesK x.wait most).1:=⟨_,rfl⟩
 obtain ⟨j,hj⟩:∃ j,j=(linesK x.wait most).2.1:=⟨_,rfl⟩
 have hj1:j≤m:=by
  obtain ⟨_,_,h3,h4,_⟩:=linesK_read x.wait most
  have h5:=congrArg List.length h4
  rw [← h3,← hj,List.length_take] at h5
  rw [K.m_eq];omega
 have hk1:l.length+k.length≤160:=by have:=(linesK_read x.wait most).2.1;rw [← hk] at this;omega
 rw [← hk,← hj] at hq
 have HQ2:=Lib.hid hq;have HK:=Lib.hid hk;have HJ:=Lib.hid hj
 have hm160:most≤160:=by omega
 clear hq hk hj hl hok hmost
 go_enter Tryz.func19,Tryz.ntmps19
 go_upto_region 1 with fail
 have B2:Bx ((w.alloc (Obj.cells #[.slice A n c,.slice A' m d] 54)).alloc (Obj.cells #[.slice none 0 0,.slice none 0 0] 54)) w.heap.size [.slice A n c,.slice A' m d]:=by
  have:=((Bx.made w #[.slice A n c,.slice A' m d] 54).new (Obj.cells #[.slice none 0 0,.slice none 0 0] 54))
  simpa using this
 have Bz:Bx ((w.alloc (Obj.cells #[.slice A n c,.slice A' m d] 54)).alloc (Obj.cells #[.slice none 0 0,.slice none 0 0] 54)) (w.heap.size+1) [.slice none 0 0,.slice none 0 0]:=by
  have:=(Bx.made (w.alloc (Obj.cells #[.slice A n c,.slice A' m d] 54)) #[.slice none 0 0,.slice none 0 0] 54)
  simpa using this
 have on:Onto w ((w.alloc (Obj.cells #[.slice A n c,.slice A' m d] 54)).alloc (Obj.cells #[.slice none 0 0,.slice none 0 0] 54)):=((Onto.rfl' w).new _).new _
 generalize ((w.alloc (Obj.cells #[.slice A n c,.slice A' m d] 54)).alloc (Obj.cells #[.slice none 0 0,.slice none 0 0] 54))=w1 at *
 have hz':w.heap.size≤w.heap.size+1:=by omega
 have hzz:w.heap.size≠w.heap.size+1:=by omega
 have hwz2:w.heap.size≤w.heap.size:=Nat.le_refl _
 generalize w.heap.size+1=z at Bz hz' hzz ⊢
 generalize hz2:w.heap.size=z2 at B2 hzz ⊢
 replace hwz2:w.heap.size≤z2:=by omega
 clear hz2
 have b0:=B2.at_ 0 rfl;have b1:=B2.at_ 1 rfl
 have hs2:=on.size
 have E2:=E.onto on;have K2:=K.onto on
 have cv:=conv_bytes (c:=c) K2.safe
 go_wp2_with fail
 refine Calls.mono (RLines_calls x.safe 160 hsl (by omega) _ E2) ?_
 rintro e w3 ⟨A1,n1,c1,rfl,own1,b⟩
 rw [show (linesK x.safe 160).1=l from HL.out.symm] at own1
 have hn1:n1=l.length:=by have:=own1.2.1;simpa using this.symm
 subst hn1
 have LV0:=(Live.start w1 6).add (i:=0) (by simp) own1 b
 have LVH:=Lib.hid LV0
 clear own1 b0 b1 cv LV0
 have b0:=cellB b (B2.at_ 0 rfl);have b1:=cellB b (B2.at_ 1 rfl)
 have cv:=conv_bytes (c:=d) (K2.wait.onto b)
 have E3:=E2.onto b
 clear b
 go_wp2_with fail
 refine Calls.mono (RLines_calls x.wait most hwl (by omega) _ E3) ?_
 rintro e w4 ⟨A2,n2,c2,rfl,own2,b⟩
 rw [show (linesK x.wait most).1=k from HK.out.symm] at own2
 rw [show (linesK x.wait most).2.1=j from HJ.out.symm]
 have hn2:n2=k.length:=by have:=own2.2.1;simpa using this.symm
 subst hn2
 have LV:=LVH.out.add (i:=3) (by simp) own2 b
 clear b0 b1 cv E3 own2 b LVH
 have i0:(0:Int)≤(j:Int):=by omega
 have i1:(j:Int)≤(d:Int):=by omega
 go_upto_region 3 with fail
 have hsj:S w1 1 A' j ((x.wait.take j).map encB):=by rw [List.map_take];exact Sl.take K2.wait hj1
 have b0:=B2.at_ 0 rfl;have b1:=B2.at_ 1 rfl
 have B4:=Bz.onto LV.on
 have zb0:=B4.at_ 0 rfl;have zb1:=B4.at_ 1 rfl
 have zf0:=B4.froz 0;have zf1:=B4.froz 1
 clear B4
 go_region_held3 (fun w'=>w'.cell? ⟨z2,0,none⟩=some (.slice A n c)∧w'.cell? ⟨z2,1,none⟩=some (.slice A' m d))
  (first | exact ⟨cellB (Live.on (by with_reducible (first | exact LV | exact LV.draw | exact (LV.litP (i:=1) (by simp)) | exact (LV.litQ (i:=4) (by simp)) | exact (LV.draw.litP (i:=1) (by simp)) | exact (LV.draw.litQ (i:=4) (by simp)) | exact (LV.litP (i:=1) (by simp)).draw | exact ((LV.litP (i:=1) (by simp)).litQ (i:=4) (by simp)) | exact (LV.litQ (i:=4) (by simp)).draw | exact ((LV.litQ (i:=4) (by simp)).litP (i:=1) (by simp)) | exact ((LV.draw.litP (i:=1) (by simp)).litQ (i:=4) (by simp)) | exact ((LV.draw.litQ (i:=4) (by simp)).litP (i:=1) (by simp)) | exact ((LV.litP (i:=1) (by simp)).draw.litQ (i:=4) (by simp)) | exact ((LV.litP (i:=1) (by simp)).litQ (i:=4) (by simp)).draw | exact ((LV.litQ (i:=4) (by simp)).draw.litP (i:=1) (by simp)) | exact ((LV.litQ (i:=4) (by simp)).litP (i:=1) (by simp)).draw))) b0,cellB (Live.on (by with_reducible (first | exact LV | exact LV.draw | exact (LV.litP (i:=1) (by simp)) | exact (LV.litQ (i:=4) (by simp)) | exact (LV.draw.litP (i:=1) (by simp)) | exact (LV.draw.litQ (i:=4) (by simp)) | exact (LV.litP (i:=1) (by simp)).draw | exact ((LV.litP (i:=1) (by simp)).litQ (i:=4) (by simp)) | exact (LV.litQ (i:=4) (by simp)).draw | exact ((LV.litQ (i:=4) (by simp)).litP (i:=1) (by simp)) | exact ((LV.draw.litP (i:=1) (by simp)).litQ (i:=4) (by simp)) | exact ((LV.draw.litQ (i:=4) (by simp)).litP (i:=1) (by simp)) | exact ((LV.litP (i:=1) (by simp)).draw.litQ (i:=4) (by simp)) | exact ((LV.litP (i:=1) (by simp)).litQ (i:=4) (by simp)).draw | exact ((LV.litQ (i:=4) (by simp)).draw.litP (i:=1) (by simp)) | exact ((LV.litQ (i:=4) (by simp)).litP (i:=1) (by simp)).draw))) b1⟩ | exact ⟨(((B2.onto (Live.on (by with_reducible (first | exact LV | exact LV.draw | exact (LV.litP (i:=1) (by simp)) | exact (LV.litQ (i:=4) (by simp)) | exact (LV.draw.litP (i:=1) (by simp)) | exact (LV.draw.litQ (i:=4) (by simp)) | exact (LV.litP (i:=1) (by simp)).draw | exact ((LV.litP (i:=1) (by simp)).litQ (i:=4) (by simp)) | exact (LV.litQ (i:=4) (by simp)).draw | exact ((LV.litQ (i:=4) (by simp)).litP (i:=1) (by simp)) | exact ((LV.draw.litP (i:=1) (by simp)).litQ (i:=4) (by simp)) | exact ((LV.draw.litQ (i:=4) (by simp)).litP (i:=1) (by simp)) | exact ((LV.litP (i:=1) (by simp)).draw.litQ (i:=4) (by simp)) | exact ((LV.litP (i:=1) (by simp)).litQ (i:=4) (by simp)).draw | exact ((LV.litQ (i:=4) (by simp)).draw.litP (i:=1) (by simp)) | exact ((LV.litQ (i:=4) (by simp)).litP (i:=1) (by simp)).draw)))).off1 (p:=⟨z,0,none⟩) hzz _).off1 (p:=⟨z,1,none⟩) hzz _).at_ 0 rfl,(((B2.onto (Live.on (by with_reducible (first | exact LV | exact LV.draw | exact (LV.litP (i:=1) (by simp)) | exact (LV.litQ (i:=4) (by simp)) | exact (LV.draw.litP (i:=1) (by simp)) | exact (LV.draw.litQ (i:=4) (by simp)) | exact (LV.litP (i:=1) (by simp)).draw | exact ((LV.litP (i:=1) (by simp)).litQ (i:=4) (by simp)) | exact (LV.litQ (i:=4) (by simp)).draw | exact ((LV.litQ (i:=4) (by simp)).litP (i:=1) (by simp)) | exact ((LV.draw.litP (i:=1) (by simp)).litQ (i:=4) (by simp)) | exact ((LV.draw.litQ (i:=4) (by simp)).litP (i:=1) (by simp)) | exact ((LV.litP (i:=1) (by simp)).draw.litQ (i:=4) (by simp)) | exact ((LV.litP (i:=1) (by simp)).litQ (i:=4) (by simp)).draw | exact ((LV.litQ (i:=4) (by simp)).draw.litP (i:=1) (by simp)) | exact ((LV.litQ (i:=4) (by simp)).litP (i:=1) (by simp)).draw)))).off1 (p:=⟨z,0,none⟩) hzz _).off1 (p:=⟨z,1,none⟩) hzz _).at_ 1 rfl⟩ | fail)
  (first
   | (go_at_call 42;refine Calls.mono (ConcatB_live (by with_reducible (first | exact LV | exact LV.draw | exact (LV.litP (i:=1) (by simp)) | exact (LV.litQ (i:=4) (by simp)) | exact (LV.draw.litP (i:=1) (by simp)) | exact (LV.draw.litQ (i:=4) (by simp)) | exact (LV.litP (i:=1) (by simp)).draw | exact ((LV.litP (i:=1) (by simp)).litQ (i:=4) (by simp)) | exact (LV.litQ (i:=4) (by simp)).draw | exact ((LV.litQ (i:=4) (by simp)).litP (i:=1) (by simp)) | exact ((LV.draw.litP (i:=1) (by simp)).litQ (i:=4) (by simp)) | exact ((LV.draw.litQ (i:=4) (by simp)).litP (i:=1) (by simp)) | exact ((LV.litP (i:=1) (by simp)).draw.litQ (i:=4) (by simp)) | exact ((LV.litP (i:=1) (by simp)).litQ (i:=4) (by simp)).draw | exact ((LV.litQ (i:=4) (by simp)).draw.litP (i:=1) (by simp)) | exact ((LV.litQ (i:=4) (by simp)).litP (i:=1) (by simp)).draw)) 2 1 (by simp) A A' n c j d _ 52 x.safe (x.wait.take j) K2.safe hsj (by omega) (by first | rfl | (simp;done))) ?_;rintro e w6 ⟨A3,c3,rfl,LV⟩;have Z:=Bz.onto LV.on;have p0:=Z.at_ 0 rfl;have p1:=Z.at_ 1 rfl;have f0:=Z.froz 0;have f1:=Z.froz 1;clear Z)
   | (go_at_call 43;refine Calls.mono (ConcatQ_live (by with_reducible (first | exact LV | exact LV.draw | exact (LV.litP (i:=1) (by simp)) | exact (LV.litQ (i:=4) (by simp)) | exact (LV.draw.litP (i:=1) (by simp)) | exact (LV.draw.litQ (i:=4) (by simp)) | exact (LV.litP (i:=1) (by simp)).draw | exact ((LV.litP (i:=1) (by simp)).litQ (i:=4) (by simp)) | exact (LV.litQ (i:=4) (by simp)).draw | exact ((LV.litQ (i:=4) (by simp)).litP (i:=1) (by simp)) | exact ((LV.draw.litP (i:=1) (by simp)).litQ (i:=4) (by simp)) | exact ((LV.draw.litQ (i:=4) (by simp)).litP (i:=1) (by simp)) | exact ((LV.litP (i:=1) (by simp)).draw.litQ (i:=4) (by simp)) | exact ((LV.litP (i:=1) (by simp)).litQ (i:=4) (by simp)).draw | exact ((LV.litQ (i:=4) (by simp)).draw.litP (i:=1) (by simp)) | exact ((LV.litQ (i:=4) (by simp)).litP (i:=1) (by simp)).draw)) 5 4 0 3 (by simp) A1 A2 l.length c1 k.length c2 _ 59 l k (by rfl) (by rfl) (by omega) (by first | rfl | (simp;done))) ?_;rintro e w7 ⟨A5,c5,rfl,LV⟩;have Z:=Bz.onto LV.on;have p0:=Z.at_ 0 rfl;have p1:=Z.at_ 1 rfl;have f0:=Z.froz 0;have f1:=Z.froz 1;clear Z)
   | fail)
 all_goals
  have hz3:z<w1.heap.size:=Bz.lt
  have o1:Own _ w1.heap.size 5 1 (.slice A3 (n+j) c3) (n+j) (x.safe.map encB ++(x.wait.take j).map encB):=LV.own 2 _ rfl
  have o2:Own _ w1.heap.size 96 8 (.slice A5 (l.length+k.length) c5) (l.length+k.length) (l.map encQ ++k.map encQ):=LV.own 5 _ rfl
  have on9:=on.to LV.on
  have HO1:=Lib.hid o1;have HO2:=Lib.hid o2;have HON:=Lib.hid on9
  have hq:=HQ2.out
  subst hq
  clear o1 o2 on9 LV
  trace "GOAL"
  go_wp2_with fail
  refine bodyPost_ret (v:=.tuple #[.agg #[.slice A3 (n+j) c3,.slice none 0 0],.slice A5 (l.length+k.length) c5]) (by simp [results,Tryz.results19,go_sem,p0,p1]) rfl ⟨A3,n+j,c3,none,0,0,A5,l.length+k.length,c5,rfl,DK.one ((HO1.out.setCell (p:=⟨z,0,none⟩) hz3 _).setCell (p:=⟨z,1,none⟩) hz3 _),?_,by omega,(HON.out.put hz' _).put hz' _⟩
  rw [List.map_append]
  exact ((HO2.out.setCell (p:=⟨z,0,none⟩) hz3 _).setCell (p:=⟨z,1,none⟩) hz3 _).sl
end
section
open Go.RowKit
end
section
open Go.RowKit
def RUPost2 (w:World) (A0:Option Addr) (u:Uni) (err:Int) (e:Ending) (w':World):Prop :=
 ∃ A n c,e=.returned (.tuple #[.agg #[.int .i64 u.ep,.slice A n c],.int .i64 err])∧S w' 5 A n (u.cells.map encE)∧Onto w w'∧(A=A0∨Fresh w.heap.size A)
set_option maxHeartbeats 4000000 in
set_option maxRecDepth 100000 in
theorem RUNext2_calls (ep : Int) (A : Option Addr) (n c : Nat) (cs : List Entry) (k a p : Int) (x : Entry) (w : World) (h : S w 5 A n (cs.map encE)) :
    Calls Tryz.prog 45 #[.agg #[.int .i64 ep,.slice A n c],.agg #[.int .i64 k,.int .i64 a,.int .i64 p,.int .i64 x.kind,.int .i64 x.job,.int .i64 x.every,.int .i64 x.time,.int .i64 x.client]] w (RUPost2 w A (nextU ⟨ep,cs⟩ ⟨k,a,p,x⟩).1 (nextU ⟨ep,cs⟩ ⟨k,a,p,x⟩).2):=by
 have hl:cs.length=n:=by have:=h.len;simpa using this
 obtain ⟨q,hq⟩:∃ q,q=checkU ep cs:=⟨_,rfl⟩
 obtain ⟨q2,hq2⟩:∃ q2,q2=checkR ⟨k,a,p,x⟩:=⟨_,rfl⟩
 obtain ⟨r,hr⟩:∃ r,r=nextU ⟨ep,cs⟩ ⟨k,a,p,x⟩:=⟨_,rfl⟩
 rw [← hr]
 unfold nextU at hr
 simp only [← hq,← hq2] at hr
 have HQ:=Lib.hid hq;have HQ2:=Lib.hid hq2
 have hne:=neqE
 by_cases h0:q=0
 · rw [if_neg (by simp [h0])] at hr
   have hg:=checkU_iff.1 (h0 ▸ hq.symm)
   have hn:n=60:=by rw [← hl];exact hg.len
   subst hn
   subst h0
   have HG:=Lib.hid hg
   have HR0:=Lib.hid hr
   clear hr hq hq2 hg
   go_enter Tryz.func45,Tryz.ntmps45
   go_wp2_with fail
   have h1:=((h.new (Obj.cells #[.int .i64 ep,.slice A 60 c] 51)).new (Obj.cells #[.int .i64 k,.int .i64 a,.int .i64 p,.int .i64 x.kind,.int .i64 x.job,.int .i64 x.every,.int .i64 x.time,.int .i64 x.client] 96)).new (Obj.cells #[.int .i64 0,.slice none 0 0] 51)
   refine Calls.mono (RCU_calls ep A 60 c cs _ h1) ?_
   rw [← HQ.out]
   rintro e w1 ⟨rfl,hb1⟩
   have q0a:w1.cell? ⟨w.heap.size,0,none⟩=some (.int .i64 ep):=cellB hb1 (by simp [go_sem])
   have q1a:w1.cell? ⟨w.heap.size,1,none⟩=some (.slice A 60 c):=cellB hb1 (by simp [go_sem])
   have r0a:w1.cell? ⟨w.heap.size+1,0,none⟩=some (.int .i64 k):=cellB hb1 (by simp [go_sem])
   have r1a:w1.cell? ⟨w.heap.size+1,1,none⟩=some (.int .i64 a):=cellB hb1 (by simp [go_sem])
   have r2a:w1.cell? ⟨w.heap.size+1,2,none⟩=some (.int .i64 p):=cellB hb1 (by simp [go_sem])
   have r3a:w1.cell? ⟨w.heap.size+1,3,none⟩=some (.int .i64 x.kind):=cellB hb1 (by simp [go_sem])
   have r4a:w1.cell? ⟨w.heap.size+1,4,none⟩=some (.int .i64 x.job):=cellB hb1 (by simp [go_sem])
   have r5a:w1.cell? ⟨w.heap.size+1,5,none⟩=some (.int .i64 x.every):=cellB hb1 (by simp [go_sem])
   have r6a:w1.cell? ⟨w.heap.size+1,6,none⟩=some (.int .i64 x.time):=cellB hb1 (by simp [go_sem])
   have r7a:w1.cell? ⟨w.heap.size+1,7,none⟩=some (.int .i64 x.client):=cellB hb1 (by simp [go_sem])
   have p0a:w1.cell? ⟨w.heap.size+1+1,0,none⟩=some (.int .i64 0):=cellB hb1 (by simp [go_sem])
   have p1a:w1.cell? ⟨w.heap.size+1+1,1,none⟩=some (.slice none 0 0):=cellB hb1 (by simp [go_sem])
   have fq0a:w1.frozen? ⟨w.heap.size,0,none⟩=false:=frozB hb1 (v:=.int .i64 ep) (by simp [go_sem]) (by simp [go_sem])
   have fq1a:w1.frozen? ⟨w.heap.size,1,none⟩=false:=frozB hb1 (v:=.slice A 60 c) (by simp [go_sem]) (by simp [go_sem])
   have fp0a:w1.frozen? ⟨w.heap.size+1+1,0,none⟩=false:=frozB hb1 (v:=.int .i64 0) (by simp [go_sem]) (by simp [go_sem])
   have fp1a:w1.frozen? ⟨w.heap.size+1+1,1,none⟩=false:=frozB hb1 (v:=.slice none 0 0) (by simp [go_sem]) (by simp [go_sem])
   have h01:Onto w w1:=((((Below.refl _ _).alloc (Nat.le_refl _) _).alloc (by simp) _).alloc (by simp;omega) _).trans (hb1.mono (by simp;omega))
   have h1':=h1.onto hb1
   have HOF:Hid (∀ z,w.heap.size≤z→OffN 60 z A):=fun z hz=>h.offN hz
   clear hb1 h h1
   go_wp2_with fail
   refine Calls.mono (RCR_calls k a p x _) ?_
   rw [← HQ2.out]
   rintro e w2 ⟨rfl,hb2⟩
   have q0b:=cellB hb2 q0a;have q1b:=cellB hb2 q1a;have r0b:=cellB hb2 r0a;have r1b:=cellB hb2 r1a;have r2b:=cellB hb2 r2a;have r3b:=cellB hb2 r3a;have r4b:=cellB hb2 r4a;have r5b:=cellB hb2 r5a;have r6b:=cellB hb2 r6a;have r7b:=cellB hb2 r7a;have p0b:=cellB hb2 p0a;have p1b:=cellB hb2 p1a
   have fq0b:=frozB hb2 q0a fq0a;have fq1b:=frozB hb2 q1a fq1a;have fp0b:=frozB hb2 p0a fp0a;have fp1b:=frozB hb2 p1a fp1a
   clear q0a q1a r0a r1a r2a r3a r4a r5a r6a r7a p0a p1a fq0a fq1a fp0a fp1a
   have h2:=h1'.onto hb2;have h02:=Onto.to h01 hb2
   have hz:w.heap.size+1+1<w2.heap.size:=World.block_lt_of_cell? _ _ p0b
   clear hb2 h1' h01
   have hr:=HR0.out
   by_cases h20:q2=0
   · rw [if_neg (by simp [h20])] at hr
     subst h20
     by_cases hk:k=2
     · rw [if_pos hk] at hr
       by_cases hle:p≤ep
       · rw [if_pos hle] at hr
         have HR:=Lib.hid hr
         have hd:(k ==2)=true:=by simp [hk]
         have hd2:decide (p≤ep)=true:=by simpa using hle
         clear hr HR0 hk
         go_wp2_with fail
         refine bodyPost_ret (v:=.tuple #[.agg #[.int .i64 0,.slice none 0 0],.int .i64 8]) (by simp [results,Tryz.results45,go_sem,p0b,p1b]) rfl ?_
         rw [HR.out]
         refine ⟨none,0,0,rfl,Sl.nil,?_,.inr (Fresh.none_ _)⟩
         repeat (first | exact h02 | refine Onto.put ?_ (by first | omega | (simp;done) | (simp;omega)) _)
       · rw [if_neg hle] at hr
         have HR:=Lib.hid hr
         have hd:(k ==2)=true:=by simp [hk]
         have hd2:decide (p≤ep)=false:=by simpa using hle
         have HS2:=Lib.hid h2
         clear hr HR0 hk h2
         go_wp2_with fail
         refine bodyPost_ret (v:=.tuple #[.agg #[.int .i64 p,.slice A 60 c],.int .i64 0]) (by simp [results,Tryz.results45,go_sem,p0b,p1b]) rfl ?_
         rw [HR.out]
         refine ⟨A,60,c,rfl,?_,?_,.inl rfl⟩
         · exact (HS2.out.off (p:=⟨w.heap.size+1+1,0,none⟩) (HOF.out _ (by simp only;omega)) (.int .i64 p)).off (p:=⟨w.heap.size+1+1,1,none⟩) (HOF.out _ (by simp only;omega)) (.slice A 60 c)
         · repeat (first | exact h02 | refine Onto.put ?_ (by first | omega | (simp;done) | (simp;omega)) _)
     · rw [if_neg hk] at hr
       obtain ⟨hk1,ha0,ha1,hp0,hx⟩:=checkR_write HQ2.out.symm hk
       dsimp only at hk1 ha0 ha1 hp0 hx
       obtain ⟨j,rfl⟩:∃ j:Nat,a=j:=⟨a.toNat,by omega⟩
       have hd:(k ==2)=false:=by simpa using hk
       obtain ⟨b,off,y,rfl,hb,hy,d0,d1,d2,d3,d4⟩:=h2.atE (i:=j) (by omega)
       have hoy:=okC_kind (HG.out.ok y (List.mem_of_getElem? hy))
       have hj60':(j:Int)<60:=by omega
       rw [Int.toNat_natCast,cellAt_eq hy] at hr
       have HR1:=Lib.hid hr;have HY:=Lib.hid hy
       clear hr HR0 hy hk
       go_wp2_with fail
       have k0:=onto_cell q1b;have k1:=onto_cell r1b;have k2:=onto_cell d0;have k3:=onto_cell d1;have k4:=onto_cell d2;have k5:=onto_cell d3;have k6:=onto_cell d4
       have k7:=onto_size hb;have k8:=onto_size hz
       by_cases hyb:y=blank
       · have hr:=HR1.out
         rw [if_neg (by simp [hoy.2.2.2 hyb])] at hr
         have HR:=Lib.hid hr
         have hd2:(!(y.kind ==4 && y.job ==0 && y.every ==0 && y.time ==0 && y.client ==0))=false:=by subst hyb;rfl
         clear hr HR1 hyb hoy
         refine wp_region_onto (by kernel_rfl) (by kernel_rfl) ?_
         repeat (go_big_quiet_step ((first | (go_at_call 35;exact calls_onto (blank_calls _)))))
         refine wpQuiet_nil ?_
         intro w3 hb3
         have q0c:=cellB hb3 q0b;have q1c:=cellB hb3 q1b;have r0c:=cellB hb3 r0b;have r1c:=cellB hb3 r1b;have r2c:=cellB hb3 r2b;have r3c:=cellB hb3 r3b;have r4c:=cellB hb3 r4b;have r5c:=cellB hb3 r5b;have r6c:=cellB hb3 r6b;have r7c:=cellB hb3 r7b;have p0c:=cellB hb3 p0b;have p1c:=cellB hb3 p1b
         have fq0c:=frozB hb3 q0b fq0b;have fq1c:=frozB hb3 q1b fq1b;have fp0c:=frozB hb3 p0b fp0b;have fp1c:=frozB hb3 p1b fp1b
         clear q0b q1b r0b r1b r2b r3b r4b r5b r6b r7b p0b p1b fq0b fq1b fp0b fp1b
         have h3:=h2.onto hb3;have h03:=Onto.to h02 hb3
         have hz3:w.heap.size+1+1<w3.heap.size:=World.block_lt_of_cell? _ _ p0c
         clear hb3 h2 h02 d0 d1 d2 d3 d4 k0 k1 k2 k3 k4 k5 k6 k7 k8 hb
         have hz3a:w.heap.size<w3.heap.size:=by omega
         have hz3b:w.heap.size+1<w3.heap.size:=by omega
         obtain ⟨i0,hi0,hzz0,hzz1,hzz2⟩:=info_parts infoE
         have HI:=Lib.hid hi0;have HZ0:=Lib.hid hzz0;have HZ1:=Lib.hid hzz1;have HZ2:=Lib.hid hzz2
         have H3:=Lib.hid h3
         clear hi0 hzz0 hzz1 hzz2 h3
         go_wp2_with (at_builtin;refine wpList_append_sl _ rfl _ _ 26 rfl w3.heap.size 46 i0 _ 5 40 Tryz.underlying26 HI.out HZ0.out HZ1.out HZ2.out rfl (by decide) _ 0 [] rfl ?c1 w3.heap.size (some ⟨b,off,none⟩) 60 c (cs.map encE) rfl ?c2 (encE_one cs) ?c3 ?c4 ?c5 ?_)
         case c1=>exact ⟨World.ownsRow_made _ _ _ (Nat.le_refl _) (by simp [maxLen]) (by simp),rfl,by simp⟩
         case c2=>exact H3.out.keep fun p hp=>World.cell?_alloc_lt w3 _ p (by omega)
         case c3=>unfold maxLen;omega
         case c4=>omega
         case c5=>simp
         intro v8 w8 own8 grow8 hv8
         obtain ⟨A8,c8,rfl,hc1,hc2⟩:=own8.slice
         have nr:∀ z,z<w3.heap.size→some z≠Value.ownBlock (.slice (some ⟨w3.heap.size,0,none⟩) 0 0):=fun z hz=>by simp [Value.ownBlock];omega
         have hbA:Below w3.heap.size w3 (w3.alloc (Obj.cells #[] 46)):=(Below.refl _ _).alloc (Nat.le_refl _) _
         have q0d:=grow_cell grow8 (cellB hbA q0c) (nr _ (by simp only;omega))
         have q1d:=grow_cell grow8 (cellB hbA q1c) (nr _ (by simp only;omega))
         have r0d:=grow_cell grow8 (cellB hbA r0c) (nr _ (by simp only;omega))
         have r1d:=grow_cell grow8 (cellB hbA r1c) (nr _ (by simp only;omega))
         have r2d:=grow_cell grow8 (cellB hbA r2c) (nr _ (by simp only;omega))
         have r3d:=grow_cell grow8 (cellB hbA r3c) (nr _ (by simp only;omega))
         have r4d:=grow_cell grow8 (cellB hbA r4c) (nr _ (by simp only;omega))
         have r5d:=grow_cell grow8 (cellB hbA r5c) (nr _ (by simp only;omega))
         have r6d:=grow_cell grow8 (cellB hbA r6c) (nr _ (by simp only;omega))
         have r7d:=grow_cell grow8 (cellB hbA r7c) (nr _ (by simp only;omega))
         have p0d:=grow_cell grow8 (cellB hbA p0c) (nr _ (by simp only;omega))
         have p1d:=grow_cell grow8 (cellB hbA p1c) (nr _ (by simp only;omega))
         have fq0d:=grow_froz grow8 (cellB hbA q0c) (frozB hbA q0c fq0c) (nr _ (by simp only;omega))
         have fq1d:=grow_froz grow8 (cellB hbA q1c) (frozB hbA q1c fq1c) (nr _ (by simp only;omega))
         have fp0d:=grow_froz grow8 (cellB hbA p0c) (frozB hbA p0c fp0c) (nr _ (by simp only;omega))
         have fp1d:=grow_froz grow8 (cellB hbA p1c) (frozB hbA p1c fp1c) (nr _ (by simp only;omega))
         have h08:Onto w w8:=below_grown (Onto.new h03 (Obj.cells #[] 46)) (by simp;omega) grow8 (fun g hg=>by simp [Value.ownBlock] at hg;omega)
         have hm8:=own8.m
         have hz8:w.heap.size+1+1<w8.heap.size:=World.block_lt_of_cell? _ _ p0d
         clear nr hbA grow8 hv8 own8 h03 HI HZ0 HZ1 HZ2 H3 q0c q1c r0c r1c r2c r3c r4c r5c r6c r7c p0c p1c fq0c fq1c fp0c fp1c
         go_upto_region 14 with fail
         have hm9:M (w8.setCell ⟨w.heap.size,1,none⟩ (.slice A8 60 c8)) w3.heap.size 5 A8 60 (cs.map encE):=M.off hm8 (by simp only;omega) _
         have h09:Onto w (w8.setCell ⟨w.heap.size,1,none⟩ (.slice A8 60 c8)):=h08.put (by simp) _
         have q0e:(w8.setCell ⟨w.heap.size,1,none⟩ (.slice A8 60 c8)).cell? ⟨w.heap.size,0,none⟩=some (.int .i64 ep):=by simp [go_sem,q0d,q1d]
         have q1e:(w8.setCell ⟨w.heap.size,1,none⟩ (.slice A8 60 c8)).cell? ⟨w.heap.size,1,none⟩=some (.slice A8 60 c8):=by simp [go_sem,q1d,q1d]
         have r0e:(w8.setCell ⟨w.heap.size,1,none⟩ (.slice A8 60 c8)).cell? ⟨w.heap.size+1,0,none⟩=some (.int .i64 k):=by simp [go_sem,r0d,q1d]
         have r1e:(w8.setCell ⟨w.heap.size,1,none⟩ (.slice A8 60 c8)).cell? ⟨w.heap.size+1,1,none⟩=some (.int .i64 (j:Int)):=by simp [go_sem,r1d,q1d]
         have r2e:(w8.setCell ⟨w.heap.size,1,none⟩ (.slice A8 60 c8)).cell? ⟨w.heap.size+1,2,none⟩=some (.int .i64 p):=by simp [go_sem,r2d,q1d]
         have r3e:(w8.setCell ⟨w.heap.size,1,none⟩ (.slice A8 60 c8)).cell? ⟨w.heap.size+1,3,none⟩=some (.int .i64 x.kind):=by simp [go_sem,r3d,q1d]
         have r4e:(w8.setCell ⟨w.heap.size,1,none⟩ (.slice A8 60 c8)).cell? ⟨w.heap.size+1,4,none⟩=some (.int .i64 x.job):=by simp [go_sem,r4d,q1d]
         have r5e:(w8.setCell ⟨w.heap.size,1,none⟩ (.slice A8 60 c8)).cell? ⟨w.heap.size+1,5,none⟩=some (.int .i64 x.every):=by simp [go_sem,r5d,q1d]
         have r6e:(w8.setCell ⟨w.heap.size,1,none⟩ (.slice A8 60 c8)).cell? ⟨w.heap.size+1,6,none⟩=some (.int .i64 x.time):=by simp [go_sem,r6d,q1d]
         have r7e:(w8.setCell ⟨w.heap.size,1,none⟩ (.slice A8 60 c8)).cell? ⟨w.heap.size+1,7,none⟩=some (.int .i64 x.client):=by simp [go_sem,r7d,q1d]
         have p0e:(w8.setCell ⟨w.heap.size,1,none⟩ (.slice A8 60 c8)).cell? ⟨w.heap.size+1+1,0,none⟩=some (.int .i64 0):=by simp [go_sem,p0d,q1d]
         have p1e:(w8.setCell ⟨w.heap.size,1,none⟩ (.slice A8 60 c8)).cell? ⟨w.heap.size+1+1,1,none⟩=some (.slice none 0 0):=by simp [go_sem,p1d,q1d]
         have fq0e:(w8.setCell ⟨w.heap.size,1,none⟩ (.slice A8 60 c8)).frozen? ⟨w.heap.size,0,none⟩=false:=by simp [fq0d]
         have fq1e:(w8.setCell ⟨w.heap.size,1,none⟩ (.slice A8 60 c8)).frozen? ⟨w.heap.size,1,none⟩=false:=by simp [fq1d]
         have fp0e:(w8.setCell ⟨w.heap.size,1,none⟩ (.slice A8 60 c8)).frozen? ⟨w.heap.size+1+1,0,none⟩=false:=by simp [fp0d]
         have fp1e:(w8.setCell ⟨w.heap.size,1,none⟩ (.slice A8 60 c8)).frozen? ⟨w.heap.size+1+1,1,none⟩=false:=by simp [fp1d]
         have hz9:w.heap.size+1+1<(w8.setCell ⟨w.heap.size,1,none⟩ (.slice A8 60 c8)).heap.size:=by simp;omega
         clear hm8 h08 hz8 q0d q1d r0d r1d r2d r3d r4d r5d r6d r7d p0d p1d fq0d fq1d fp0d fp1d
         change Code.wp _ _ _ _ (w8.setCell ⟨w.heap.size,1,none⟩ (.slice A8 60 c8))
         generalize (w8.setCell ⟨w.heap.size,1,none⟩ (.slice A8 60 c8))=w9 at *
         obtain ⟨bm,offm,hAm,hbm,hunf⟩:=hm9.2 (by omega)
         subst hAm
         obtain ⟨bm',offm',y',hAm',hzm,_,e0,e1,e2,e3,e4⟩:=hm9.sl.atE (i:=j) (by omega)
         injection hAm' with hAm'
         injection hAm' with g1 g2 _
         subst g1;subst g2
         have u0:=hunf.frozen (offm+j*5);have u1:=hunf.frozen (offm+j*5+1);have u2:=hunf.frozen (offm+j*5+2);have u3:=hunf.frozen (offm+j*5+3);have u4:=hunf.frozen (offm+j*5+4)
         have HMM:=Lib.hid hm9
         have HUN:=Lib.hid hunf
         clear hm9 hunf
         go_upto_region 15 with fail
         have hm10:M (((((w9.setCell ⟨bm,offm+j*5,none⟩ (.int .i64 x.kind)).setCell ⟨bm,offm+j*5+1,none⟩ (.int .i64 x.job)).setCell ⟨bm,offm+j*5+2,none⟩ (.int .i64 x.every)).setCell ⟨bm,offm+j*5+3,none⟩ (.int .i64 x.time)).setCell ⟨bm,offm+j*5+4,none⟩ (.int .i64 x.client)) w3.heap.size 5 (some ⟨bm,offm,none⟩) 60 ((cs.set j x).map encE):=M.putE HMM.out (by omega) x
         have hbw:w.heap.size≤bm:=by omega
         have h10:Onto w (((((w9.setCell ⟨bm,offm+j*5,none⟩ (.int .i64 x.kind)).setCell ⟨bm,offm+j*5+1,none⟩ (.int .i64 x.job)).setCell ⟨bm,offm+j*5+2,none⟩ (.int .i64 x.every)).setCell ⟨bm,offm+j*5+3,none⟩ (.int .i64 x.time)).setCell ⟨bm,offm+j*5+4,none⟩ (.int .i64 x.client)):=((((h09.put hbw _).put hbw _).put hbw _).put hbw _).put hbw _
         have hne1:∀ i o u,∀ V:World,(V.setCell ⟨bm,i,none⟩ u).cell? ⟨w.heap.size,o,none⟩=V.cell? ⟨w.heap.size,o,none⟩:=fun i o u V=>World.cell?_setCell_other V _ _ _ (by intro e;injection e with e;omega)
         have hne2:∀ i o u,∀ V:World,(V.setCell ⟨bm,i,none⟩ u).cell? ⟨w.heap.size+1+1,o,none⟩=V.cell? ⟨w.heap.size+1+1,o,none⟩:=fun i o u V=>World.cell?_setCell_other V _ _ _ (by intro e;injection e with e;omega)
         have q0f:(((((w9.setCell ⟨bm,offm+j*5,none⟩ (.int .i64 x.kind)).setCell ⟨bm,offm+j*5+1,none⟩ (.int .i64 x.job)).setCell ⟨bm,offm+j*5+2,none⟩ (.int .i64 x.every)).setCell ⟨bm,offm+j*5+3,none⟩ (.int .i64 x.time)).setCell ⟨bm,offm+j*5+4,none⟩ (.int .i64 x.client)).cell? ⟨w.heap.size,0,none⟩=some (.int .i64 ep):=by rw [hne1,hne1,hne1,hne1,hne1];exact q0e
         have q1f:(((((w9.setCell ⟨bm,offm+j*5,none⟩ (.int .i64 x.kind)).setCell ⟨bm,offm+j*5+1,none⟩ (.int .i64 x.job)).setCell ⟨bm,offm+j*5+2,none⟩ (.int .i64 x.every)).setCell ⟨bm,offm+j*5+3,none⟩ (.int .i64 x.time)).setCell ⟨bm,offm+j*5+4,none⟩ (.int .i64 x.client)).cell? ⟨w.heap.size,1,none⟩=some (.slice (some ⟨bm,offm,none⟩) 60 c8):=by rw [hne1,hne1,hne1,hne1,hne1];exact q1e
         have p0f:(((((w9.setCell ⟨bm,offm+j*5,none⟩ (.int .i64 x.kind)).setCell ⟨bm,offm+j*5+1,none⟩ (.int .i64 x.job)).setCell ⟨bm,offm+j*5+2,none⟩ (.int .i64 x.every)).setCell ⟨bm,offm+j*5+3,none⟩ (.int .i64 x.time)).setCell ⟨bm,offm+j*5+4,none⟩ (.int .i64 x.client)).cell? ⟨w.heap.size+1+1,0,none⟩=some (.int .i64 0):=by rw [hne2,hne2,hne2,hne2,hne2];exact p0e
         have p1f:(((((w9.setCell ⟨bm,offm+j*5,none⟩ (.int .i64 x.kind)).setCell ⟨bm,offm+j*5+1,none⟩ (.int .i64 x.job)).setCell ⟨bm,offm+j*5+2,none⟩ (.int .i64 x.every)).setCell ⟨bm,offm+j*5+3,none⟩ (.int .i64 x.time)).setCell ⟨bm,offm+j*5+4,none⟩ (.int .i64 x.client)).cell? ⟨w.heap.size+1+1,1,none⟩=some (.slice none 0 0):=by rw [hne2,hne2,hne2,hne2,hne2];exact p1e
         have fp0f:(((((w9.setCell ⟨bm,offm+j*5,none⟩ (.int .i64 x.kind)).setCell ⟨bm,offm+j*5+1,none⟩ (.int .i64 x.job)).setCell ⟨bm,offm+j*5+2,none⟩ (.int .i64 x.every)).setCell ⟨bm,offm+j*5+3,none⟩ (.int .i64 x.time)).setCell ⟨bm,offm+j*5+4,none⟩ (.int .i64 x.client)).frozen? ⟨w.heap.size+1+1,0,none⟩=false:=by simp [fp0e]
         have fp1f:(((((w9.setCell ⟨bm,offm+j*5,none⟩ (.int .i64 x.kind)).setCell ⟨bm,offm+j*5+1,none⟩ (.int .i64 x.job)).setCell ⟨bm,offm+j*5+2,none⟩ (.int .i64 x.every)).setCell ⟨bm,offm+j*5+3,none⟩ (.int .i64 x.time)).setCell ⟨bm,offm+j*5+4,none⟩ (.int .i64 x.client)).frozen? ⟨w.heap.size+1+1,1,none⟩=false:=by simp [fp1e]
         have hz10:w.heap.size+1+1<(((((w9.setCell ⟨bm,offm+j*5,none⟩ (.int .i64 x.kind)).setCell ⟨bm,offm+j*5+1,none⟩ (.int .i64 x.job)).setCell ⟨bm,offm+j*5+2,none⟩ (.int .i64 x.every)).setCell ⟨bm,offm+j*5+3,none⟩ (.int .i64 x.time)).setCell ⟨bm,offm+j*5+4,none⟩ (.int .i64 x.client)).heap.size:=by simp;omega
         clear q0e q1e r0e r1e r2e r3e r4e r5e r6e r7e p0e p1e fq0e fq1e fp0e fp1e h09 HMM hz9 e0 e1 e2 e3 e4 u0 u1 u2 u3 u4 HUN hne1 hne2 hzm
         change Code.wp _ _ _ _ (((((w9.setCell ⟨bm,offm+j*5,none⟩ (.int .i64 x.kind)).setCell ⟨bm,offm+j*5+1,none⟩ (.int .i64 x.job)).setCell ⟨bm,offm+j*5+2,none⟩ (.int .i64 x.every)).setCell ⟨bm,offm+j*5+3,none⟩ (.int .i64 x.time)).setCell ⟨bm,offm+j*5+4,none⟩ (.int .i64 x.client))
         generalize (((((w9.setCell ⟨bm,offm+j*5,none⟩ (.int .i64 x.kind)).setCell ⟨bm,offm+j*5+1,none⟩ (.int .i64 x.job)).setCell ⟨bm,offm+j*5+2,none⟩ (.int .i64 x.every)).setCell ⟨bm,offm+j*5+3,none⟩ (.int .i64 x.time)).setCell ⟨bm,offm+j*5+4,none⟩ (.int .i64 x.client))=w10 at *
         go_wp2_with fail
         refine bodyPost_ret (v:=.tuple #[.agg #[.int .i64 ep,.slice (some ⟨bm,offm,none⟩) 60 c8],.int .i64 0]) (by simp [results,Tryz.results45,go_sem,q0f,q1f,p0f,p1f]) rfl ?_
         rw [HR.out]
         refine ⟨some ⟨bm,offm,none⟩,60,c8,rfl,?_,?_,.inr (M.fresh hm10 (by omega) (by omega))⟩
         · refine M.sl (base:=w3.heap.size) ?_
           refine M.off (M.off hm10 ?_ _) ?_ _
           all_goals (first | omega | (simp;done) | (simp;omega))
         · repeat (first | exact h10 | refine Onto.put ?_ (by first | omega | (simp;done) | (simp;omega)) _)
       · have hr:=HR1.out
         rw [if_pos (fun h=>hyb (hoy.2.2.1 h))] at hr
         have HR:=Lib.hid hr
         have hd2:(!(y.kind ==4 && y.job ==0 && y.every ==0 && y.time ==0 && y.client ==0))=true:=ne_true hyb
         clear hr HR1 hyb hoy
         refine wp_region_onto (by kernel_rfl) (by kernel_rfl) ?_
         repeat (go_big_quiet_step ((first | (go_at_call 35;exact calls_onto (blank_calls _)))))
         refine wpQuiet_nil ?_
         intro w3 hb3
         have q0c:=cellB hb3 q0b;have q1c:=cellB hb3 q1b;have r0c:=cellB hb3 r0b;have r1c:=cellB hb3 r1b;have r2c:=cellB hb3 r2b;have r3c:=cellB hb3 r3b;have r4c:=cellB hb3 r4b;have r5c:=cellB hb3 r5b;have r6c:=cellB hb3 r6b;have r7c:=cellB hb3 r7b;have p0c:=cellB hb3 p0b;have p1c:=cellB hb3 p1b
         have fq0c:=frozB hb3 q0b fq0b;have fq1c:=frozB hb3 q1b fq1b;have fp0c:=frozB hb3 p0b fp0b;have fp1c:=frozB hb3 p1b fp1b
         clear q0b q1b r0b r1b r2b r3b r4b r5b r6b r7b p0b p1b fq0b fq1b fp0b fp1b
         have h03:=Onto.to h02 hb3
         have hz3:w.heap.size+1+1<w3.heap.size:=World.block_lt_of_cell? _ _ p0c
         clear hb3 h2 h02 d0 d1 d2 d3 d4 k0 k1 k2 k3 k4 k5 k6 k7 k8 hb
         go_wp2_with fail
         refine bodyPost_ret (v:=.tuple #[.agg #[.int .i64 0,.slice none 0 0],.int .i64 6]) (by simp [results,Tryz.results45,go_sem,p0c,p1c]) rfl ?_
         rw [HR.out]
         refine ⟨none,0,0,rfl,Sl.nil,?_,.inr (Fresh.none_ _)⟩
         repeat (first | exact h03 | refine Onto.put ?_ (by first | omega | (simp;done) | (simp;omega)) _)
   · have hq1:(q2 !=0)=true:=by simpa using h20
     rw [if_pos h20] at hr
     have HR:=Lib.hid hr
     clear hr HR0 h2
     go_wp2_with fail
     refine bodyPost_ret (v:=.tuple #[.agg #[.int .i64 0,.slice none 0 0],.int .i64 q2]) (by simp [results,Tryz.results45,go_sem,p0b,p1b]) rfl ?_
     rw [HR.out]
     refine ⟨none,0,0,rfl,Sl.nil,?_,.inr (Fresh.none_ _)⟩
     repeat (first | exact h02 | refine Onto.put ?_ (by first | omega | (simp;done) | (simp;omega)) _)
 · rw [if_pos h0] at hr
   have hq0:(q !=0)=true:=by simpa using h0
   have HR:=Lib.hid hr
   clear hr hq hq2
   go_enter Tryz.func45,Tryz.ntmps45
   go_wp2_with fail
   refine Calls.mono (RCU_calls ep A n c cs _ (((h.new _).new _).new _)) ?_
   rw [← HQ.out]
   rintro e w1 ⟨rfl,hb1⟩
   have p0a:w1.cell? ⟨w.heap.size+1+1,0,none⟩=some (.int .i64 0):=cellB hb1 (by simp [go_sem])
   have p1a:w1.cell? ⟨w.heap.size+1+1,1,none⟩=some (.slice none 0 0):=cellB hb1 (by simp [go_sem])
   have g0:w1.frozen? ⟨w.heap.size+1+1,0,none⟩=false:=frozB hb1 (v:=.int .i64 0) (by simp [go_sem]) (by simp [go_sem])
   have g1:w1.frozen? ⟨w.heap.size+1+1,1,none⟩=false:=frozB hb1 (v:=.slice none 0 0) (by simp [go_sem]) (by simp [go_sem])
   have h01:Onto w w1:=((((Below.refl _ _).alloc (Nat.le_refl _) _).alloc (by simp) _).alloc (by simp;omega) _).trans (hb1.mono (by simp;omega))
   clear hb1 h
   go_wp2_with fail
   refine bodyPost_ret (v:=.tuple #[.agg #[.int .i64 0,.slice none 0 0],.int .i64 q]) (by simp [results,Tryz.results45,go_sem,p0a,p1a]) rfl ?_
   rw [HR.out]
   refine ⟨none,0,0,rfl,Sl.nil,?_,.inr (Fresh.none_ _)⟩
   repeat (first | exact h01 | refine Onto.put ?_ (by first | omega | (simp;done) | (simp;omega)) _)
end
end Go.Proofs.YtidlffepdcldkaaGreatDoor
