/- Part 11 of the proof: DRec. -/
import Derived.Test.YtidlffepdcldkaaGreatDoorBa10
import Derived.Test.YtidlffepdcldkaaGreatDoorBa04
namespace Go.Proofs.YtidlffepdcldkaaGreatDoor
set_option linter.unusedSimpArgs false
set_option linter.unusedVariables false
section
open Go.RowKit
attribute [local go_sem ↓] Go.wp_at_zero Go.wp_at_succ
theorem Live.litP {w0 w:World} {L:List (Option Ent)} (h:Live w0 w L) {i:Nat} (hi:i<L.length) {A A':Option Addr} {n c m d:Nat}:Live w0 (w.alloc (.cells #[.slice A n c,.slice A' m d] 52)) (L.set i (some ⟨.slice (some ⟨w.heap.size,0,none⟩) 2 2,52,1,2,[[.slice A n c],[.slice A' m d]]⟩)) :=
 h.lit hi _ _ _ _ _ (by simp) rfl (by simp) (by simp [maxLen])
theorem ConcatB_live {w0 w : World} {L : List (Option Ent)} (LV : Live w0 w L) (i p : Nat) (hi : i < L.length) (A A' : Option Addr) (n c m d : Nat) (Z E : Nat) (l l' : List UInt8) (h : S w0 1 A n (l.map encB)) (h' : S w0 1 A' m (l'.map encB)) (hn : n + m ≤ 140737488355328)
    (hp:L[p]?=some (some ⟨.slice (some ⟨Z,0,none⟩) 2 2,E,1,2,[[.slice A n c],[.slice A' m d]]⟩)) :
    Calls Tryz.prog 42 #[.slice (some ⟨Z,0,none⟩) 2 2] w fun e w'=>∃ A1 c1,e=.returned (.slice A1 (n+m) c1)∧Live w0 w' (L.set i (some ⟨.slice A1 (n+m) c1,5,1,n+m,l.map encB ++l'.map encB⟩)):=by
 obtain ⟨b,off,e,_,hc⟩:=(Live.sl LV hp).2.2 (by omega)
 injection e with e
 injection e with e1 e2 _
 subst e1;subst e2
 refine Calls.mono (ConcatB_calls w A A' n c m d Z 2 (l.map encB) (l'.map encB) (by simpa using hc 0 0 _ _ rfl rfl) (by simpa using hc 1 0 _ _ rfl rfl) (h.onto LV.on) (h'.onto LV.on) (encB_one _) (encB_one _) (by omega)) ?_
 rintro e w' ⟨A1,c1,rfl,ho,hb⟩
 exact ⟨A1,c1,rfl,LV.add hi ho hb⟩
def RvPost (w:World) (q:Dsk × List Rec × Int) (e:Ending) (w':World):Prop:=∃ F k i F' l j B b y,e=.returned (.tuple #[.agg #[.slice F k i,.slice F' l j],.slice B b y,.int .i64 q.2.2])∧DK w' F k i F' l j q.1∧S w' 8 B b (q.2.1.map encQ)∧b≤y∧y≤maxLen∧Fresh w.heap.size F∧Fresh w.heap.size F'∧Fresh w.heap.size B∧Onto w w'
theorem RvPost.bad {w w':World} {q:Int} {v:Value} (h:v=.tuple #[.agg #[.slice none 0 0,.slice none 0 0],.slice none 0 0,.int .i64 q]) (on:Onto w w'):RvPost w (noK,[],q) (.returned v) w':=⟨none,0,0,none,0,0,none,0,0,by rw [h],DK.none_ _,Sl.nil,by omega,by simp [maxLen],Fresh.none_ _,Fresh.none_ _,Fresh.none_ _,on⟩
set_option maxHeartbeats 8000000 in
set_option maxRecDepth 100000 in
theorem DRecover_calls (A A' : Option Addr) (n c m d : Nat) (x : Dsk) (w : World) (E : Env w) (K : DK w A n c A' m d x) :
    Calls Tryz.prog 55 #[.agg #[.slice A n c,.slice A' m d]] w (RvPost w (recoverK x)):=by
 obtain ⟨g,hg⟩:∃ g,g=checkK x:=⟨_,rfl⟩
 obtain ⟨q,hq⟩:∃ q,q=recoverK x:=⟨_,rfl⟩
 rw [← hq]
 unfold recoverK at hq
 rw [← hg] at hq
 have HG:=Lib.hid hg;have HQ:=Lib.hid hq
 clear hg hq
 go_enter Tryz.func55,Tryz.ntmps55
 go_upto_region 1 with fail
 have B2:Bx ((w.alloc (Obj.cells #[.slice A n c,.slice A' m d] 54)).alloc (Obj.cells #[.slice none 0 0,.slice none 0 0] 54)) w.heap.size [.slice A n c,.slice A' m d]:=by
  have:=((Bx.made w #[.slice A n c,.slice A' m d] 54).new (Obj.cells #[.slice none 0 0,.slice none 0 0] 54))
  simpa using this
 have Bz:Bx ((w.alloc (Obj.cells #[.slice A n c,.slice A' m d] 54)).alloc (Obj.cells #[.slice none 0 0,.slice none 0 0] 54)) (w.heap.size+1) [.slice none 0 0,.slice none 0 0]:=by
  have:=(Bx.made (w.alloc (Obj.cells #[.slice A n c,.slice A' m d] 54)) #[.slice none 0 0,.slice none 0 0] 54)
  simpa using this
 have on:Onto w ((w.alloc (Obj.cells #[.slice A n c,.slice A' m d] 54)).alloc (Obj.cells #[.slice none 0 0,.slice none 0 0] 54)):=((Onto.rfl' w).new _).new _
 generalize ((w.alloc (Obj.cells #[.slice A n c,.slice A' m d] 54)).alloc (Obj.cells #[.slice none 0 0,.slice none 0 0] 54))=w1 at *
 have hz':w.heap.size≤w.heap.size+1:=by omega
 have hzz:w.heap.size≠w.heap.size+1:=by omega
 generalize w.heap.size+1=z at Bz hz' hzz ⊢
 generalize hz2:w.heap.size=z2 at B2 hzz ⊢
 clear hz2
 have b0:=B2.at_ 0 rfl;have b1:=B2.at_ 1 rfl
 go_wp2_with fail
 refine Calls.mono (DCheck_calls A A' n c m d x _ (E.onto on) (K.onto on)) ?_
 rintro e w2 ⟨rfl,b⟩
 rw [show checkK x=g from HG.out.symm]
 replace on:=on.to b;replace B2:=B2.onto b;replace Bz:=Bz.onto b
 have hs2:=on.size
 clear b b0 b1
 by_cases hg0:g=0
 · have hbd:n+m≤30000:=by rw [K.n_eq,K.m_eq];exact decB x (by rw [← HG.out,hg0])
   have hn:n≤30000:=by omega
   have hm:m≤30000:=by omega
   have hq:=HQ.out
   rw [if_neg (by simp [hg0])] at hq
   replace HQ:=Lib.hid hq
   have HG0:=Lib.hid hg0
   subst hg0
   clear hq
   have hq:=HQ.out
   have hmd:m≤d:=K.m_le
   have hdm:d≤9223372036854775807:=by have:=K.d_le;unfold maxLen at this;omega
   have E2:=E.onto on;have K2:=K.onto on
   have b0:=B2.at_ 0 rfl;have b1:=B2.at_ 1 rfl
   have cv:=conv_bytes (c:=c) K2.safe
   have hsl:x.safe.length≤60000:=by rw [← K.n_eq];omega
   have hwl:x.wait.length≤60000:=by rw [← K.m_eq];omega
   obtain ⟨l,hl⟩:∃ l,l=(linesK x.safe 160).1:=⟨_,rfl⟩
   have hl1:l.length≤160:=by rw [hl];exact (linesK_read x.safe 160).2.1
   have HL:=Lib.hid hl
   unfold backK recsK at hq
   rw [← hl] at hq
   replace HQ:=Lib.hid hq
   clear hl hq
   go_wp2_with fail
   refine Calls.mono (Lines_calls x.safe 160 hsl (by omega) _ E2) ?_
   rintro e w3 ⟨A1,n1,c1,rfl,own1,b⟩
   rw [show (linesK x.safe 160).1=l from HL.out.symm] at own1
   have hn1:n1=l.length:=by have:=own1.2.1;simpa using this.symm
   subst hn1
   obtain ⟨most,hmost⟩:∃ most:Nat,most=160 - l.length:=⟨_,rfl⟩
   have hmi:(160:Int) - (l.length:Int)=(most:Int):=by omega
   have hq:=HQ.out
   rw [← hmost] at hq
   obtain ⟨k,hk⟩:∃ k,k=(linesK x.wait most).1:=⟨_,rfl⟩
   obtain ⟨j,hj⟩:∃ j,j=(linesK x.wait most).2.1:=⟨_,rfl⟩
   have hj1:j≤m:=by
    obtain ⟨_,_,h3,h4,_⟩:=linesK_read x.wait most
    have h5:=congrArg List.length h4
    rw [← h3,← hj,List.length_take] at h5
    rw [K.m_eq];omega
   have hk1:l.length+k.length≤160:=by have:=(linesK_read x.wait most).2.1;rw [← hk] at this;omega
   rw [← hk,← hj] at hq
   have HQ2:=Lib.hid hq;have HK:=Lib.hid hk;have HJ:=Lib.hid hj
   have LV0:=(Live.start w2 4).add (i:=0) (by simp) own1 b
   have LVH:=Lib.hid LV0
   have HB:=Lib.hid b
   have hm160:most≤160:=by omega
   clear hq hk hj HQ own1 b0 b1 cv LV0 hmost
   have b0:=cellB b (B2.at_ 0 rfl);have b1:=cellB b (B2.at_ 1 rfl)
   have cv:=conv_bytes (c:=d) (K2.wait.onto b)
   have E3:=E2.onto b
   clear b
   go_wp2_with fail
   refine Calls.mono (Lines_calls x.wait most hwl (by omega) _ E3) ?_
   rintro e w4 ⟨A2,n2,c2,rfl,own2,b⟩
   rw [show (linesK x.wait most).1=k from HK.out.symm] at own2
   rw [show (linesK x.wait most).2.1=j from HJ.out.symm]
   have hn2:n2=k.length:=by have:=own2.2.1;simpa using this.symm
   subst hn2
   have LV:=LVH.out.add (i:=3) (by simp) own2 b
   clear b0 b1 cv E3 own2 b HB LVH
   have i0:(0:Int)≤(j:Int):=by omega
   have i1:(j:Int)≤(d:Int):=by omega
   go_upto_region 6 with fail
   have hsj:S w2 1 A' j ((x.wait.take j).map encB):=by rw [List.map_take];exact Sl.take K2.wait hj1
   have b0:=B2.at_ 0 rfl;have b1:=B2.at_ 1 rfl
   have B4:=Bz.onto LV.on
   have zb0:=B4.at_ 0 rfl;have zb1:=B4.at_ 1 rfl
   clear B4
   go_region_held3 (fun w'=>w'.cell? ⟨z2,0,none⟩=some (.slice A n c)∧w'.cell? ⟨z2,1,none⟩=some (.slice A' m d))
    (first | exact ⟨cellB (Live.on (by with_reducible (first | exact LV | exact LV.draw | exact LV.litP (i:=1) (by simp) | exact LV.draw.litP (i:=1) (by simp) | exact (LV.litP (i:=1) (by simp)).draw))) b0,cellB (Live.on (by with_reducible (first | exact LV | exact LV.draw | exact LV.litP (i:=1) (by simp) | exact LV.draw.litP (i:=1) (by simp) | exact (LV.litP (i:=1) (by simp)).draw))) b1⟩ | exact ⟨(((B2.onto (Live.on (by with_reducible (first | exact LV | exact LV.draw | exact LV.litP (i:=1) (by simp) | exact LV.draw.litP (i:=1) (by simp) | exact (LV.litP (i:=1) (by simp)).draw)))).off1 (p:=⟨z,0,none⟩) hzz _).off1 (p:=⟨z,1,none⟩) hzz _).at_ 0 rfl,(((B2.onto (Live.on (by with_reducible (first | exact LV | exact LV.draw | exact LV.litP (i:=1) (by simp) | exact LV.draw.litP (i:=1) (by simp) | exact (LV.litP (i:=1) (by simp)).draw)))).off1 (p:=⟨z,0,none⟩) hzz _).off1 (p:=⟨z,1,none⟩) hzz _).at_ 1 rfl⟩ | fail)
    (first
     | (go_at_call 42;refine Calls.mono (ConcatB_live (by with_reducible (first | exact LV | exact LV.draw | exact LV.litP (i:=1) (by simp) | exact LV.draw.litP (i:=1) (by simp) | exact (LV.litP (i:=1) (by simp)).draw)) 2 1 (by simp) A A' n c j d _ _ x.safe (x.wait.take j) K2.safe hsj (by omega) (by rfl)) ?_;rintro e w6 ⟨A3,c3,rfl,LV⟩;have Z:=Bz.onto LV.on;have p0:=Z.at_ 0 rfl;have p1:=Z.at_ 1 rfl;have f0:=Z.froz 0;have f1:=Z.froz 1;clear Z)
     | (refine step_app_sl_live (by with_reducible (first | exact LV | exact LV.draw | exact LV.litP (i:=1) (by simp) | exact LV.draw.litP (i:=1) (by simp) | exact (LV.litP (i:=1) (by simp)).draw)) (by rfl) _ _ 59 (by rfl) 96 8 64 _ infoQ Tryz.underlying59 rfl (by omega) 0 (.slice A1 l.length c1) l.length (l.map encQ) (by rfl) (by rfl) A2 k.length c2 (k.map encQ) (by rfl) (Live.sl (i:=3) (by with_reducible (first | exact LV | exact LV.draw | exact LV.litP (i:=1) (by simp) | exact LV.draw.litP (i:=1) (by simp) | exact (LV.litP (i:=1) (by simp)).draw)) (by rfl)) (encQ_one _) (by unfold maxLen;omega) (by omega) ?_;intro A5 c5 w9 LV;have Z:=Bz.onto LV.on;have p0:=Z.at_ 0 rfl;have p1:=Z.at_ 1 rfl;have f0:=Z.froz 0;have f1:=Z.froz 1;clear Z)
     | fail)
   all_goals
    have hz3:z<w2.heap.size:=Bz.lt
    have o1:Own _ w2.heap.size 5 1 (.slice A3 (n+j) c3) (n+j) (x.safe.map encB ++(x.wait.take j).map encB):=LV.own 2 _ rfl
    have o2:Own _ w2.heap.size 96 8 (.slice A5 (l.length+k.length) c5) (l.length+k.length) (l.map encQ ++k.map encQ):=LV.own 0 _ rfl
    have on9:=on.to LV.on
    have HO1:=Lib.hid o1;have HO2:=Lib.hid o2;have HON:=Lib.hid on9
    have hq:=HQ2.out
    subst hq
    clear o1 o2 on9 LV
    go_wp2_with fail
    refine bodyPost_ret (v:=.tuple #[.agg #[.slice A3 (n+j) c3,.slice none 0 0],.slice A5 (l.length+k.length) c5,.int .i64 0]) (by simp [results,Tryz.results55,go_sem,p0,p1]) rfl ⟨A3,n+j,c3,none,0,0,A5,l.length+k.length,c5,rfl,DK.one ((HO1.out.setCell (p:=⟨z,0,none⟩) hz3 _).setCell (p:=⟨z,1,none⟩) hz3 _),?_,HO2.out.le_cap,HO2.out.cap_max,HO1.out.fresh hs2,Fresh.none_ _,HO2.out.fresh hs2,(HON.out.put hz' _).put hz' _⟩
    rw [List.map_append]
    exact ((HO2.out.setCell (p:=⟨z,0,none⟩) hz3 _).setCell (p:=⟨z,1,none⟩) hz3 _).sl
 · have hq:=HQ.out
   rw [if_pos hg0] at hq
   subst hq
   have hg1:(g ==0)=false:=by simp [hg0]
   have hg2:(g !=0)=true:=by simp [hg0]
   clear hg0
   go_wp2_with (refine wpList_put Bz [.slice none 0 0,.slice none 0 0] 54 _ _ (by rfl) (by rfl) (by rfl) (by rfl) (by rfl) sizeD (by rfl) ?_)
   have hF:=Bz.put (us:=[.slice none 0 0,.slice none 0 0]) rfl
   have oF:=Onto.puts (b:=z) (o:=0) (us:=[.slice none 0 0,.slice none 0 0]) hz' on
   generalize World.setCells _ z 0 [.slice none 0 0,.slice none 0 0]=wF at hF oF ⊢
   go_wp2_with fail
   have p0:=hF.at_ 0 rfl;have p1:=hF.at_ 1 rfl
   refine bodyPost_ret (v:=.tuple #[.agg #[.slice none 0 0,.slice none 0 0],.slice none 0 0,.int .i64 g]) (by simp [results,Tryz.results55,go_sem,p0,p1]) rfl (RvPost.bad rfl oF)
end
end Go.Proofs.YtidlffepdcldkaaGreatDoor
