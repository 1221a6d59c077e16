/- Part 9 of the proof: Unit, Note, Frame, Open. -/
import Derived.Test.YtidlffepdcldkaaGreatDoorBa02
import Derived.Test.YtidlffepdcldkaaGreatDoorBa01
import Derived.Test.YtidlffepdcldkaaGreatDoorBa04
import Derived.Test.YtidlffepdcldkaaGreatDoorBa08
import Derived.Test.YtidlffepdcldkaaGreatDoorRows
import Derived.ProofKit
import Derived.OpenShut
import Derived.ShutString
import Derived.ChangeOld
import Derived.Carry
import Derived.Deep.Slices
import Derived.Deep.Fields
import Derived.ChangeSame
import Derived.Lib.SmallJoins
namespace Go.Proofs.YtidlffepdcldkaaGreatDoor
set_option linter.unusedSimpArgs false
set_option linter.unusedVariables false
section
open Go.RowKit
theorem encE_one (l:List Entry):∀ r∈l.map encE,∀ u∈r,u.oneCell'=true:=by
 intro r hr u hu
 obtain ⟨x,_,rfl⟩:=List.mem_map.1 hr
 simp [encE] at hu
 rcases hu with rfl | rfl | rfl | rfl | rfl <;> rfl
set_option maxHeartbeats 4000000 in
theorem NCheck_calls (k a ep : Int) (x : Entry) (w : World) :
    Calls Tryz.prog 111 #[.agg #[.int .i64 k,.int .i64 a,.int .i64 ep,.int .i64 x.kind,.int .i64 x.job,.int .i64 x.every,.int .i64 x.time,.int .i64 x.client]] w fun e w'=>e=.returned (.int .i64 (checkR ⟨k,a,ep,x⟩))∧Onto w w':=by
 obtain ⟨r,hr⟩:∃ r,r=checkR ⟨k,a,ep,x⟩:=⟨_,rfl⟩
 rw [← hr]
 unfold checkR at hr
 simp only [ne_eq,entry_eq_iff,zeroE] at hr
 go_enter Tryz.func111,Tryz.ntmps111
 have hne:=neqE
 have HR:=Lib.hid hr
 clear hr
 go_wp2_with (go_at_call 58;refine Calls.mono (Check_calls x.kind x.job x.every x.time x.client _) ?_;rintro e w2 ⟨rfl,hb2⟩)
 all_goals
  go_ret
  refine ⟨ret_int ?_,?_⟩
  · rw [HR.out]
    clear HR hne
    (try simp only [beq_iff_eq,beq_eq_false_iff_ne,bne_iff_ne,bne_eq_false_iff_eq,ne_eq,Bool.and_eq_true,Bool.and_eq_false_iff,Bool.not_eq_true',Bool.not_eq_false',Bool.or_eq_true,Bool.or_eq_false_iff,decide_eq_true_eq,decide_eq_false_iff_not] at *)
    (repeat' split) <;> first | rfl | omega
  · repeat (first | exact Below.refl _ _ | exact Onto.to (by repeat (first | exact Below.refl _ _ | refine Below.alloc ?_ (by simp <;> omega) _)) hb2 | refine below_drewN ?_ _ | refine Below.alloc ?_ (by simp <;> omega) _)
set_option maxHeartbeats 4000000 in
set_option maxRecDepth 100000 in
theorem UCheck_calls (ep : Int) (A : Option Addr) (n c : Nat) (cs : List Entry) (w : World) (h : S w 5 A n (cs.map encE)) :
    Calls Tryz.prog 110 #[.agg #[.int .i64 ep,.slice A n c]] w fun e w'=>e=.returned (.int .i64 (checkU ep cs))∧Onto w w':=by
 have hl:cs.length=n:=by have:=h.len;simpa using this
 obtain ⟨r,hr⟩:∃ r,r=checkU ep cs:=⟨_,rfl⟩
 rw [← hr]
 unfold checkU at hr
 by_cases h1:ep<1∨20<ep
 · rw [if_pos h1] at hr
   subst hr
   clear h hl
   by_cases h2:ep<1
   all_goals
    go_enter Tryz.func110,Tryz.ntmps110
    go_wp2_with fail
    any_goals
     go_ret
     exact ⟨rfl,by first | exact (Below.refl _ _).alloc (Nat.le_refl _) _ | exact Onto.draws ((Below.refl _ _).alloc (Nat.le_refl _) _) _⟩
   all_goals (exfalso;omega)
 · rw [if_neg h1] at hr
   by_cases h60:n=60
   · rw [if_neg (by omega)] at hr
     have hd1:decide (ep<1)=false:=by simp;omega
     have hd2:decide (20<ep)=false:=by simp;omega
     have hn1:¬ ep<1:=by omega
     have hn2:¬ 20<ep:=by omega
     have HR:=Lib.hid hr;have HL:=Lib.hid hl
     subst h60
     clear hr h1 hl
     go_enter Tryz.func110,Tryz.ntmps110
     have heq:=eqlE
     go_wp2_with fail
     go_loopw [21] (fun s wr=>∃ k:Nat,k≤60∧s=.int .i64 k∧Onto w wr∧Hid (checkCs cs=checkCs (cs.drop k))) (fun s _=>60 - (intOf s).toNat)
     case atStart=>exact ⟨0,by omega,rfl,(Below.refl _ _).alloc (Nat.le_refl _) _,by simp [Hid]⟩
     case round =>
      obtain ⟨k,hk,rfl,hbr,HK⟩:=hrel
      by_cases hlt:k<60
      · obtain ⟨b,off,x,rfl,hb,hx,c0,c1,c2,c3,c4⟩:=(h.onto hbr).atE hlt
        have HC:=Lib.hid (checkCs_at hx)
        have hal:Onto wr (wr.alloc (Obj.cells #[.int .i64 x.kind,.int .i64 x.job,.int .i64 x.every,.int .i64 x.time,.int .i64 x.client] 46)):=(Below.refl _ _).alloc (Nat.le_refl _) _
        clear hx
        by_cases hbl:x=blank
        · have hcs:=HC.out
          rw [if_pos hbl] at hcs
          have HCS:=Lib.hid hcs
          clear hcs HC
          have hd:(x.kind ==4 && x.job ==0 && x.every ==0 && x.time ==0 && x.client ==0)=true:=by subst hbl;rfl
          clear hbl
          go_wp2_with fail
          go_roundw
          case measure=>simp [intOf] <;> omega
          case rel=>exact ⟨k+1,by omega,by go_num,Onto.to hbr hal,by show _=_;rw [HK.out,HCS.out]⟩
        · have hcs:=HC.out
          rw [if_neg hbl] at hcs
          have HCS:=Lib.hid hcs
          have hd:(x.kind ==4 && x.job ==0 && x.every ==0 && x.time ==0 && x.client ==0)=false:=by
           refine Bool.eq_false_iff.2 fun h=>hbl ?_
           simp at h
           rw [entry_eq_iff]
           simp [blank]
           omega
          clear hbl hcs HC
          go_wp2_with fail
          refine Calls.mono (Check_calls x.kind x.job x.every x.time x.client _) ?_
          rintro e w2 ⟨rfl,hb2⟩
          obtain ⟨q,hq⟩:∃ q,q=checkE ⟨x.kind,x.job,x.every,x.time,x.client⟩:=⟨_,rfl⟩
          have hq':checkE x=q:=hq.symm
          rw [← hq]
          have hcs:=HCS.out
          rw [hq'] at hcs
          have HCS':=Lib.hid hcs
          clear hcs HCS hq hq'
          have h2:=(Onto.to hbr hal).to hb2
          by_cases hq0:q=0
          · subst hq0
            go_wp2_with fail
            go_roundw
            case measure=>simp [intOf] <;> omega
            case rel=>exact ⟨k+1,by omega,by go_num,h2,by show _=_;rw [HK.out,HCS'.out];rfl⟩
          · have hq1:(q !=0)=true:=by simpa using hq0
            go_wp2_with fail
            go_ret
            exact ⟨ret_int (by rw [HR.out,HK.out,HCS'.out,if_pos hq0]),h2⟩
      · obtain rfl:k=60:=by omega
        have hfin:(0:Int)=r:=by rw [HR.out,HK.out,List.drop_eq_nil_of_le (by have:=HL.out;omega)];rfl
        have HF:=Lib.hid hfin
        clear hfin
        go_wp2_with fail
        go_ret
        exact ⟨ret_int HF.out,hbr⟩
   · have hd1:decide (ep<1)=false:=by simp;omega
     have hd2:decide (20<ep)=false:=by simp;omega
     have hn1:¬ ep<1:=by omega
     have hn2:¬ 20<ep:=by omega
     have hnn:((n:Int) !=60)=true:=by simp;omega
     have hnn':¬ ((n:Int)=60):=by omega
     rw [if_pos (by omega)] at hr
     subst hr
     clear h h1 hl h60
     go_enter Tryz.func110,Tryz.ntmps110
     go_wp2_with fail
     go_ret
     exact ⟨rfl,by first | exact (Below.refl _ _).alloc (Nat.le_refl _) _ | exact Onto.draws ((Below.refl _ _).alloc (Nat.le_refl _) _) _⟩
end
section
open Go.RowKit
theorem sizeR:(Tryz.prog.info? 96).map (·.size)=some 8:=by kernel_rfl
def RnPost (w:World) (r:Rec × Int) (e:Ending) (w':World):Prop:=e=.returned (.tuple #[.agg #[.int .i64 r.1.kind,.int .i64 r.1.at_,.int .i64 r.1.epoch,.int .i64 r.1.e.kind,.int .i64 r.1.e.job,.int .i64 r.1.e.every,.int .i64 r.1.e.time,.int .i64 r.1.e.client],.int .i64 r.2])∧Onto w w'
set_option maxHeartbeats 4000000 in
theorem Number_calls (s : List UInt8) (hs : s.length ≤ 281474976710656) (w : World) (E : Env w) :
    Calls Tryz.prog 132 #[str s] w fun e w'=>∃ n:Int,e=.returned (.tuple #[.int .i64 n,.bool (num s).isSome])∧Onto w w'∧((num s).isSome=true→num s=some n):=by
 go_enter Tryz.func132,Tryz.ntmps132
 go_wp2_with fail
 refine Calls.mono (Atoi_calls s hs _ E) ?_
 rintro e w8 ⟨v,er,rfl,on,hres⟩
 rcases hres with ⟨rfl,hok,hv0,hv1⟩ | ⟨⟨et,ep,rfl⟩,hno⟩
 · have hnum:num s=if Lib.itoa v=s then some v else none:=by unfold num;rw [hok]
   have HNUM:=Lib.hid hnum
   clear hok hnum
   go_wp2_with (go_at_call 154;refine (Itoa_calls v hv0 hv1 _ (E.onto on)).mono ?_;rintro e w9 ⟨rfl,b9⟩;refine Hid.out ?_)
   refine Lib.hid ?_
   replace on:=on.to b9
   clear b9
   by_cases hbt:Lib.itoa v=s
   · have hq1:(Lib.itoa v ==s)=true:=by simp [hbt]
     have hn:num s=some v:=by rw [HNUM.out,if_pos hbt]
     clear hbt
     have HN:=Lib.hid hn
     clear hn
     go_wp2_with fail
     refine bodyPost_ret (v:=.tuple #[.int .i64 v,.bool true]) (by simp [results,Tryz.results132,go_sem]) rfl ⟨v,by rw [HN.out];rfl,on,fun _=>HN.out⟩
   · have hq1:(Lib.itoa v ==s)=false:=by simp [hbt]
     have hn:num s=none:=by rw [HNUM.out,if_neg hbt]
     clear hbt
     have HN:=Lib.hid hn
     clear hn
     go_wp2_with fail
     refine bodyPost_ret (v:=.tuple #[.int .i64 v,.bool false]) (by simp [results,Tryz.results132,go_sem]) rfl ⟨v,by rw [HN.out];rfl,on,fun h=>by rw [HN.out] at h;cases h⟩
 · have hn:num s=none:=by
    rcases num_case s with ⟨v,h1,_⟩ | ⟨_,h2⟩
    · exact absurd h1 (hno v)
    · exact h2
   have HN:=Lib.hid hn
   clear hn hno
   go_wp2_with fail
   refine bodyPost_ret (v:=.tuple #[.int .i64 v,.bool false]) (by simp [results,Tryz.results132,go_sem]) rfl ⟨v,by rw [HN.out];rfl,on,fun h=>by rw [HN.out] at h;cases h⟩
set_option maxHeartbeats 4000000 in
theorem NPrint_calls (k a ep : Int) (x : Entry) (w : World) (E : Env w) :
    Calls Tryz.prog 151 #[.agg #[.int .i64 k,.int .i64 a,.int .i64 ep,.int .i64 x.kind,.int .i64 x.job,.int .i64 x.every,.int .i64 x.time,.int .i64 x.client]] w fun e w'=>e=.returned (.tuple #[str (printR ⟨k,a,ep,x⟩).1,.int .i64 (printR ⟨k,a,ep,x⟩).2])∧Onto w w':=by
 obtain ⟨q,hq⟩:∃ q,q=checkR ⟨k,a,ep,x⟩:=⟨_,rfl⟩
 obtain ⟨r,hr⟩:∃ r,r=printR ⟨k,a,ep,x⟩:=⟨_,rfl⟩
 rw [← hr]
 unfold printR at hr
 rw [← hq] at hr
 have HQ:=Lib.hid hq
 have HR:=Lib.hid hr
 clear hq hr
 go_enter Tryz.func151,Tryz.ntmps151
 go_wp2_with fail
 refine Calls.mono (NCheck_calls k a ep x _) ?_
 rintro e w1 ⟨rfl,b⟩
 rw [show checkR ⟨k,a,ep,x⟩=q from HQ.out.symm]
 have on:Onto w w1:=Onto.to ((Onto.rfl' w).new _) b
 have B:Bx w1 w.heap.size [.int .i64 k,.int .i64 a,.int .i64 ep,.int .i64 x.kind,.int .i64 x.job,.int .i64 x.every,.int .i64 x.time,.int .i64 x.client]:=(Bx.made w #[.int .i64 k,.int .i64 a,.int .i64 ep,.int .i64 x.kind,.int .i64 x.job,.int .i64 x.every,.int .i64 x.time,.int .i64 x.client] 96).onto b
 have E1:=E.onto on
 clear b
 generalize w.heap.size=z at *
 by_cases hq0:q=0
 · have hr:=HR.out
   rw [if_neg (by simp [hq0])] at hr
   subst hr
   have hc:checkR ⟨k,a,ep,x⟩=0:=by rw [← HQ.out,hq0]
   have HC:=Lib.hid hc
   subst hq0
   clear hc HQ
   have b0:=B.at_ 0 rfl;have b1:=B.at_ 1 rfl;have b2:=B.at_ 2 rfl;have b3:=B.at_ 3 rfl;have b4:=B.at_ 4 rfl;have b5:=B.at_ 5 rfl;have b6:=B.at_ 6 rfl;have b7:=B.at_ 7 rfl
   by_cases hk:k=2
   · subst hk
     obtain ⟨h1,h2,_⟩:=cR_seal HC.out rfl
     try dsimp only at h1 h2
     have hl:=Lib.itoa_length_le ep (by omega) (by omega)
     have s1:∀ w,(Op.stringOp .add ⟨#[115,101,97,108,32]⟩ ⟨(Lib.itoa ep).toArray⟩).run Tryz.prog w=.ok (str (sealW ++Lib.itoa ep)) w:=fun w=>run_string_add_lists w [115,101,97,108,32] (Lib.itoa ep) (by simp) (by omega)
     go_wp2_with (go_at_call 154;refine (Itoa_calls ep (by omega) (by omega) _ E1).mono ?_;rintro e w9 ⟨rfl,b9⟩;refine Hid.out ?_)
     refine Lib.hid ?_
     replace on:=on.to b9
     clear b9 hl
     go_wp2_with fail
     refine bodyPost_ret (v:=.tuple #[str (sealW ++Lib.itoa ep),.int .i64 0]) (by simp [results,Tryz.results151,go_sem]) rfl ⟨?_,on⟩
     try dsimp only
     unfold textR
     rw [if_pos rfl]
   · have hkb:(k ==2)=false:=by simp [hk]
     obtain ⟨h0,h1,h2,h3,h4⟩:=cR_write HC.out hk
     try dsimp only at h0 h1 h2 h3 h4
     have hpr:printE x=(textE x,0):=by unfold printE;rw [if_neg (by simp [h4])]
     have htl:=textE_len h4
     have HPR:=Lib.hid hpr
     subst h0
     have htx:textR ⟨1,a,ep,x⟩=Lib.itoa a ++colonW ++textE x:=by unfold textR;exact if_neg (by simp)
     have HTX:=Lib.hid htx
     clear hpr h4 h3 hk htx
     go_wp2_with fail
     refine Calls.mono (EPrint_calls x _ E1) ?_
     rw [HPR.out]
     rintro e w2 ⟨rfl,b⟩
     replace on:=on.to b;replace E1:=E1.onto b;replace B:=B.onto b
     clear b b0 b1 b2 b3 b4 b5 b6 b7
     have b1:=B.at_ 1 rfl
     try dsimp only
     have hl:=Lib.itoa_length_le a (by omega) (by omega)
     have s1:∀ w,(Op.stringOp .add ⟨(Lib.itoa a).toArray⟩ ⟨#[58,32]⟩).run Tryz.prog w=.ok (str (Lib.itoa a ++[58,32])) w:=fun w=>run_string_add_lists w (Lib.itoa a) [58,32] (by omega) (by simp)
     have s2:∀ w,(Op.stringOp .add ⟨(Lib.itoa a ++[58,32]).toArray⟩ ⟨(textE x).toArray⟩).run Tryz.prog w=.ok (str (Lib.itoa a ++[58,32] ++textE x)) w:=fun w=>run_string_add_lists w _ _ (by rw [List.length_append];simp;omega) (by omega)
     have s3:∀ w,(Op.stringOp .add ⟨(Lib.itoa a).toArray⟩ ⟨#[58,32]⟩).run Tryz.prog w=.ok (.string ⟨(Lib.itoa a ++[58,32]).toArray⟩) w:=s1
     obtain ⟨I,hI⟩:∃ I,I=Lib.itoa a:=⟨_,rfl⟩
     obtain ⟨J,hJ⟩:∃ J,J=Lib.itoa a ++[58,32]:=⟨_,rfl⟩
     obtain ⟨T,hT⟩:∃ T,T=Lib.itoa a ++[58,32] ++textE x:=⟨_,rfl⟩
     rw [← hT] at s2
     rw [← hJ] at s1 s2
     rw [← hI] at s1
     have HI:=Lib.hid hI;have HT:=Lib.hid hT
     clear hI hJ hT s3 htl hl
     go_wp2_with (go_at_call 154;refine (Itoa_calls a (by omega) (by omega) _ E1).mono ?_;rw [show Lib.itoa a=I from HI.out.symm];rintro e w9 ⟨rfl,b9⟩;refine Hid.out ?_)
     refine Lib.hid ?_
     replace on:=on.to b9
     clear b9
     go_wp2_with fail
     refine bodyPost_ret (v:=.tuple #[str T,.int .i64 0]) (by simp [results,Tryz.results151,go_sem]) rfl ⟨?_,on⟩
     rw [HTX.out,HT.out]
     rfl
 · have hr:=HR.out
   rw [if_pos hq0] at hr
   subst hr
   have hq1:(q ==0)=false:=by simp [hq0]
   have hq2:(q !=0)=true:=by simp [hq0]
   clear hq0
   go_wp2_with fail
   refine bodyPost_ret (v:=.tuple #[str [],.int .i64 q]) (by simp [results,Tryz.results151,go_sem]) rfl ⟨rfl,on⟩
theorem cut_len (s sep:List UInt8):(Lib.cut s sep).1.length≤s.length∧(Lib.cut s sep).2.1.length≤s.length:=by
 unfold Lib.cut
 split
 · exact ⟨by simp;omega,by simp⟩
 · simp
set_option maxRecDepth 100000 in
set_option maxHeartbeats 4000000 in
theorem NParse_short (s : List UInt8) (w : World) (E : Env w) (hs : s.length ≤ 30000) :
    Calls Tryz.prog 109 #[str s] w (RnPost w (readR s)):=by
 have HS:=Lib.hid hs
 have hd2:decide ((30000:Int)<(s.length:Int))=false:=by simp;omega
 obtain ⟨r,hr⟩:∃ r,r=readR s:=⟨_,rfl⟩
 rw [← hr]
 have HR:=Lib.hid hr
 clear hs hr
 go_enter Tryz.func109,Tryz.ntmps109
 go_upto_region 4 with fail
 have Bz:Bx ((w.alloc (Obj.cells #[.int .i64 0,.int .i64 0,.int .i64 0,.int .i64 0,.int .i64 0,.int .i64 0,.int .i64 0,.int .i64 0] 96)).alloc (Obj.cells #[.int .i64 0,.int .i64 0,.int .i64 0,.int .i64 0,.int .i64 0,.int .i64 0,.int .i64 0,.int .i64 0] 96)) w.heap.size [.int .i64 0,.int .i64 0,.int .i64 0,.int .i64 0,.int .i64 0,.int .i64 0,.int .i64 0,.int .i64 0]:=(Bx.made w _ _).new _
 have B4:Bx ((w.alloc (Obj.cells #[.int .i64 0,.int .i64 0,.int .i64 0,.int .i64 0,.int .i64 0,.int .i64 0,.int .i64 0,.int .i64 0] 96)).alloc (Obj.cells #[.int .i64 0,.int .i64 0,.int .i64 0,.int .i64 0,.int .i64 0,.int .i64 0,.int .i64 0,.int .i64 0] 96)) (w.heap.size+1) [.int .i64 0,.int .i64 0,.int .i64 0,.int .i64 0,.int .i64 0,.int .i64 0,.int .i64 0,.int .i64 0]:=by
  have:=Bx.made (w.alloc (Obj.cells #[.int .i64 0,.int .i64 0,.int .i64 0,.int .i64 0,.int .i64 0,.int .i64 0,.int .i64 0,.int .i64 0] 96)) #[.int .i64 0,.int .i64 0,.int .i64 0,.int .i64 0,.int .i64 0,.int .i64 0,.int .i64 0,.int .i64 0] 96
  simpa using this
 have on:Onto w ((w.alloc (Obj.cells #[.int .i64 0,.int .i64 0,.int .i64 0,.int .i64 0,.int .i64 0,.int .i64 0,.int .i64 0,.int .i64 0] 96)).alloc (Obj.cells #[.int .i64 0,.int .i64 0,.int .i64 0,.int .i64 0,.int .i64 0,.int .i64 0,.int .i64 0,.int .i64 0] 96)):=((Onto.rfl' w).new _).new _
 generalize ((w.alloc (Obj.cells #[.int .i64 0,.int .i64 0,.int .i64 0,.int .i64 0,.int .i64 0,.int .i64 0,.int .i64 0,.int .i64 0] 96)).alloc (Obj.cells #[.int .i64 0,.int .i64 0,.int .i64 0,.int .i64 0,.int .i64 0,.int .i64 0,.int .i64 0,.int .i64 0] 96))=w1 at *
 obtain ⟨z4,hz4⟩:∃ z4,z4=w.heap.size+1:=⟨_,rfl⟩
 obtain ⟨z,hz⟩:∃ z,z=w.heap.size:=⟨_,rfl⟩
 rw [← hz4] at B4 ⊢
 rw [← hz] at Bz ⊢
 have hzz:z≠z4:=by omega
 have hz4':w.heap.size≤z4:=by omega
 have hz':w.heap.size≤z:=by omega
 clear hz4 hz
 have E1:=E.onto on
 obtain ⟨t,ht⟩:∃ t,t=(if sealW.isPrefixOf s then s.drop sealW.length else s):=⟨_,rfl⟩
 go_wp2_with fail
 refine Calls.mono (CutPrefix_calls s [115,101,97,108,32] _) ?_
 rw [show (if ([115,101,97,108,32]:List UInt8).isPrefixOf s then s.drop ([115,101,97,108,32]:List UInt8).length else s)=t from ht.symm]
 rintro e w2 ⟨rfl,b⟩
 replace Bz:=Bz.onto b;replace on:=on.to b;replace B4:=B4.onto b;replace E1:=E1.onto b
 clear b
 by_cases hp:sealW.isPrefixOf s=true
 · have hpb:(([115,101,97,108,32]:List UInt8).isPrefixOf s)=true:=hp
   rw [if_pos hp] at ht
   have htl:t.length≤30000:=by rw [ht];have:=HS.out;simp;omega
   have HP:=Lib.hid hp;have HT:=Lib.hid ht
   clear hp ht
   rw [hpb]
   clear hpb
   go_wp2_with fail
   refine Calls.mono (Number_calls t (by omega) _ E1) ?_
   rintro e w3 ⟨n,rfl,b,hn⟩
   replace Bz:=Bz.onto b;replace on:=on.to b;replace B4:=B4.onto b;replace E1:=E1.onto b
   clear b
   cases hnt:num t with
   | none =>
     rw [show (none:Option Int).isSome=false from rfl]
     clear hn
     have hr:r=(zeroR,1):=by rw [HR.out];unfold readR;rw [if_pos HP.out,show s.drop 5=t from HT.out.symm,hnt]
     subst hr
     go_wp2_with (refine wpList_put Bz [.int .i64 0,.int .i64 0,.int .i64 0,.int .i64 0,.int .i64 0,.int .i64 0,.int .i64 0,.int .i64 0] 96 _ _ (by rfl) (by rfl) (by rfl) (by rfl) (by rfl) sizeR (by rfl) ?_)
     have hF:=Bz.put (us:=[.int .i64 0,.int .i64 0,.int .i64 0,.int .i64 0,.int .i64 0,.int .i64 0,.int .i64 0,.int .i64 0]) rfl
     have oF:=Onto.puts (b:=z) (o:=0) (us:=[.int .i64 0,.int .i64 0,.int .i64 0,.int .i64 0,.int .i64 0,.int .i64 0,.int .i64 0,.int .i64 0]) hz' on
     generalize World.setCells _ z 0 [.int .i64 0,.int .i64 0,.int .i64 0,.int .i64 0,.int .i64 0,.int .i64 0,.int .i64 0,.int .i64 0]=wF at hF oF ⊢
     go_wp2_with fail
     have p0:=hF.at_ 0 rfl;have p1:=hF.at_ 1 rfl;have p2:=hF.at_ 2 rfl;have p3:=hF.at_ 3 rfl;have p4:=hF.at_ 4 rfl;have p5:=hF.at_ 5 rfl;have p6:=hF.at_ 6 rfl;have p7:=hF.at_ 7 rfl
     refine bodyPost_ret (v:=.tuple #[.agg #[.int .i64 0,.int .i64 0,.int .i64 0,.int .i64 0,.int .i64 0,.int .i64 0,.int .i64 0,.int .i64 0],.int .i64 1]) (by simp [results,Tryz.results109,go_sem,p0,p1,p2,p3,p4,p5,p6,p7]) rfl ⟨rfl,oF⟩
   | some v =>
     rw [hnt] at hn
     have hv:v=n:=by have:=hn rfl;injection this
     subst hv
     have HN:=Lib.hid hnt
     clear hn hnt
     rw [show (some v:Option Int).isSome=true from rfl]
     go_upto_region 18 with (refine wpList_put B4 [.int .i64 2,.int .i64 0,.int .i64 v,.int .i64 0,.int .i64 0,.int .i64 0,.int .i64 0,.int .i64 0] 96 _ _ (by rfl) (by rfl) (by rfl) (by rfl) (by rfl) sizeR (by rfl) ?_)
     have B4':=B4.put (us:=[.int .i64 2,.int .i64 0,.int .i64 v,.int .i64 0,.int .i64 0,.int .i64 0,.int .i64 0,.int .i64 0]) rfl
     replace Bz:=Bz.off (b:=z4) (o:=0) (us:=[.int .i64 2,.int .i64 0,.int .i64 v,.int .i64 0,.int .i64 0,.int .i64 0,.int .i64 0,.int .i64 0]) hzz
     replace on:=Onto.puts (b:=z4) (o:=0) (us:=[.int .i64 2,.int .i64 0,.int .i64 v,.int .i64 0,.int .i64 0,.int .i64 0,.int .i64 0,.int .i64 0]) hz4' on
     clear B4
     have B4:=B4'
     clear B4' E1
     generalize World.setCells _ z4 0 [.int .i64 2,.int .i64 0,.int .i64 v,.int .i64 0,.int .i64 0,.int .i64 0,.int .i64 0,.int .i64 0]=w5 at B4 Bz on ⊢
     have hr:r=finR ⟨2,0,v,⟨0,0,0,0,0⟩⟩:=by rw [HR.out];unfold readR;rw [if_pos HP.out,show s.drop 5=t from HT.out.symm,HN.out];rfl
     obtain ⟨q,hqq⟩:∃ q,q=checkR ⟨2,0,v,⟨0,0,0,0,0⟩⟩:=⟨_,rfl⟩
     unfold finR at hr
     rw [← hqq] at hr
     have HQ:=Lib.hid hqq;have HRQ:=Lib.hid hr
     clear hqq hr
     have b0:=B4.at_ 0 rfl;have b1:=B4.at_ 1 rfl;have b2:=B4.at_ 2 rfl;have b3:=B4.at_ 3 rfl;have b4:=B4.at_ 4 rfl;have b5:=B4.at_ 5 rfl;have b6:=B4.at_ 6 rfl;have b7:=B4.at_ 7 rfl
     go_wp2_with fail
     refine Calls.mono (NCheck_calls 2 0 v ⟨0,0,0,0,0⟩ _) ?_
     rintro e wk ⟨rfl,b⟩
     rw [show checkR ⟨2,0,v,⟨0,0,0,0,0⟩⟩=q from HQ.out.symm]
     replace Bz:=Bz.onto b;replace on:=on.to b;replace B4:=B4.onto b
     clear b b0 b1 b2 b3 b4 b5 b6 b7
     by_cases hq0:q=0
     · have hr:=HRQ.out
       rw [if_neg (by simp [hq0])] at hr
       subst hr
       have hq1:(q ==0)=true:=by simp [hq0]
       have hq2:(q !=0)=false:=by simp [hq0]
       have b0:=B4.at_ 0 rfl;have b1:=B4.at_ 1 rfl;have b2:=B4.at_ 2 rfl;have b3:=B4.at_ 3 rfl;have b4:=B4.at_ 4 rfl;have b5:=B4.at_ 5 rfl;have b6:=B4.at_ 6 rfl;have b7:=B4.at_ 7 rfl
       clear hq0 HRQ
       go_wp2_with (refine wpList_put Bz [.int .i64 2,.int .i64 0,.int .i64 v,.int .i64 0,.int .i64 0,.int .i64 0,.int .i64 0,.int .i64 0] 96 _ _ (by rfl) (by rfl) (by rfl) (by rfl) (by rfl) sizeR (by rfl) ?_)
       have hF:=Bz.put (us:=[.int .i64 2,.int .i64 0,.int .i64 v,.int .i64 0,.int .i64 0,.int .i64 0,.int .i64 0,.int .i64 0]) rfl
       have oF:=Onto.puts (b:=z) (o:=0) (us:=[.int .i64 2,.int .i64 0,.int .i64 v,.int .i64 0,.int .i64 0,.int .i64 0,.int .i64 0,.int .i64 0]) hz' on
       generalize World.setCells _ z 0 [.int .i64 2,.int .i64 0,.int .i64 v,.int .i64 0,.int .i64 0,.int .i64 0,.int .i64 0,.int .i64 0]=wF at hF oF ⊢
       go_wp2_with fail
       have p0:=hF.at_ 0 rfl;have p1:=hF.at_ 1 rfl;have p2:=hF.at_ 2 rfl;have p3:=hF.at_ 3 rfl;have p4:=hF.at_ 4 rfl;have p5:=hF.at_ 5 rfl;have p6:=hF.at_ 6 rfl;have p7:=hF.at_ 7 rfl
       refine bodyPost_ret (v:=.tuple #[.agg #[.int .i64 2,.int .i64 0,.int .i64 v,.int .i64 0,.int .i64 0,.int .i64 0,.int .i64 0,.int .i64 0],.int .i64 0]) (by simp [results,Tryz.results109,go_sem,p0,p1,p2,p3,p4,p5,p6,p7]) rfl ⟨rfl,oF⟩
     · have hr:=HRQ.out
       rw [if_pos hq0] at hr
       subst hr
       have hq1:(q ==0)=false:=by simp [hq0]
       have hq2:(q !=0)=true:=by simp [hq0]
       clear hq0 B4 HRQ
       go_wp2_with (refine wpList_put Bz [.int .i64 0,.int .i64 0,.int .i64 0,.int .i64 0,.int .i64 0,.int .i64 0,.int .i64 0,.int .i64 0] 96 _ _ (by rfl) (by rfl) (by rfl) (by rfl) (by rfl) sizeR (by rfl) ?_)
       have hF:=Bz.put (us:=[.int .i64 0,.int .i64 0,.int .i64 0,.int .i64 0,.int .i64 0,.int .i64 0,.int .i64 0,.int .i64 0]) rfl
       have oF:=Onto.puts (b:=z) (o:=0) (us:=[.int .i64 0,.int .i64 0,.int .i64 0,.int .i64 0,.int .i64 0,.int .i64 0,.int .i64 0,.int .i64 0]) hz' on
       generalize World.setCells _ z 0 [.int .i64 0,.int .i64 0,.int .i64 0,.int .i64 0,.int .i64 0,.int .i64 0,.int .i64 0,.int .i64 0]=wF at hF oF ⊢
       go_wp2_with fail
       have p0:=hF.at_ 0 rfl;have p1:=hF.at_ 1 rfl;have p2:=hF.at_ 2 rfl;have p3:=hF.at_ 3 rfl;have p4:=hF.at_ 4 rfl;have p5:=hF.at_ 5 rfl;have p6:=hF.at_ 6 rfl;have p7:=hF.at_ 7 rfl
       refine bodyPost_ret (v:=.tuple #[.agg #[.int .i64 0,.int .i64 0,.int .i64 0,.int .i64 0,.int .i64 0,.int .i64 0,.int .i64 0,.int .i64 0],.int .i64 q]) (by simp [results,Tryz.results109,go_sem,p0,p1,p2,p3,p4,p5,p6,p7]) rfl ⟨rfl,oF⟩
 · have hpb:(([115,101,97,108,32]:List UInt8).isPrefixOf s)=false:=(Bool.not_eq_true _).mp hp
   rw [if_neg hp] at ht
   subst ht
   have HP:=Lib.hid hp
   clear hp
   rw [hpb]
   clear hpb
   obtain ⟨a,ha⟩:∃ a,a=(Lib.cut t [58,32]).1:=⟨_,rfl⟩
   obtain ⟨c,hc⟩:∃ a,a=(Lib.cut t [58,32]).2.1:=⟨_,rfl⟩
   obtain ⟨k,hk⟩:∃ a,a=(Lib.cut t [58,32]).2.2:=⟨_,rfl⟩
   have hal:a.length≤30000:=by rw [ha];have:=(cut_len t [58,32]).1;have:=HS.out;omega
   have hcl:c.length≤30000:=by rw [hc];have:=(cut_len t [58,32]).2;have:=HS.out;omega
   go_wp2_with fail
   refine Calls.mono (Cut_calls t [58,32] (by have:=HS.out;omega) _ E1) ?_
   rw [← ha,← hc,← hk]
   have HA:=Lib.hid ha;have HCC:=Lib.hid hc;have HK:=Lib.hid hk
   clear ha hc hk
   rintro e w3 ⟨rfl,b⟩
   replace Bz:=Bz.onto b;replace on:=on.to b;replace B4:=B4.onto b;replace E1:=E1.onto b
   clear b
   go_wp2_with fail
   refine Calls.mono (Number_calls a (by omega) _ E1) ?_
   rintro e w4 ⟨n,rfl,b,hn⟩
   replace Bz:=Bz.onto b;replace on:=on.to b;replace B4:=B4.onto b;replace E1:=E1.onto b
   clear b
   cases k with
   | false =>
     clear hn
     have hr:r=(zeroR,1):=by rw [HR.out];unfold readR;rw [if_neg HP.out,if_pos (show (Lib.cut t colonW).2.2=false from HK.out.symm)]
     subst hr
     go_wp2_with (refine wpList_put Bz [.int .i64 0,.int .i64 0,.int .i64 0,.int .i64 0,.int .i64 0,.int .i64 0,.int .i64 0,.int .i64 0] 96 _ _ (by rfl) (by rfl) (by rfl) (by rfl) (by rfl) sizeR (by rfl) ?_)
     have hF:=Bz.put (us:=[.int .i64 0,.int .i64 0,.int .i64 0,.int .i64 0,.int .i64 0,.int .i64 0,.int .i64 0,.int .i64 0]) rfl
     have oF:=Onto.puts (b:=z) (o:=0) (us:=[.int .i64 0,.int .i64 0,.int .i64 0,.int .i64 0,.int .i64 0,.int .i64 0,.int .i64 0,.int .i64 0]) hz' on
     generalize World.setCells _ z 0 [.int .i64 0,.int .i64 0,.int .i64 0,.int .i64 0,.int .i64 0,.int .i64 0,.int .i64 0,.int .i64 0]=wF at hF oF ⊢
     go_wp2_with fail
     have p0:=hF.at_ 0 rfl;have p1:=hF.at_ 1 rfl;have p2:=hF.at_ 2 rfl;have p3:=hF.at_ 3 rfl;have p4:=hF.at_ 4 rfl;have p5:=hF.at_ 5 rfl;have p6:=hF.at_ 6 rfl;have p7:=hF.at_ 7 rfl
     refine bodyPost_ret (v:=.tuple #[.agg #[.int .i64 0,.int .i64 0,.int .i64 0,.int .i64 0,.int .i64 0,.int .i64 0,.int .i64 0,.int .i64 0],.int .i64 1]) (by simp [results,Tryz.results109,go_sem,p0,p1,p2,p3,p4,p5,p6,p7]) rfl ⟨rfl,oF⟩
   | true =>
     have hr0:r=(match num a with | none=>(zeroR,1) | some n=>if (readWs (cutc 32 c)).2≠0 then (zeroR,(readWs (cutc 32 c)).2) else finR ⟨1,n,0,(readWs (cutc 32 c)).1⟩):=by
      rw [HR.out];unfold readR
      rw [if_neg HP.out,if_neg (show ¬ (Lib.cut t colonW).2.2=false by rw [show (Lib.cut t colonW).2.2=true from HK.out.symm];simp),HA.out,HCC.out]
      rfl
     have HR0:=Lib.hid hr0
     clear hr0
     cases hnt:num a with
     | none =>
       rw [show (none:Option Int).isSome=false from rfl]
       clear hn
       have hr:r=(zeroR,1):=by rw [HR0.out,hnt]
       subst hr
       go_wp2_with (refine wpList_put Bz [.int .i64 0,.int .i64 0,.int .i64 0,.int .i64 0,.int .i64 0,.int .i64 0,.int .i64 0,.int .i64 0] 96 _ _ (by rfl) (by rfl) (by rfl) (by rfl) (by rfl) sizeR (by rfl) ?_)
       have hF:=Bz.put (us:=[.int .i64 0,.int .i64 0,.int .i64 0,.int .i64 0,.int .i64 0,.int .i64 0,.int .i64 0,.int .i64 0]) rfl
       have oF:=Onto.puts (b:=z) (o:=0) (us:=[.int .i64 0,.int .i64 0,.int .i64 0,.int .i64 0,.int .i64 0,.int .i64 0,.int .i64 0,.int .i64 0]) hz' on
       generalize World.setCells _ z 0 [.int .i64 0,.int .i64 0,.int .i64 0,.int .i64 0,.int .i64 0,.int .i64 0,.int .i64 0,.int .i64 0]=wF at hF oF ⊢
       go_wp2_with fail
       have p0:=hF.at_ 0 rfl;have p1:=hF.at_ 1 rfl;have p2:=hF.at_ 2 rfl;have p3:=hF.at_ 3 rfl;have p4:=hF.at_ 4 rfl;have p5:=hF.at_ 5 rfl;have p6:=hF.at_ 6 rfl;have p7:=hF.at_ 7 rfl
       refine bodyPost_ret (v:=.tuple #[.agg #[.int .i64 0,.int .i64 0,.int .i64 0,.int .i64 0,.int .i64 0,.int .i64 0,.int .i64 0,.int .i64 0],.int .i64 1]) (by simp [results,Tryz.results109,go_sem,p0,p1,p2,p3,p4,p5,p6,p7]) rfl ⟨rfl,oF⟩
     | some v =>
       rw [hnt] at hn
       have hv:v=n:=by have:=hn rfl;injection this
       subst hv
       have HN:=Lib.hid hnt
       clear hn hnt
       rw [show (some v:Option Int).isSome=true from rfl]
       have hpc:parseE c=readWs (cutc 32 c):=by unfold parseE;rw [if_neg (by omega)]
       obtain ⟨x,hx⟩:∃ x,x=(readWs (cutc 32 c)).1:=⟨_,rfl⟩
       obtain ⟨g,hg⟩:∃ x,x=(readWs (cutc 32 c)).2:=⟨_,rfl⟩
       go_wp2_with fail
       refine Calls.mono (EParse_calls c _ E1 (by omega)) ?_
       rw [hpc]
       rintro e w5 ⟨rfl,b⟩
       rw [← hx,← hg]
       have HX:=Lib.hid hx;have HG:=Lib.hid hg
       replace Bz:=Bz.onto b;replace on:=on.to b;replace B4:=B4.onto b
       clear b hx hg hpc E1
       go_upto_region 15 with fail
       have ob:=(Onto.rfl' w5).new (Obj.cells #[.int .i64 x.kind,.int .i64 x.job,.int .i64 x.every,.int .i64 x.time,.int .i64 x.client] 46)
       have BE:Bx (w5.alloc (Obj.cells #[.int .i64 x.kind,.int .i64 x.job,.int .i64 x.every,.int .i64 x.time,.int .i64 x.client] 46)) w5.heap.size [.int .i64 x.kind,.int .i64 x.job,.int .i64 x.every,.int .i64 x.time,.int .i64 x.client]:=Bx.made _ _ _
       replace Bz:=Bz.onto ob;replace on:=on.to ob;replace B4:=B4.onto ob
       generalize (w5.alloc (Obj.cells #[.int .i64 x.kind,.int .i64 x.job,.int .i64 x.every,.int .i64 x.time,.int .i64 x.client] 46))=w6 at *
       generalize w5.heap.size=ze at *
       by_cases hg0:g=0
       · have hgb:(g ==0)=true:=by simp [hg0]
         have hgn:(g !=0)=false:=by simp [hg0]
         have HG0:=Lib.hid hg0
         clear hg0
         have e0:=BE.at_ 0 rfl;have e1:=BE.at_ 1 rfl;have e2:=BE.at_ 2 rfl;have e3:=BE.at_ 3 rfl;have e4:=BE.at_ 4 rfl
         go_upto_region 18 with (refine wpList_put B4 [.int .i64 1,.int .i64 v,.int .i64 0,.int .i64 x.kind,.int .i64 x.job,.int .i64 x.every,.int .i64 x.time,.int .i64 x.client] 96 _ _ (by rfl) (by rfl) (by rfl) (by rfl) (by rfl) sizeR (by rfl) ?_)
         have B4':=B4.put (us:=[.int .i64 1,.int .i64 v,.int .i64 0,.int .i64 x.kind,.int .i64 x.job,.int .i64 x.every,.int .i64 x.time,.int .i64 x.client]) rfl
         replace Bz:=Bz.off (b:=z4) (o:=0) (us:=[.int .i64 1,.int .i64 v,.int .i64 0,.int .i64 x.kind,.int .i64 x.job,.int .i64 x.every,.int .i64 x.time,.int .i64 x.client]) hzz
         replace on:=Onto.puts (b:=z4) (o:=0) (us:=[.int .i64 1,.int .i64 v,.int .i64 0,.int .i64 x.kind,.int .i64 x.job,.int .i64 x.every,.int .i64 x.time,.int .i64 x.client]) hz4' on
         clear B4 BE e0 e1 e2 e3 e4
         have B4:=B4'
         clear B4'
         generalize World.setCells _ z4 0 [.int .i64 1,.int .i64 v,.int .i64 0,.int .i64 x.kind,.int .i64 x.job,.int .i64 x.every,.int .i64 x.time,.int .i64 x.client]=w7 at B4 Bz on ⊢
         have hr:r=finR ⟨1,v,0,⟨x.kind,x.job,x.every,x.time,x.client⟩⟩:=by rw [HR0.out,HN.out];dsimp only;rw [← HG.out,if_neg (by simp [HG0.out]),← HX.out]
         obtain ⟨q,hqq⟩:∃ q,q=checkR ⟨1,v,0,⟨x.kind,x.job,x.every,x.time,x.client⟩⟩:=⟨_,rfl⟩
         unfold finR at hr
         rw [← hqq] at hr
         have HQ:=Lib.hid hqq;have HRQ:=Lib.hid hr
         clear hqq hr
         have b0:=B4.at_ 0 rfl;have b1:=B4.at_ 1 rfl;have b2:=B4.at_ 2 rfl;have b3:=B4.at_ 3 rfl;have b4:=B4.at_ 4 rfl;have b5:=B4.at_ 5 rfl;have b6:=B4.at_ 6 rfl;have b7:=B4.at_ 7 rfl
         go_wp2_with fail
         refine Calls.mono (NCheck_calls 1 v 0 x _) ?_
         rintro e wk ⟨rfl,b⟩
         rw [show checkR ⟨1,v,0,⟨x.kind,x.job,x.every,x.time,x.client⟩⟩=q from HQ.out.symm]
         replace Bz:=Bz.onto b;replace on:=on.to b;replace B4:=B4.onto b
         clear b b0 b1 b2 b3 b4 b5 b6 b7
         by_cases hq0:q=0
         · have hr:=HRQ.out
           rw [if_neg (by simp [hq0])] at hr
           subst hr
           have hq1:(q ==0)=true:=by simp [hq0]
           have hq2:(q !=0)=false:=by simp [hq0]
           have b0:=B4.at_ 0 rfl;have b1:=B4.at_ 1 rfl;have b2:=B4.at_ 2 rfl;have b3:=B4.at_ 3 rfl;have b4:=B4.at_ 4 rfl;have b5:=B4.at_ 5 rfl;have b6:=B4.at_ 6 rfl;have b7:=B4.at_ 7 rfl
           clear hq0 HRQ
           go_wp2_with (refine wpList_put Bz [.int .i64 1,.int .i64 v,.int .i64 0,.int .i64 x.kind,.int .i64 x.job,.int .i64 x.every,.int .i64 x.time,.int .i64 x.client] 96 _ _ (by rfl) (by rfl) (by rfl) (by rfl) (by rfl) sizeR (by rfl) ?_)
           have hF:=Bz.put (us:=[.int .i64 1,.int .i64 v,.int .i64 0,.int .i64 x.kind,.int .i64 x.job,.int .i64 x.every,.int .i64 x.time,.int .i64 x.client]) rfl
           have oF:=Onto.puts (b:=z) (o:=0) (us:=[.int .i64 1,.int .i64 v,.int .i64 0,.int .i64 x.kind,.int .i64 x.job,.int .i64 x.every,.int .i64 x.time,.int .i64 x.client]) hz' on
           generalize World.setCells _ z 0 [.int .i64 1,.int .i64 v,.int .i64 0,.int .i64 x.kind,.int .i64 x.job,.int .i64 x.every,.int .i64 x.time,.int .i64 x.client]=wF at hF oF ⊢
           go_wp2_with fail
           have p0:=hF.at_ 0 rfl;have p1:=hF.at_ 1 rfl;have p2:=hF.at_ 2 rfl;have p3:=hF.at_ 3 rfl;have p4:=hF.at_ 4 rfl;have p5:=hF.at_ 5 rfl;have p6:=hF.at_ 6 rfl;have p7:=hF.at_ 7 rfl
           refine bodyPost_ret (v:=.tuple #[.agg #[.int .i64 1,.int .i64 v,.int .i64 0,.int .i64 x.kind,.int .i64 x.job,.int .i64 x.every,.int .i64 x.time,.int .i64 x.client],.int .i64 0]) (by simp [results,Tryz.results109,go_sem,p0,p1,p2,p3,p4,p5,p6,p7]) rfl ⟨rfl,oF⟩
         · have hr:=HRQ.out
           rw [if_pos hq0] at hr
           subst hr
           have hq1:(q ==0)=false:=by simp [hq0]
           have hq2:(q !=0)=true:=by simp [hq0]
           clear hq0 B4 HRQ
           go_wp2_with (refine wpList_put Bz [.int .i64 0,.int .i64 0,.int .i64 0,.int .i64 0,.int .i64 0,.int .i64 0,.int .i64 0,.int .i64 0] 96 _ _ (by rfl) (by rfl) (by rfl) (by rfl) (by rfl) sizeR (by rfl) ?_)
           have hF:=Bz.put (us:=[.int .i64 0,.int .i64 0,.int .i64 0,.int .i64 0,.int .i64 0,.int .i64 0,.int .i64 0,.int .i64 0]) rfl
           have oF:=Onto.puts (b:=z) (o:=0) (us:=[.int .i64 0,.int .i64 0,.int .i64 0,.int .i64 0,.int .i64 0,.int .i64 0,.int .i64 0,.int .i64 0]) hz' on
           generalize World.setCells _ z 0 [.int .i64 0,.int .i64 0,.int .i64 0,.int .i64 0,.int .i64 0,.int .i64 0,.int .i64 0,.int .i64 0]=wF at hF oF ⊢
           go_wp2_with fail
           have p0:=hF.at_ 0 rfl;have p1:=hF.at_ 1 rfl;have p2:=hF.at_ 2 rfl;have p3:=hF.at_ 3 rfl;have p4:=hF.at_ 4 rfl;have p5:=hF.at_ 5 rfl;have p6:=hF.at_ 6 rfl;have p7:=hF.at_ 7 rfl
           refine bodyPost_ret (v:=.tuple #[.agg #[.int .i64 0,.int .i64 0,.int .i64 0,.int .i64 0,.int .i64 0,.int .i64 0,.int .i64 0,.int .i64 0],.int .i64 q]) (by simp [results,Tryz.results109,go_sem,p0,p1,p2,p3,p4,p5,p6,p7]) rfl ⟨rfl,oF⟩
       · have hgb:(g ==0)=false:=by simp [hg0]
         have hgn:(g !=0)=true:=by simp [hg0]
         have hr:r=(zeroR,g):=by rw [HR0.out,HN.out];dsimp only;rw [← HG.out,if_pos hg0]
         subst hr
         clear hg0
         go_wp2_with (refine wpList_put Bz [.int .i64 0,.int .i64 0,.int .i64 0,.int .i64 0,.int .i64 0,.int .i64 0,.int .i64 0,.int .i64 0] 96 _ _ (by rfl) (by rfl) (by rfl) (by rfl) (by rfl) sizeR (by rfl) ?_)
         have hF:=Bz.put (us:=[.int .i64 0,.int .i64 0,.int .i64 0,.int .i64 0,.int .i64 0,.int .i64 0,.int .i64 0,.int .i64 0]) rfl
         have oF:=Onto.puts (b:=z) (o:=0) (us:=[.int .i64 0,.int .i64 0,.int .i64 0,.int .i64 0,.int .i64 0,.int .i64 0,.int .i64 0,.int .i64 0]) hz' on
         generalize World.setCells _ z 0 [.int .i64 0,.int .i64 0,.int .i64 0,.int .i64 0,.int .i64 0,.int .i64 0,.int .i64 0,.int .i64 0]=wF at hF oF ⊢
         go_wp2_with fail
         have p0:=hF.at_ 0 rfl;have p1:=hF.at_ 1 rfl;have p2:=hF.at_ 2 rfl;have p3:=hF.at_ 3 rfl;have p4:=hF.at_ 4 rfl;have p5:=hF.at_ 5 rfl;have p6:=hF.at_ 6 rfl;have p7:=hF.at_ 7 rfl
         refine bodyPost_ret (v:=.tuple #[.agg #[.int .i64 0,.int .i64 0,.int .i64 0,.int .i64 0,.int .i64 0,.int .i64 0,.int .i64 0,.int .i64 0],.int .i64 g]) (by simp [results,Tryz.results109,go_sem,p0,p1,p2,p3,p4,p5,p6,p7]) rfl ⟨rfl,oF⟩
theorem NParse_long (s : List UInt8) (w : World) (hs : 30000 < s.length) (hm : s.length ≤ 9223372036854775807) :
    Calls Tryz.prog 109 #[str s] w (RnPost w (zeroR,2)):=by
 have hd:((30000:Int)<(s.length:Int)):=by omega
 have hd2:decide ((30000:Int)<(s.length:Int))=true:=by simp;omega
 go_enter Tryz.func109,Tryz.ntmps109
 go_wp2
 refine bodyPost_ret (v:=.tuple #[.agg #[.int .i64 0,.int .i64 0,.int .i64 0,.int .i64 0,.int .i64 0,.int .i64 0,.int .i64 0,.int .i64 0],.int .i64 2]) (by simp [results,Tryz.results109,go_sem]) rfl ⟨rfl,?_⟩
 repeat (first | exact Onto.rfl' _ | refine Onto.draw ?_ | refine Onto.new ?_ _ | refine Onto.put ?_ (by simp) _)
theorem NParse_calls (s : List UInt8) (w : World) (E : Env w) (hm : s.length ≤ 9223372036854775807) :
    Calls Tryz.prog 109 #[str s] w (RnPost w (parseR s)):=by
 unfold parseR
 by_cases h:30000<s.length
 · rw [if_pos h];exact NParse_long s w h hm
 · rw [if_neg h];exact NParse_short s w E (by omega)
end
section
open Go.ChangeShapes Go.WideShapes Go.ChangeAt Go.RowKit
theorem own:ownKnob Tryz.prog.godebug=none:=by kernel_rfl
theorem laidOut:laidOutB Tryz.prog=true:=by kernel_rfl
theorem Below_trodAll {H : Type} {enc : TypeId × Value → H} {P : Program} (hl : laidOutB P = true) {W W' : World} (hb : Below W.heap.size W W') : ∀ {ts : List TypeId} {vs : List Value} {ds : List (DataW H)} {ps : List MemPlace},
    (∀ t∈ts,P.readableRec t=true∧t<P.types.size)→DataW.TrodAll enc P W 0 (fun _=>true) true ts vs ds ps →
    DataW.TrodAll enc P W' 0 (fun b=>decide (b<W.heap.size)) true ts vs ds ps
 | [],vs,ds,ps,_,h=>by
   obtain ⟨rfl,rfl,rfl⟩:=trodAll_nil h
   exact trodAll_mk0
 | t ::ts,vs,ds,ps,hts,h=>by
   obtain ⟨v,vs',d,ds',p,q,rfl,rfl,rfl,h0,hr⟩:=trodAll_cons h
   have ht:=hts t (by simp)
   have lt:∀ x∈p,x.block<W.heap.size:=by obtain ⟨m,hm⟩:=h0;exact DataW.trod_lt m _ _ _ hm
   exact trodAll_cons_mk (Below.trod hl ht.1 ht.2 h0 hb lt) (Below_trodAll hl hb (fun t' h'=>hts t' (by simp [h'])) hr)
end
section
open Go.ChangeShapes Go.WideShapes Go.ChangeAt Go.RowKit Go.Deep Go.Joins
theorem choose_list {α:Type} {p:Nat→α→Prop}:∀ (n:Nat),(∀ i,i<n→∃ x,p i x)→∃ l:List α,l.length=n∧∀ i x,l[i]?=some x→p i x
 | 0,_=>⟨[],rfl,by simp⟩
 | n+1,h=>by
   obtain ⟨l,hl,hp⟩:=choose_list n (fun i hi=>h i (by omega))
   obtain ⟨x,hx⟩:=h n (by omega)
   refine ⟨l ++[x],by simp [hl],fun i y hy=>?_⟩
   rcases Nat.lt_or_ge i n with h1 | h1
   · rw [List.getElem?_append_left (by omega)] at hy
     exact hp i y hy
   · rw [List.getElem?_append_right (by omega)] at hy
     have:i - l.length=0:=by
      rcases Nat.eq_zero_or_pos (i - l.length) with h2 | h2
      · exact h2
      · rw [List.getElem?_eq_none (by simp;omega)] at hy;cases hy
     rw [this] at hy
     simp at hy
     subst hy
     rw [show i=n by omega]
     exact hx
section
variable {H:Type} {enc:TypeId × Value→H} {P:Program} {w:World} {spare:Nat→Bool} {held:Bool}
end
end
end Go.Proofs.YtidlffepdcldkaaGreatDoor
