/- Part 32 of the proof: RStr, REText. -/
import Derived.Test.YtidlffepdcldkaaGreatDoorBa03
import Derived.Test.YtidlffepdcldkaaGreatDoorBa08
namespace Go.Proofs.YtidlffepdcldkaaGreatDoor
set_option linter.unusedSimpArgs false
set_option linter.unusedVariables false
section
open Go.RowKit
theorem FormatInt_calls (n : Int) (h0 : -9223372036854775808 ≤ n) (h1 : n ≤ 9223372036854775807) (w : World) (E : Env w) :
    Calls Tryz.prog 117 #[.int .i64 n,.int .i64 10] w fun e w'=>e=.returned (str (Lib.itoa n))∧Onto w w' :=
 (Any.strconv_FormatInt_10 Tryz.laysM173 n h0 h1 w E.tab).mono fun e w' ⟨he,k,os,hw⟩=>⟨he,hw ▸ onto_grow w k os⟩
theorem ParseInt_calls (s : List UInt8) (hs : s.length ≤ 281474976710656) (w : World) (E : Env w) :
    Calls Tryz.prog 116 #[str s,.int .i64 10,.int .i64 64] w fun e w'=>∃ v er,e=.returned (.tuple #[.int .i64 v,er])∧Onto w w' ∧
     ((er=.nilIface∧Lib.atoiAll s=.ok v∧-9223372036854775808≤v∧v≤9223372036854775807)∨((∃ t p,er=.iface t p)∧∀ v,Lib.atoiAll s≠.ok v)):=by
 obtain ⟨t1,p1,c1⟩:=E.syn
 obtain ⟨t2,p2,c2⟩:=E.rng
 have e0:=Lib.parseIntB_64 s
 cases h:Lib.atoiAll s with
 | ok v =>
   rw [h] at e0
   refine (Any.strconv_ParseInt_10_at64_ok Tryz.laysC174 ⟨s.toArray⟩ (by rw [str_size];omega) v (by simpa using e0) w).mono ?_
   rintro e w' ⟨rfl,hw⟩
   refine ⟨v,_,rfl,?_,.inl ⟨rfl,rfl,Lib.atoiAll_bounds h⟩⟩
   rcases hw with rfl | ⟨t,rfl⟩
   · exact Onto.rfl' _
   · exact Lib.bytesWorld_below _ _ _
 | range =>
   rw [h] at e0
   refine (Any.strconv_ParseInt_10_at64_range Tryz.laysC174 ⟨s.toArray⟩ (by rw [str_size];omega) (by simpa using e0) _ w c2 (.inr ⟨_,_,rfl⟩)).mono ?_
   rintro e w' ⟨N,rfl,_,_,hw⟩
   exact ⟨_,_,rfl,hw,.inr ⟨⟨_,_,rfl⟩,by simp⟩⟩
 | _ =>
   rw [h] at e0
   refine (Any.strconv_ParseInt_10_at64_syntax Tryz.laysC174 ⟨s.toArray⟩ (by rw [str_size];omega) (by simpa using e0) _ w c1 (.inr ⟨_,_,rfl⟩)).mono ?_
   rintro e w' ⟨N,rfl,_,_,hw⟩
   exact ⟨_,_,rfl,hw,.inr ⟨⟨_,_,rfl⟩,by simp⟩⟩
theorem HasPrefix_calls (s p : List UInt8) (w : World) :
    Calls Tryz.prog 91 #[str s,str p] w fun e w'=>e=.returned (.bool (Lib.hasPrefix s p))∧w=w' :=
 (Any.strings_HasPrefix Tryz.lays99 ⟨s.toArray⟩ ⟨p.toArray⟩ w).mono fun e w' ⟨he,hw⟩=>⟨he,hw.symm⟩
theorem HasSuffix_calls (s p : List UInt8) (hs : s.length ≤ 9223372036854775807) (w : World) :
    Calls Tryz.prog 65 #[str s,str p] w fun e w'=>e=.returned (.bool (Lib.hasSuffix s p))∧w=w' :=
 (Any.strings_HasSuffix Tryz.lays100 ⟨s.toArray⟩ ⟨p.toArray⟩ w (by rw [str_size];exact hs)).mono fun e w' ⟨he,hw⟩=>⟨he,hw.symm⟩
theorem Index_calls (s p : List UInt8) (hs : s.length ≤ 4000000000) (w : World) (E : Env w) :
    Calls Tryz.prog 93 #[str s,str p] w fun e w'=>e=.returned (.int .i64 (Lib.index s p))∧w=w':=by
 obtain ⟨m,hm⟩:=E.big
 exact (Any.strings_Index Tryz.laysM143.ton143 ⟨s.toArray⟩ ⟨p.toArray⟩ m w (by rw [str_size];omega) hm).mono fun e w' ⟨he,hw⟩=>⟨he,hw.symm⟩
set_option maxHeartbeats 4000000 in
theorem Whole_calls (s : List UInt8) (hs : s.length ≤ 281474976710656) (w : World) (E : Env w) :
    Calls Tryz.prog 92 #[str s] w fun e w'=>∃ n:Int,e=.returned (.tuple #[.int .i64 n,.bool (num s).isSome])∧Onto w w'∧((num s).isSome=true→num s=some n):=by
 go_enter Tryz.func92,Tryz.ntmps92
 go_wp2_with fail
 refine Calls.mono (ParseInt_calls s hs _ E) ?_
 rintro e w8 ⟨v,er,rfl,on,hres⟩
 rcases hres with ⟨rfl,hok,hv0,hv1⟩ | ⟨⟨et,ep,rfl⟩,hno⟩
 · have hnum:num s=if Lib.itoa v=s then some v else none:=by unfold num;rw [hok]
   have HNUM:=Lib.hid hnum
   clear hok hnum
   go_wp2_with (go_at_call 117;refine (FormatInt_calls v hv0 hv1 _ (E.onto on)).mono ?_;rintro e w9 ⟨rfl,b9⟩;refine Hid.out ?_)
   refine Lib.hid ?_
   replace on:=on.to b9
   clear b9
   by_cases hbt:Lib.itoa v=s
   · have hq1:(Lib.itoa v ==s)=true:=by simp [hbt]
     have hn:num s=some v:=by rw [HNUM.out,if_pos hbt]
     clear hbt
     have HN:=Lib.hid hn
     clear hn
     go_wp2_with fail
     refine bodyPost_ret (v:=.tuple #[.int .i64 v,.bool true]) (by simp [results,Tryz.results92,go_sem]) rfl ⟨v,by rw [HN.out];rfl,on,fun _=>HN.out⟩
   · have hq1:(Lib.itoa v ==s)=false:=by simp [hbt]
     have hn:num s=none:=by rw [HNUM.out,if_neg hbt]
     clear hbt
     have HN:=Lib.hid hn
     clear hn
     go_wp2_with fail
     refine bodyPost_ret (v:=.tuple #[.int .i64 v,.bool false]) (by simp [results,Tryz.results92,go_sem]) rfl ⟨v,by rw [HN.out];rfl,on,fun h=>by rw [HN.out] at h;cases h⟩
 · have hn:num s=none:=by
    rcases num_case s with ⟨v,h1,_⟩ | ⟨_,h2⟩
    · exact absurd h1 (hno v)
    · exact h2
   have HN:=Lib.hid hn
   clear hn hno
   go_wp2_with fail
   refine bodyPost_ret (v:=.tuple #[.int .i64 v,.bool false]) (by simp [results,Tryz.results92,go_sem]) rfl ⟨v,by rw [HN.out];rfl,on,fun h=>by rw [HN.out] at h;cases h⟩
/-! ### Pieces,each with its end -/
def withc (c:UInt8):List (List UInt8)→List (List UInt8)
 | []=>[]
 | [t]=>[t]
 | t ::u ::r=>(t ++[c]) ::withc c (u ::r)
theorem withc_len (c:UInt8):∀ l:List (List UInt8),(withc c l).length=l.length
 | []=>rfl
 | [t]=>rfl
 | t ::u ::r=>by rw [withc,List.length_cons,withc_len c (u ::r)];rfl
theorem splitK_after (c:UInt8):∀ (l:List (List UInt8)),l≠[]→(∀ p∈l,c∉p)→Lib.splitK [c] 1 (l.length - 1) (joinc c l)=withc c l
 | [],h,_=>absurd rfl h
 | [t],_,_=>rfl
 | t ::u ::r,_,h=>by
   have ht:=h t (by simp)
   rw [show (t ::u ::r).length - 1=((u ::r).length - 1)+1 by simp,joinc,Lib.splitK,withc]
   have hx:=(index_one c (t ++c ::joinc c (u ::r))).2 t (joinc c (u ::r)) rfl ht
   rw [hx,if_neg (by rw [beq_iff_eq];omega)]
   congr 1
   · rw [Int.toNat_natCast]
     rw [show t ++c ::joinc c (u ::r)=(t ++[c]) ++joinc c (u ::r) by simp]
     rw [show t.length+1=(t ++[c]).length by simp,List.take_left]
   · rw [Int.toNat_natCast]
     rw [show t ++c ::joinc c (u ::r)=(t ++[c]) ++joinc c (u ::r) by simp]
     rw [show t.length+([c]:List UInt8).length=(t ++[c]).length by simp,List.drop_left]
     exact splitK_after c (u ::r) (by simp) (fun p hp=>h p (by simp at hp ⊢;exact Or.inr hp))
theorem after_b (c:UInt8) (s:List UInt8):(Lib.splitB ⟨#[c]⟩ 1 (Lib.countB ⟨s.toArray⟩ ⟨#[c]⟩) ⟨s.toArray⟩).map Value.string=(withc c (cutc c s)).map str:=by
 have h:=Lib.splitB_data ⟨#[c]⟩ 1 (Lib.countB ⟨s.toArray⟩ ⟨#[c]⟩) ⟨s.toArray⟩
 have hl:=count_b c s
 have e:Lib.splitK (⟨#[c]⟩:ByteArray).data.toList 1 (Lib.countB ⟨s.toArray⟩ ⟨#[c]⟩) (⟨s.toArray⟩:ByteArray).data.toList=withc c (cutc c s):=by
  have h1:=splitK_after c (cutc c s) (cutc_ne c s) (fun p hp=>cutc_mem hp)
  rw [joinc_cutc,← hl,Nat.add_sub_cancel] at h1
  exact h1
 rw [e] at h
 rw [← h,List.map_map]
 apply List.map_congr_left
 intro x _
 show Value.string x=str x.data.toList
 rw [str,← str_of]
theorem cellsOf_all {l:List ByteArray} {N:Nat} (h:l.length=N):Lib.cellsOf l N=(l.map Value.string).toArray:=by subst h;exact Lib.cellsOf_full l
set_option maxHeartbeats 4000000 in
theorem SplitAfter_calls (c : UInt8) (s : List UInt8) (hs : s.length ≤ 4000000000) (w : World) (E : Env w) :
    Calls Tryz.prog 64 #[str s,str [c]] w fun e w'=>∃ A,e=.returned (.slice A (cutc c s).length (cutc c s).length)∧S w' 1 A (cutc c s).length ((withc c (cutc c s)).map encS)∧Onto w w':=by
 obtain ⟨m,hm⟩:=E.big
 have hcl:=cutc_len c s
 have hcnt:s.count c≤s.length:=List.count_le_length
 have hcb:=count_b c s
 have key:=Any.strings_genSplit Tryz.lays221 (by kernel_rfl) ⟨s.toArray⟩ ⟨#[c]⟩ 1 (-1) (cutc c s).length m w (by rw [str_size];omega) hm (Nat.le_refl 1) (Nat.le_refl 1) (by omega) (by omega) (by rw [str_size,if_pos (by omega)];omega)
 have hab:=after_b c s
 have hN:Lib.countB ⟨s.toArray⟩ ⟨#[c]⟩=(cutc c s).length - 1:=by omega
 rw [hN] at hab
 have hlen:(Lib.splitB ⟨#[c]⟩ 1 ((cutc c s).length - 1) ⟨s.toArray⟩).length=(cutc c s).length:=by
  have:=congrArg List.length hab
  rw [List.length_map,List.length_map,withc_len] at this
  exact this
 rw [hlen,cellsOf_all hlen,hab] at key
 have HK:=Lib.hid key
 clear key hab hlen hN hcb hcnt hcl hm
 go_enter Tryz.func64,Tryz.ntmps64
 go_wp2_with fail
 refine Calls.mono HK.out ?_
 rintro e w' ⟨rfl,rfl⟩
 have hS:=Sl.block (k:=1) ((withc c (cutc c s)).map encS) (hNew (w:=w) (o:=.cells ((withc c (cutc c s)).map str).toArray 9) rfl) (by
  intro r hr
  obtain ⟨x,_,rfl⟩:=List.mem_map.1 hr
  rfl) (by
  generalize withc c (cutc c s)=l
  induction l with
  | nil=>rfl
  | cons a l ih=>simp [encS] at ih ⊢;exact ih)
 rw [List.length_map,withc_len] at hS
 have HS:=Lib.hid hS
 clear hS
 go_wp2_with fail
 go_ret
 exact ⟨_,rfl,HS.out,(Onto.rfl' w).new _⟩
end
section
open Go.RowKit
end
end Go.Proofs.YtidlffepdcldkaaGreatDoor
