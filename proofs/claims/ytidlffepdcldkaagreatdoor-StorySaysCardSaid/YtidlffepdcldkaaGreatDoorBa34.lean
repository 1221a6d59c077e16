/- Part 34 of the proof: RNote, RLines. -/
import Derived.Test.YtidlffepdcldkaaGreatDoorBa32
import Derived.Test.YtidlffepdcldkaaGreatDoorBa33
import Derived.Test.YtidlffepdcldkaaGreatDoorBa09
import Derived.Test.YtidlffepdcldkaaGreatDoorBa02
import Derived.Test.YtidlffepdcldkaaGreatDoorBa10
namespace Go.Proofs.YtidlffepdcldkaaGreatDoor
set_option linter.unusedSimpArgs false
set_option linter.unusedVariables false
section
open Go.RowKit
theorem HasPrefix_on (s p:List UInt8) (w:World):Calls Tryz.prog 91 #[str s,str p] w fun e w'=>e=.returned (.bool (p.isPrefixOf s))∧Onto w w' :=
 (HasPrefix_calls s p w).mono fun e w' ⟨he,hw⟩=>⟨he,hw ▸ Onto.rfl' w⟩
theorem Index_on (s p:List UInt8) (hs:s.length≤4000000000) (w:World) (E:Env w):Calls Tryz.prog 93 #[str s,str p] w fun e w'=>e=.returned (.int .i64 (Lib.index s p))∧Onto w w' :=
 (Index_calls s p hs w E).mono fun e w' ⟨he,hw⟩=>⟨he,hw ▸ Onto.rfl' w⟩
theorem cutFrom (l:List UInt8) (k:Nat) (h:k≤l.length) (w:World):(Instr.slice 9 (str l) (some (.int .i64 (k:Int))) none none).run Tryz.prog w=.ok (str (l.drop k)) w:=by
 rw [run_slice_string_l w _ _ Tryz.underlying9 .i64 (k:Int) (by omega) (by rw [str_size];omega),ByteArray.extract_mk,str_size,Int.toNat_natCast,List.take_of_length_le (by rw [List.length_drop];omega)]
theorem cutTo (l:List UInt8) (k:Nat) (h:k≤l.length) (w:World):(Instr.slice 9 (str l) none (some (.int .i64 (k:Int))) none).run Tryz.prog w=.ok (str (l.take k)) w:=by
 rw [run_slice_string_h w _ _ Tryz.underlying9 .i64 (k:Int) (by omega) (by rw [str_size];omega),ByteArray.extract_mk,Int.toNat_natCast,List.drop_zero,Nat.sub_zero]
theorem cut_index (s sep:List UInt8):(Lib.index s sep<0→(Lib.cut s sep).2.2=false)∧(∀ k:Nat,Lib.index s sep=k→k+sep.length≤s.length∧Lib.cut s sep=(s.take k,s.drop (k+sep.length),true)):=by
 refine ⟨fun h=>?_,fun k h=>?_⟩
 · unfold Lib.cut
   rw [if_neg (by omega)]
 · refine ⟨?_,?_⟩
   · rcases Lib.index_spec s sep with ⟨h1,_⟩ | ⟨i,h1,h2,h3,_⟩
     · omega
     · have:i=k:=by omega
       subst this
       unfold Lib.occAt at h3
       obtain ⟨r,hr⟩:=List.isPrefixOf_iff_prefix.1 h3
       have:=congrArg List.length hr
       rw [List.length_append,List.length_drop] at this
       omega
   · unfold Lib.cut
     rw [h,if_pos (by omega),Int.toNat_natCast]
set_option maxRecDepth 100000 in
set_option maxHeartbeats 8000000 in
theorem RRRead_calls (s : List UInt8) (w : World) (E : Env w) (hs : s.length ≤ 30000) :
    Calls Tryz.prog 66 #[str s] w (RnPost w (readR s)):=by
 have HS:=Lib.hid hs
 obtain ⟨r,hr⟩:∃ r,r=readR s:=⟨_,rfl⟩
 rw [← hr]
 have HR:=Lib.hid hr
 clear hs hr
 go_enter Tryz.func66,Tryz.ntmps66
 go_upto_region 2 with fail
 have BZ:Bx ((w.alloc (Obj.cells #[.int .i64 0,.int .i64 0,.int .i64 0,.int .i64 0,.int .i64 0,.int .i64 0,.int .i64 0,.int .i64 0] 96)).alloc (Obj.cells #[.int .i64 2,.int .i64 0,.int .i64 0,.int .i64 0,.int .i64 0,.int .i64 0,.int .i64 0,.int .i64 0] 96)) w.heap.size [.int .i64 0,.int .i64 0,.int .i64 0,.int .i64 0,.int .i64 0,.int .i64 0,.int .i64 0,.int .i64 0]:=(Bx.made w #[.int .i64 0,.int .i64 0,.int .i64 0,.int .i64 0,.int .i64 0,.int .i64 0,.int .i64 0,.int .i64 0] 96).new _
 have BR:Bx ((w.alloc (Obj.cells #[.int .i64 0,.int .i64 0,.int .i64 0,.int .i64 0,.int .i64 0,.int .i64 0,.int .i64 0,.int .i64 0] 96)).alloc (Obj.cells #[.int .i64 2,.int .i64 0,.int .i64 0,.int .i64 0,.int .i64 0,.int .i64 0,.int .i64 0,.int .i64 0] 96)) (w.heap.size+1) [.int .i64 2,.int .i64 0,.int .i64 0,.int .i64 0,.int .i64 0,.int .i64 0,.int .i64 0,.int .i64 0]:=by
  have:=Bx.made (w.alloc (Obj.cells #[.int .i64 0,.int .i64 0,.int .i64 0,.int .i64 0,.int .i64 0,.int .i64 0,.int .i64 0,.int .i64 0] 96)) #[.int .i64 2,.int .i64 0,.int .i64 0,.int .i64 0,.int .i64 0,.int .i64 0,.int .i64 0,.int .i64 0] 96
  simpa using this
 have on:Onto w ((w.alloc (Obj.cells #[.int .i64 0,.int .i64 0,.int .i64 0,.int .i64 0,.int .i64 0,.int .i64 0,.int .i64 0,.int .i64 0] 96)).alloc (Obj.cells #[.int .i64 2,.int .i64 0,.int .i64 0,.int .i64 0,.int .i64 0,.int .i64 0,.int .i64 0,.int .i64 0] 96)):=((Onto.rfl' w).new _).new _
 try change Code.wp _ _ _ _ ((w.alloc (Obj.cells #[.int .i64 0,.int .i64 0,.int .i64 0,.int .i64 0,.int .i64 0,.int .i64 0,.int .i64 0,.int .i64 0] 96)).alloc (Obj.cells #[.int .i64 2,.int .i64 0,.int .i64 0,.int .i64 0,.int .i64 0,.int .i64 0,.int .i64 0,.int .i64 0] 96))
 generalize ((w.alloc (Obj.cells #[.int .i64 0,.int .i64 0,.int .i64 0,.int .i64 0,.int .i64 0,.int .i64 0,.int .i64 0,.int .i64 0] 96)).alloc (Obj.cells #[.int .i64 2,.int .i64 0,.int .i64 0,.int .i64 0,.int .i64 0,.int .i64 0,.int .i64 0,.int .i64 0] 96))=w1 at *
 have hz':w.heap.size≤w.heap.size:=Nat.le_refl _
 have hzr:w.heap.size≤w.heap.size+1:=by omega
 have hzz:w.heap.size≠w.heap.size+1:=by omega
 generalize w.heap.size+1=zr at BR hzr hzz ⊢
 generalize hz0:w.heap.size=z at BZ hzz ⊢
 replace hz':w.heap.size≤z:=by omega
 clear hz0
 obtain ⟨pf,hpf⟩:∃ pf,pf=sealW.isPrefixOf s:=⟨_,rfl⟩
 go_wp2_with fail
 refine Calls.mono (HasPrefix_on s [115,101,97,108,32] _) ?_
 rw [show ([115,101,97,108,32]:List UInt8).isPrefixOf s=pf from hpf.symm]
 rintro e v1 ⟨rfl,b⟩
 replace on:=on.to b
 replace BZ:=BZ.onto b
 replace BR:=BR.onto b
 clear b
 cases pf with
 | true =>
   have hp:sealW.isPrefixOf s=true:=hpf.symm
   have hl5:5≤s.length:=by
    obtain ⟨t,ht⟩:=List.isPrefixOf_iff_prefix.1 hp
    rw [← ht,List.length_append];simp [sealW]
   obtain ⟨t,ht⟩:∃ t,t=s.drop 5:=⟨_,rfl⟩
   have htl:t.length≤30000:=by rw [ht];have:=HS.out;simp;omega
   have sl:∀ w,(Instr.slice 9 (str s) (some (.int .i64 5)) none none).run Tryz.prog w=.ok (str t) w:=fun w=>by rw [ht];exact cutFrom s 5 hl5 w
   have HP:=Lib.hid hp;have HT:=Lib.hid ht
   clear hp ht hpf
   obtain ⟨ok,hok⟩:∃ ok,ok=(num t).isSome:=⟨_,rfl⟩
   go_wp2_with fail
   refine Calls.mono (Whole_calls t (by omega) _ (E.onto on)) ?_
   rw [← hok]
   rintro e v2 ⟨n,rfl,b,hn⟩
   replace on:=on.to b
   replace BZ:=BZ.onto b
   replace BR:=BR.onto b
   clear b
   clear sl
   have fz:=fun o=>BR.froz o
   have HN0:=Lib.hid hn;have HOK:=Lib.hid hok
   clear hn hok
   have b0:=BR.at_ 0 rfl;have b1:=BR.at_ 1 rfl;have b2:=BR.at_ 2 rfl;have b3:=BR.at_ 3 rfl;have b4:=BR.at_ 4 rfl;have b5:=BR.at_ 5 rfl;have b6:=BR.at_ 6 rfl;have b7:=BR.at_ 7 rfl
   go_upto_region 5 with fail
   clear b0 b1 b2 b3 b4 b5 b6 b7
   have BR':=BR.put1 (j:=2) (by simp) (.int .i64 n)
   simp only [List.set_cons_zero,List.set_cons_succ] at BR'
   replace BZ:=BZ.off1 (p:=⟨zr,2,none⟩) hzz (.int .i64 n)
   replace on:=on.put (p:=⟨zr,2,none⟩) hzr (.int .i64 n)
   clear BR fz
   have BR:=BR'
   clear BR'
   try change Code.wp _ _ _ _ (v2.setCell ⟨zr,2,none⟩ (.int .i64 n))
   generalize (v2.setCell ⟨zr,2,none⟩ (.int .i64 n))=v3 at *
   cases ok with
   | false =>
     have hnt:num t=none:=by
      have:=HOK.out
      cases hx:num t with
      | none=>rfl
      | some u=>rw [hx] at this;cases this
     have hr:r=(zeroR,1):=by rw [HR.out];unfold readR;rw [if_pos HP.out,show s.drop 5=t from HT.out.symm,hnt]
     subst hr
     clear hnt HR HN0 HOK BR
     go_wp2_with (refine wpList_put BZ [.int .i64 0,.int .i64 0,.int .i64 0,.int .i64 0,.int .i64 0,.int .i64 0,.int .i64 0,.int .i64 0] 96 _ _ (by rfl) (by rfl) (by rfl) (by rfl) (by rfl) sizeR (by rfl) ?_)
     have hF:=BZ.put (us:=[.int .i64 0,.int .i64 0,.int .i64 0,.int .i64 0,.int .i64 0,.int .i64 0,.int .i64 0,.int .i64 0]) rfl
     have oF:=Onto.puts (b:=z) (o:=0) (us:=[.int .i64 0,.int .i64 0,.int .i64 0,.int .i64 0,.int .i64 0,.int .i64 0,.int .i64 0,.int .i64 0]) hz' on
     generalize World.setCells _ z 0 [.int .i64 0,.int .i64 0,.int .i64 0,.int .i64 0,.int .i64 0,.int .i64 0,.int .i64 0,.int .i64 0]=wF at hF oF ⊢
     go_wp2_with fail
     have p0:=hF.at_ 0 rfl;have p1:=hF.at_ 1 rfl;have p2:=hF.at_ 2 rfl;have p3:=hF.at_ 3 rfl;have p4:=hF.at_ 4 rfl;have p5:=hF.at_ 5 rfl;have p6:=hF.at_ 6 rfl;have p7:=hF.at_ 7 rfl
     refine bodyPost_ret (v:=.tuple #[.agg #[.int .i64 0,.int .i64 0,.int .i64 0,.int .i64 0,.int .i64 0,.int .i64 0,.int .i64 0,.int .i64 0],.int .i64 1]) (by simp [results,Tryz.results66,go_sem,p0,p1,p2,p3,p4,p5,p6,p7]) rfl ⟨rfl,oF⟩
   | true =>
     have hnt:num t=some n:=HN0.out rfl
     have hr:r=finR ⟨2,0,n,⟨0,0,0,0,0⟩⟩:=by rw [HR.out];unfold readR;rw [if_pos HP.out,show s.drop 5=t from HT.out.symm,hnt];rfl
     clear hnt HR HN0 HOK
     go_upto_region 18 with fail
     obtain ⟨q,hqq⟩:∃ q,q=checkR ⟨2,0,n,⟨0,0,0,0,0⟩⟩:=⟨_,rfl⟩
     unfold finR at hr
     rw [← hqq] at hr
     have HQ:=Lib.hid hqq;have HRQ:=Lib.hid hr
     clear hqq hr
     have b0:=BR.at_ 0 rfl;have b1:=BR.at_ 1 rfl;have b2:=BR.at_ 2 rfl;have b3:=BR.at_ 3 rfl;have b4:=BR.at_ 4 rfl;have b5:=BR.at_ 5 rfl;have b6:=BR.at_ 6 rfl;have b7:=BR.at_ 7 rfl
     go_wp2_with fail
     refine Calls.mono (RCR_calls 2 0 n ⟨0,0,0,0,0⟩ _) ?_
     rw [show checkR ⟨2,0,n,⟨0,0,0,0,0⟩⟩=q from HQ.out.symm]
     rintro e v4 ⟨rfl,b⟩
     replace on:=on.to b
     replace BZ:=BZ.onto b
     replace BR:=BR.onto b
     clear b
     clear b0 b1 b2 b3 b4 b5 b6 b7
     by_cases hq0:q=0
     · have hr:=HRQ.out
       rw [if_neg (by simp [hq0])] at hr
       subst hr
       have hq1:(q ==0)=true:=by simp [hq0]
       have hq2:(q !=0)=false:=by simp [hq0]
       have b0:=BR.at_ 0 rfl;have b1:=BR.at_ 1 rfl;have b2:=BR.at_ 2 rfl;have b3:=BR.at_ 3 rfl;have b4:=BR.at_ 4 rfl;have b5:=BR.at_ 5 rfl;have b6:=BR.at_ 6 rfl;have b7:=BR.at_ 7 rfl
       clear hq0 HRQ
       go_wp2_with (refine wpList_put BZ [.int .i64 2,.int .i64 0,.int .i64 n,.int .i64 0,.int .i64 0,.int .i64 0,.int .i64 0,.int .i64 0] 96 _ _ (by rfl) (by rfl) (by rfl) (by rfl) (by rfl) sizeR (by rfl) ?_)
       have hF:=BZ.put (us:=[.int .i64 2,.int .i64 0,.int .i64 n,.int .i64 0,.int .i64 0,.int .i64 0,.int .i64 0,.int .i64 0]) rfl
       have oF:=Onto.puts (b:=z) (o:=0) (us:=[.int .i64 2,.int .i64 0,.int .i64 n,.int .i64 0,.int .i64 0,.int .i64 0,.int .i64 0,.int .i64 0]) hz' on
       generalize World.setCells _ z 0 [.int .i64 2,.int .i64 0,.int .i64 n,.int .i64 0,.int .i64 0,.int .i64 0,.int .i64 0,.int .i64 0]=wF at hF oF ⊢
       go_wp2_with fail
       have p0:=hF.at_ 0 rfl;have p1:=hF.at_ 1 rfl;have p2:=hF.at_ 2 rfl;have p3:=hF.at_ 3 rfl;have p4:=hF.at_ 4 rfl;have p5:=hF.at_ 5 rfl;have p6:=hF.at_ 6 rfl;have p7:=hF.at_ 7 rfl
       refine bodyPost_ret (v:=.tuple #[.agg #[.int .i64 2,.int .i64 0,.int .i64 n,.int .i64 0,.int .i64 0,.int .i64 0,.int .i64 0,.int .i64 0],.int .i64 0]) (by simp [results,Tryz.results66,go_sem,p0,p1,p2,p3,p4,p5,p6,p7]) rfl ⟨rfl,oF⟩
     · have hr:=HRQ.out
       rw [if_pos hq0] at hr
       subst hr
       have hq1:(q ==0)=false:=by simp [hq0]
       have hq2:(q !=0)=true:=by simp [hq0]
       clear hq0 BR HRQ
       go_wp2_with (refine wpList_put BZ [.int .i64 0,.int .i64 0,.int .i64 0,.int .i64 0,.int .i64 0,.int .i64 0,.int .i64 0,.int .i64 0] 96 _ _ (by rfl) (by rfl) (by rfl) (by rfl) (by rfl) sizeR (by rfl) ?_)
       have hF:=BZ.put (us:=[.int .i64 0,.int .i64 0,.int .i64 0,.int .i64 0,.int .i64 0,.int .i64 0,.int .i64 0,.int .i64 0]) rfl
       have oF:=Onto.puts (b:=z) (o:=0) (us:=[.int .i64 0,.int .i64 0,.int .i64 0,.int .i64 0,.int .i64 0,.int .i64 0,.int .i64 0,.int .i64 0]) hz' on
       generalize World.setCells _ z 0 [.int .i64 0,.int .i64 0,.int .i64 0,.int .i64 0,.int .i64 0,.int .i64 0,.int .i64 0,.int .i64 0]=wF at hF oF ⊢
       go_wp2_with fail
       have p0:=hF.at_ 0 rfl;have p1:=hF.at_ 1 rfl;have p2:=hF.at_ 2 rfl;have p3:=hF.at_ 3 rfl;have p4:=hF.at_ 4 rfl;have p5:=hF.at_ 5 rfl;have p6:=hF.at_ 6 rfl;have p7:=hF.at_ 7 rfl
       refine bodyPost_ret (v:=.tuple #[.agg #[.int .i64 0,.int .i64 0,.int .i64 0,.int .i64 0,.int .i64 0,.int .i64 0,.int .i64 0,.int .i64 0],.int .i64 q]) (by simp [results,Tryz.results66,go_sem,p0,p1,p2,p3,p4,p5,p6,p7]) rfl ⟨rfl,oF⟩
 | false =>
   have hp:¬ sealW.isPrefixOf s=true:=by rw [← hpf];simp
   have HP:=Lib.hid hp
   clear hp hpf
   have fz:=fun o=>BR.froz o
   have b0:=BR.at_ 0 rfl;have b1:=BR.at_ 1 rfl;have b2:=BR.at_ 2 rfl;have b3:=BR.at_ 3 rfl;have b4:=BR.at_ 4 rfl;have b5:=BR.at_ 5 rfl;have b6:=BR.at_ 6 rfl;have b7:=BR.at_ 7 rfl
   go_upto_region 8 with fail
   clear b0 b1 b2 b3 b4 b5 b6 b7
   have BR':=BR.put1 (j:=0) (by simp) (.int .i64 1)
   simp only [List.set_cons_zero,List.set_cons_succ] at BR'
   replace BZ:=BZ.off1 (p:=⟨zr,0,none⟩) hzz (.int .i64 1)
   replace on:=on.put (p:=⟨zr,0,none⟩) hzr (.int .i64 1)
   clear BR fz
   have BR:=BR'
   clear BR'
   try change Code.wp _ _ _ _ (v1.setCell ⟨zr,0,none⟩ (.int .i64 1))
   generalize (v1.setCell ⟨zr,0,none⟩ (.int .i64 1))=v2 at *
   obtain ⟨ix,hix⟩:∃ ix,ix=Lib.index s colonW:=⟨_,rfl⟩
   go_wp2_with fail
   refine Calls.mono (Index_on s [58,32] (by have:=HS.out;omega) _ (E.onto on)) ?_
   rw [show Lib.index s [58,32]=ix from hix.symm]
   rintro e v3 ⟨rfl,b⟩
   replace on:=on.to b
   replace BZ:=BZ.onto b
   replace BR:=BR.onto b
   clear b
   by_cases hneg:ix<0
   · have hr:r=(zeroR,1):=by rw [HR.out];unfold readR;rw [if_neg HP.out,if_pos ((cut_index s colonW).1 (by omega))]
     subst hr
     clear HR BR hix
     go_wp2_with (refine wpList_put BZ [.int .i64 0,.int .i64 0,.int .i64 0,.int .i64 0,.int .i64 0,.int .i64 0,.int .i64 0,.int .i64 0] 96 _ _ (by rfl) (by rfl) (by rfl) (by rfl) (by rfl) sizeR (by rfl) ?_)
     have hF:=BZ.put (us:=[.int .i64 0,.int .i64 0,.int .i64 0,.int .i64 0,.int .i64 0,.int .i64 0,.int .i64 0,.int .i64 0]) rfl
     have oF:=Onto.puts (b:=z) (o:=0) (us:=[.int .i64 0,.int .i64 0,.int .i64 0,.int .i64 0,.int .i64 0,.int .i64 0,.int .i64 0,.int .i64 0]) hz' on
     generalize World.setCells _ z 0 [.int .i64 0,.int .i64 0,.int .i64 0,.int .i64 0,.int .i64 0,.int .i64 0,.int .i64 0,.int .i64 0]=wF at hF oF ⊢
     go_wp2_with fail
     have p0:=hF.at_ 0 rfl;have p1:=hF.at_ 1 rfl;have p2:=hF.at_ 2 rfl;have p3:=hF.at_ 3 rfl;have p4:=hF.at_ 4 rfl;have p5:=hF.at_ 5 rfl;have p6:=hF.at_ 6 rfl;have p7:=hF.at_ 7 rfl
     refine bodyPost_ret (v:=.tuple #[.agg #[.int .i64 0,.int .i64 0,.int .i64 0,.int .i64 0,.int .i64 0,.int .i64 0,.int .i64 0,.int .i64 0],.int .i64 1]) (by simp [results,Tryz.results66,go_sem,p0,p1,p2,p3,p4,p5,p6,p7]) rfl ⟨rfl,oF⟩
   · obtain ⟨k,hk⟩:∃ k:Nat,ix=k:=⟨ix.toNat,by omega⟩
     subst hk
     obtain ⟨hkl,hcut⟩:=(cut_index s colonW).2 k hix.symm
     rw [show colonW.length=2 from rfl] at hkl hcut
     obtain ⟨a,ha⟩:∃ a,a=s.take k:=⟨_,rfl⟩
     obtain ⟨c,hc⟩:∃ c,c=s.drop (k+2):=⟨_,rfl⟩
     have hsl:=HS.out
     have hal:a.length≤30000:=by rw [ha,List.length_take];omega
     have hcl:c.length≤30000:=by rw [hc,List.length_drop];omega
     have sa:∀ w,(Instr.slice 9 (str s) none (some (.int .i64 (k:Int))) none).run Tryz.prog w=.ok (str a) w:=fun w=>by rw [ha];exact cutTo s k (by omega) w
     have sc:∀ w,(Instr.slice 9 (str s) (some (.int .i64 ((k:Int)+2))) none none).run Tryz.prog w=.ok (str c) w:=fun w=>by rw [hc,show ((k:Int)+2)=((k+2:Nat):Int) by omega];exact cutFrom s (k+2) (by omega) w
     have hr0:r=(match num a with | none=>(zeroR,1) | some n=>if (readWs (cutc 32 c)).2≠0 then (zeroR,(readWs (cutc 32 c)).2) else finR ⟨1,n,0,(readWs (cutc 32 c)).1⟩):=by
      rw [HR.out];unfold readR
      rw [if_neg HP.out,hcut,ha,hc]
      rfl
     have HR0:=Lib.hid hr0
     have hk3:k≤30000:=by omega
     clear hr0 ha hc hcut hix HR hsl hkl
     obtain ⟨ok,hok⟩:∃ ok,ok=(num a).isSome:=⟨_,rfl⟩
     go_wp2_with fail
     refine Calls.mono (Whole_calls a (by omega) _ (E.onto on)) ?_
     rw [← hok]
     rintro e v4 ⟨n,rfl,b,hn⟩
     replace on:=on.to b
     replace BZ:=BZ.onto b
     replace BR:=BR.onto b
     clear b
     clear sa
     have fz:=fun o=>BR.froz o
     have HN0:=Lib.hid hn;have HOK:=Lib.hid hok
     clear hn hok
     have b0:=BR.at_ 0 rfl;have b1:=BR.at_ 1 rfl;have b2:=BR.at_ 2 rfl;have b3:=BR.at_ 3 rfl;have b4:=BR.at_ 4 rfl;have b5:=BR.at_ 5 rfl;have b6:=BR.at_ 6 rfl;have b7:=BR.at_ 7 rfl
     go_upto_region 12 with fail
     clear b0 b1 b2 b3 b4 b5 b6 b7
     have BR':=BR.put1 (j:=1) (by simp) (.int .i64 n)
     simp only [List.set_cons_zero,List.set_cons_succ] at BR'
     replace BZ:=BZ.off1 (p:=⟨zr,1,none⟩) hzz (.int .i64 n)
     replace on:=on.put (p:=⟨zr,1,none⟩) hzr (.int .i64 n)
     clear BR fz
     have BR:=BR'
     clear BR'
     try change Code.wp _ _ _ _ (v4.setCell ⟨zr,1,none⟩ (.int .i64 n))
     generalize (v4.setCell ⟨zr,1,none⟩ (.int .i64 n))=v5 at *
     cases ok with
     | false =>
       have hnt:num a=none:=by
        have:=HOK.out
        cases hx:num a with
        | none=>rfl
        | some u=>rw [hx] at this;cases this
       have hr:r=(zeroR,1):=by rw [HR0.out,hnt]
       subst hr
       clear hnt HR0 HN0 HOK BR
       go_wp2_with (refine wpList_put BZ [.int .i64 0,.int .i64 0,.int .i64 0,.int .i64 0,.int .i64 0,.int .i64 0,.int .i64 0,.int .i64 0] 96 _ _ (by rfl) (by rfl) (by rfl) (by rfl) (by rfl) sizeR (by rfl) ?_)
       have hF:=BZ.put (us:=[.int .i64 0,.int .i64 0,.int .i64 0,.int .i64 0,.int .i64 0,.int .i64 0,.int .i64 0,.int .i64 0]) rfl
       have oF:=Onto.puts (b:=z) (o:=0) (us:=[.int .i64 0,.int .i64 0,.int .i64 0,.int .i64 0,.int .i64 0,.int .i64 0,.int .i64 0,.int .i64 0]) hz' on
       generalize World.setCells _ z 0 [.int .i64 0,.int .i64 0,.int .i64 0,.int .i64 0,.int .i64 0,.int .i64 0,.int .i64 0,.int .i64 0]=wF at hF oF ⊢
       go_wp2_with fail
       have p0:=hF.at_ 0 rfl;have p1:=hF.at_ 1 rfl;have p2:=hF.at_ 2 rfl;have p3:=hF.at_ 3 rfl;have p4:=hF.at_ 4 rfl;have p5:=hF.at_ 5 rfl;have p6:=hF.at_ 6 rfl;have p7:=hF.at_ 7 rfl
       refine bodyPost_ret (v:=.tuple #[.agg #[.int .i64 0,.int .i64 0,.int .i64 0,.int .i64 0,.int .i64 0,.int .i64 0,.int .i64 0,.int .i64 0],.int .i64 1]) (by simp [results,Tryz.results66,go_sem,p0,p1,p2,p3,p4,p5,p6,p7]) rfl ⟨rfl,oF⟩
     | true =>
       have hnt:num a=some n:=HN0.out rfl
       obtain ⟨x,hx⟩:∃ x,x=(readWs (cutc 32 c)).1:=⟨_,rfl⟩
       obtain ⟨g,hg⟩:∃ g,g=(readWs (cutc 32 c)).2:=⟨_,rfl⟩
       have hr1:r=if g≠0 then (zeroR,g) else finR ⟨1,n,0,x⟩:=by rw [HR0.out,hnt,hx,hg]
       have HR1:=Lib.hid hr1;have HX:=Lib.hid hx;have HG:=Lib.hid hg
       clear hnt HR0 HN0 HOK hx hg hr1
       go_wp2_with fail
       refine Calls.mono (ERead_calls c _ (E.onto on) hcl) ?_
       unfold EnPost
       rw [show (readWs (cutc 32 c)).1=x from HX.out.symm,show (readWs (cutc 32 c)).2=g from HG.out.symm]
       rintro e v6 ⟨rfl,b⟩
       replace on:=on.to b
       replace BZ:=BZ.onto b
       replace BR:=BR.onto b
       clear b
       clear sc
       go_upto_region 16 with (refine wpList_putM BR 3 [.int .i64 x.kind,.int .i64 x.job,.int .i64 x.every,.int .i64 x.time,.int .i64 x.client] 46 _ _ (by rfl) (by rfl) (by rfl) (by rfl) (by simp) sizeE (by rfl) ?_)
       have BR':=BR.putM (o:=3) (us:=[.int .i64 x.kind,.int .i64 x.job,.int .i64 x.every,.int .i64 x.time,.int .i64 x.client]) (by simp)
       simp only [setMany,List.set_cons_zero,List.set_cons_succ] at BR'
       replace BZ:=BZ.off (b:=zr) (o:=3) (us:=[.int .i64 x.kind,.int .i64 x.job,.int .i64 x.every,.int .i64 x.time,.int .i64 x.client]) hzz
       replace on:=Onto.puts (b:=zr) (o:=3) (us:=[.int .i64 x.kind,.int .i64 x.job,.int .i64 x.every,.int .i64 x.time,.int .i64 x.client]) hzr on
       clear BR
       have BR:=BR'
       clear BR'
       generalize World.setCells _ zr 3 [.int .i64 x.kind,.int .i64 x.job,.int .i64 x.every,.int .i64 x.time,.int .i64 x.client]=wy at BR BZ on ⊢
       by_cases hg0:g=0
       · have hr:=HR1.out
         rw [if_neg (by simp [hg0])] at hr
         subst hg0
         go_upto_region 18 with fail
         obtain ⟨q,hqq⟩:∃ q,q=checkR ⟨1,n,0,x⟩:=⟨_,rfl⟩
         unfold finR at hr
         rw [← hqq] at hr
         have HQ:=Lib.hid hqq;have HRQ:=Lib.hid hr
         clear hqq hr
         have b0:=BR.at_ 0 rfl;have b1:=BR.at_ 1 rfl;have b2:=BR.at_ 2 rfl;have b3:=BR.at_ 3 rfl;have b4:=BR.at_ 4 rfl;have b5:=BR.at_ 5 rfl;have b6:=BR.at_ 6 rfl;have b7:=BR.at_ 7 rfl
         go_wp2_with fail
         refine Calls.mono (RCR_calls 1 n 0 x _) ?_
         rw [show checkR ⟨1,n,0,x⟩=q from HQ.out.symm]
         rintro e v7 ⟨rfl,b⟩
         replace on:=on.to b
         replace BZ:=BZ.onto b
         replace BR:=BR.onto b
         clear b
         clear b0 b1 b2 b3 b4 b5 b6 b7
         by_cases hq0:q=0
         · have hr:=HRQ.out
           rw [if_neg (by simp [hq0])] at hr
           subst hr
           have hq1:(q ==0)=true:=by simp [hq0]
           have hq2:(q !=0)=false:=by simp [hq0]
           have b0:=BR.at_ 0 rfl;have b1:=BR.at_ 1 rfl;have b2:=BR.at_ 2 rfl;have b3:=BR.at_ 3 rfl;have b4:=BR.at_ 4 rfl;have b5:=BR.at_ 5 rfl;have b6:=BR.at_ 6 rfl;have b7:=BR.at_ 7 rfl
           clear hq0 HRQ
           go_wp2_with (refine wpList_put BZ [.int .i64 1,.int .i64 n,.int .i64 0,.int .i64 x.kind,.int .i64 x.job,.int .i64 x.every,.int .i64 x.time,.int .i64 x.client] 96 _ _ (by rfl) (by rfl) (by rfl) (by rfl) (by rfl) sizeR (by rfl) ?_)
           have hF:=BZ.put (us:=[.int .i64 1,.int .i64 n,.int .i64 0,.int .i64 x.kind,.int .i64 x.job,.int .i64 x.every,.int .i64 x.time,.int .i64 x.client]) rfl
           have oF:=Onto.puts (b:=z) (o:=0) (us:=[.int .i64 1,.int .i64 n,.int .i64 0,.int .i64 x.kind,.int .i64 x.job,.int .i64 x.every,.int .i64 x.time,.int .i64 x.client]) hz' on
           generalize World.setCells _ z 0 [.int .i64 1,.int .i64 n,.int .i64 0,.int .i64 x.kind,.int .i64 x.job,.int .i64 x.every,.int .i64 x.time,.int .i64 x.client]=wF at hF oF ⊢
           go_wp2_with fail
           have p0:=hF.at_ 0 rfl;have p1:=hF.at_ 1 rfl;have p2:=hF.at_ 2 rfl;have p3:=hF.at_ 3 rfl;have p4:=hF.at_ 4 rfl;have p5:=hF.at_ 5 rfl;have p6:=hF.at_ 6 rfl;have p7:=hF.at_ 7 rfl
           refine bodyPost_ret (v:=.tuple #[.agg #[.int .i64 1,.int .i64 n,.int .i64 0,.int .i64 x.kind,.int .i64 x.job,.int .i64 x.every,.int .i64 x.time,.int .i64 x.client],.int .i64 0]) (by simp [results,Tryz.results66,go_sem,p0,p1,p2,p3,p4,p5,p6,p7]) rfl ⟨rfl,oF⟩
         · have hr:=HRQ.out
           rw [if_pos hq0] at hr
           subst hr
           have hq1:(q ==0)=false:=by simp [hq0]
           have hq2:(q !=0)=true:=by simp [hq0]
           clear hq0 BR HRQ
           go_wp2_with (refine wpList_put BZ [.int .i64 0,.int .i64 0,.int .i64 0,.int .i64 0,.int .i64 0,.int .i64 0,.int .i64 0,.int .i64 0] 96 _ _ (by rfl) (by rfl) (by rfl) (by rfl) (by rfl) sizeR (by rfl) ?_)
           have hF:=BZ.put (us:=[.int .i64 0,.int .i64 0,.int .i64 0,.int .i64 0,.int .i64 0,.int .i64 0,.int .i64 0,.int .i64 0]) rfl
           have oF:=Onto.puts (b:=z) (o:=0) (us:=[.int .i64 0,.int .i64 0,.int .i64 0,.int .i64 0,.int .i64 0,.int .i64 0,.int .i64 0,.int .i64 0]) hz' on
           generalize World.setCells _ z 0 [.int .i64 0,.int .i64 0,.int .i64 0,.int .i64 0,.int .i64 0,.int .i64 0,.int .i64 0,.int .i64 0]=wF at hF oF ⊢
           go_wp2_with fail
           have p0:=hF.at_ 0 rfl;have p1:=hF.at_ 1 rfl;have p2:=hF.at_ 2 rfl;have p3:=hF.at_ 3 rfl;have p4:=hF.at_ 4 rfl;have p5:=hF.at_ 5 rfl;have p6:=hF.at_ 6 rfl;have p7:=hF.at_ 7 rfl
           refine bodyPost_ret (v:=.tuple #[.agg #[.int .i64 0,.int .i64 0,.int .i64 0,.int .i64 0,.int .i64 0,.int .i64 0,.int .i64 0,.int .i64 0],.int .i64 q]) (by simp [results,Tryz.results66,go_sem,p0,p1,p2,p3,p4,p5,p6,p7]) rfl ⟨rfl,oF⟩
       · have hr:=HR1.out
         rw [if_pos hg0] at hr
         subst hr
         have hg1:(g ==0)=false:=by simp [hg0]
         have hg2:(g !=0)=true:=by simp [hg0]
         clear hg0 HR1 BR
         go_wp2_with (refine wpList_put BZ [.int .i64 0,.int .i64 0,.int .i64 0,.int .i64 0,.int .i64 0,.int .i64 0,.int .i64 0,.int .i64 0] 96 _ _ (by rfl) (by rfl) (by rfl) (by rfl) (by rfl) sizeR (by rfl) ?_)
         have hF:=BZ.put (us:=[.int .i64 0,.int .i64 0,.int .i64 0,.int .i64 0,.int .i64 0,.int .i64 0,.int .i64 0,.int .i64 0]) rfl
         have oF:=Onto.puts (b:=z) (o:=0) (us:=[.int .i64 0,.int .i64 0,.int .i64 0,.int .i64 0,.int .i64 0,.int .i64 0,.int .i64 0,.int .i64 0]) hz' on
         generalize World.setCells _ z 0 [.int .i64 0,.int .i64 0,.int .i64 0,.int .i64 0,.int .i64 0,.int .i64 0,.int .i64 0,.int .i64 0]=wF at hF oF ⊢
         go_wp2_with fail
         have p0:=hF.at_ 0 rfl;have p1:=hF.at_ 1 rfl;have p2:=hF.at_ 2 rfl;have p3:=hF.at_ 3 rfl;have p4:=hF.at_ 4 rfl;have p5:=hF.at_ 5 rfl;have p6:=hF.at_ 6 rfl;have p7:=hF.at_ 7 rfl
         refine bodyPost_ret (v:=.tuple #[.agg #[.int .i64 0,.int .i64 0,.int .i64 0,.int .i64 0,.int .i64 0,.int .i64 0,.int .i64 0,.int .i64 0],.int .i64 g]) (by simp [results,Tryz.results66,go_sem,p0,p1,p2,p3,p4,p5,p6,p7]) rfl ⟨rfl,oF⟩
end
section
open Go.RowKit
theorem withc_at {c:UInt8}:∀ {l:List (List UInt8)} {k:Nat} {p:List UInt8},l[k]?=some p→(withc c l)[k]?=some (if k+1=l.length then p else p ++[c])
 | [],k,p,h=>by simp at h
 | [t],0,p,h=>by simp at h;subst h;simp [withc]
 | [t],k+1,p,h=>by simp at h
 | t ::u ::r,0,p,h=>by simp at h;subst h;simp [withc]
 | t ::u ::r,k+1,p,h=>by
   have h':(u ::r)[k]?=some p:=by simpa using h
   have:=withc_at (c:=c) h'
   rw [withc,List.getElem?_cons_succ,this]
   simp only [List.length_cons,Nat.add_right_cancel_iff]
theorem S.atP {w:World} {A:Option Addr} {n:Nat} {l:List (List UInt8)} (h:S w 1 A n ((withc 10 l).map encS)) {i:Nat} (hi:i<l.length) (hn:n=l.length):∃ b off p,A=some ⟨b,off,none⟩∧b<w.heap.size∧l[i]?=some p∧w.cell? ⟨b,off+i,none⟩=some (str (if i+1=l.length then p else p ++[10])):=by
 obtain ⟨b,off,x,e,hb,hx,hc⟩:=S.atS h (i:=i) (by omega)
 have hp:l[i]?=some l[i]:=List.getElem?_eq_getElem hi
 rw [withc_at hp] at hx
 injection hx with hx
 exact ⟨b,off,l[i],e,hb,hp,hx ▸ hc⟩
theorem suffix_yes (p:List UInt8):Lib.hasSuffix (p ++[10]) [10]=true:=by
 unfold Lib.hasSuffix
 rw [List.isSuffixOf_iff_suffix]
 exact ⟨p,rfl⟩
theorem suffix_no {p:List UInt8} (h:(10:UInt8)∉p):Lib.hasSuffix p [10]=false:=by
 cases hs:Lib.hasSuffix p [10] with
 | false=>rfl
 | true =>
   unfold Lib.hasSuffix at hs
   rw [List.isSuffixOf_iff_suffix] at hs
   obtain ⟨t,ht⟩:=hs
   exact absurd (by rw [← ht];simp) h
theorem HasSuffix_on (s p:List UInt8) (hs:s.length≤9223372036854775807) (w:World):Calls Tryz.prog 65 #[str s,str p] w fun e w'=>e=.returned (.bool (Lib.hasSuffix s p))∧Onto w w' :=
 (HasSuffix_calls s p hs w).mono fun e w' ⟨he,hw⟩=>⟨he,hw ▸ Onto.rfl' w⟩
set_option maxHeartbeats 8000000 in
set_option maxRecDepth 100000 in
theorem RLines_calls (s : List UInt8) (most : Nat) (hs : s.length ≤ 30000) (hm : most ≤ 200) (w : World) (E : Env w) :
    Calls Tryz.prog 41 #[str s,.int .i64 most] w fun e w'=>∃ A n c,e=.returned (.tuple #[.slice A n c,.int .i64 (linesK s most).2.1,.int .i64 (linesK s most).2.2])∧Own w' w.heap.size 96 8 (.slice A n c) n ((linesK s most).1.map encQ)∧Onto w w':=by
 obtain ⟨L,hL⟩:∃ L,L=linesK s most:=⟨_,rfl⟩
 rw [← hL]
 have hL0:L=linesP parseR most [] 0 (cutc 10 s):=hL
 have HL0:=Lib.hid hL0
 clear hL hL0
 have hne:=cutc_ne 10 s
 have hmem:∀ p∈cutc 10 s,(10:UInt8)∉p∧p.length≤30000:=fun p hp=>⟨cutc_mem hp,Nat.le_trans (cutc_le hp) hs⟩
 have hN:(cutc 10 s).length≤30001:=by rw [cutc_len];have:=List.count_le_length (a:=(10:UInt8)) (l:=s);omega
 have hN0:0<(cutc 10 s).length:=List.length_pos_iff.2 hne
 obtain ⟨ts,hts⟩:∃ ts,ts=cutc 10 s:=⟨_,rfl⟩
 go_enter Tryz.func41,Tryz.ntmps41
 go_wp2_with fail
 refine Calls.mono (SplitAfter_calls 10 s (by omega) _ E) ?_
 rw [← hts] at HL0 hmem hN hN0 ⊢
 rintro e w1 ⟨T,rfl,sT,on⟩
 have HMEM:=Lib.hid hmem
 have E1:=E.onto on
 have HSZ:=Lib.hid on.size
 have HS:=Lib.hid hs
 clear hmem hne hts hs
 generalize hNN:ts.length=N at *
 have hT:∀ {wr:World},Onto w1 wr→S wr 1 T N ((withc 10 ts).map encS):=fun b=>sT.onto b
 go_wp2_with fail
 go_loopg [7,8,16] N (fun g sl s8 si wr=>∃ (kk:Nat) (acc:List Rec) (k c:Nat) (A:Option Addr),kk<N∧N - kk≤g∧si=.int .i64 kk∧sl=.slice A acc.length c∧s8=.int .i64 (k:Int)∧k≤30001*(kk+1)∧acc.length≤most∧acc.length≤c∧Hid (L=linesP parseR most acc k (ts.drop kk))∧Hid (Own wr w1.heap.size 96 8 (.slice A acc.length c) acc.length (acc.map encQ))∧Onto w1 wr)
 case atStart=>exact ⟨0,[],0,0,none,hN0,by omega,rfl,rfl,rfl,by omega,by simp,by simp,by rw [List.drop_zero];exact HL0,Own.nil _ _ _ _,Onto.rfl' _⟩
 case round =>
  obtain ⟨kk,acc,k,c,A,hkk,hg,rfl,rfl,rfl,hk3,ham,hac,HL,HO,on1⟩:=hrel
  obtain ⟨bb,off,p,rfl,hb,hp,e0⟩:=S.atP (hT on1) (i:=kk) (by omega) hNN.symm
  have hdr:ts.drop kk=p ::ts.drop (kk+1):=by
   obtain ⟨h2,rfl⟩:=List.getElem?_eq_some_iff.1 hp
   exact List.drop_eq_getElem_cons h2
  obtain ⟨hno,hpl⟩:=HMEM.out p (List.mem_of_getElem? hp)
  have hl:=HL.out
  rw [hdr] at hl
  rw [hNN] at e0
  by_cases hlast:kk+1=N
  · rw [if_pos hlast] at e0
    have hnil:ts.drop (kk+1)=[]:=List.drop_eq_nil_of_le (by omega)
    rw [hnil,linesP_one] at hl
    have hon:=Lib.hid (on.to on1)
    clear hp hdr hnil hT HL HMEM
    by_cases hp0:p=[]
    · rw [if_pos hp0] at hl
      subst hp0
      have HF:=Lib.hid hl
      clear hl hno hpl
      go_wp2_with fail
      refine bodyPost_ret (v:=.tuple #[.slice A acc.length c,.int .i64 (k:Int),.int .i64 0]) (by simp [results,Tryz.results41,go_sem]) rfl ⟨A,acc.length,c,by rw [HF.out],by rw [HF.out];exact HO.out.lower HSZ.out,hon.out⟩
    · rw [if_neg hp0] at hl
      have hq1:(p ==[])=false:=by simp [hp0]
      have HF:=Lib.hid hl
      have hpos:1≤p.length:=by
       have:p.length≠0:=fun h=>hp0 (List.eq_nil_of_length_eq_zero h)
       omega
      have hsf:=suffix_no hno
      clear hl hno hp0
      go_wp2_with fail
      refine Calls.mono (HasSuffix_on p [10] (by omega) _) ?_
      rw [hsf]
      rintro e w2 ⟨rfl,b⟩
      have hon2:=Lib.hid (hon.out.to b)
      have HO2:=Lib.hid (HO.out.below b)
      clear b e0 hsf
      go_wp2_with fail
      refine bodyPost_ret (v:=.tuple #[.slice A acc.length c,.int .i64 (k:Int),.int .i64 9]) (by simp [results,Tryz.results41,go_sem]) rfl ⟨A,acc.length,c,by rw [HF.out],by rw [HF.out];exact HO2.out.lower HSZ.out,hon2.out⟩
  · rw [if_neg hlast] at e0
    have hrest:ts.drop (kk+1)≠[]:=fun h=>by have:=congrArg List.length h;rw [List.length_drop] at this;simp at this;omega
    rw [linesP_cons hrest] at hl
    have hpar:parseR p=readR p:=by unfold parseR;rw [if_neg (by omega)]
    obtain ⟨x,hx⟩:∃ x,x=(parseR p).1:=⟨_,rfl⟩
    obtain ⟨g2,hg2⟩:∃ g,g=(parseR p).2:=⟨_,rfl⟩
    rw [← hx,← hg2] at hl
    obtain ⟨t,ht⟩:∃ t,t=p ++[10]:=⟨_,rfl⟩
    rw [← ht] at e0
    have htl:t.length=p.length+1:=by rw [ht];simp
    have hq1:(t ==[])=false:=by rw [beq_eq_false_iff_ne];intro h;rw [h] at htl;simp at htl
    have sl:∀ w,(Instr.slice 9 (str t) none (some (.int .i64 ((t.length:Int) - 1))) none).run Tryz.prog w=.ok (str p) w:=fun w=>by
     rw [show ((t.length:Int) - 1)=((p.length:Nat):Int) by omega]
     have:=cutTo t p.length (by omega) w
     rw [this,ht,List.take_left]
    have ht1:(1:Int)≤(t.length:Int):=by omega
    have ht2:t.length≤30001:=by omega
    have HX:=Lib.hid hx;have HG:=Lib.hid hg2;have HPAR:=Lib.hid hpar;have HLL:=Lib.hid hl;have HT:=Lib.hid ht
    have HTL:=Lib.hid htl
    clear hx hg2 hpar hl ht hp hdr hrest HL hno htl
    have hsf:Lib.hasSuffix t [10]=true:=by rw [HT.out];exact suffix_yes p
    go_wp2_with fail
    refine Calls.mono (HasSuffix_on t [10] (by omega) _) ?_
    rw [hsf]
    rintro e w2 ⟨rfl,b⟩
    replace on1:=on1.to b
    have HO2:=Lib.hid (HO.out.below b)
    clear b e0 hsf
    go_wp2_with fail
    refine Calls.mono (RRRead_calls p _ (E1.onto on1) hpl) ?_
    rw [show readR p=parseR p from HPAR.out.symm]
    unfold RnPost
    rw [show (parseR p).1=x from HX.out.symm,show (parseR p).2=g2 from HG.out.symm]
    rintro e w3 ⟨rfl,b⟩
    replace on1:=on1.to b
    have HO3:=Lib.hid (HO2.out.below b)
    clear b sl HO2 
    go_upto_region 10 with fail
    have ob:=(Onto.rfl' w3).new (Obj.cells #[.int .i64 x.kind,.int .i64 x.at_,.int .i64 x.epoch,.int .i64 x.e.kind,.int .i64 x.e.job,.int .i64 x.e.every,.int .i64 x.e.time,.int .i64 x.e.client] 96)
    have BE:Bx (w3.alloc (Obj.cells #[.int .i64 x.kind,.int .i64 x.at_,.int .i64 x.epoch,.int .i64 x.e.kind,.int .i64 x.e.job,.int .i64 x.e.every,.int .i64 x.e.time,.int .i64 x.e.client] 96)) w3.heap.size [.int .i64 x.kind,.int .i64 x.at_,.int .i64 x.epoch,.int .i64 x.e.kind,.int .i64 x.e.job,.int .i64 x.e.every,.int .i64 x.e.time,.int .i64 x.e.client]:=Bx.made _ _ _
    replace on1:=on1.to ob
    have HO4:=Lib.hid (HO3.out.below ob)
    clear HO3 ob
    try change Code.wp _ _ _ _ (w3.alloc (Obj.cells #[.int .i64 x.kind,.int .i64 x.at_,.int .i64 x.epoch,.int .i64 x.e.kind,.int .i64 x.e.job,.int .i64 x.e.every,.int .i64 x.e.time,.int .i64 x.e.client] 96))
    generalize (w3.alloc (Obj.cells #[.int .i64 x.kind,.int .i64 x.at_,.int .i64 x.epoch,.int .i64 x.e.kind,.int .i64 x.e.job,.int .i64 x.e.every,.int .i64 x.e.time,.int .i64 x.e.client] 96))=w4 at *
    generalize w3.heap.size=z3 at *
    have x0:=BE.at_ 0 rfl;have x1:=BE.at_ 1 rfl;have x2:=BE.at_ 2 rfl;have x3:=BE.at_ 3 rfl;have x4:=BE.at_ 4 rfl;have x5:=BE.at_ 5 rfl;have x6:=BE.at_ 6 rfl;have x7:=BE.at_ 7 rfl
    by_cases hg0:g2=0
    · by_cases hmn:most≤acc.length
      · have hmm:(most:Int)≤(acc.length:Int):=by omega
        have hl:L=(acc,k,2):=by rw [HLL.out,if_neg (by simp [hg0]),if_pos hmn]
        have HF:=Lib.hid hl
        have hon:=Lib.hid (on.to on1)
        subst hg0
        clear hl HLL on1
        go_wp2_with fail
        refine bodyPost_ret (v:=.tuple #[.slice A acc.length c,.int .i64 (k:Int),.int .i64 2]) (by simp [results,Tryz.results41,go_sem]) rfl ⟨A,acc.length,c,by rw [HF.out],by rw [HF.out];exact HO4.out.lower HSZ.out,hon.out⟩
      · have hmm:¬ (most:Int)≤(acc.length:Int):=by omega
        have hl:L=linesP parseR most (acc ++[x]) (k+p.length+1) (ts.drop (kk+1)):=by rw [HLL.out,if_neg (by simp [hg0]),if_neg hmn]
        have HF:=Lib.hid hl
        clear hl HLL
        subst hg0
        obtain ⟨i0,hi0,hzz0,hzz1,hzz2⟩:=info_parts infoQ
        have HI0:=Lib.hid hi0;have HZ0:=Lib.hid hzz0;have HZ1:=Lib.hid hzz1;have HZ2:=Lib.hid hzz2
        clear hi0 hzz0 hzz1 hzz2
        have HNEW:=Lib.hid (Sl.oneQ (w:=w4) (t:=96) x)
        have HAL:=Lib.hid ((Onto.rfl' w4).new (Obj.cells #[.int .i64 x.kind,.int .i64 x.at_,.int .i64 x.epoch,.int .i64 x.e.kind,.int .i64 x.e.job,.int .i64 x.e.every,.int .i64 x.e.time,.int .i64 x.e.client] 96))
        have ON:=Lib.hid on1
        have hs4:w1.heap.size≤w4.heap.size:=on1.size
        clear on1
        go_wp2_with (at_builtin;refine wpList_append_sl _ rfl (.tmp 49) (.tmp 51) 59 rfl w1.heap.size 96 i0 _ 8 64 Tryz.underlying59 HI0.out HZ0.out HZ1.out HZ2.out rfl (by decide) (.slice A acc.length c) acc.length (acc.map encQ) rfl (HO4.out.below HAL.out) (w4.heap.size+1) (some ⟨w4.heap.size,0,none⟩) 1 1 [encQ x] rfl HNEW.out (by simp [encQ,Value.oneCell']) (by unfold maxLen;omega) (by omega) (by simp;omega) ?_)
        intro v8 w8 own8 grow8 hv8
        obtain ⟨A8,c8,rfl,hc8,_⟩:=own8.slice
        have hB8:Onto w1 w8:=below_grown (ON.out.to HAL.out) (ON.out.to HAL.out).size grow8 (fun g hg=>by have:=(HO4.out.1.lt g hg).1;omega)
        have HO8:=Lib.hid own8
        clear grow8 hv8 own8 HO4 HNEW HAL x0 x1 x2 x3 x4 x5 x6 x7
        go_wp2_with fail
        go_roundg (N - (kk+1))
        case measure=>omega
        case rel =>
         refine ⟨kk+1,acc ++[x],k+p.length+1,c8,A8,by omega,Nat.le_refl _,by go_num,by simp,by rw [HTL.out];go_num,by omega,by simp;omega,?_,HF,?_,hB8⟩
         · have:=HO8.out.le_cap;simp;omega
         · refine Lib.hid ?_
           rw [List.map_append,List.length_append]
           exact HO8.out
    · have hgb:(g2 ==0)=false:=by simp [hg0]
      have hgn:(g2 !=0)=true:=by simp [hg0]
      have hl:L=(acc,k,g2):=by rw [HLL.out,if_pos hg0]
      have HF:=Lib.hid hl
      have hon:=Lib.hid (on.to on1)
      clear hl HLL hg0 on1
      go_wp2_with fail
      refine bodyPost_ret (v:=.tuple #[.slice A acc.length c,.int .i64 (k:Int),.int .i64 g2]) (by simp [results,Tryz.results41,go_sem]) rfl ⟨A,acc.length,c,by rw [HF.out],by rw [HF.out];exact HO4.out.lower HSZ.out,hon.out⟩
end
end Go.Proofs.YtidlffepdcldkaaGreatDoor
