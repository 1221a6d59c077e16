/- Part 33 of the proof: RERead, RCheckR. -/
import Derived.Test.YtidlffepdcldkaaGreatDoorBa32
import Derived.Test.YtidlffepdcldkaaGreatDoorBa31
import Derived.Deep.CutBlock
import Derived.Test.YtidlffepdcldkaaGreatDoorBa09
namespace Go.Proofs.YtidlffepdcldkaaGreatDoor
set_option linter.unusedSimpArgs false
set_option linter.unusedVariables false
section
open Go.RowKit
section
variable {P:Program} {w:World} {z:Nat} {vs:List Value} {ops:Array Oper} {op:Oper} {a:Act} {K:Act→World→Prop} {Q:Exit→Act→World→Prop} {F:Prop}
end
theorem infoI:(Tryz.prog.info? 3).map (fun i=>(i.zero,i.size,i.bytes))=some (some (.int .i64 0),1,8):=by kernel_rfl
theorem Sl.oneI {w:World} (n:Int):Sl (w.alloc (Obj.cells #[.int .i64 n] 3)) (w.heap.size+1) 1 (some ⟨w.heap.size,0,none⟩) 1 [encI n]:=by
 have:=Sl.block (k:=1) [encI n] (hNew (w:=w) (o:=.cells #[.int .i64 n] 3) rfl) (by simp [encI]) (by simp [encI])
 simpa using this
theorem num_snoc {t:List UInt8} {ts:List (List UInt8)} {kk:Nat} {l:List Int} {n:Int} (ht:ts[kk]?=some t) (hl:numsL (ts.take kk)=some l) (hn:num t=some n):numsL (ts.take (kk+1))=some (l ++[n]):=by
 obtain ⟨hlt,rfl⟩:=List.getElem?_eq_some_iff.1 ht
 rw [List.take_succ_eq_append_getElem hlt,numsL_snoc hl,hn];rfl
set_option maxRecDepth 100000 in
set_option maxHeartbeats 4000000 in
theorem ERead_calls (s : List UInt8) (w : World) (E : Env w) (hs : s.length ≤ 30000) :
    Calls Tryz.prog 94 #[str s] w (EnPost w (readWs (cutc 32 s))):=by
 have HS:=Lib.hid hs
 obtain ⟨r,hr⟩:∃ r,r=readWs (cutc 32 s):=⟨_,rfl⟩
 rw [← hr]
 have HR:=Lib.hid hr
 clear hs hr
 go_enter Tryz.func94,Tryz.ntmps94
 go_wp2_with fail
 refine Calls.mono (Split_calls 32 s (by have:=HS.out;omega) _ (E.new _)) ?_
 rintro e w1 ⟨A,rfl,sA,b⟩
 have on:Onto w w1:=Onto.to ((Onto.rfl' w).new _) b
 have Bz:Bx w1 w.heap.size [.int .i64 0,.int .i64 0,.int .i64 0,.int .i64 0,.int .i64 0]:=(Bx.made w #[.int .i64 0,.int .i64 0,.int .i64 0,.int .i64 0,.int .i64 0] 46).onto b
 have E1:=E.onto on
 have hz:=Bz.lt
 clear b
 obtain ⟨ws,hws⟩:∃ ws,ws=cutc 32 s:=⟨_,rfl⟩
 have hne:ws≠[]:=hws ▸ cutc_ne 32 s
 have hlw:∀ t∈ws,t.length≤30000:=fun t ht=>Nat.le_trans (cutc_le (hws ▸ ht)) HS.out
 have hlen0:ws.length≤30001:=by rw [hws,cutc_len];have:=HS.out;have:=List.count_le_length (a:=(32:UInt8)) (l:=s);omega
 rw [← hws] at sA HR ⊢
 clear hws
 obtain ⟨y,ts,rfl⟩:∃ h ts,ws=h ::ts:=by
  cases ws with
  | nil=>exact absurd rfl hne
  | cons h ts=>exact ⟨h,ts,rfl⟩
 clear hne
 have HTL:=Lib.hid (show ∀ t∈ts,t.length≤30000 from fun t ht=>hlw t (by simp [ht]))
 have hts:ts.length≤30000:=by simp at hlen0;omega
 clear hlw hlen0
 generalize hzz:w.heap.size=z at *
 obtain ⟨bb,off,y',rfl,hb,hy,d0⟩:=S.atS sA (i:=0) (by simp)
 have hy:y'=y:=by simpa using hy.symm
 subst hy
 rw [Nat.add_zero] at d0
 have hn0:(0:Int)<((y' ::ts).length:Int):=by simp
 obtain ⟨A',hA',sA'⟩:∃ A',(∀ w,(Instr.slice 116 (.slice (some ⟨bb,off,none⟩) (ts.length+1) (ts.length+1)) (some (.int .i64 1)) none none).run Tryz.prog w=.ok (.slice A' ts.length ts.length) w)∧S w1 1 A' ts.length (ts.map encS):=by
  refine ⟨_,fun w=>run_slice_from (size:=1) (some ⟨bb,off,none⟩) (ts.length+1) (ts.length+1) 1 Tryz.underlying116 Tryz.sizeOf9 (by omega) w,?_⟩
  have:=Sl.cut (c:=ts.length+1) (m:=1) sA (by simp) (by simp)
  simpa using this
 clear hy sA
 go_wp2_with fail
 go_loopg [4,17] ts.length (fun g s4 s17 wr=>∃ (kk:Nat) (l:List Int) (N1:Option Addr) (c1:Nat),kk≤ts.length∧ts.length - kk≤g∧s17=.int .i64 kk∧s4=.slice N1 kk c1∧Hid (numsL (ts.take kk)=some l)∧Hid (Own wr w1.heap.size 3 1 (.slice N1 kk c1) kk (l.map encI))∧Onto w1 wr)
 case atStart=>exact ⟨0,[],none,0,Nat.zero_le _,by omega,rfl,rfl,Lib.hid rfl,Own.nil _ _ _ _,Onto.rfl' _⟩
 case round =>
  obtain ⟨kk,l,N1,c1,hkk,hg,rfl,rfl,HL,HO,hon⟩:=hrel
  have hkl:l.length=kk:=by have:=HO.out.2.1;simpa using this
  have HLL:=Lib.hid hkl
  clear hkl
  have BZ:=Bz.onto hon
  have ow:=on.to hon
  by_cases hlt:kk<ts.length
  · obtain ⟨bb',off',t,rfl,hb',ht,e0⟩:=S.atS (sA'.onto hon) hlt
    have HT:=Lib.hid ht
    have htl:=HTL.out t (List.mem_of_getElem? ht)
    clear ht
    obtain ⟨ok,hok⟩:∃ b,b=(num t).isSome:=⟨_,rfl⟩
    go_wp2_with fail
    refine Calls.mono (Whole_calls t (by omega) _ (E1.onto hon)) ?_
    rw [← hok]
    rintro e w8 ⟨v,rfl,b,hnv⟩
    have HNV:=Lib.hid hnv;have HOK:=Lib.hid hok
    replace BZ:=BZ.onto b;replace ow:=ow.to b;replace hon:=hon.to b
    have HO8:=Lib.hid (HO.out.below b)
    clear b e0 HO hnv hok d0
    cases ok with
    | true =>
      have hnum:num t=some v:=HNV.out rfl
      have HNUM:=Lib.hid hnum
      clear hnum HNV HOK
      obtain ⟨i0,hi0,hzz0,hzz1,hzz2⟩:=info_parts infoI
      have HI0:=Lib.hid hi0;have HZ0:=Lib.hid hzz0;have HZ1:=Lib.hid hzz1;have HZ2:=Lib.hid hzz2
      clear hi0 hzz0 hzz1 hzz2
      have hnew:=Sl.oneI (w:=w8) v
      have HNEW:=Lib.hid hnew
      clear hnew
      have hs8:=hon.size
      go_wp2_with (at_builtin;refine wpList_append_sl _ rfl (.tmp 29) (.tmp 31) 36 rfl w1.heap.size 3 i0 _ 1 8 Tryz.underlying36 HI0.out HZ0.out HZ1.out HZ2.out rfl (by decide) (.slice N1 kk c1) kk (l.map encI) rfl (HO8.out.alloc _) (w8.heap.size+1) (some ⟨w8.heap.size,0,none⟩) 1 1 [encI v] rfl HNEW.out (by simp [encI,Value.oneCell']) (by unfold maxLen;omega) (by omega) (by simp;omega) ?_)
      intro v9 w9 own9 grow9 hv9
      obtain ⟨A9,c9,rfl,_,_⟩:=own9.slice
      have on9:Onto w1 w9:=below_grown (hon.new _) (by simp;omega) grow9 (fun g hg=>(HO8.out.1.lt g hg).1)
      have HO9:=Lib.hid own9
      clear own9 grow9 hv9 HI0 HZ0 HZ1 HZ2 HNEW BZ ow
      go_wp2_with fail
      go_roundg (ts.length - (kk+1))
      case measure=>omega
      case rel=>exact ⟨kk+1,l ++[v],A9,c9,by omega,Nat.le_refl _,by go_num,rfl,Lib.hid (num_snoc HT.out HL.out HNUM.out),Lib.hid (by rw [List.map_append];exact HO9.out),on9⟩
    | false =>
      have hn:num t=none:=by
       have:=HOK.out
       cases hx:num t with
       | none=>rfl
       | some u=>rw [hx] at this;cases this
      have hr:r=(zeroE,1):=by
       rw [HR.out];unfold readWs;rw [List.headD_cons]
       cases kindW y' with
       | none=>rfl
       | some km =>
         obtain ⟨k,m⟩:=km
         dsimp only
         rw [List.tail_cons,numsL_none (List.mem_of_getElem? HT.out) hn]
         split <;> rfl
      subst hr
      clear hn HNV HOK HR
      go_wp2_with (refine wpList_put BZ [.int .i64 0,.int .i64 0,.int .i64 0,.int .i64 0,.int .i64 0] 46 _ _ (by rfl) (by rfl) (by rfl) (by rfl) (by rfl) sizeE (by rfl) ?_)
      have hF:=BZ.put (us:=[.int .i64 0,.int .i64 0,.int .i64 0,.int .i64 0,.int .i64 0]) rfl
      have oF:=Onto.puts (b:=z) (o:=0) (us:=[.int .i64 0,.int .i64 0,.int .i64 0,.int .i64 0,.int .i64 0]) (by omega) ow
      generalize World.setCells _ z 0 [.int .i64 0,.int .i64 0,.int .i64 0,.int .i64 0,.int .i64 0]=wF at hF oF ⊢
      go_wp2_with fail
      have p0:=hF.at_ 0 rfl;have p1:=hF.at_ 1 rfl;have p2:=hF.at_ 2 rfl;have p3:=hF.at_ 3 rfl;have p4:=hF.at_ 4 rfl
      refine bodyPost_ret (v:=.tuple #[.agg #[.int .i64 0,.int .i64 0,.int .i64 0,.int .i64 0,.int .i64 0],.int .i64 1]) (by simp [results,Tryz.results94,go_sem,p0,p1,p2,p3,p4]) rfl ⟨rfl,oF⟩
  · have hkn:kk=ts.length:=by omega
    subst hkn
    rw [List.take_length] at HL
    clear hkk hg hlt hA' sA' HTL
    replace d0:=cellB hon d0
    obtain ⟨y,hyy⟩:∃ y,y=y':=⟨_,rfl⟩
    rw [← hyy] at d0 HR
    clear hyy
    by_cases hyjunk:y=[106,117,110,107]
    · subst hyjunk
      by_cases hlen:ts.length=0
      · have hT:ts.length=0:=hlen
        have hll:l.length=0:=by rw [HLL.out,hT]
        obtain rfl:l=[]:=List.eq_nil_of_length_eq_zero hll
        have hr:r=if checkE ⟨0,0,0,0,0⟩≠0 then (zeroE,checkE ⟨0,0,0,0,0⟩) else (⟨0,0,0,0,0⟩,0):=by
         rw [HR.out];unfold readWs;rw [List.headD_cons,show kindW [106,117,110,107]=some (0,0) from rfl];dsimp only;rw [List.tail_cons,if_neg (by simp [hT]),HL.out];rfl
        have HRR:=Lib.hid hr
        clear hr hll
        rw [hT] at *
        clear hT hlen
        have SN:=HO.out.sl
        have ofN:=SN.offN (Nat.le_refl wr.heap.size)
        go_upto_block 2 with fail
        have oc:Onto wr (wr.alloc (Obj.cells #[.int .i64 0,.int .i64 0,.int .i64 0,.int .i64 0,.int .i64 0] 46)):=(Onto.rfl' _).new _
        have BE:Bx (wr.alloc (Obj.cells #[.int .i64 0,.int .i64 0,.int .i64 0,.int .i64 0,.int .i64 0] 46)) wr.heap.size [.int .i64 0,.int .i64 0,.int .i64 0,.int .i64 0,.int .i64 0]:=Bx.made _ _ _
        have hze:w1.heap.size≤wr.heap.size:=hon.size
        replace BZ:=BZ.onto oc;replace ow:=ow.to oc;replace SN:=S.onto SN oc;replace d0:=cellB oc d0
        try change Code.wp _ _ _ _ (wr.alloc (Obj.cells #[.int .i64 0,.int .i64 0,.int .i64 0,.int .i64 0,.int .i64 0] 46))
        generalize (wr.alloc (Obj.cells #[.int .i64 0,.int .i64 0,.int .i64 0,.int .i64 0,.int .i64 0] 46))=w12 at *
        generalize wr.heap.size=ze at *
        go_upto_region 20 with fail
        clear d0 SN HO HL HLL
        have hr:=HRR.out
        clear HRR HR
        obtain ⟨q,hqq⟩:∃ q,q=checkE ⟨0,0,0,0,0⟩:=⟨_,rfl⟩
        rw [← hqq] at hr
        have HQ:=Lib.hid hqq;have HRQ:=Lib.hid hr
        clear hqq hr
        have b0:=BE.at_ 0 rfl;have b1:=BE.at_ 1 rfl;have b2:=BE.at_ 2 rfl;have b3:=BE.at_ 3 rfl;have b4:=BE.at_ 4 rfl
        go_wp2_with fail
        refine Calls.mono (RCE_calls 0 0 0 0 0 _) ?_
        rintro e w13 ⟨rfl,bq⟩
        rw [show checkE ⟨0,0,0,0,0⟩=q from HQ.out.symm]
        replace BZ:=BZ.onto bq;replace ow:=ow.to bq;replace BE:=BE.onto bq
        clear bq b0 b1 b2 b3 b4
        by_cases hq0:q=0
        · have hr:=HRQ.out
          rw [if_neg (by simp [hq0])] at hr
          subst hr
          have hq1:(q ==0)=true:=by simp [hq0]
          have hq2:(q !=0)=false:=by simp [hq0]
          have b0:=BE.at_ 0 rfl;have b1:=BE.at_ 1 rfl;have b2:=BE.at_ 2 rfl;have b3:=BE.at_ 3 rfl;have b4:=BE.at_ 4 rfl
          clear hq0 HRQ
          go_wp2_with (refine wpList_put BZ [.int .i64 0,.int .i64 0,.int .i64 0,.int .i64 0,.int .i64 0] 46 _ _ (by rfl) (by rfl) (by rfl) (by rfl) (by rfl) sizeE (by rfl) ?_)
          have hF:=BZ.put (us:=[.int .i64 0,.int .i64 0,.int .i64 0,.int .i64 0,.int .i64 0]) rfl
          have oF:=Onto.puts (b:=z) (o:=0) (us:=[.int .i64 0,.int .i64 0,.int .i64 0,.int .i64 0,.int .i64 0]) (by omega) ow
          generalize World.setCells _ z 0 [.int .i64 0,.int .i64 0,.int .i64 0,.int .i64 0,.int .i64 0]=wF at hF oF ⊢
          go_wp2_with fail
          have p0:=hF.at_ 0 rfl;have p1:=hF.at_ 1 rfl;have p2:=hF.at_ 2 rfl;have p3:=hF.at_ 3 rfl;have p4:=hF.at_ 4 rfl
          refine bodyPost_ret (v:=.tuple #[.agg #[.int .i64 0,.int .i64 0,.int .i64 0,.int .i64 0,.int .i64 0],.int .i64 0]) (by simp [results,Tryz.results94,go_sem,p0,p1,p2,p3,p4]) rfl ⟨rfl,oF⟩
        · have hr:=HRQ.out
          rw [if_pos hq0] at hr
          subst hr
          have hq1:(q ==0)=false:=by simp [hq0]
          have hq2:(q !=0)=true:=by simp [hq0]
          clear hq0 BE HRQ
          go_wp2_with (refine wpList_put BZ [.int .i64 0,.int .i64 0,.int .i64 0,.int .i64 0,.int .i64 0] 46 _ _ (by rfl) (by rfl) (by rfl) (by rfl) (by rfl) sizeE (by rfl) ?_)
          have hF:=BZ.put (us:=[.int .i64 0,.int .i64 0,.int .i64 0,.int .i64 0,.int .i64 0]) rfl
          have oF:=Onto.puts (b:=z) (o:=0) (us:=[.int .i64 0,.int .i64 0,.int .i64 0,.int .i64 0,.int .i64 0]) (by omega) ow
          generalize World.setCells _ z 0 [.int .i64 0,.int .i64 0,.int .i64 0,.int .i64 0,.int .i64 0]=wF at hF oF ⊢
          go_wp2_with fail
          have p0:=hF.at_ 0 rfl;have p1:=hF.at_ 1 rfl;have p2:=hF.at_ 2 rfl;have p3:=hF.at_ 3 rfl;have p4:=hF.at_ 4 rfl
          refine bodyPost_ret (v:=.tuple #[.agg #[.int .i64 0,.int .i64 0,.int .i64 0,.int .i64 0,.int .i64 0],.int .i64 q]) (by simp [results,Tryz.results94,go_sem,p0,p1,p2,p3,p4]) rfl ⟨rfl,oF⟩
      · have hr:r=(zeroE,1):=by rw [HR.out];unfold readWs;rw [List.headD_cons,show kindW [106,117,110,107]=some (0,0) from rfl];dsimp only;rw [List.tail_cons,if_pos hlen]
        have hl1:((ts.length:Int) ==0)=false:=by rw [beq_eq_false_iff_ne];omega
        have hl2:¬ (ts.length:Int)=0:=by omega
        clear HR HL HLL hlen
        subst hr
        have oc:Onto wr (wr.alloc (Obj.cells #[.int .i64 0,.int .i64 0,.int .i64 0,.int .i64 0,.int .i64 0] 46)):=(Onto.rfl' _).new _
        replace d0:=cellB oc d0
        replace BZ:=BZ.onto oc;replace ow:=ow.to oc
        go_wp2_with (refine wpList_put BZ [.int .i64 0,.int .i64 0,.int .i64 0,.int .i64 0,.int .i64 0] 46 _ _ (by rfl) (by rfl) (by rfl) (by rfl) (by rfl) sizeE (by rfl) ?_)
        have hF:=BZ.put (us:=[.int .i64 0,.int .i64 0,.int .i64 0,.int .i64 0,.int .i64 0]) rfl
        have oF:=Onto.puts (b:=z) (o:=0) (us:=[.int .i64 0,.int .i64 0,.int .i64 0,.int .i64 0,.int .i64 0]) (by omega) ow
        generalize World.setCells _ z 0 [.int .i64 0,.int .i64 0,.int .i64 0,.int .i64 0,.int .i64 0]=wF at hF oF ⊢
        go_wp2_with fail
        have p0:=hF.at_ 0 rfl;have p1:=hF.at_ 1 rfl;have p2:=hF.at_ 2 rfl;have p3:=hF.at_ 3 rfl;have p4:=hF.at_ 4 rfl
        refine bodyPost_ret (v:=.tuple #[.agg #[.int .i64 0,.int .i64 0,.int .i64 0,.int .i64 0,.int .i64 0],.int .i64 1]) (by simp [results,Tryz.results94,go_sem,p0,p1,p2,p3,p4]) rfl ⟨rfl,oF⟩
    · have hjunk:(y ==[106,117,110,107])=false:=by rw [beq_eq_false_iff_ne];exact hyjunk
      by_cases hyput:y=[112,117,116]
      · subst hyput
        by_cases hlen:ts.length=3
        · have hT:ts.length=3:=hlen
          have hll:l.length=3:=by rw [HLL.out,hT]
          obtain ⟨a,b,c,rfl⟩:∃ a b c,l=[a,b,c]:=by match l,hll with | [a,b,c],_=>exact ⟨a,b,c,rfl⟩
          have hr:r=if checkE ⟨1,a,b,c,0⟩≠0 then (zeroE,checkE ⟨1,a,b,c,0⟩) else (⟨1,a,b,c,0⟩,0):=by
           rw [HR.out];unfold readWs;rw [List.headD_cons,show kindW [112,117,116]=some (1,3) from rfl];dsimp only;rw [List.tail_cons,if_neg (by simp [hT]),HL.out];rfl
          have HRR:=Lib.hid hr
          clear hr hll
          rw [hT] at *
          clear hT hlen
          have SN:=HO.out.sl
          have ofN:=SN.offN (Nat.le_refl wr.heap.size)
          go_upto_block 2 with fail
          have oc:Onto wr (wr.alloc (Obj.cells #[.int .i64 0,.int .i64 0,.int .i64 0,.int .i64 0,.int .i64 0] 46)):=(Onto.rfl' _).new _
          have BE:Bx (wr.alloc (Obj.cells #[.int .i64 0,.int .i64 0,.int .i64 0,.int .i64 0,.int .i64 0] 46)) wr.heap.size [.int .i64 0,.int .i64 0,.int .i64 0,.int .i64 0,.int .i64 0]:=Bx.made _ _ _
          have hze:w1.heap.size≤wr.heap.size:=hon.size
          replace BZ:=BZ.onto oc;replace ow:=ow.to oc;replace SN:=S.onto SN oc;replace d0:=cellB oc d0
          try change Code.wp _ _ _ _ (wr.alloc (Obj.cells #[.int .i64 0,.int .i64 0,.int .i64 0,.int .i64 0,.int .i64 0] 46))
          generalize (wr.alloc (Obj.cells #[.int .i64 0,.int .i64 0,.int .i64 0,.int .i64 0,.int .i64 0] 46))=w12 at *
          generalize wr.heap.size=ze at *
          obtain ⟨bn,on_,rfl,_,hcn⟩:=SN.2.2 (by omega)
          have n0:=hcn 0 0 _ _ rfl rfl;have n1:=hcn 1 0 _ _ rfl rfl;have n2:=hcn 2 0 _ _ rfl rfl
          simp only [Nat.zero_mul,Nat.one_mul,Nat.mul_one,Nat.add_zero] at n0 n1 n2
          clear hcn
          have hzE:z≠ze:=by omega
          have hne:bn≠ze:=ofN (by omega) _ rfl
          have g0:=BE.at_ 0 rfl;have g1:=BE.at_ 1 rfl;have g2:=BE.at_ 2 rfl;have g3:=BE.at_ 3 rfl;have g4:=BE.at_ 4 rfl
          have fz:=fun o=>BE.froz o
          go_cut [] (fun wx=>Bx wx ze [.int .i64 1,.int .i64 a,.int .i64 b,.int .i64 c,.int .i64 0]∧Bx wx z [.int .i64 0,.int .i64 0,.int .i64 0,.int .i64 0,.int .i64 0]∧Onto w wx)
          case first =>
           go_upto_region 15 with fail
           go_region
           all_goals
            have X1:Bx (World.setCells w12 ze 0 [.int .i64 1,.int .i64 a,.int .i64 b,.int .i64 c,.int .i64 0]).drew ze [.int .i64 1,.int .i64 a,.int .i64 b,.int .i64 c,.int .i64 0]:=(BE.put (us:=[.int .i64 1,.int .i64 a,.int .i64 b,.int .i64 c,.int .i64 0]) rfl).draw
            have X2:Bx (World.setCells w12 ze 0 [.int .i64 1,.int .i64 a,.int .i64 b,.int .i64 c,.int .i64 0]).drew z [.int .i64 0,.int .i64 0,.int .i64 0,.int .i64 0,.int .i64 0]:=(BZ.off (us:=[.int .i64 1,.int .i64 a,.int .i64 b,.int .i64 c,.int .i64 0]) (o:=0) hzE).draw
            have X3:Onto w (World.setCells w12 ze 0 [.int .i64 1,.int .i64 a,.int .i64 b,.int .i64 c,.int .i64 0]).drew:=(Onto.puts (b:=ze) (o:=0) (us:=[.int .i64 1,.int .i64 a,.int .i64 b,.int .i64 c,.int .i64 0]) (by omega) ow).draw
            try change Exit.inBlock _ _ _ _ (World.setCells w12 ze 0 [.int .i64 1,.int .i64 a,.int .i64 b,.int .i64 c,.int .i64 0]).drew
            clear n0 n1 n2 g0 g1 g2 g3 g4 fz BE BZ ow SN d0 HO oc
            generalize (World.setCells w12 ze 0 [.int .i64 1,.int .i64 a,.int .i64 b,.int .i64 c,.int .i64 0]).drew=wX at *
            go_wp2_with fail
            go_meet
            exact ⟨X1,X2,X3⟩
          case rest =>
           obtain ⟨BE',BZ',ow'⟩:=hcut
           clear BE BZ ow g0 g1 g2 g3 g4 fz n0 n1 n2 d0 SN HO HL HLL oc
           have BE:=BE';have BZ:=BZ';have ow:=ow'
           clear BE' BZ' ow'
           have hr:=HRR.out
           clear HRR HR
           obtain ⟨q,hqq⟩:∃ q,q=checkE ⟨1,a,b,c,0⟩:=⟨_,rfl⟩
           rw [← hqq] at hr
           have HQ:=Lib.hid hqq;have HRQ:=Lib.hid hr
           clear hqq hr
           have b0:=BE.at_ 0 rfl;have b1:=BE.at_ 1 rfl;have b2:=BE.at_ 2 rfl;have b3:=BE.at_ 3 rfl;have b4:=BE.at_ 4 rfl
           go_wp2_with fail
           refine Calls.mono (RCE_calls 1 a b c 0 _) ?_
           rintro e w13 ⟨rfl,bq⟩
           rw [show checkE ⟨1,a,b,c,0⟩=q from HQ.out.symm]
           replace BZ:=BZ.onto bq;replace ow:=ow.to bq;replace BE:=BE.onto bq
           clear bq b0 b1 b2 b3 b4
           by_cases hq0:q=0
           · have hr:=HRQ.out
             rw [if_neg (by simp [hq0])] at hr
             subst hr
             have hq1:(q ==0)=true:=by simp [hq0]
             have hq2:(q !=0)=false:=by simp [hq0]
             have b0:=BE.at_ 0 rfl;have b1:=BE.at_ 1 rfl;have b2:=BE.at_ 2 rfl;have b3:=BE.at_ 3 rfl;have b4:=BE.at_ 4 rfl
             clear hq0 HRQ
             go_wp2_with (refine wpList_put BZ [.int .i64 1,.int .i64 a,.int .i64 b,.int .i64 c,.int .i64 0] 46 _ _ (by rfl) (by rfl) (by rfl) (by rfl) (by rfl) sizeE (by rfl) ?_)
             have hF:=BZ.put (us:=[.int .i64 1,.int .i64 a,.int .i64 b,.int .i64 c,.int .i64 0]) rfl
             have oF:=Onto.puts (b:=z) (o:=0) (us:=[.int .i64 1,.int .i64 a,.int .i64 b,.int .i64 c,.int .i64 0]) (by omega) ow
             generalize World.setCells _ z 0 [.int .i64 1,.int .i64 a,.int .i64 b,.int .i64 c,.int .i64 0]=wF at hF oF ⊢
             go_wp2_with fail
             have p0:=hF.at_ 0 rfl;have p1:=hF.at_ 1 rfl;have p2:=hF.at_ 2 rfl;have p3:=hF.at_ 3 rfl;have p4:=hF.at_ 4 rfl
             refine bodyPost_ret (v:=.tuple #[.agg #[.int .i64 1,.int .i64 a,.int .i64 b,.int .i64 c,.int .i64 0],.int .i64 0]) (by simp [results,Tryz.results94,go_sem,p0,p1,p2,p3,p4]) rfl ⟨rfl,oF⟩
           · have hr:=HRQ.out
             rw [if_pos hq0] at hr
             subst hr
             have hq1:(q ==0)=false:=by simp [hq0]
             have hq2:(q !=0)=true:=by simp [hq0]
             clear hq0 BE HRQ
             go_wp2_with (refine wpList_put BZ [.int .i64 0,.int .i64 0,.int .i64 0,.int .i64 0,.int .i64 0] 46 _ _ (by rfl) (by rfl) (by rfl) (by rfl) (by rfl) sizeE (by rfl) ?_)
             have hF:=BZ.put (us:=[.int .i64 0,.int .i64 0,.int .i64 0,.int .i64 0,.int .i64 0]) rfl
             have oF:=Onto.puts (b:=z) (o:=0) (us:=[.int .i64 0,.int .i64 0,.int .i64 0,.int .i64 0,.int .i64 0]) (by omega) ow
             generalize World.setCells _ z 0 [.int .i64 0,.int .i64 0,.int .i64 0,.int .i64 0,.int .i64 0]=wF at hF oF ⊢
             go_wp2_with fail
             have p0:=hF.at_ 0 rfl;have p1:=hF.at_ 1 rfl;have p2:=hF.at_ 2 rfl;have p3:=hF.at_ 3 rfl;have p4:=hF.at_ 4 rfl
             refine bodyPost_ret (v:=.tuple #[.agg #[.int .i64 0,.int .i64 0,.int .i64 0,.int .i64 0,.int .i64 0],.int .i64 q]) (by simp [results,Tryz.results94,go_sem,p0,p1,p2,p3,p4]) rfl ⟨rfl,oF⟩
        · have hr:r=(zeroE,1):=by rw [HR.out];unfold readWs;rw [List.headD_cons,show kindW [112,117,116]=some (1,3) from rfl];dsimp only;rw [List.tail_cons,if_pos hlen]
          have hl1:((ts.length:Int) ==3)=false:=by rw [beq_eq_false_iff_ne];omega
          have hl2:¬ (ts.length:Int)=3:=by omega
          clear HR HL HLL hlen
          subst hr
          have oc:Onto wr (wr.alloc (Obj.cells #[.int .i64 0,.int .i64 0,.int .i64 0,.int .i64 0,.int .i64 0] 46)):=(Onto.rfl' _).new _
          replace d0:=cellB oc d0
          replace BZ:=BZ.onto oc;replace ow:=ow.to oc
          go_wp2_with (refine wpList_put BZ [.int .i64 0,.int .i64 0,.int .i64 0,.int .i64 0,.int .i64 0] 46 _ _ (by rfl) (by rfl) (by rfl) (by rfl) (by rfl) sizeE (by rfl) ?_)
          have hF:=BZ.put (us:=[.int .i64 0,.int .i64 0,.int .i64 0,.int .i64 0,.int .i64 0]) rfl
          have oF:=Onto.puts (b:=z) (o:=0) (us:=[.int .i64 0,.int .i64 0,.int .i64 0,.int .i64 0,.int .i64 0]) (by omega) ow
          generalize World.setCells _ z 0 [.int .i64 0,.int .i64 0,.int .i64 0,.int .i64 0,.int .i64 0]=wF at hF oF ⊢
          go_wp2_with fail
          have p0:=hF.at_ 0 rfl;have p1:=hF.at_ 1 rfl;have p2:=hF.at_ 2 rfl;have p3:=hF.at_ 3 rfl;have p4:=hF.at_ 4 rfl
          refine bodyPost_ret (v:=.tuple #[.agg #[.int .i64 0,.int .i64 0,.int .i64 0,.int .i64 0,.int .i64 0],.int .i64 1]) (by simp [results,Tryz.results94,go_sem,p0,p1,p2,p3,p4]) rfl ⟨rfl,oF⟩
      · have hput:(y ==[112,117,116])=false:=by rw [beq_eq_false_iff_ne];exact hyput
        by_cases hydrop:y=[100,114,111,112]
        · subst hydrop
          by_cases hlen:ts.length=1
          · have hT:ts.length=1:=hlen
            have hll:l.length=1:=by rw [HLL.out,hT]
            obtain ⟨a,rfl⟩:∃ a,l=[a]:=by match l,hll with | [a],_=>exact ⟨a,rfl⟩
            have hr:r=if checkE ⟨2,a,0,0,0⟩≠0 then (zeroE,checkE ⟨2,a,0,0,0⟩) else (⟨2,a,0,0,0⟩,0):=by
             rw [HR.out];unfold readWs;rw [List.headD_cons,show kindW [100,114,111,112]=some (2,1) from rfl];dsimp only;rw [List.tail_cons,if_neg (by simp [hT]),HL.out];rfl
            have HRR:=Lib.hid hr
            clear hr hll
            rw [hT] at *
            clear hT hlen
            have SN:=HO.out.sl
            have ofN:=SN.offN (Nat.le_refl wr.heap.size)
            go_upto_block 2 with fail
            have oc:Onto wr (wr.alloc (Obj.cells #[.int .i64 0,.int .i64 0,.int .i64 0,.int .i64 0,.int .i64 0] 46)):=(Onto.rfl' _).new _
            have BE:Bx (wr.alloc (Obj.cells #[.int .i64 0,.int .i64 0,.int .i64 0,.int .i64 0,.int .i64 0] 46)) wr.heap.size [.int .i64 0,.int .i64 0,.int .i64 0,.int .i64 0,.int .i64 0]:=Bx.made _ _ _
            have hze:w1.heap.size≤wr.heap.size:=hon.size
            replace BZ:=BZ.onto oc;replace ow:=ow.to oc;replace SN:=S.onto SN oc;replace d0:=cellB oc d0
            try change Code.wp _ _ _ _ (wr.alloc (Obj.cells #[.int .i64 0,.int .i64 0,.int .i64 0,.int .i64 0,.int .i64 0] 46))
            generalize (wr.alloc (Obj.cells #[.int .i64 0,.int .i64 0,.int .i64 0,.int .i64 0,.int .i64 0] 46))=w12 at *
            generalize wr.heap.size=ze at *
            obtain ⟨bn,on_,rfl,_,hcn⟩:=SN.2.2 (by omega)
            have n0:=hcn 0 0 _ _ rfl rfl
            simp only [Nat.zero_mul,Nat.add_zero] at n0
            clear hcn
            go_upto_region 20 with (refine wpList_put BE [.int .i64 2,.int .i64 a,.int .i64 0,.int .i64 0,.int .i64 0] 46 _ _ (by rfl) (by rfl) (by rfl) (by rfl) (by rfl) sizeE (by rfl) ?_)
            have hzE:z≠ze:=by omega
            have BE':=BE.put (us:=[.int .i64 2,.int .i64 a,.int .i64 0,.int .i64 0,.int .i64 0]) rfl
            have BZ':Bx (World.setCells w12 ze 0 [.int .i64 2,.int .i64 a,.int .i64 0,.int .i64 0,.int .i64 0]) z [.int .i64 0,.int .i64 0,.int .i64 0,.int .i64 0,.int .i64 0]:=BZ.off hzE
            have ow':=Onto.puts (b:=ze) (o:=0) (us:=[.int .i64 2,.int .i64 a,.int .i64 0,.int .i64 0,.int .i64 0]) (by omega) ow
            clear d0 SN HO HL HLL BE BZ ow n0 oc
            have BE:=BE';have BZ:=BZ';have ow:=ow'
            clear BE' BZ' ow'
            generalize World.setCells w12 ze 0 [.int .i64 2,.int .i64 a,.int .i64 0,.int .i64 0,.int .i64 0]=w13' at *
            have hr:=HRR.out
            clear HRR HR
            obtain ⟨q,hqq⟩:∃ q,q=checkE ⟨2,a,0,0,0⟩:=⟨_,rfl⟩
            rw [← hqq] at hr
            have HQ:=Lib.hid hqq;have HRQ:=Lib.hid hr
            clear hqq hr
            have b0:=BE.at_ 0 rfl;have b1:=BE.at_ 1 rfl;have b2:=BE.at_ 2 rfl;have b3:=BE.at_ 3 rfl;have b4:=BE.at_ 4 rfl
            go_wp2_with fail
            refine Calls.mono (RCE_calls 2 a 0 0 0 _) ?_
            rintro e w13 ⟨rfl,bq⟩
            rw [show checkE ⟨2,a,0,0,0⟩=q from HQ.out.symm]
            replace BZ:=BZ.onto bq;replace ow:=ow.to bq;replace BE:=BE.onto bq
            clear bq b0 b1 b2 b3 b4
            by_cases hq0:q=0
            · have hr:=HRQ.out
              rw [if_neg (by simp [hq0])] at hr
              subst hr
              have hq1:(q ==0)=true:=by simp [hq0]
              have hq2:(q !=0)=false:=by simp [hq0]
              have b0:=BE.at_ 0 rfl;have b1:=BE.at_ 1 rfl;have b2:=BE.at_ 2 rfl;have b3:=BE.at_ 3 rfl;have b4:=BE.at_ 4 rfl
              clear hq0 HRQ
              go_wp2_with (refine wpList_put BZ [.int .i64 2,.int .i64 a,.int .i64 0,.int .i64 0,.int .i64 0] 46 _ _ (by rfl) (by rfl) (by rfl) (by rfl) (by rfl) sizeE (by rfl) ?_)
              have hF:=BZ.put (us:=[.int .i64 2,.int .i64 a,.int .i64 0,.int .i64 0,.int .i64 0]) rfl
              have oF:=Onto.puts (b:=z) (o:=0) (us:=[.int .i64 2,.int .i64 a,.int .i64 0,.int .i64 0,.int .i64 0]) (by omega) ow
              generalize World.setCells _ z 0 [.int .i64 2,.int .i64 a,.int .i64 0,.int .i64 0,.int .i64 0]=wF at hF oF ⊢
              go_wp2_with fail
              have p0:=hF.at_ 0 rfl;have p1:=hF.at_ 1 rfl;have p2:=hF.at_ 2 rfl;have p3:=hF.at_ 3 rfl;have p4:=hF.at_ 4 rfl
              refine bodyPost_ret (v:=.tuple #[.agg #[.int .i64 2,.int .i64 a,.int .i64 0,.int .i64 0,.int .i64 0],.int .i64 0]) (by simp [results,Tryz.results94,go_sem,p0,p1,p2,p3,p4]) rfl ⟨rfl,oF⟩
            · have hr:=HRQ.out
              rw [if_pos hq0] at hr
              subst hr
              have hq1:(q ==0)=false:=by simp [hq0]
              have hq2:(q !=0)=true:=by simp [hq0]
              clear hq0 BE HRQ
              go_wp2_with (refine wpList_put BZ [.int .i64 0,.int .i64 0,.int .i64 0,.int .i64 0,.int .i64 0] 46 _ _ (by rfl) (by rfl) (by rfl) (by rfl) (by rfl) sizeE (by rfl) ?_)
              have hF:=BZ.put (us:=[.int .i64 0,.int .i64 0,.int .i64 0,.int .i64 0,.int .i64 0]) rfl
              have oF:=Onto.puts (b:=z) (o:=0) (us:=[.int .i64 0,.int .i64 0,.int .i64 0,.int .i64 0,.int .i64 0]) (by omega) ow
              generalize World.setCells _ z 0 [.int .i64 0,.int .i64 0,.int .i64 0,.int .i64 0,.int .i64 0]=wF at hF oF ⊢
              go_wp2_with fail
              have p0:=hF.at_ 0 rfl;have p1:=hF.at_ 1 rfl;have p2:=hF.at_ 2 rfl;have p3:=hF.at_ 3 rfl;have p4:=hF.at_ 4 rfl
              refine bodyPost_ret (v:=.tuple #[.agg #[.int .i64 0,.int .i64 0,.int .i64 0,.int .i64 0,.int .i64 0],.int .i64 q]) (by simp [results,Tryz.results94,go_sem,p0,p1,p2,p3,p4]) rfl ⟨rfl,oF⟩
          · have hr:r=(zeroE,1):=by rw [HR.out];unfold readWs;rw [List.headD_cons,show kindW [100,114,111,112]=some (2,1) from rfl];dsimp only;rw [List.tail_cons,if_pos hlen]
            have hl1:((ts.length:Int) ==1)=false:=by rw [beq_eq_false_iff_ne];omega
            have hl2:¬ (ts.length:Int)=1:=by omega
            clear HR HL HLL hlen
            subst hr
            have oc:Onto wr (wr.alloc (Obj.cells #[.int .i64 0,.int .i64 0,.int .i64 0,.int .i64 0,.int .i64 0] 46)):=(Onto.rfl' _).new _
            replace d0:=cellB oc d0
            replace BZ:=BZ.onto oc;replace ow:=ow.to oc
            go_wp2_with (refine wpList_put BZ [.int .i64 0,.int .i64 0,.int .i64 0,.int .i64 0,.int .i64 0] 46 _ _ (by rfl) (by rfl) (by rfl) (by rfl) (by rfl) sizeE (by rfl) ?_)
            have hF:=BZ.put (us:=[.int .i64 0,.int .i64 0,.int .i64 0,.int .i64 0,.int .i64 0]) rfl
            have oF:=Onto.puts (b:=z) (o:=0) (us:=[.int .i64 0,.int .i64 0,.int .i64 0,.int .i64 0,.int .i64 0]) (by omega) ow
            generalize World.setCells _ z 0 [.int .i64 0,.int .i64 0,.int .i64 0,.int .i64 0,.int .i64 0]=wF at hF oF ⊢
            go_wp2_with fail
            have p0:=hF.at_ 0 rfl;have p1:=hF.at_ 1 rfl;have p2:=hF.at_ 2 rfl;have p3:=hF.at_ 3 rfl;have p4:=hF.at_ 4 rfl
            refine bodyPost_ret (v:=.tuple #[.agg #[.int .i64 0,.int .i64 0,.int .i64 0,.int .i64 0,.int .i64 0],.int .i64 1]) (by simp [results,Tryz.results94,go_sem,p0,p1,p2,p3,p4]) rfl ⟨rfl,oF⟩
        · have hdrop:(y ==[100,114,111,112])=false:=by rw [beq_eq_false_iff_ne];exact hydrop
          by_cases hyring:y=[114,105,110,103]
          · subst hyring
            by_cases hlen:ts.length=3
            · have hT:ts.length=3:=hlen
              have hll:l.length=3:=by rw [HLL.out,hT]
              obtain ⟨a,b,c,rfl⟩:∃ a b c,l=[a,b,c]:=by match l,hll with | [a,b,c],_=>exact ⟨a,b,c,rfl⟩
              have hr:r=if checkE ⟨3,a,0,b,c⟩≠0 then (zeroE,checkE ⟨3,a,0,b,c⟩) else (⟨3,a,0,b,c⟩,0):=by
               rw [HR.out];unfold readWs;rw [List.headD_cons,show kindW [114,105,110,103]=some (3,3) from rfl];dsimp only;rw [List.tail_cons,if_neg (by simp [hT]),HL.out];rfl
              have HRR:=Lib.hid hr
              clear hr hll
              rw [hT] at *
              clear hT hlen
              have SN:=HO.out.sl
              have ofN:=SN.offN (Nat.le_refl wr.heap.size)
              go_upto_block 2 with fail
              have oc:Onto wr (wr.alloc (Obj.cells #[.int .i64 0,.int .i64 0,.int .i64 0,.int .i64 0,.int .i64 0] 46)):=(Onto.rfl' _).new _
              have BE:Bx (wr.alloc (Obj.cells #[.int .i64 0,.int .i64 0,.int .i64 0,.int .i64 0,.int .i64 0] 46)) wr.heap.size [.int .i64 0,.int .i64 0,.int .i64 0,.int .i64 0,.int .i64 0]:=Bx.made _ _ _
              have hze:w1.heap.size≤wr.heap.size:=hon.size
              replace BZ:=BZ.onto oc;replace ow:=ow.to oc;replace SN:=S.onto SN oc;replace d0:=cellB oc d0
              try change Code.wp _ _ _ _ (wr.alloc (Obj.cells #[.int .i64 0,.int .i64 0,.int .i64 0,.int .i64 0,.int .i64 0] 46))
              generalize (wr.alloc (Obj.cells #[.int .i64 0,.int .i64 0,.int .i64 0,.int .i64 0,.int .i64 0] 46))=w12 at *
              generalize wr.heap.size=ze at *
              obtain ⟨bn,on_,rfl,_,hcn⟩:=SN.2.2 (by omega)
              have n0:=hcn 0 0 _ _ rfl rfl;have n1:=hcn 1 0 _ _ rfl rfl;have n2:=hcn 2 0 _ _ rfl rfl
              simp only [Nat.zero_mul,Nat.one_mul,Nat.mul_one,Nat.add_zero] at n0 n1 n2
              clear hcn
              have hzE:z≠ze:=by omega
              have hne:bn≠ze:=ofN (by omega) _ rfl
              have g0:=BE.at_ 0 rfl;have g1:=BE.at_ 1 rfl;have g2:=BE.at_ 2 rfl;have g3:=BE.at_ 3 rfl;have g4:=BE.at_ 4 rfl
              have fz:=fun o=>BE.froz o
              go_cut [] (fun wx=>Bx wx ze [.int .i64 3,.int .i64 a,.int .i64 0,.int .i64 b,.int .i64 c]∧Bx wx z [.int .i64 0,.int .i64 0,.int .i64 0,.int .i64 0,.int .i64 0]∧Onto w wx)
              case first =>
               go_upto_region 19 with fail
               go_region
               all_goals
                have X1:Bx (World.setCells w12 ze 0 [.int .i64 3,.int .i64 a,.int .i64 0,.int .i64 b,.int .i64 c]).drew ze [.int .i64 3,.int .i64 a,.int .i64 0,.int .i64 b,.int .i64 c]:=(BE.put (us:=[.int .i64 3,.int .i64 a,.int .i64 0,.int .i64 b,.int .i64 c]) rfl).draw
                have X2:Bx (World.setCells w12 ze 0 [.int .i64 3,.int .i64 a,.int .i64 0,.int .i64 b,.int .i64 c]).drew z [.int .i64 0,.int .i64 0,.int .i64 0,.int .i64 0,.int .i64 0]:=(BZ.off (us:=[.int .i64 3,.int .i64 a,.int .i64 0,.int .i64 b,.int .i64 c]) (o:=0) hzE).draw
                have X3:Onto w (World.setCells w12 ze 0 [.int .i64 3,.int .i64 a,.int .i64 0,.int .i64 b,.int .i64 c]).drew:=(Onto.puts (b:=ze) (o:=0) (us:=[.int .i64 3,.int .i64 a,.int .i64 0,.int .i64 b,.int .i64 c]) (by omega) ow).draw
                try change Exit.inBlock _ _ _ _ (World.setCells w12 ze 0 [.int .i64 3,.int .i64 a,.int .i64 0,.int .i64 b,.int .i64 c]).drew
                clear n0 n1 n2 g0 g1 g2 g3 g4 fz BE BZ ow SN d0 HO oc
                generalize (World.setCells w12 ze 0 [.int .i64 3,.int .i64 a,.int .i64 0,.int .i64 b,.int .i64 c]).drew=wX at *
                go_wp2_with fail
                go_meet
                exact ⟨X1,X2,X3⟩
              case rest =>
               obtain ⟨BE',BZ',ow'⟩:=hcut
               clear BE BZ ow g0 g1 g2 g3 g4 fz n0 n1 n2 d0 SN HO HL HLL oc
               have BE:=BE';have BZ:=BZ';have ow:=ow'
               clear BE' BZ' ow'
               have hr:=HRR.out
               clear HRR HR
               obtain ⟨q,hqq⟩:∃ q,q=checkE ⟨3,a,0,b,c⟩:=⟨_,rfl⟩
               rw [← hqq] at hr
               have HQ:=Lib.hid hqq;have HRQ:=Lib.hid hr
               clear hqq hr
               have b0:=BE.at_ 0 rfl;have b1:=BE.at_ 1 rfl;have b2:=BE.at_ 2 rfl;have b3:=BE.at_ 3 rfl;have b4:=BE.at_ 4 rfl
               go_wp2_with fail
               refine Calls.mono (RCE_calls 3 a 0 b c _) ?_
               rintro e w13 ⟨rfl,bq⟩
               rw [show checkE ⟨3,a,0,b,c⟩=q from HQ.out.symm]
               replace BZ:=BZ.onto bq;replace ow:=ow.to bq;replace BE:=BE.onto bq
               clear bq b0 b1 b2 b3 b4
               by_cases hq0:q=0
               · have hr:=HRQ.out
                 rw [if_neg (by simp [hq0])] at hr
                 subst hr
                 have hq1:(q ==0)=true:=by simp [hq0]
                 have hq2:(q !=0)=false:=by simp [hq0]
                 have b0:=BE.at_ 0 rfl;have b1:=BE.at_ 1 rfl;have b2:=BE.at_ 2 rfl;have b3:=BE.at_ 3 rfl;have b4:=BE.at_ 4 rfl
                 clear hq0 HRQ
                 go_wp2_with (refine wpList_put BZ [.int .i64 3,.int .i64 a,.int .i64 0,.int .i64 b,.int .i64 c] 46 _ _ (by rfl) (by rfl) (by rfl) (by rfl) (by rfl) sizeE (by rfl) ?_)
                 have hF:=BZ.put (us:=[.int .i64 3,.int .i64 a,.int .i64 0,.int .i64 b,.int .i64 c]) rfl
                 have oF:=Onto.puts (b:=z) (o:=0) (us:=[.int .i64 3,.int .i64 a,.int .i64 0,.int .i64 b,.int .i64 c]) (by omega) ow
                 generalize World.setCells _ z 0 [.int .i64 3,.int .i64 a,.int .i64 0,.int .i64 b,.int .i64 c]=wF at hF oF ⊢
                 go_wp2_with fail
                 have p0:=hF.at_ 0 rfl;have p1:=hF.at_ 1 rfl;have p2:=hF.at_ 2 rfl;have p3:=hF.at_ 3 rfl;have p4:=hF.at_ 4 rfl
                 refine bodyPost_ret (v:=.tuple #[.agg #[.int .i64 3,.int .i64 a,.int .i64 0,.int .i64 b,.int .i64 c],.int .i64 0]) (by simp [results,Tryz.results94,go_sem,p0,p1,p2,p3,p4]) rfl ⟨rfl,oF⟩
               · have hr:=HRQ.out
                 rw [if_pos hq0] at hr
                 subst hr
                 have hq1:(q ==0)=false:=by simp [hq0]
                 have hq2:(q !=0)=true:=by simp [hq0]
                 clear hq0 BE HRQ
                 go_wp2_with (refine wpList_put BZ [.int .i64 0,.int .i64 0,.int .i64 0,.int .i64 0,.int .i64 0] 46 _ _ (by rfl) (by rfl) (by rfl) (by rfl) (by rfl) sizeE (by rfl) ?_)
                 have hF:=BZ.put (us:=[.int .i64 0,.int .i64 0,.int .i64 0,.int .i64 0,.int .i64 0]) rfl
                 have oF:=Onto.puts (b:=z) (o:=0) (us:=[.int .i64 0,.int .i64 0,.int .i64 0,.int .i64 0,.int .i64 0]) (by omega) ow
                 generalize World.setCells _ z 0 [.int .i64 0,.int .i64 0,.int .i64 0,.int .i64 0,.int .i64 0]=wF at hF oF ⊢
                 go_wp2_with fail
                 have p0:=hF.at_ 0 rfl;have p1:=hF.at_ 1 rfl;have p2:=hF.at_ 2 rfl;have p3:=hF.at_ 3 rfl;have p4:=hF.at_ 4 rfl
                 refine bodyPost_ret (v:=.tuple #[.agg #[.int .i64 0,.int .i64 0,.int .i64 0,.int .i64 0,.int .i64 0],.int .i64 q]) (by simp [results,Tryz.results94,go_sem,p0,p1,p2,p3,p4]) rfl ⟨rfl,oF⟩
            · have hr:r=(zeroE,1):=by rw [HR.out];unfold readWs;rw [List.headD_cons,show kindW [114,105,110,103]=some (3,3) from rfl];dsimp only;rw [List.tail_cons,if_pos hlen]
              have hl1:((ts.length:Int) ==3)=false:=by rw [beq_eq_false_iff_ne];omega
              have hl2:¬ (ts.length:Int)=3:=by omega
              clear HR HL HLL hlen
              subst hr
              have oc:Onto wr (wr.alloc (Obj.cells #[.int .i64 0,.int .i64 0,.int .i64 0,.int .i64 0,.int .i64 0] 46)):=(Onto.rfl' _).new _
              replace d0:=cellB oc d0
              replace BZ:=BZ.onto oc;replace ow:=ow.to oc
              go_wp2_with (refine wpList_put BZ [.int .i64 0,.int .i64 0,.int .i64 0,.int .i64 0,.int .i64 0] 46 _ _ (by rfl) (by rfl) (by rfl) (by rfl) (by rfl) sizeE (by rfl) ?_)
              have hF:=BZ.put (us:=[.int .i64 0,.int .i64 0,.int .i64 0,.int .i64 0,.int .i64 0]) rfl
              have oF:=Onto.puts (b:=z) (o:=0) (us:=[.int .i64 0,.int .i64 0,.int .i64 0,.int .i64 0,.int .i64 0]) (by omega) ow
              generalize World.setCells _ z 0 [.int .i64 0,.int .i64 0,.int .i64 0,.int .i64 0,.int .i64 0]=wF at hF oF ⊢
              go_wp2_with fail
              have p0:=hF.at_ 0 rfl;have p1:=hF.at_ 1 rfl;have p2:=hF.at_ 2 rfl;have p3:=hF.at_ 3 rfl;have p4:=hF.at_ 4 rfl
              refine bodyPost_ret (v:=.tuple #[.agg #[.int .i64 0,.int .i64 0,.int .i64 0,.int .i64 0,.int .i64 0],.int .i64 1]) (by simp [results,Tryz.results94,go_sem,p0,p1,p2,p3,p4]) rfl ⟨rfl,oF⟩
          · have hring:(y ==[114,105,110,103])=false:=by rw [beq_eq_false_iff_ne];exact hyring
            have hr:r=(zeroE,1):=by rw [HR.out];unfold readWs;rw [List.headD_cons,kindN hjunk hput hdrop hring]
            clear hyjunk hyput hydrop hyring HR HL HLL
            subst hr
            have oc:Onto wr (wr.alloc (Obj.cells #[.int .i64 0,.int .i64 0,.int .i64 0,.int .i64 0,.int .i64 0] 46)):=(Onto.rfl' _).new _
            replace d0:=cellB oc d0
            replace BZ:=BZ.onto oc;replace ow:=ow.to oc
            go_wp2_with (refine wpList_put BZ [.int .i64 0,.int .i64 0,.int .i64 0,.int .i64 0,.int .i64 0] 46 _ _ (by rfl) (by rfl) (by rfl) (by rfl) (by rfl) sizeE (by rfl) ?_)
            have hF:=BZ.put (us:=[.int .i64 0,.int .i64 0,.int .i64 0,.int .i64 0,.int .i64 0]) rfl
            have oF:=Onto.puts (b:=z) (o:=0) (us:=[.int .i64 0,.int .i64 0,.int .i64 0,.int .i64 0,.int .i64 0]) (by omega) ow
            generalize World.setCells _ z 0 [.int .i64 0,.int .i64 0,.int .i64 0,.int .i64 0,.int .i64 0]=wF at hF oF ⊢
            go_wp2_with fail
            have p0:=hF.at_ 0 rfl;have p1:=hF.at_ 1 rfl;have p2:=hF.at_ 2 rfl;have p3:=hF.at_ 3 rfl;have p4:=hF.at_ 4 rfl
            refine bodyPost_ret (v:=.tuple #[.agg #[.int .i64 0,.int .i64 0,.int .i64 0,.int .i64 0,.int .i64 0],.int .i64 1]) (by simp [results,Tryz.results94,go_sem,p0,p1,p2,p3,p4]) rfl ⟨rfl,oF⟩
end
section
open Go.RowKit
set_option maxHeartbeats 4000000 in
theorem RCR_calls (k a ep : Int) (x : Entry) (w : World) :
    Calls Tryz.prog 71 #[.agg #[.int .i64 k,.int .i64 a,.int .i64 ep,.int .i64 x.kind,.int .i64 x.job,.int .i64 x.every,.int .i64 x.time,.int .i64 x.client]] w fun e w'=>e=.returned (.int .i64 (checkR ⟨k,a,ep,x⟩))∧Onto w w':=by
 obtain ⟨r,hr⟩:∃ r,r=checkR ⟨k,a,ep,x⟩:=⟨_,rfl⟩
 rw [← hr]
 unfold checkR at hr
 simp only [ne_eq,entry_eq_iff,zeroE] at hr
 go_enter Tryz.func71,Tryz.ntmps71
 have hne:=neqE
 have HR:=Lib.hid hr
 clear hr
 go_wp2_with (first
  | (go_at_call 17;refine Calls.mono (in_calls _ _ _ _) ?_;rintro e w' ⟨rfl,rfl⟩)
  | (go_at_call 46;refine Calls.mono (RCE_calls x.kind x.job x.every x.time x.client _) ?_;rintro e w2 ⟨rfl,hb2⟩))
 all_goals
  go_ret
  refine ⟨ret_int ?_,?_⟩
  · rw [HR.out]
    clear HR hne
    (try simp only [beq_iff_eq,beq_eq_false_iff_ne,bne_iff_ne,bne_eq_false_iff_eq,ne_eq,Bool.and_eq_true,Bool.and_eq_false_iff,Bool.not_eq_true',Bool.not_eq_false',Bool.or_eq_true,Bool.or_eq_false_iff,decide_eq_true_eq,decide_eq_false_iff_not] at *)
    (repeat' split) <;> first | rfl | omega
  · repeat (first | exact Below.refl _ _ | exact Onto.to (by repeat (first | exact Below.refl _ _ | refine Below.alloc ?_ (by simp <;> omega) _)) hb2 | refine below_drewN ?_ _ | refine Below.alloc ?_ (by simp <;> omega) _)
end
end Go.Proofs.YtidlffepdcldkaaGreatDoor
