/- Part 24 of the proof: WUnits, WBehind, WCheckN. -/
import Derived.Test.YtidlffepdcldkaaGreatDoorBa21
import Derived.Test.YtidlffepdcldkaaGreatDoorBa20
import Derived.Test.YtidlffepdcldkaaGreatDoorBa11
import Derived.Test.YtidlffepdcldkaaGreatDoorBa13
import Derived.Test.YtidlffepdcldkaaGreatDoorBa17
namespace Go.Proofs.YtidlffepdcldkaaGreatDoor
set_option linter.unusedSimpArgs false
set_option linter.unusedVariables false
section
open Go.RowKit
def NV.uv (v:NV):UV:=⟨v.x.u.ep,v.A,v.n,v.c,v.x.u.cells⟩
theorem uv_unis (ns:List NV):unis (ns.map NV.uv)=unitsN (nods ns):=by simp [unis,unitsN,nods,Function.comp_def,NV.uv,UV.u]
theorem WR.us {w:World} {A C:Option Addr} {n m:Nat} {ns:List NV} {cs:List CV} (h:WR w A n C m ns cs) {B:Option Addr} {b:Nat} (hr:S w 2 B b ((ns.map NV.uv).map encU)):Us w B b (ns.map NV.uv) :=
 ⟨hr,fun v hv=>by obtain ⟨u,hu,rfl⟩:=List.mem_map.1 hv;exact (h.ni u hu).cells,fun v hv=>by obtain ⟨u,hu,rfl⟩:=List.mem_map.1 hv;exact ⟨(h.ni u hu).le,(h.ni u hu).max⟩⟩
theorem uinfo:(Tryz.prog.info? 51).map (fun i=>(i.zero,i.size,i.bytes))=some (some (.agg #[.int .i64 0,.slice none 0 0]),2,32):=by kernel_rfl
set_option maxHeartbeats 4000000 in
set_option maxRecDepth 100000 in
theorem units_calls (A : Option Addr) (n c : Nat) (tip : Int) (C : Option Addr) (m d : Nat) (time : Int) (ns : List NV) (cs : List CV) (w : World) (R : WR w A n C m ns cs) (hn : n ≤ 100) :
    Calls Tryz.prog 103 #[.agg #[.slice A n c,.int .i64 tip,.slice C m d,.int .i64 time]] w fun e w'=>∃ B b y,e=.returned (.slice B b y)∧Us w' B b (ns.map NV.uv)∧Onto w w':=by
 have hl:=R.nlen
 have HL:=Lib.hid hl
 clear hl
 go_enter Tryz.func103,Tryz.ntmps103
 go_wp2_with fail
 go_loopg [3,9] n (fun g s3 s9 wr=>∃ (k y:Nat) (B:Option Addr),k≤n∧n - k≤g∧s9=.int .i64 k∧s3=.slice B k y∧Hid (Own wr w.heap.size 51 2 (.slice B k y) k ((ns.take k).map fun v=>encU v.uv))∧Onto w wr)
 case atStart=>exact ⟨0,0,none,Nat.zero_le _,Nat.le_refl _,rfl,rfl,Own.nil _ _ _ _,by repeat (first | exact Onto.rfl' _ | refine Onto.new ?_ _)⟩
 case round =>
  obtain ⟨k,y,B,hk,hg,rfl,rfl,HO,on⟩:=hrel
  have hol:=HO.out.lt
  by_cases hlt:k<n
  · obtain ⟨b,off,v,rfl,hb,hv,vi,d0,d1,d2,d3,d4⟩:=(R.onto on).atN hlt
    have hsw:=on.size
    obtain ⟨i0,hi0,hzz0,hzz1,hzz2⟩:=info_parts uinfo
    have HI0:=Lib.hid hi0;have HZ0:=Lib.hid hzz0;have HZ1:=Lib.hid hzz1;have HZ2:=Lib.hid hzz2
    have HV:=Lib.hid hv
    clear hi0 hzz0 hzz1 hzz2 hv vi
    go_upto_region 5 with fail
    refine wp_box1 (v1:=[.int .i64 v.x.u.ep,.slice v.A v.n v.c,.slice v.F v.k v.i,.slice v.G v.l v.j,.bool v.x.up]) rfl fun w5 ob BV=>?_
    have HO5:=Lib.hid (HO.out.below ob)
    replace on:=on.to ob
    clear HO ob d0 d1 d2 d3 d4 hb
    generalize wr.heap.size=zr at *
    have b0:=BV.at_ 0 rfl;have b1:=BV.at_ 1 rfl
    have hs5:=on.size
    have hnew:Sl (w5.alloc (Obj.cells #[.int .i64 v.x.u.ep,.slice v.A v.n v.c] 51)) (w5.heap.size+1) 2 (some ⟨w5.heap.size,0,none⟩) 1 [encU v.uv]:=by
     have:=Sl.block (w:=w5.alloc (Obj.cells #[.int .i64 v.x.u.ep,.slice v.A v.n v.c] 51)) (k:=2) [encU v.uv] (heap_alloc_new w5 _) (by simp [encU]) rfl
     simpa using this
    have HNEW:=Lib.hid hnew
    clear hnew
    go_wp2_with (at_builtin;refine wpList_append_sl _ rfl _ _ 154 rfl w.heap.size 51 i0 _ 2 32 Tryz.underlying154 HI0.out HZ0.out HZ1.out HZ2.out rfl (by decide) (.slice B k y) k ((ns.take k).map fun v=>encU v.uv) (by rfl) (HO5.out.alloc _) (w5.heap.size+1) (some ⟨w5.heap.size,0,none⟩) 1 1 [encU v.uv] (by rfl) HNEW.out (by simp [encU,Value.oneCell']) (by unfold maxLen;omega) (by omega) (by simp;omega) ?_)
    intro v8 w8 own8 grow8 hv8
    obtain ⟨A8,c8,rfl,_,_⟩:=own8.slice
    have on8:Onto w w8:=below_grown (on.new _) (by simp;omega) grow8 (fun g hg=>(HO5.out.lt g hg).1)
    have HO8:=Lib.hid own8
    clear own8 grow8 hv8 HO5 HNEW HI0 HZ0 HZ1 HZ2 b0 b1 BV on
    go_wp2_with fail
    go_roundg (n - (k+1))
    case measure=>omega
    case rel =>
     refine ⟨k+1,c8,A8,by omega,Nat.le_refl _,by go_num,rfl,?_,on8⟩
     refine Lib.hid ?_
     have e:(ns.take (k+1)).map (fun v=>encU v.uv)=(ns.take k).map (fun v=>encU v.uv) ++[encU v.uv]:=by
      obtain ⟨h2,rfl⟩:=List.getElem?_eq_some_iff.1 HV.out
      rw [List.take_add_one,HV.out,List.map_append];rfl
     rw [e]
     first | exact HO8.out | (rw [List.map_take];exact HO8.out)
  · obtain rfl:k=n:=by omega
    have hall:(ns.take k).map (fun v=>encU v.uv)=(ns.map NV.uv).map encU:=by
     rw [List.take_of_length_le (by have:=HL.out;omega),List.map_map];rfl
    have HA:=Lib.hid hall
    have RW:=R.onto on
    have HR:=Lib.hid RW
    clear hall R RW
    go_wp2_with fail
    go_ret
    refine ⟨B,k,y,rfl,HR.out.us ?_,on⟩
    rw [← HA.out]
    exact HO.out.sl
end
section
open Go.RowKit
set_option maxHeartbeats 4000000 in
set_option maxRecDepth 100000 in
theorem behind_calls (ep ep' : Int) (A A' : Option Addr) (c d : Nat) (us vs : List Entry) (w : World) (h : S w 5 A 60 (us.map encE)) (h' : S w 5 A' 60 (vs.map encE)) :
    Calls Tryz.prog 38 #[.agg #[.int .i64 ep,.slice A 60 c],.agg #[.int .i64 ep',.slice A' 60 d]] w fun e w'=>e=.returned (.bool (decide (fitC vs us)))∧Onto w w':=by
 obtain ⟨r,hr⟩:∃ r,r=decide (fitC vs us):=⟨_,rfl⟩
 rw [← hr]
 have HR:=Lib.hid hr
 have hne:=neqE
 clear hr
 go_enter Tryz.func38,Tryz.ntmps38
 go_upto_region 1 with fail
 have o1:=((Onto.rfl' w).new (Obj.cells #[.int .i64 ep,.slice A 60 c] 51)).new (Obj.cells #[.int .i64 ep',.slice A' 60 d] 51)
 have BU:Bx ((w.alloc (Obj.cells #[.int .i64 ep,.slice A 60 c] 51)).alloc (Obj.cells #[.int .i64 ep',.slice A' 60 d] 51)) w.heap.size [.int .i64 ep,.slice A 60 c]:=(Bx.made _ _ _).new _
 have BV:Bx ((w.alloc (Obj.cells #[.int .i64 ep,.slice A 60 c] 51)).alloc (Obj.cells #[.int .i64 ep',.slice A' 60 d] 51)) (w.heap.size+1) [.int .i64 ep',.slice A' 60 d]:=by
  have:=Bx.made (w.alloc (Obj.cells #[.int .i64 ep,.slice A 60 c] 51)) #[.int .i64 ep',.slice A' 60 d] 51
  simpa using this
 replace h:=h.onto o1;replace h':=h'.onto o1
 change Code.wp _ _ _ _ ((w.alloc (Obj.cells #[.int .i64 ep,.slice A 60 c] 51)).alloc (Obj.cells #[.int .i64 ep',.slice A' 60 d] 51))
 generalize ((w.alloc (Obj.cells #[.int .i64 ep,.slice A 60 c] 51)).alloc (Obj.cells #[.int .i64 ep',.slice A' 60 d] 51))=w1 at *
 generalize hzu:w.heap.size=zu at BU BV
 clear hzu
 have u1:=BU.at_ 1 rfl
 have v1:=BV.at_ 1 rfl
 go_wp2_with fail
 go_loopw [10] (fun s ws=>∃ k:Nat,k≤60∧s=.int .i64 k∧Onto w1 ws∧Hid (∀ j,j<k→(cellAt us j).kind=4∨cellAt vs j=cellAt us j)) (fun s _=>60 - (intOf s).toNat)
 case atStart=>exact ⟨0,by omega,rfl,Below.refl _ _,fun j hj=>absurd hj (Nat.not_lt_zero _)⟩
 case round =>
  obtain ⟨k,hk,rfl,hbs,HJ⟩:=hrel
  by_cases hkl:k<60
  · obtain ⟨b1,off1,x,hA1,hz1,hx,c0,c1,c2,c3,c4⟩:=(h.onto hbs).atE hkl
    obtain ⟨b2,off2,y,hA2,hz2,hy,d0,d1,d2,d3,d4⟩:=(h'.onto hbs).atE hkl
    have ev2:=cellB hbs v1
    have hz3:=World.block_lt_of_cell? _ _ ev2
    simp only at hz3
    rw [hA2] at ev2
    rw [hA1]
    have HX:=Lib.hid (cellAt_eq hx);have HY:=Lib.hid (cellAt_eq hy)
    have hal2:Onto wr (wr.alloc (Obj.cells #[.int .i64 x.kind,.int .i64 x.job,.int .i64 x.every,.int .i64 x.time,.int .i64 x.client] 46)):=(Below.refl _ _).alloc (Nat.le_refl _) _
    have hkk:(k:Int)<60:=by omega
    clear hx hy u1 v1 BU BV hA1 hA2
    by_cases h4:x.kind=4
    · have hd:(x.kind !=4)=false:=by simp [h4]
      have HH:=Lib.hid h4
      clear h4
      go_wp2_with fail
      go_quiet (fail)
      go_wp2_with fail
      go_roundw
      case measure=>simp [intOf] <;> omega
      case rel =>
       refine ⟨k+1,by omega,by go_num,Onto.to hbs (Onto.draws hal2 _),?_⟩
       show ∀ j,_
       intro j hj
       by_cases hjk:j=k
       · subst hjk;rw [HX.out];exact .inl HH.out
       · exact HJ.out j (by omega)
    · have hd:(x.kind !=4)=true:=by simpa using h4
      by_cases hxy:y=x
      · have hd2:(!(y.kind ==x.kind && y.job ==x.job && y.every ==x.every && y.time ==x.time && y.client ==x.client))=false:=by simp [hxy]
        have HH:=Lib.hid hxy
        clear h4 hxy
        go_wp2_with fail
        go_quiet (fail)
        go_wp2_with fail
        go_roundw
        case measure=>simp [intOf] <;> omega
        case rel =>
         refine ⟨k+1,by omega,by go_num,Onto.to hbs (Onto.draws hal2 _),?_⟩
         show ∀ j,_
         intro j hj
         by_cases hjk:j=k
         · subst hjk;rw [HX.out,HY.out];exact .inr HH.out
         · exact HJ.out j (by omega)
      · have hd2:(!(y.kind ==x.kind && y.job ==x.job && y.every ==x.every && y.time ==x.time && y.client ==x.client))=true:=by
         rw [entry_eq_iff] at hxy
         simp only [Bool.not_eq_true',Bool.and_eq_false_iff,beq_eq_false_iff_ne]
         omega
        have hfin:false=r:=by
         rw [HR.out,eq_comm,decide_eq_false_iff_not]
         intro hf
         have:=hf k hkl
         rw [show cellAt us k=x from HX.out,show cellAt vs k=y from HY.out] at this
         rcases this with e | e
         · exact h4 e
         · exact hxy e
        have HF:=Lib.hid hfin
        clear h4 hxy hfin
        go_wp2_with fail
        go_quiet (fail)
        go_wp2_with fail
        go_ret
        exact ⟨ret_bool HF.out,Onto.to o1 (Onto.to hbs (Onto.draws hal2 _))⟩
  · obtain rfl:k=60:=by omega
    have hfin:true=r:=by
     rw [HR.out,eq_comm,decide_eq_true_eq]
     exact HJ.out
    have HF:=Lib.hid hfin
    clear hfin
    go_wp2_with fail
    go_ret
    exact ⟨ret_bool HF.out,Onto.to o1 hbs⟩
end
section
open Go.RowKit
attribute [local go_sem ↓] Go.wp_at_zero Go.wp_at_succ
theorem URPost2.bad {w w':World} {q:Int} {v:Value} (h:v=.tuple #[.agg #[.int .i64 0,.slice none 0 0],.int .i64 q]) (on:Onto w w'):URPost2 w zeroU q (.returned v) w':=⟨none,0,0,by rw [h];rfl,Sl.nil,on,Fresh.none_ _,by omega,by simp [maxLen]⟩
theorem DK.safe_only {w:World} {A A':Option Addr} {n c m d:Nat} {x:Dsk} (h:DK w A n c A' m d x):DK w A n c none 0 0 ⟨x.safe,[]⟩:=⟨h.safe,Sl.nil,h.n_le,h.c_le,by omega,by simp [maxLen]⟩
set_option maxHeartbeats 8000000 in
set_option maxRecDepth 100000 in
theorem wcheck_calls (v : NV) (w : World) (E : Env w) (I : v.In w) :
    Calls Tryz.prog 37 #[.agg #[.int .i64 v.x.u.ep,.slice v.A v.n v.c,.slice v.F v.k v.i,.slice v.G v.l v.j,.bool v.x.up]] w (URPost2 w (checkN v.x).1 (checkN v.x).2):=by
 obtain ⟨q,hq⟩:∃ q,q=checkK v.x.d:=⟨_,rfl⟩
 obtain ⟨R1,hR1⟩:∃ q,q=recoverK ⟨v.x.d.safe,[]⟩:=⟨_,rfl⟩
 obtain ⟨U1,hU1⟩:∃ q,q=unitL R1.2.1:=⟨_,rfl⟩
 obtain ⟨R2,hR2⟩:∃ q,q=recoverK v.x.d:=⟨_,rfl⟩
 obtain ⟨r,hr⟩:∃ r,r=checkN v.x:=⟨_,rfl⟩
 rw [← hr]
 unfold checkN at hr
 rw [← hq,← hR1,← hU1,← hR2] at hr
 have hm:=I.disk.m_eq
 rw [← hm] at hr
 have HQ:=Lib.hid hq;have HR1:=Lib.hid hR1;have HU1:=Lib.hid hU1;have HR2:=Lib.hid hR2;have HR:=Lib.hid hr
 have hcl:v.x.u.cells.length=v.n:=by have:=I.cells.len;simpa using this
 have hn6:v.n≤9223372036854775807:=by have:=I.le;have:=I.max;unfold maxLen at *;omega
 have HN6:=Lib.hid hn6
 have hl6:v.l≤9223372036854775807:=by have:=I.disk.m_le;have:=I.disk.d_le;unfold maxLen at *;omega
 clear hq hR1 hU1 hR2 hr hm hcl hn6
 go_enter Tryz.func37,Tryz.ntmps37
 go_upto_region 1 with fail
 have on:=((Onto.rfl' w).new (Obj.cells #[.int .i64 v.x.u.ep,.slice v.A v.n v.c,.slice v.F v.k v.i,.slice v.G v.l v.j,.bool v.x.up] 56)).new (Obj.cells #[.int .i64 0,.slice none 0 0] 51)
 have B:Bx ((w.alloc (Obj.cells #[.int .i64 v.x.u.ep,.slice v.A v.n v.c,.slice v.F v.k v.i,.slice v.G v.l v.j,.bool v.x.up] 56)).alloc (Obj.cells #[.int .i64 0,.slice none 0 0] 51)) w.heap.size [.int .i64 v.x.u.ep,.slice v.A v.n v.c,.slice v.F v.k v.i,.slice v.G v.l v.j,.bool v.x.up]:=(Bx.made _ _ _).new _
 have Z:Bx ((w.alloc (Obj.cells #[.int .i64 v.x.u.ep,.slice v.A v.n v.c,.slice v.F v.k v.i,.slice v.G v.l v.j,.bool v.x.up] 56)).alloc (Obj.cells #[.int .i64 0,.slice none 0 0] 51)) (w.heap.size+1) [.int .i64 0,.slice none 0 0]:=by
  have:=Bx.made (w.alloc (Obj.cells #[.int .i64 v.x.u.ep,.slice v.A v.n v.c,.slice v.F v.k v.i,.slice v.G v.l v.j,.bool v.x.up] 56)) #[.int .i64 0,.slice none 0 0] 51
  simpa using this
 have hz1:w.heap.size≤w.heap.size+1:=by omega
 have hz2:w.heap.size≠w.heap.size+1:=by omega
 change Code.wp _ _ _ _ ((w.alloc (Obj.cells #[.int .i64 v.x.u.ep,.slice v.A v.n v.c,.slice v.F v.k v.i,.slice v.G v.l v.j,.bool v.x.up] 56)).alloc (Obj.cells #[.int .i64 0,.slice none 0 0] 51))
 generalize ((w.alloc (Obj.cells #[.int .i64 v.x.u.ep,.slice v.A v.n v.c,.slice v.F v.k v.i,.slice v.G v.l v.j,.bool v.x.up] 56)).alloc (Obj.cells #[.int .i64 0,.slice none 0 0] 51))=w1 at *
 generalize w.heap.size+1=z at Z hz1 hz2
 generalize hzb:w.heap.size=zb at B hz2
 clear hzb
 replace I:=I.onto on
 have b2:=B.at_ 2 rfl;have b3:=B.at_ 3 rfl
 go_wp2_with fail
 refine Calls.mono (DCheck_calls v.F v.G v.k v.i v.l v.j v.x.d _ (E.onto on) I.disk) ?_
 rintro e w2 ⟨rfl,b⟩
 rw [show checkK v.x.d=q from HQ.out.symm]
 replace on:=on.to b;replace B:=B.onto b;replace Z:=Z.onto b;replace I:=I.onto b
 clear b b2 b3
 by_cases hq0:q=0
 · subst hq0
   have hr:=HR.out
   rw [if_neg (by simp)] at hr
   replace HR:=Lib.hid hr
   clear hr
   go_upto_region 4 with fail
   have b0:=B.at_ 0 rfl;have b1:=B.at_ 1 rfl;have b2:=B.at_ 2 rfl;have b3:=B.at_ 3 rfl;have b4:=B.at_ 4 rfl
   have c0:=Z.at_ 0 rfl;have c1:=Z.at_ 1 rfl;have g0:=Z.froz 0;have g1:=Z.froz 1
   by_cases hup:v.x.up=true∧0<v.l
   · have hr:=HR.out
     rw [if_pos hup] at hr
     have HR2:=Lib.hid hr
     obtain ⟨hu1,hu2⟩:=hup
     have hu3:(0:Int)<(v.l:Int):=by omega
     clear hr HR
     rw [hu1] at b4
     go_wp2_with fail
     refine bodyPost_ret (v:=.tuple #[.agg #[.int .i64 0,.slice none 0 0],.int .i64 4]) (by simp [results,Tryz.results37,go_sem,c0,c1,g0,g1]) rfl ?_
     rw [HR2.out]
     exact URPost2.bad rfl ((on.put hz1 _).put hz1 _)
   · have hr:=HR.out
     rw [if_neg hup] at hr
     replace HR:=Lib.hid hr
     clear hr
     have hup2:v.x.up=false∨(v.x.up=true∧v.l=0):=by
      rcases Bool.eq_false_or_eq_true v.x.up with h | h
      · exact .inr ⟨h,Nat.eq_zero_of_not_pos fun h0=>hup ⟨h,h0⟩⟩
      · exact .inl h
     clear hup
     rcases hup2 with hu1 | ⟨hu1,hu2⟩
     · rw [hu1] at b4
       go_upto_region 6 with fail
       clear hu1
       clear c0 c1 g0 g1 b0 b1 b3 b4
       go_wp2_with fail
       refine Calls.mono (DRecover_calls v.F none v.k v.i 0 0 ⟨v.x.d.safe,[]⟩ _ (E.onto on) I.disk.safe_only) ?_
       rw [show recoverK ⟨v.x.d.safe,[]⟩=R1 from HR1.out.symm]
       unfold RvPost
       rintro e w3 ⟨F1,k1,i1,G1,l1,j1,L,ln,ly,rfl,_,sL,_,_,_,_,_,b⟩
       replace on:=on.to b;replace B:=B.onto b;replace Z:=Z.onto b;replace I:=I.onto b
       clear b b2
       go_upto_region 7 with fail
       have ob:=(Onto.rfl' w3).new (Obj.cells #[.slice F1 k1 i1,.slice G1 l1 j1] 54)
       replace on:=on.to ob;replace B:=B.onto ob;replace Z:=Z.onto ob;replace I:=I.onto ob;replace sL:=sL.onto ob
       clear ob
       try change Code.wp _ _ _ _ (w3.alloc (Obj.cells #[.slice F1 k1 i1,.slice G1 l1 j1] 54))
       generalize (w3.alloc (Obj.cells #[.slice F1 k1 i1,.slice G1 l1 j1] 54))=w4 at *
       generalize w3.heap.size=zd at *
       go_wp2_with fail
       refine Calls.mono (UReplay2_calls L ln ly R1.2.1 _ sL) ?_
       rw [show unitL R1.2.1=U1 from HU1.out.symm]
       unfold URPost2
       rintro e w5 ⟨A1,n1,c1,rfl,s1,b,_,_,_⟩
       replace on:=on.to b;replace B:=B.onto b;replace Z:=Z.onto b;replace I:=I.onto b
       clear b sL
       go_upto_region 8 with fail
       refine wp_box1 (v1:=[.int .i64 U1.1.ep,.slice A1 n1 c1]) rfl fun w6 ob X=>?_
       replace on:=on.to ob;replace B:=B.onto ob;replace Z:=Z.onto ob;replace I:=I.onto ob;replace s1:=s1.onto ob
       clear ob
       generalize w5.heap.size=zx at *
       have hn1:n1≤60:=by have:=s1.len;have h2:=unitL_len R1.2.1;rw [← HU1.out] at h2;simp at this;omega
       have hn16:n1≤9223372036854775807:=by omega
       have HN1:=Lib.hid hn16
       clear hn1 hn16
       obtain ⟨q2,hq2⟩:∃ q,q=U1.2:=⟨_,rfl⟩
       rw [← hq2]
       have hr:=HR.out
       rw [← hq2] at hr
       replace HR:=Lib.hid hr
       clear hr hq2
       have b0:=B.at_ 0 rfl;have b1:=B.at_ 1 rfl;have x0:=X.at_ 0 rfl;have x1:=X.at_ 1 rfl
       by_cases hq20:q2=0
       · subst hq20
         go_wp2_with fail
         refine Calls.mono (USame_calls U1.1.ep v.x.u.ep A1 v.A n1 c1 v.n v.c U1.1.cells v.x.u.cells _ s1 I.cells HN1.out) ?_
         rintro e w7 ⟨rfl,b⟩
         replace on:=on.to b;replace B:=B.onto b;replace Z:=Z.onto b;replace I:=I.onto b
         clear b b0 b1 x0 x1 X s1
         have hr:=HR.out
         rw [if_neg (by simp)] at hr
         by_cases hs:U1.1=v.x.u
         · rw [if_neg (by simpa using hs)] at hr
           have HR2':=Lib.hid hr
           have hsd:decide ((⟨U1.1.ep,U1.1.cells⟩:Uni)=⟨v.x.u.ep,v.x.u.cells⟩)=true:=by rw [decide_eq_true_eq];exact hs
           rw [hsd]
           clear hr HR hs hsd
           have b2:=B.at_ 2 rfl;have b3:=B.at_ 3 rfl
           go_wp2_with fail
           refine Calls.mono (DRecover_calls v.F v.G v.k v.i v.l v.j v.x.d _ (E.onto on) I.disk) ?_
           rw [show recoverK v.x.d=R2 from HR2.out.symm]
           unfold RvPost
           rintro e w8 ⟨F2,k2,i2,G2,l2,j2,L2,ln2,ly2,rfl,_,sL,_,_,_,_,_,b⟩
           replace on:=on.to b;replace Z:=Z.onto b
           clear b b2 b3 B I
           go_wp2_with fail
           refine Calls.mono (UReplay2_calls L2 ln2 ly2 R2.2.1 _ sL) ?_
           rw [← HR2'.out]
           unfold URPost2
           rintro e w9 ⟨A3,n3,c3,rfl,s3,b,f3,hc3,hm3⟩
           have hzl:=Z.lt
           have o3:OffN n3 z A3:=f3.offN hzl
           have f3':Fresh w.heap.size A3:=fun a e=>Nat.le_trans on.size (f3 a e)
           replace on:=on.to b;replace Z:=Z.onto b
           clear b sL f3
           have c0:=Z.at_ 0 rfl;have c1:=Z.at_ 1 rfl;have g0:=Z.froz 0;have g1:=Z.froz 1
           go_wp2_with fail
           refine bodyPost_ret (v:=.tuple #[.agg #[.int .i64 r.1.ep,.slice A3 n3 c3],.int .i64 r.2]) (by simp [results,Tryz.results37,go_sem,c0,c1,g0,g1]) rfl ?_
           exact ⟨A3,n3,c3,rfl,S.off (S.off s3 o3 _) o3 _,(on.put hz1 _).put hz1 _,f3',hc3,hm3⟩
         · rw [if_pos (by simpa using hs)] at hr
           have HR2':=Lib.hid hr
           have hsd:decide ((⟨U1.1.ep,U1.1.cells⟩:Uni)=⟨v.x.u.ep,v.x.u.cells⟩)=false:=by
            rw [decide_eq_false_iff_not];exact hs
           rw [hsd]
           clear hr HR hs hsd
           have c0:=Z.at_ 0 rfl;have c1:=Z.at_ 1 rfl;have g0:=Z.froz 0;have g1:=Z.froz 1
           go_wp2_with fail
           refine bodyPost_ret (v:=.tuple #[.agg #[.int .i64 0,.slice none 0 0],.int .i64 4]) (by simp [results,Tryz.results37,go_sem,c0,c1,g0,g1]) rfl ?_
           rw [HR2'.out]
           exact URPost2.bad rfl ((on.put hz1 _).put hz1 _)
       · have hr:=HR.out
         rw [if_pos hq20] at hr
         have HR2':=Lib.hid hr
         have hqd:(q2 !=0)=true:=by simpa using hq20
         have hqe:(q2 ==0)=false:=by simpa using hq20
         clear hr HR hq20
         have c0:=Z.at_ 0 rfl;have c1:=Z.at_ 1 rfl;have g0:=Z.froz 0;have g1:=Z.froz 1
         go_wp2_with fail
         refine bodyPost_ret (v:=.tuple #[.agg #[.int .i64 0,.slice none 0 0],.int .i64 q2]) (by simp [results,Tryz.results37,go_sem,c0,c1,g0,g1]) rfl ?_
         rw [HR2'.out]
         exact URPost2.bad rfl ((on.put hz1 _).put hz1 _)
     · rw [hu1] at b4;rw [hu2] at b3
       go_upto_region 6 with fail
       clear hu1 hu2
       clear c0 c1 g0 g1 b0 b1 b3 b4
       go_wp2_with fail
       refine Calls.mono (DRecover_calls v.F none v.k v.i 0 0 ⟨v.x.d.safe,[]⟩ _ (E.onto on) I.disk.safe_only) ?_
       rw [show recoverK ⟨v.x.d.safe,[]⟩=R1 from HR1.out.symm]
       unfold RvPost
       rintro e w3 ⟨F1,k1,i1,G1,l1,j1,L,ln,ly,rfl,_,sL,_,_,_,_,_,b⟩
       replace on:=on.to b;replace B:=B.onto b;replace Z:=Z.onto b;replace I:=I.onto b
       clear b b2
       go_upto_region 7 with fail
       have ob:=(Onto.rfl' w3).new (Obj.cells #[.slice F1 k1 i1,.slice G1 l1 j1] 54)
       replace on:=on.to ob;replace B:=B.onto ob;replace Z:=Z.onto ob;replace I:=I.onto ob;replace sL:=sL.onto ob
       clear ob
       try change Code.wp _ _ _ _ (w3.alloc (Obj.cells #[.slice F1 k1 i1,.slice G1 l1 j1] 54))
       generalize (w3.alloc (Obj.cells #[.slice F1 k1 i1,.slice G1 l1 j1] 54))=w4 at *
       generalize w3.heap.size=zd at *
       go_wp2_with fail
       refine Calls.mono (UReplay2_calls L ln ly R1.2.1 _ sL) ?_
       rw [show unitL R1.2.1=U1 from HU1.out.symm]
       unfold URPost2
       rintro e w5 ⟨A1,n1,c1,rfl,s1,b,_,_,_⟩
       replace on:=on.to b;replace B:=B.onto b;replace Z:=Z.onto b;replace I:=I.onto b
       clear b sL
       go_upto_region 8 with fail
       refine wp_box1 (v1:=[.int .i64 U1.1.ep,.slice A1 n1 c1]) rfl fun w6 ob X=>?_
       replace on:=on.to ob;replace B:=B.onto ob;replace Z:=Z.onto ob;replace I:=I.onto ob;replace s1:=s1.onto ob
       clear ob
       generalize w5.heap.size=zx at *
       have hn1:n1≤60:=by have:=s1.len;have h2:=unitL_len R1.2.1;rw [← HU1.out] at h2;simp at this;omega
       have hn16:n1≤9223372036854775807:=by omega
       have HN1:=Lib.hid hn16
       clear hn1 hn16
       obtain ⟨q2,hq2⟩:∃ q,q=U1.2:=⟨_,rfl⟩
       rw [← hq2]
       have hr:=HR.out
       rw [← hq2] at hr
       replace HR:=Lib.hid hr
       clear hr hq2
       have b0:=B.at_ 0 rfl;have b1:=B.at_ 1 rfl;have x0:=X.at_ 0 rfl;have x1:=X.at_ 1 rfl
       by_cases hq20:q2=0
       · subst hq20
         go_wp2_with fail
         refine Calls.mono (USame_calls U1.1.ep v.x.u.ep A1 v.A n1 c1 v.n v.c U1.1.cells v.x.u.cells _ s1 I.cells HN1.out) ?_
         rintro e w7 ⟨rfl,b⟩
         replace on:=on.to b;replace B:=B.onto b;replace Z:=Z.onto b;replace I:=I.onto b
         clear b b0 b1 x0 x1 X s1
         have hr:=HR.out
         rw [if_neg (by simp)] at hr
         by_cases hs:U1.1=v.x.u
         · rw [if_neg (by simpa using hs)] at hr
           have HR2':=Lib.hid hr
           have hsd:decide ((⟨U1.1.ep,U1.1.cells⟩:Uni)=⟨v.x.u.ep,v.x.u.cells⟩)=true:=by rw [decide_eq_true_eq];exact hs
           rw [hsd]
           clear hr HR hs hsd
           have b2:=B.at_ 2 rfl;have b3:=B.at_ 3 rfl
           go_wp2_with fail
           refine Calls.mono (DRecover_calls v.F v.G v.k v.i v.l v.j v.x.d _ (E.onto on) I.disk) ?_
           rw [show recoverK v.x.d=R2 from HR2.out.symm]
           unfold RvPost
           rintro e w8 ⟨F2,k2,i2,G2,l2,j2,L2,ln2,ly2,rfl,_,sL,_,_,_,_,_,b⟩
           replace on:=on.to b;replace Z:=Z.onto b
           clear b b2 b3 B I
           go_wp2_with fail
           refine Calls.mono (UReplay2_calls L2 ln2 ly2 R2.2.1 _ sL) ?_
           rw [← HR2'.out]
           unfold URPost2
           rintro e w9 ⟨A3,n3,c3,rfl,s3,b,f3,hc3,hm3⟩
           have hzl:=Z.lt
           have o3:OffN n3 z A3:=f3.offN hzl
           have f3':Fresh w.heap.size A3:=fun a e=>Nat.le_trans on.size (f3 a e)
           replace on:=on.to b;replace Z:=Z.onto b
           clear b sL f3
           have c0:=Z.at_ 0 rfl;have c1:=Z.at_ 1 rfl;have g0:=Z.froz 0;have g1:=Z.froz 1
           go_wp2_with fail
           refine bodyPost_ret (v:=.tuple #[.agg #[.int .i64 r.1.ep,.slice A3 n3 c3],.int .i64 r.2]) (by simp [results,Tryz.results37,go_sem,c0,c1,g0,g1]) rfl ?_
           exact ⟨A3,n3,c3,rfl,S.off (S.off s3 o3 _) o3 _,(on.put hz1 _).put hz1 _,f3',hc3,hm3⟩
         · rw [if_pos (by simpa using hs)] at hr
           have HR2':=Lib.hid hr
           have hsd:decide ((⟨U1.1.ep,U1.1.cells⟩:Uni)=⟨v.x.u.ep,v.x.u.cells⟩)=false:=by
            rw [decide_eq_false_iff_not];exact hs
           rw [hsd]
           clear hr HR hs hsd
           have c0:=Z.at_ 0 rfl;have c1:=Z.at_ 1 rfl;have g0:=Z.froz 0;have g1:=Z.froz 1
           go_wp2_with fail
           refine bodyPost_ret (v:=.tuple #[.agg #[.int .i64 0,.slice none 0 0],.int .i64 4]) (by simp [results,Tryz.results37,go_sem,c0,c1,g0,g1]) rfl ?_
           rw [HR2'.out]
           exact URPost2.bad rfl ((on.put hz1 _).put hz1 _)
       · have hr:=HR.out
         rw [if_pos hq20] at hr
         have HR2':=Lib.hid hr
         have hqd:(q2 !=0)=true:=by simpa using hq20
         have hqe:(q2 ==0)=false:=by simpa using hq20
         clear hr HR hq20
         have c0:=Z.at_ 0 rfl;have c1:=Z.at_ 1 rfl;have g0:=Z.froz 0;have g1:=Z.froz 1
         go_wp2_with fail
         refine bodyPost_ret (v:=.tuple #[.agg #[.int .i64 0,.slice none 0 0],.int .i64 q2]) (by simp [results,Tryz.results37,go_sem,c0,c1,g0,g1]) rfl ?_
         rw [HR2'.out]
         exact URPost2.bad rfl ((on.put hz1 _).put hz1 _)
 · have hr:=HR.out
   rw [if_pos hq0] at hr
   have HR2:=Lib.hid hr
   have hqd:(q !=0)=true:=by simpa using hq0
   clear hr HR hq0
   have c0:=Z.at_ 0 rfl;have c1:=Z.at_ 1 rfl;have g0:=Z.froz 0;have g1:=Z.froz 1
   go_wp2_with fail
   refine bodyPost_ret (v:=.tuple #[.agg #[.int .i64 0,.slice none 0 0],.int .i64 q]) (by simp [results,Tryz.results37,go_sem,c0,c1,g0,g1]) rfl ?_
   rw [HR2.out]
   exact URPost2.bad rfl ((on.put hz1 _).put hz1 _)
end
end Go.Proofs.YtidlffepdcldkaaGreatDoor
