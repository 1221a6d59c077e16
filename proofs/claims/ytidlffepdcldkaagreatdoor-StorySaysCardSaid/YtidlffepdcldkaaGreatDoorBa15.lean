/- Part 15 of the proof: Insert, Delete. -/
import Derived.Test.YtidlffepdcldkaaGreatDoorProg
import Derived.Test.YtidlffepdcldkaaGreatDoorBa02
import Derived.Test.YtidlffepdcldkaaGreatDoorBa13
import Derived.Deep.RegionLaw
namespace Go.Proofs.YtidlffepdcldkaaGreatDoor
set_option linter.unusedSimpArgs false
set_option linter.unusedVariables false
section
open Go.RowKit
theorem take_flatten {α:Type} {k:Nat}:∀ {rows:List (List α)} (i:Nat),(∀ r∈rows,r.length=k)→(rows.take i).flatten=rows.flatten.take (i*k)
 | [],i,_=>by simp
 | r ::rows,0,_=>by simp
 | r ::rows,i+1,h=>by
   have hr:r.length=k:=h r (by simp)
   have ih:=take_flatten (rows:=rows) i (fun r' h'=>h r' (by simp [h']))
   rw [List.take_succ_cons,List.flatten_cons,ih,List.flatten_cons]
   rw [show (i+1)*k=r.length+i*k by rw [hr,Nat.add_mul];omega,List.take_length_add_append]
theorem drop_flatten {α:Type} {k:Nat}:∀ {rows:List (List α)} (i:Nat),(∀ r∈rows,r.length=k)→(rows.drop i).flatten=rows.flatten.drop (i*k)
 | [],i,_=>by simp
 | r ::rows,0,_=>by simp
 | r ::rows,i+1,h=>by
   have hr:r.length=k:=h r (by simp)
   have ih:=drop_flatten (rows:=rows) i (fun r' h'=>h r' (by simp [h']))
   rw [List.drop_succ_cons,ih,List.flatten_cons]
   rw [show (i+1)*k=r.length+i*k by rw [hr,Nat.add_mul];omega,List.drop_length_add_append]
set_option maxHeartbeats 4000000 in
set_option maxRecDepth 100000 in
theorem Insert_calls (base : Nat) (A : Option Addr) (n c i vb : Nat) (rows : List (List Value)) (x0 x1 x2 : Value) (w : World) (hown : Own w base 82 3 (.slice A n c) n rows)
    (h1:∀ r∈rows,∀ u∈r,u.oneCell'=true) (h1x:∀ u∈[x0,x1,x2],u.oneCell'=true) (hi:i≤n) (hn:n≤1000) (hbase:base≤w.heap.size)
    (hvb:w.heap[vb]?=some (.cells #[x0,x1,x2] 82 (0,0))) (hne:(Value.slice A n c).ownBlock≠some vb) :
    Calls Tryz.prog 62 #[.slice A n c,.int .i64 i,.slice (some ⟨vb,0,none⟩) 1 1] w fun e w'=>∃ A' c',e=.returned (.slice A' (n+1) c') ∧
     Own w' base 82 3 (.slice A' (n+1) c') (n+1) (rows.take i ++[[x0,x1,x2]] ++rows.drop i)∧w.grownBy w' (Value.slice A n c).ownBlock:=by
 obtain ⟨i0,hi0,hz0,hz1,hz2⟩:=info_parts infoJ
 have HI:=Lib.hid hi0;have HZ0:=Lib.hid hz0;have HZ1:=Lib.hid hz1;have HZ2:=Lib.hid hz2
 clear hi0 hz0 hz1 hz2
 have hvl:vb<w.heap.size:=(Array.getElem?_eq_some_iff.1 hvb).1
 have hvc:∀ j u,[x0,x1,x2][j]?=some u→w.cell? ⟨vb,j,none⟩=some u:=by
  intro j u hu
  rw [cell_of_row w vb j _ _ _ hvb]
  simpa using hu
 have HV:=Lib.hid hvc
 have H1:=Lib.hid h1;have H1x:=Lib.hid h1x
 clear hvc h1 h1x
 have hsl:Sl w w.heap.size 3 (some ⟨vb,0,none⟩) 1 [[x0,x1,x2]]:=by
  refine ⟨rfl,by simp,fun _=>⟨vb,0,rfl,hvl,fun i j r u hr hu=>?_⟩⟩
  match i,hr with
  | 0,hr =>
    simp at hr
    subst hr
    simpa using HV.out j u hu
 obtain ⟨_,_,e,hnc,hcm⟩:=hown.slice
 injection e with e1 e2 e3
 subst e1;subst e3
 clear e2
 by_cases hin:i=n
 · subst hin
   have HO:=Lib.hid hown
   have hz:¬ ((1:Int)=0):=by omega
   have HS:=Lib.hid hsl;have HVB:=Lib.hid hvb;have HNE:=Lib.hid hne;have HCM:=Lib.hid hcm
   clear hown hsl hvb hne hcm
   go_enter Tryz.func62,Tryz.ntmps62
   go_wp2_with (at_builtin;refine wpList_append_sl _ rfl (.tmp 23) (.tmp 24) 30 rfl base 82 i0 _ 3 24 Tryz.underlying30 HI.out HZ0.out HZ1.out HZ2.out rfl (by decide) _ i rows rfl HO.out w.heap.size (some ⟨vb,0,none⟩) 1 1 [[x0,x1,x2]] rfl HS.out (by simpa using H1x.out) (by unfold maxLen;omega) (by omega) hbase ?_)
   all_goals
    intro v' w' hown hgrow hblk
    obtain ⟨A',c',rfl,_,_⟩:=hown.slice
    go_wp2
    go_ret
    refine ⟨A',c',rfl,?_,by cases A <;> exact hgrow⟩
    have hl:rows.length=i:=HO.out.2.1
    rw [List.take_of_length_le (by omega),List.drop_eq_nil_of_le (by omega),List.append_nil]
    exact hown
 · have hlt:i<n:=by omega
   obtain ⟨g,cur,rfl,hbg,hgl,hh,_,_,hcs,htk⟩:=hown.open_ (by omega)
   have hrl:=hown.2.1
   have hr3:=hown.2.2
   have hgv:g≠vb:=by simpa [Value.ownBlock] using hne
   obtain ⟨P,S,Z,hP,hS,hZ,hcur⟩:∃ P S Z:List Value,P.length=i*3∧S.length=(n - i)*3∧Z.length=(c - n)*3∧cur.toList=P ++S ++Z:=by
    refine ⟨cur.toList.take (i*3),(cur.toList.drop (i*3)).take ((n - i)*3),cur.toList.drop (n*3),?_,?_,?_,?_⟩
    · simp;omega
    · simp;omega
    · simp;omega
    · rw [List.append_assoc]
      conv=>lhs;rw [← List.take_append_drop (i*3) cur.toList]
      congr 1
      conv=>lhs;rw [← List.take_append_drop ((n - i)*3) (cur.toList.drop (i*3))]
      congr 1
      rw [List.drop_drop]
      congr 1
      omega
   have hPr:P=(rows.take i).flatten:=by
    rw [take_flatten i hr3,← htk,hcur,List.take_take,Nat.min_eq_left (by omega),List.append_assoc,← hP,List.take_left]
   have hSr:S=(rows.drop i).flatten:=by
    have:(P ++S ++Z).take (n*3)=P ++S:=by
     rw [show n*3=(P ++S).length by simp;omega,List.take_left]
    rw [drop_flatten i hr3,← htk,hcur,this,← hP,List.drop_left]
   have h1S:∀ u∈S,u.oneCell'=true:=by
    intro u hu
    rw [hSr] at hu
    obtain ⟨r,hr,hu⟩:=List.mem_flatten.1 hu
    exact H1.out r (List.mem_of_mem_drop hr) u hu
   have hfin:(rows.take i ++[[x0,x1,x2]] ++rows.drop i).flatten=P ++[x0,x1,x2] ++S:=by simp [hPr,hSr]
   have hlen:(rows.take i ++[[x0,x1,x2]] ++rows.drop i).length=n+1:=by simp;omega
   have hr3':∀ r∈rows.take i ++[[x0,x1,x2]] ++rows.drop i,r.length=3:=by
    intro r hr
    simp only [List.mem_append,List.mem_singleton] at hr
    rcases hr with (hr | rfl) | hr
    · exact hr3 r (List.mem_of_mem_take hr)
    · rfl
    · exact hr3 r (List.mem_of_mem_drop hr)
   by_cases hroom:n+1≤c
   · have hcp1:∀ (W:World),W.heap[g]?=some (.cells cur 82 (0,0))→∀ ty dc sc,(Builtin.copy_ #[30,30] ty #[.slice (some ⟨g,(i+1)*3,none⟩) (n - i) dc,.slice (some ⟨g,i*3,none⟩) (n+1 - i) sc]).run Tryz.prog W=.ok (goInt ((n - i:Nat):Int)) (W.setRow g (spliceR cur ((i+1)*3) S)):=by
      intro W hW ty dc sc
      have hmin:Nat.min (n+1 - i) (n - i)=n - i:=by simp only [Nat.min_def];split <;> omega
      have:=run_copy_rowK (P:=Tryz.prog) W 30 30 ty 82 g ((i+1)*3) (n - i) dc ⟨g,i*3,none⟩ (n+1 - i) sc cur 82 i0 S Tryz.underlying30 HI.out hW
       (by rw [hmin,HZ1.out,hS]) (fun j v hj=>by
        rw [Addr.add_lit,cell_of_row W g _ _ _ _ hW,← Array.getElem?_toList,hcur,List.append_assoc,List.getElem?_append_right (by omega),hP,Nat.add_sub_cancel_left,List.getElem?_append_left (List.getElem?_eq_some_iff.1 hj).1]
        exact hj) (by omega) h1S
      rw [hmin] at this
      exact this
     have hsz1:(spliceR cur ((i+1)*3) S).size=cur.size:=spliceR_size (by omega)
     have hcp2:∀ (W:World),W.heap[g]?=some (.cells (spliceR cur ((i+1)*3) S) 82 (0,0))→W.heap[vb]?=some (.cells #[x0,x1,x2] 82 (0,0))→∀ ty dc,(Builtin.copy_ #[30,30] ty #[.slice (some ⟨g,i*3,none⟩) (n+1 - i) dc,.slice (some ⟨vb,0,none⟩) 1 1]).run Tryz.prog W=.ok (goInt 1) (W.setRow g (spliceR (spliceR cur ((i+1)*3) S) (i*3) [x0,x1,x2])):=by
      intro W hW hV ty dc
      have hmin:Nat.min 1 (n+1 - i)=1:=by simp only [Nat.min_def];split <;> omega
      have:=run_copy_rowK (P:=Tryz.prog) W 30 30 ty 82 g (i*3) (n+1 - i) dc ⟨vb,0,none⟩ 1 1 (spliceR cur ((i+1)*3) S) 82 i0 [x0,x1,x2] Tryz.underlying30 HI.out hW
       (by rw [hmin,HZ1.out];rfl) (fun j v hj=>by
        rw [Addr.add_lit,cell_of_row W vb _ _ _ _ hV]
        simpa using hj) (by rw [hsz1];simp;omega) H1x.out
      rw [hmin] at this
      exact this
     have hlast:(spliceR (spliceR cur ((i+1)*3) S) (i*3) [x0,x1,x2]).toList=P ++[x0,x1,x2] ++S ++Z.drop 3:=by
      have:=insert_cells P [x0,x1,x2] S Z (by simp;omega)
      simp only [spliceR,hcur]
      rw [← hP,show (i+1)*3=P.length+[x0,x1,x2].length by simp;omega]
      exact this
     have HC1:=Lib.hid hcp1;have HC2:=Lib.hid hcp2
     have hov:∀ (lb cb:Nat) (W:World),W.heap[g]?=some (.cells cur 82 (0,0))→W.heap[vb]?=some (.cells #[x0,x1,x2] 82 (0,0))→(callFunc 87 #[.slice (some ⟨vb,0,none⟩) 1 1,.slice (some ⟨g,(i+1)*3,none⟩) lb cb]).run Tryz.prog W=.ok (.value (.bool false)) W:=by
      intro lb cb W hg hv
      rw [run_callFunc_extern (P:=Tryz.prog) Tryz.func87 (by kernel_rfl) (by kernel_rfl) (by kernel_rfl) (e:=Extern.SlicesOverlaps.overlaps #[30,30] #[4]) (by kernel_rfl),
       Lib.run_overlaps_apart W 30 4 82 Tryz.underlying30 3 Tryz.sizeOf82 ⟨vb,0,none⟩ ⟨g,(i+1)*3,none⟩ 1 1 lb cb (Ne.symm hgv) 82 82 3 cur.size
        (by simp [World.shape?,hv]) (by simp [World.shape?,hg]) (by omega) (by simp [World.frozen?,hv]) (by simp [World.frozen?,hv])]
      rfl
     have hov':=fun lb cb=>hov lb cb w hh hvb
     have HB:=Lib.hid hvb;have HH:=Lib.hid hh;have HL:=Lib.hid hlast;have HF:=Lib.hid hfin;have HLn:=Lib.hid hlen;have HR3:=Lib.hid hr3';have HCS:=Lib.hid hcs;have HCM:=Lib.hid hcm;have HS1:=Lib.hid hsz1;have HPl:=Lib.hid hP;have HSl:=Lib.hid hS
     have hz1:¬ ((1:Int)=0):=by omega
     have hz2:¬ ((i:Int)=(n:Int)):=by omega
     have hb2:¬ (c=i+1):=by omega
     have hb4:¬ (c=i):=by omega
     have hb3:(i:Int)≤(n:Int)+1:=by omega
     clear hcp1 hcp2 hov hvb hh hlast hfin hlen hr3' hcs hsz1 hP hS hZ hcur hPr hSr h1S htk hrl hr3 hown hsl hne hin hcm
     go_enter Tryz.func62,Tryz.ntmps62
     go_wp2_with fail
     have hw1:IntKind.i64.wrap ((i:Int)+1)=(i:Int)+1:=by rw [IntKind.wrap_i64];omega
     have hb1:(0:Int)≤(i:Int)+1:=by omega
     have htn:((i:Int)+1).toNat=i+1:=by omega
     go_region_law (refine step_copy_run _ rfl _ _ 30 30 rfl _ _ (by simp [Act.eval,Act.put];rfl) (by simp [Act.eval,Act.put];rfl) (HC1.out _ (by exact HH.out) _ _ _) ?_)
     clear hw1 hb1 htn
     go_wp2_with (with_reducible refine wpList_copy_run _ rfl (.tmp 80) (.tmp 81) _ _ rfl _ _ rfl rfl (HC2.out _ ?h1 ?h2 _ _) ?_)
     case h1=>exact setRow_heap _ g cur _ _ _ HH.out
     case h2=>exact (setRow_other _ g vb _ (Ne.symm hgv)).trans HB.out
     go_wp2
     go_ret
     refine ⟨_,c,rfl,Own.mk_ hbg (setRow_heap _ g (spliceR cur ((i+1)*3) S) _ _ _ (setRow_heap _ g cur _ _ _ HH.out)) hroom HCM.out ?_ ?_ HLn.out HR3.out,?_⟩
     · rw [spliceR_size (by rw [HS1.out,HCS.out];simp;omega),HS1.out,HCS.out]
     · rw [HL.out,HF.out,show (n+1)*3=(P ++[x0,x1,x2] ++S).length by simp [HPl.out,HSl.out];omega,List.take_left]
     · exact ⟨rfl,rfl,rfl,by simp,fun k _ hk=>by
        have hk':k≠g:=fun e=>hk (by simp [Value.ownBlock,e])
        rw [setRow_other _ g k _ hk',setRow_other _ g k _ hk']
        rfl⟩
   · have hgc:c<n+1:=by omega
     have hPg:(Builtin.firstCells i0.size i (.slice (some ⟨g,0,none⟩) i c)).run Tryz.prog w.drew=.ok P.toArray w.drew:=by
      rw [HZ1.out]
      exact run_firstCells_some w.drew 3 i ⟨g,0,none⟩ i c P hP (fun j v hj=>by
       rw [Addr.add_lit,cell_of_row w.drew g _ _ _ _ hh,← Array.getElem?_toList,hcur,List.append_assoc,Nat.zero_add,List.getElem?_append_left (List.getElem?_eq_some_iff.1 hj).1]
       exact hj)
     have hrz : ∀ ty, (Builtin.append_ #[30, 3] ty #[.slice (some ⟨g, 0, none⟩) i c, .int .i64 ((n : Int) + 1 - (i : Int))]).run Tryz.prog w =
         .ok (.slice (some ⟨w.heap.size,0,none⟩) (n+1) (grownCap w (n+1) c 82)) (w.drew.alloc (.cells (P.toArray ++Builtin.zeroCells (Value.agg #[.int .i64 0,.int .i64 0,.int .i64 0]).cells (n+1 - i) ++Builtin.zeroCells (Value.agg #[.int .i64 0,.int .i64 0,.int .i64 0]).cells (grownCap w (n+1) c 82 - (n+1))) 82)):=fun ty=>by
      have h:=Lib.run_append_grow_zeros w 30 3 ty 82 i0 _ .i64 .i64 Tryz.underlying30 Tryz.underlying3 HI.out HZ0.out (some ⟨g,0,none⟩) i c P hPg (n+1 - i) (by omega) (by rw [HZ1.out];omega) (by omega) (by omega) (by rw [HZ2.out];omega)
       (by rw [HZ2.out,show i+(n+1 - i)=n+1 by omega];exact growslice_fits hgc (by omega))
      rw [show i+(n+1 - i)=n+1 by omega] at h
      rw [show (n:Int)+1 - (i:Int)=((n+1 - i:Nat):Int) by omega]
      exact h
     have hGn:n+1≤grownCap w (n+1) c 82:=grownCap_ge w _ _ _
     have hGm:grownCap w (n+1) c 82≤maxLen:=grownCap_le_maxLen w (n+1) c 82 (by unfold maxLen;omega)
     obtain ⟨G,hG⟩:∃ G,G=grownCap w (n+1) c 82:=⟨_,rfl⟩
     obtain ⟨ROW,hROW⟩:∃ ROW:Array Value,ROW=P.toArray ++Builtin.zeroCells (Value.agg #[.int .i64 0,.int .i64 0,.int .i64 0]).cells (n+1 - i) ++Builtin.zeroCells (Value.agg #[.int .i64 0,.int .i64 0,.int .i64 0]).cells (G - (n+1)):=⟨_,rfl⟩
     rw [← hG] at hrz hGn hGm
     rw [← hROW] at hrz
     obtain ⟨Z1,hZ1,hRl⟩:∃ Z1:List Value,Z1.length=(G - i)*3∧ROW.toList=P ++Z1:=by
      refine ⟨(Builtin.zeroCells (Value.agg #[.int .i64 0,.int .i64 0,.int .i64 0]).cells (n+1 - i)).toList ++(Builtin.zeroCells (Value.agg #[.int .i64 0,.int .i64 0,.int .i64 0]).cells (G - (n+1))).toList,?_,?_⟩
      · simp only [List.length_append,Array.length_toList,size_zeroCells,Value.cells,List.size_toArray,List.length_cons,List.length_nil]
        omega
      · rw [hROW];simp
     have hRs:ROW.size=G*3:=by
      rw [← Array.length_toList,hRl,List.length_append,hP,hZ1];omega
     have hcpA:∀ (W:World),W.heap[w.heap.size]?=some (.cells ROW 82 (0,0))→W.heap[vb]?=some (.cells #[x0,x1,x2] 82 (0,0))→∀ ty dc,(Builtin.copy_ #[30,30] ty #[.slice (some ⟨w.heap.size,i*3,none⟩) (n+1 - i) dc,.slice (some ⟨vb,0,none⟩) 1 1]).run Tryz.prog W=.ok (goInt 1) (W.setRow w.heap.size (spliceR ROW (i*3) [x0,x1,x2])):=by
      intro W hW hV ty dc
      have hmin:Nat.min 1 (n+1 - i)=1:=by simp only [Nat.min_def];split <;> omega
      have:=run_copy_rowK (P:=Tryz.prog) W 30 30 ty 82 w.heap.size (i*3) (n+1 - i) dc ⟨vb,0,none⟩ 1 1 ROW 82 i0 [x0,x1,x2] Tryz.underlying30 HI.out hW
       (by rw [hmin,HZ1.out];rfl) (fun j v hj=>by
        rw [Addr.add_lit,cell_of_row W vb _ _ _ _ hV]
        simpa using hj) (by rw [hRs];simp;omega) H1x.out
      rw [hmin] at this
      exact this
     have hsA:(spliceR ROW (i*3) [x0,x1,x2]).size=ROW.size:=spliceR_size (by rw [hRs];simp;omega)
     have hcpB:∀ (W:World),W.heap[w.heap.size]?=some (.cells (spliceR ROW (i*3) [x0,x1,x2]) 82 (0,0))→W.heap[g]?=some (.cells cur 82 (0,0))→∀ ty dc sc,(Builtin.copy_ #[30,30] ty #[.slice (some ⟨w.heap.size,(i+1)*3,none⟩) (n - i) dc,.slice (some ⟨g,i*3,none⟩) (n - i) sc]).run Tryz.prog W=.ok (goInt ((n - i:Nat):Int)) (W.setRow w.heap.size (spliceR (spliceR ROW (i*3) [x0,x1,x2]) ((i+1)*3) S)):=by
      intro W hW hV ty dc sc
      have hmin:Nat.min (n - i) (n - i)=n - i:=by simp only [Nat.min_def];split <;> omega
      have:=run_copy_rowK (P:=Tryz.prog) W 30 30 ty 82 w.heap.size ((i+1)*3) (n - i) dc ⟨g,i*3,none⟩ (n - i) sc (spliceR ROW (i*3) [x0,x1,x2]) 82 i0 S Tryz.underlying30 HI.out hW
       (by rw [hmin,HZ1.out,hS]) (fun j v hj=>by
        rw [Addr.add_lit,cell_of_row W g _ _ _ _ hV,← Array.getElem?_toList,hcur,List.append_assoc,List.getElem?_append_right (by omega),hP,Nat.add_sub_cancel_left,List.getElem?_append_left (List.getElem?_eq_some_iff.1 hj).1]
        exact hj) (by rw [hsA,hRs];omega) h1S
      rw [hmin] at this
      exact this
     have hlast:∃ Z2,(spliceR (spliceR ROW (i*3) [x0,x1,x2]) ((i+1)*3) S).toList=P ++[x0,x1,x2] ++S ++Z2:=by
      have eA:(spliceR ROW (i*3) [x0,x1,x2]).toList=P ++[x0,x1,x2] ++Z1.drop 3:=by
       simp only [spliceR,hRl]
       rw [← hP,List.take_left,List.drop_length_add_append]
       simp
      refine ⟨(Z1.drop 3).drop S.length,?_⟩
      have e3:(i+1)*3=(P ++[x0,x1,x2]).length:=by simp;omega
      rw [show (spliceR (spliceR ROW (i*3) [x0,x1,x2]) ((i+1)*3) S).toList=(spliceR ROW (i*3) [x0,x1,x2]).toList.take ((i+1)*3) ++S ++(spliceR ROW (i*3) [x0,x1,x2]).toList.drop ((i+1)*3+S.length) from rfl,eA,e3,List.take_left,List.drop_length_add_append]
     have hwg:g≠w.heap.size:=by omega
     have hwv:vb≠w.heap.size:=by omega
     have HA:=Lib.hid hcpA;have HBc:=Lib.hid hcpB;have HL:=Lib.hid hlast;have HF:=Lib.hid hfin;have HLn:=Lib.hid hlen;have HR3:=Lib.hid hr3'
     have HB:=Lib.hid hvb;have HH:=Lib.hid hh;have HRs:=Lib.hid hRs;have HsA:=Lib.hid hsA;have HPl:=Lib.hid hP;have HSl:=Lib.hid hS;have HGm:=Lib.hid hGm
     have hz1:¬ ((1:Int)=0):=by omega
     have hz2:¬ ((i:Int)=(n:Int)):=by omega
     have hz3:(c:Int)<(n:Int)+1:=by omega
     have hGi:¬ (G=i):=by omega
     have hGi1:¬ (G=i+1):=by omega
     have hb4:¬ (c=i):=by omega
     have hGle:G≤9223372036854775807:=by unfold maxLen at hGm;omega
     clear hcpA hcpB hlast hfin hlen hr3' hvb hh hRs hsA hP hS hZ hcur hPr hSr h1S htk hrl hr3 hown hsl hne hin hcm hPg hG hROW hZ1 hRl hGm hcs
     go_enter Tryz.func62,Tryz.ntmps62
     go_wp2_with (first
      | (at_builtin;refine Lib.wpList_append_run _ rfl _ _ _ _ rfl _ _ rfl rfl _ _ (hrz _) ?_)
      | (with_reducible refine wpList_copy_run _ rfl (.tmp 43) (.tmp 44) _ _ rfl _ _ rfl rfl (HA.out _ ?h1 ?h2 _ _) ?_))
     case h1=>exact hNew (by simp)
     case h2=>exact hOld HB.out
     have hw1:IntKind.i64.wrap ((i:Int)+1)=(i:Int)+1:=by rw [IntKind.wrap_i64];omega
     have hb1:(0:Int)≤(i:Int)+1:=by omega
     have htn:((i:Int)+1).toNat=i+1:=by omega
     have hb3:(i:Int)+1≤(n:Int)+1:=by omega
     have hb5:(i:Int)≤(n:Int):=by omega
     go_region_law (refine step_copy_run _ rfl _ _ 30 30 rfl _ _ (by simp [Act.eval,Act.put];rfl) (by simp [Act.eval,Act.put];rfl) (HBc.out _ (by exact setRow_heap _ _ _ _ _ _ (hNew (by simp))) (by exact (setRow_other _ _ g _ hwg).trans (hOld HH.out)) _ _ _) ?_)
     clear hw1 hb1 htn
     go_wp2
     go_ret
     obtain ⟨Z2,hZ2⟩:=HL.out
     refine ⟨_,G,rfl,Own.mk_ hbase (setRow_heap _ w.heap.size (spliceR ROW (i*3) [x0,x1,x2]) _ _ _ (setRow_heap _ w.heap.size ROW _ _ _ (hNew (by simp)))) hGn HGm.out ?_ ?_ HLn.out HR3.out,?_⟩
     · rw [spliceR_size (by rw [HsA.out,HRs.out,HSl.out];omega),HsA.out,HRs.out]
     · rw [hZ2,HF.out,show (n+1)*3=(P ++[x0,x1,x2] ++S).length by simp [HPl.out,HSl.out];omega,List.take_left]
     · exact ⟨rfl,rfl,rfl,by simp,fun k hk _=>by
        have hk':k≠w.heap.size:=by omega
        rw [setRow_other _ _ k _ hk']
        refine (setRow_other _ _ k _ hk').trans ?_
        exact Below.heap_alloc w _ k hk⟩
end
section
open Go.RowKit
set_option maxHeartbeats 4000000 in
set_option maxRecDepth 100000 in
theorem Delete_calls (base : Nat) (A : Option Addr) (n c i : Nat) (rows : List (List Value)) (w : World) (hown : Own w base 82 3 (.slice A n c) n rows)
    (h1:∀ r∈rows,∀ u∈r,u.oneCell'=true) (hi:i<n) (hn:n≤1000) :
    Calls Tryz.prog 63 #[.slice A n c,.int .i64 i,.int .i64 (i+1)] w fun e w'=>e=.returned (.slice A (n - 1) c) ∧
     Own w' base 82 3 (.slice A (n - 1) c) (n - 1) (rows.take i ++rows.drop (i+1))∧w.grownBy w' (Value.slice A n c).ownBlock:=by
 obtain ⟨i0,hi0,hz0,hz1,hz2⟩:=info_parts infoJ
 obtain ⟨g,cur,rfl,hbg,hgl,hh,hnc,hcm,hcs,htk⟩:=hown.open_ (by omega)
 have hrl:=hown.2.1
 have hr3:=hown.2.2
 obtain ⟨P,S,Z,hP,hS,hcur⟩:∃ P S Z:List Value,P.length=i*3∧S.length=(n - (i+1))*3∧cur.toList.take (i*3)=P∧(cur.toList.drop ((i+1)*3)).take ((n - (i+1))*3)=S∧P=(rows.take i).flatten∧S=(rows.drop (i+1)).flatten:=by
  refine ⟨cur.toList.take (i*3),(cur.toList.drop ((i+1)*3)).take ((n - (i+1))*3),[],?_,?_,rfl,rfl,?_,?_⟩
  · simp;omega
  · simp;omega
  · rw [take_flatten i hr3,← htk,List.take_take,Nat.min_eq_left (by omega)]
  · rw [drop_flatten (i+1) hr3,← htk,List.drop_take]
    congr 1
    omega
 obtain ⟨hPc,hSc,hPr,hSr⟩:=hcur
 have h1S:∀ u∈S,u.oneCell'=true:=by
  intro u hu
  rw [hSr] at hu
  obtain ⟨r,hr,hu⟩:=List.mem_flatten.1 hu
  exact h1 r (List.mem_of_mem_drop hr) u hu
 have hnews:∀ (W:World),W.heap[g]?=some (.cells cur 82 (0,0))→∀ j u,S[j]?=some u→W.cell? ((⟨g,(i+1)*3,none⟩:Addr).add j)=some u:=by
  intro W hW j u hu
  rw [Addr.add_lit,cell_of_row W g _ _ _ _ hW,← Array.getElem?_toList]
  rw [← hSc,List.getElem?_take] at hu
  split at hu
  · rw [List.getElem?_drop] at hu
    exact hu
  · cases hu
 -- the append,whatever address the cut has
 have hap:∀ (W:World),W.heap[g]?=some (.cells cur 82 (0,0))→∀ ty dc,(Builtin.append_ #[30,30] ty #[.slice (some ⟨g,0,none⟩) i c,.slice (if c=i+1 then some ⟨g,0,none⟩ else some ⟨g,(i+1)*3,none⟩) (n - (i+1)) dc]).run Tryz.prog W=.ok (.slice (some ⟨g,0,none⟩) (n - 1) c) (W.setRow g (spliceR cur (i*3) S)):=by
  intro W hW ty dc
  have hgen:∀ ad:Addr,(∀ j u,S[j]?=some u→W.cell? (ad.add j)=some u)→(Builtin.append_ #[30,30] ty #[.slice (some ⟨g,0,none⟩) i c,.slice (some ad) (n - (i+1)) dc]).run Tryz.prog W=.ok (.slice (some ⟨g,0,none⟩) (n - 1) c) (W.setRow g (spliceR cur (i*3) S)):=by
   intro ad had
   have:=run_append_room (P:=Tryz.prog) W 30 ty 82 i0 Tryz.underlying30 hi0 g i c cur hW ad (n - (i+1)) dc S (by rw [hz1,hS]) had h1S (by omega) (by rw [hz1,hS,hcs];omega)
   rw [hz1,show i+(n - (i+1))=n - 1 by omega] at this
   exact this
  split
  · refine hgen _ (fun j u hu=>?_)
    have:S.length=0:=by rw [hS];omega
    rw [List.length_eq_zero_iff.1 this] at hu
    simp at hu
  · exact hgen _ (hnews W hW)
 have hs1:(spliceR cur (i*3) S).size=cur.size:=spliceR_size (by rw [hS,hcs];omega)
 have hcl:∀ (W:World),W.heap[g]?=some (.cells (spliceR cur (i*3) S) 82 (0,0))→∀ ty dc,(Builtin.clear_ #[30] ty #[.slice (some ⟨g,(n - 1)*3,none⟩) (n - (n - 1)) dc]).run Tryz.prog W=.ok (.tuple #[]) (W.setRow g (spliceR (spliceR cur (i*3) S) ((n - 1)*3) (Builtin.zeroCells (Value.agg #[.int .i64 0,.int .i64 0,.int .i64 0]).cells 1).toList)):=by
  intro W hW ty dc
  rw [show n - (n - 1)=1 by omega]
  exact run_clear_rowK (P:=Tryz.prog) W 30 ty 82 g ((n - 1)*3) 1 dc _ _ (Value.agg #[.int .i64 0,.int .i64 0,.int .i64 0]) Tryz.underlying30 (by kernel_rfl) (by simp [Value.cells,Value.oneCell']) hW (by omega) (by rw [hs1,hcs];simp [Value.cells];omega)
 have hfin:(spliceR (spliceR cur (i*3) S) ((n - 1)*3) (Builtin.zeroCells (Value.agg #[.int .i64 0,.int .i64 0,.int .i64 0]).cells 1).toList).toList.take ((n - 1)*3)=(rows.take i ++rows.drop (i+1)).flatten:=by
  have e1:(spliceR cur (i*3) S).toList=P ++S ++cur.toList.drop (i*3+S.length):=by
   show cur.toList.take (i*3) ++S ++_=_
   rw [hPc]
  have e2:(n - 1)*3=(P ++S).length:=by simp;omega
  show List.take _ ((spliceR cur (i*3) S).toList.take ((n - 1)*3) ++_ ++_)=_
  rw [e1,e2,List.take_left,List.append_assoc,List.take_left,hPr,hSr,List.flatten_append]
 have hsz2:(spliceR (spliceR cur (i*3) S) ((n - 1)*3) (Builtin.zeroCells (Value.agg #[.int .i64 0,.int .i64 0,.int .i64 0]).cells 1).toList).size=c*3:=by
  rw [spliceR_size (by rw [hs1,hcs];simp [size_zeroCells,Value.cells];omega),hs1,hcs]
 have hlen:(rows.take i ++rows.drop (i+1)).length=n - 1:=by simp;omega
 have hr3':∀ r∈rows.take i ++rows.drop (i+1),r.length=3:=by
  intro r hr
  rcases List.mem_append.1 hr with hr | hr
  · exact hr3 r (List.mem_of_mem_take hr)
  · exact hr3 r (List.mem_of_mem_drop hr)
 have HAp:=Lib.hid hap;have HCl:=Lib.hid hcl;have HF:=Lib.hid hfin;have HSz:=Lib.hid hsz2;have HLn:=Lib.hid hlen;have HR3:=Lib.hid hr3';have HH:=Lib.hid hh;have HCM:=Lib.hid hcm
 clear hap hcl hfin hsz2 hlen hr3' hh hcm hs1 hnews h1S hPc hSc hPr hSr hP hS hr3 hrl htk hcs hown h1 hi0 hz0 hz1 hz2
 have hz:¬ ((i:Int)=(i:Int)+1):=by omega
 have hb1:(i:Int)+1≤(n:Int):=by omega
 have hcn:¬ (c=n - 1):=by omega
 go_enter Tryz.func63,Tryz.ntmps63
 go_wp2_with fail
 have hb0:(0:Int)≤(i:Int)+1:=by omega
 have htn:((i:Int)+1).toNat=i+1:=by omega
 have hic:(i:Int)≤(c:Int):=by omega
 go_region_law (refine step_append_run _ rfl _ _ 30 30 rfl _ _ (by simp [Act.eval,Act.put]) (by simp [Act.eval,Act.put];rfl) (HAp.out _ (by exact HH.out) _ _) ?_)
 clear hb0 htn hic
 go_wp2_with (with_reducible refine wpList_clear_run _ rfl (.tmp 31) _ rfl _ rfl (HCl.out _ ?h1 _ _) ?_)
 all_goals
  first
   | exact setRow_heap _ _ _ _ _ _ HH.out
   | (go_wp2
      go_ret
      refine ⟨rfl,Own.mk_ hbg (setRow_heap _ g (spliceR cur (i*3) S) _ _ _ (setRow_heap _ g cur _ _ _ HH.out)) (by omega) (by have:=HCM.out;omega) (by have e:=HSz.out;simp only [Value.cells] at e;omega) HF.out HLn.out HR3.out,?_⟩
      exact ⟨rfl,rfl,rfl,by simp,fun k _ hk=>by
       have hk':k≠g:=fun e=>hk (by simp [Value.ownBlock,e])
       rw [setRow_other _ g k _ hk',setRow_other _ g k _ hk']
       rfl⟩)
end
end Go.Proofs.YtidlffepdcldkaaGreatDoor
