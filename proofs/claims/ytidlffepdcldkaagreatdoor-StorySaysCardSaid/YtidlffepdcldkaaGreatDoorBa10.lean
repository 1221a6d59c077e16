/- Part 10 of the proof: Read, Rec, Lines, DCheck, NBackB, DPut, DSync, DCrash. -/
import Derived.Test.YtidlffepdcldkaaGreatDoorBa09
import Derived.Test.YtidlffepdcldkaaGreatDoorBa02
import Derived.Test.YtidlffepdcldkaaGreatDoorBa05
import Derived.Test.YtidlffepdcldkaaGreatDoorBa04
import Derived.Test.YtidlffepdcldkaaGreatDoorBa03
namespace Go.Proofs.YtidlffepdcldkaaGreatDoor
set_option linter.unusedSimpArgs false
set_option linter.unusedVariables false
section
open Go.ChangeShapes Go.WideShapes Go.ChangeAt Go.RowKit Go.Deep Go.Joins
def Reads (w:World) (t:TypeId) (cs:List Value):Prop :=
 ∃ (H:Type) (enc:TypeId × Value→H) (spare:Nat→Bool) (held:Bool) (fuel:Nat) (y:DataW H × List MemPlace),DataW.trod enc Tryz.prog w 0 spare held fuel t cs=some y
def I64 (z:Int):Prop:=-9223372036854775808≤z∧z≤9223372036854775807
theorem reads_int {w:World} {cs:List Value} (h:Reads w 3 cs):∃ z,cs=[.int .i64 z]∧I64 z:=by
 obtain ⟨H,enc,spare,held,fuel,y,h⟩:=h
 obtain ⟨k,e,_,hw⟩:=DataW.trod_int Tryz.underlying3 h
 refine ⟨k,e,?_⟩
 simp [Lit.wf,IntKind.min,IntKind.max,IntKind.signed,IntKind.bits] at hw
 unfold I64
 omega
def allF (p:Field→Prop):List Field→Prop
 | []=>True
 | f ::l=>p f∧allF p l
theorem allF_of {p:Field→Prop}:∀ {l:List Field},(∀ (i:Nat) (f:Field),l[i]?=some f→p f)→allF p l
 | [],_=>trivial
 | f ::l,h=>⟨h 0 f rfl,allF_of fun i g hg=>h (i+1) g (by simpa using hg)⟩
theorem reads_struct {w : World} {t : TypeId} {fs : List Field} {cs : List Value} (ht : Tryz.prog.underlying t = some (.struct fs.toArray)) (h : Reads w t cs) :
    cs.length=Tryz.prog.cellsOf t∧allF (fun f=>Reads w f.type ((cs.drop f.offset).take (Tryz.prog.cellsOf f.type))) fs:=by
 obtain ⟨H,enc,spare,held,fuel,y,h⟩:=h
 obtain ⟨xs,n,rfl,hx,hl,hlen,hf⟩:=DataW.trod_struct ht h
 refine ⟨hl,allF_of fun i f hi=>?_⟩
 have hi':fs.toArray[i]?=some f:=by simpa using hi
 have hlt:i<xs.length:=by rw [hlen];exact (Array.getElem?_eq_some_iff.1 hi').1
 exact ⟨H,enc,spare,held,n,xs[i],(hf i f hi').trans (List.getElem?_eq_getElem hlt)⟩
theorem reads_rows {w : World} {t e k : Nat} {α : Type} (en : α → List Value) (R : α → Prop) (ht : Tryz.prog.underlying t = some (.slice e)) (hC : Tryz.prog.cellsOf e = k) (hk0 : 0 < k) (hen : ∀ x, (en x).length = k)
    (hdec:∀ cs,cs.length=k→Reads w e cs→∃ x:α,cs=en x∧R x) {cs:List Value} (h:Reads w t cs) :
    ∃ (A:Option Addr) (n c:Nat) (l:List α),cs=[.slice A n c]∧n≤c∧c≤maxLen∧(∀ x∈l,R x)∧Sl w w.heap.size k A n (l.map en):=by
 obtain ⟨H,enc,spare,held,fuel,y,hf⟩:=h
 rcases open_slice ht hf with ⟨hcs,_⟩ | ⟨a,len,cap,m,n,D,Pl,hcs,_,hl,hm,hmm,_,hi⟩
 · exact ⟨none,0,0,[],hcs,Nat.le_refl _,by unfold maxLen;omega,by simp,Sl.nil⟩
 · have hml:len≤m:=by rw [hmm];split <;> omega
   have hrow:∀ i,i<len→∃ x:α,R x∧∀ j u,(en x)[j]?=some u→w.cell? (a.add (i*k+j))=some u:=by
    intro i hil
    obtain ⟨cs',hc,ht'⟩:=hi i (by omega)
    rw [hC] at hc
    obtain ⟨_,hcl,hat⟩:=World.cells?_some hc
    obtain ⟨x,rfl,hR⟩:=hdec cs' hcl ⟨H,enc,spare,held,n,_,ht'⟩
    refine ⟨x,hR,fun j u hu=>?_⟩
    have hjl:j<k:=by rw [← hen x];exact (List.getElem?_eq_some_iff.1 hu).1
    have hcell:=hat j hjl
    rw [← Go.Deep.add_add,hcell,hu]
   obtain ⟨l,hll,hlp⟩:=choose_list len hrow
   refine ⟨some a,len,cap,l,hcs,hl,hm,fun x hx=>?_,by simpa using hll,by
    intro r hr
    obtain ⟨y,_,rfl⟩:=List.mem_map.1 hr
    exact hen y,fun hpos=>?_⟩
   · obtain ⟨i,hi'⟩:=List.mem_iff_getElem?.1 hx
     exact (hlp i x hi').1
   have hx0:=(hlp 0 _ (List.getElem?_eq_getElem (by omega))).2 0 _ (List.getElem?_eq_getElem (by rw [hen];omega))
   obtain ⟨b,off,spot⟩:=a
   have hspot:spot=none:=by simpa [Addr.add] using World.cell?_spot hx0
   subst hspot
   refine ⟨b,off,rfl,by simpa [Addr.add] using World.block_lt_of_cell? w _ hx0,fun i j r u hr hu=>?_⟩
   rw [List.getElem?_map] at hr
   cases hy:l[i]? with
   | none=>rw [hy] at hr;simp at hr
   | some y =>
     rw [hy] at hr
     simp at hr
     subst hr
     have:=(hlp i y hy).2 j u hu
     rw [Addr.add_lit,← Nat.add_assoc] at this
     exact this
theorem cells_int:Tryz.prog.cellsOf 3=1:=by kernel_rfl
theorem cells_entry:Tryz.prog.cellsOf 46=5:=by kernel_rfl
set_option maxRecDepth 100000 in
theorem reads_entry {w:World} {cs:List Value} (h:Reads w 46 cs):∃ x,cs=encE x∧(I64 x.kind∧I64 x.job∧I64 x.every∧I64 x.time∧I64 x.client):=by
 obtain ⟨hl,hf⟩:=reads_struct Tryz.underlying46 h
 rw [cells_entry] at hl
 match cs,hl with
 | [c0,c1,c2,c3,c4],_ =>
   simp only [allF,cells_int] at hf
   obtain ⟨h0,h1,h2,h3,h4,_⟩:=hf
   obtain ⟨z0,e0,i0⟩:=reads_int h0;obtain ⟨z1,e1,i1⟩:=reads_int h1;obtain ⟨z2,e2,i2⟩:=reads_int h2;obtain ⟨z3,e3,i3⟩:=reads_int h3;obtain ⟨z4,e4,i4⟩:=reads_int h4
   simp at e0 e1 e2 e3 e4
   exact ⟨⟨z0,z1,z2,z3,z4⟩,by simp [encE,e0,e1,e2,e3,e4],i0,i1,i2,i3,i4⟩
set_option maxRecDepth 100000 in
theorem reads_entries {w:World} {cs:List Value} (h:Reads w 26 cs):∃ (A:Option Addr) (n c:Nat) (l:List Entry),cs=[.slice A n c]∧n≤c∧c≤maxLen∧(∀ x∈l,I64 x.kind∧I64 x.job∧I64 x.every∧I64 x.time∧I64 x.client)∧Sl w w.heap.size 5 A n (l.map encE) :=
 reads_rows encE _ Tryz.underlying26 cells_entry (by omega) (fun _=>rfl) (fun _ _ h=>reads_entry h) h
theorem reads_of {H:Type} {enc:TypeId × Value→H} {w:World} {t:TypeId} {spare:Nat→Bool} {held:Bool} {v:Value} {d:DataW H} {p:List MemPlace} (h:DataW.Trod enc Tryz.prog w 0 spare held t v d p):Reads w t v.cells.toList:=by
 obtain ⟨fuel,hf⟩:=h
 exact ⟨H,enc,spare,held,fuel,_,hf⟩
end
section
open Go.ChangeShapes Go.WideShapes Go.ChangeAt Go.RowKit Go.Deep Go.Joins
def encQ (r:Rec):List Value:=[.int .i64 r.kind,.int .i64 r.at_,.int .i64 r.epoch,.int .i64 r.e.kind,.int .i64 r.e.job,.int .i64 r.e.every,.int .i64 r.e.time,.int .i64 r.e.client]
theorem S.atQ {w : World} {A : Option Addr} {n : Nat} {l : List Rec} (h : S w 8 A n (l.map encQ)) {i : Nat} (hi : i < n) : ∃ b off x, A = some ⟨b, off, none⟩ ∧ b < w.heap.size ∧ l[i]? = some x ∧
    w.cell? ⟨b,off+i*8,none⟩=some (.int .i64 x.kind)∧w.cell? ⟨b,off+i*8+1,none⟩=some (.int .i64 x.at_)∧w.cell? ⟨b,off+i*8+2,none⟩=some (.int .i64 x.epoch) ∧
    w.cell? ⟨b,off+i*8+3,none⟩=some (.int .i64 x.e.kind)∧w.cell? ⟨b,off+i*8+4,none⟩=some (.int .i64 x.e.job)∧w.cell? ⟨b,off+i*8+5,none⟩=some (.int .i64 x.e.every)∧w.cell? ⟨b,off+i*8+6,none⟩=some (.int .i64 x.e.time)∧w.cell? ⟨b,off+i*8+7,none⟩=some (.int .i64 x.e.client):=by
 obtain ⟨b,off,x,e,hb,hx,hc⟩:=Sl.at_ h hi
 exact ⟨b,off,x,e,hb,hx,by simpa using hc 0 _ rfl,hc 1 _ rfl,hc 2 _ rfl,hc 3 _ rfl,hc 4 _ rfl,hc 5 _ rfl,hc 6 _ rfl,hc 7 _ rfl⟩
end
section
open Go.RowKit
theorem cut_nl (s:List UInt8):(∃ t r,s=t ++10 ::r∧(10:UInt8)∉t∧Lib.cut s [10]=(t,r,true))∨((10:UInt8)∉s∧Lib.cut s [10]=(s,[],false)):=by
 rw [cut_one]
 by_cases h:(10:UInt8)∈s
 · obtain ⟨t,r,e,ht⟩:=List.eq_append_cons_of_mem h
   refine .inl ⟨t,r,e,ht,?_⟩
   rw [if_pos h,e,cutc_append ht]
   simp [joinc_cutc]
 · exact .inr ⟨h,by rw [if_neg h]⟩
theorem infoQ:(Tryz.prog.info? 96).map (fun i=>(i.zero,i.size,i.bytes))=some (some (.agg #[.int .i64 0,.int .i64 0,.int .i64 0,.int .i64 0,.int .i64 0,.int .i64 0,.int .i64 0,.int .i64 0]),8,64):=by kernel_rfl
theorem encQ_one (l:List Rec):∀ r∈l.map encQ,∀ u∈r,u.oneCell'=true:=by
 intro r hr u hu
 obtain ⟨x,_,rfl⟩:=List.mem_map.1 hr
 simp [encQ] at hu
 rcases hu with rfl | rfl | rfl | rfl | rfl | rfl | rfl | rfl <;> rfl
theorem Sl.oneQ {w:World} {t:TypeId} (x:Rec):Sl (w.alloc (Obj.cells #[.int .i64 x.kind,.int .i64 x.at_,.int .i64 x.epoch,.int .i64 x.e.kind,.int .i64 x.e.job,.int .i64 x.e.every,.int .i64 x.e.time,.int .i64 x.e.client] t)) (w.heap.size+1) 8 (some ⟨w.heap.size,0,none⟩) 1 [encQ x]:=by
 have:=Sl.block (k:=8) (w:=w.alloc (Obj.cells #[.int .i64 x.kind,.int .i64 x.at_,.int .i64 x.epoch,.int .i64 x.e.kind,.int .i64 x.e.job,.int .i64 x.e.every,.int .i64 x.e.time,.int .i64 x.e.client] t)) [encQ x] (hNew rfl) (by simp [encQ]) (by rfl)
 simpa using this
set_option maxHeartbeats 4000000 in
set_option maxRecDepth 100000 in
theorem Lines_calls (s : List UInt8) (most : Nat) (hs : s.length ≤ 60000) (hm : most ≤ 200) (w : World) (E : Env w) :
    Calls Tryz.prog 81 #[str s,.int .i64 most] w fun e w'=>∃ A n c,e=.returned (.tuple #[.slice A n c,.int .i64 (linesK s most).2.1,.int .i64 (linesK s most).2.2])∧Own w' w.heap.size 96 8 (.slice A n c) n ((linesK s most).1.map encQ)∧Onto w w':=by
 obtain ⟨L,hL⟩:∃ L,L=linesK s most:=⟨_,rfl⟩
 rw [← hL]
 have hL0:L=linesP parseR most [] 0 (cutc 10 s):=hL
 have HL0:=Lib.hid hL0
 clear hL hL0
 go_enter Tryz.func81,Tryz.ntmps81
 go_wp2_with fail
 go_loopg [0,7] s.length (fun g s0 s7 wr=>∃ (rest:List UInt8) (acc:List Rec) (k c:Nat) (A:Option Addr),s0=str rest∧s7=.slice A acc.length c∧rest.length≤g∧k+rest.length=s.length∧acc.length≤most∧acc.length≤c∧Hid (L=linesP parseR most acc k (cutc 10 rest))∧Hid (Own wr w.heap.size 96 8 (.slice A acc.length c) acc.length (acc.map encQ))∧Onto w wr)
 case atStart=>exact ⟨s,[],0,0,none,rfl,rfl,by omega,by omega,by simp,by simp,HL0,Own.nil _ _ _ _,Onto.rfl' w⟩
 case round =>
  obtain ⟨rest,acc,k,c,A,rfl,rfl,hg,hk,hnm,hnc,HL,HO,on⟩:=hrel
  have hw1:wrap64 ((s.length:Int) - (rest.length:Int))=(k:Int):=by unfold wrap64;omega
  by_cases h0:rest=[]
  · subst h0
    have hl:L=(acc,k,0):=by rw [HL.out,show cutc 10 []=[[]] from rfl,linesP_one,if_pos rfl]
    have hks:(s.length:Int)=(k:Int):=by simp at hk;omega
    have ON:=Lib.hid on;have HLL:=Lib.hid hl
    clear on hl
    go_wp2_with fail
    refine bodyPost_ret (v:=.tuple #[.slice A acc.length c,.int .i64 (k:Int),.int .i64 0]) (by simp [results,Tryz.results81,go_sem] <;> first | omega | (refine ⟨by omega,?_⟩;omega)) rfl ⟨A,acc.length,c,by rw [HLL.out],by rw [HLL.out];exact HO.out,ON.out⟩
  · have hq1:(rest ==[])=false:=by simp [h0]
    have hq2:(rest !=[])=true:=by simp [h0]
    have hrl:rest.length≤60000:=by omega
    have H0:=Lib.hid h0
    clear h0
    go_wp2_with fail
    refine Calls.mono (Cut_calls rest [10] (by omega) _ (E.onto on)) ?_
    rcases cut_nl rest with ⟨t,r,hr,ht,hcut⟩ | ⟨hno,hcut⟩
    · rw [hcut]
      have hrl2:rest.length=t.length+1+r.length:=by rw [hr];simp;omega
      have hl:L=if (parseR t).2≠0 then (acc,k,(parseR t).2) else if most≤acc.length then (acc,k,2) else linesP parseR most (acc ++[(parseR t).1]) (k+t.length+1) (cutc 10 r):=by
       rw [HL.out,hr,cutc_append ht,linesP_cons (cutc_ne _ _)]
      have HLL:=Lib.hid hl
      clear hl hr ht hcut HL
      rintro e w1 ⟨rfl,b⟩
      replace on:=on.to b
      have HO1:=Lib.hid (HO.out.below b)
      clear HO b
      obtain ⟨x,hx⟩:∃ x,x=(parseR t).1:=⟨_,rfl⟩
      obtain ⟨g2,hg2⟩:∃ x,x=(parseR t).2:=⟨_,rfl⟩
      go_wp2_with fail
      refine Calls.mono (NParse_calls t _ (E.onto on) (by omega)) ?_
      rw [← hg2,← hx] at HLL
      rintro e w2 ⟨rfl,b⟩
      rw [← hx,← hg2]
      clear hx hg2
      replace on:=on.to b
      have HO2:=Lib.hid (HO1.out.below b)
      clear HO1 b
      go_upto_region 8 with fail
      have ob:=(Onto.rfl' w2).new (Obj.cells #[.int .i64 x.kind,.int .i64 x.at_,.int .i64 x.epoch,.int .i64 x.e.kind,.int .i64 x.e.job,.int .i64 x.e.every,.int .i64 x.e.time,.int .i64 x.e.client] 96)
      have BE:Bx (w2.alloc (Obj.cells #[.int .i64 x.kind,.int .i64 x.at_,.int .i64 x.epoch,.int .i64 x.e.kind,.int .i64 x.e.job,.int .i64 x.e.every,.int .i64 x.e.time,.int .i64 x.e.client] 96)) w2.heap.size [.int .i64 x.kind,.int .i64 x.at_,.int .i64 x.epoch,.int .i64 x.e.kind,.int .i64 x.e.job,.int .i64 x.e.every,.int .i64 x.e.time,.int .i64 x.e.client]:=Bx.made _ _ _
      replace on:=on.to ob
      have HO3:=Lib.hid (HO2.out.below ob)
      clear HO2 ob
      generalize (w2.alloc (Obj.cells #[.int .i64 x.kind,.int .i64 x.at_,.int .i64 x.epoch,.int .i64 x.e.kind,.int .i64 x.e.job,.int .i64 x.e.every,.int .i64 x.e.time,.int .i64 x.e.client] 96))=w3 at *
      generalize w2.heap.size=z2 at *
      have x0:=BE.at_ 0 rfl;have x1:=BE.at_ 1 rfl;have x2:=BE.at_ 2 rfl;have x3:=BE.at_ 3 rfl;have x4:=BE.at_ 4 rfl;have x5:=BE.at_ 5 rfl;have x6:=BE.at_ 6 rfl;have x7:=BE.at_ 7 rfl
      clear BE
      have ON:=Lib.hid on
      clear on
      by_cases hg0:g2=0
      · by_cases hmn:most≤acc.length
        · have hmm:(acc.length:Int)=(most:Int):=by omega
          have hl:L=(acc,k,2):=by rw [HLL.out,if_neg (by simp [hg0]),if_pos hmn]
          have HF:=Lib.hid hl
          clear hl HLL
          subst hg0
          go_wp2_with fail
          refine bodyPost_ret (v:=.tuple #[.slice A acc.length c,.int .i64 (k:Int),.int .i64 2]) (by simp [results,Tryz.results81,go_sem] <;> first | omega | (refine ⟨by omega,?_⟩;omega)) rfl ⟨A,acc.length,c,by rw [HF.out],by rw [HF.out];exact HO3.out,ON.out⟩
        · have hmm:¬ (acc.length:Int)=(most:Int):=by omega
          have hl:L=linesP parseR most (acc ++[x]) (k+t.length+1) (cutc 10 r):=by rw [HLL.out,if_neg (by simp [hg0]),if_neg hmn]
          have HF:=Lib.hid hl
          clear hl HLL
          subst hg0
          obtain ⟨i0,hi0,hzz0,hzz1,hzz2⟩:=info_parts infoQ
          have HI0:=Lib.hid hi0;have HZ0:=Lib.hid hzz0;have HZ1:=Lib.hid hzz1;have HZ2:=Lib.hid hzz2
          clear hi0 hzz0 hzz1 hzz2
          have HNEW:=Lib.hid (Sl.oneQ (w:=w3) (t:=96) x)
          have hal:Onto w3 (w3.alloc (Obj.cells #[.int .i64 x.kind,.int .i64 x.at_,.int .i64 x.epoch,.int .i64 x.e.kind,.int .i64 x.e.job,.int .i64 x.e.every,.int .i64 x.e.time,.int .i64 x.e.client] 96)):=(Onto.rfl' w3).new _
          have HAL:=Lib.hid hal
          clear hal
          go_wp2_with (at_builtin;refine wpList_append_sl _ rfl _ _ 59 rfl w.heap.size 96 i0 _ 8 64 Tryz.underlying59 HI0.out HZ0.out HZ1.out HZ2.out rfl (by decide) (.slice A acc.length c) acc.length (acc.map encQ) rfl (HO3.out.below HAL.out) _ (some ⟨w3.heap.size,0,none⟩) 1 1 [encQ x] rfl HNEW.out (by simpa using encQ_one [x]) (by unfold maxLen;omega) (by omega) (ON.out.to HAL.out).size ?_)
          intro v8 w8 own8 grow8 hv8
          obtain ⟨A8,c8,rfl,hc8,_⟩:=own8.slice
          have hB8:Onto w w8:=below_grown (ON.out.to HAL.out) (ON.out.to HAL.out).size grow8 (fun g hg=>by have:=(HO3.out.1.lt g hg).1;omega)
          have HO8:=Lib.hid own8
          clear grow8 hv8 own8 HO3 HNEW HAL x0 x1 x2 x3 x4 x5 x6 x7
          go_wp2_with fail
          go_roundg r.length
          case measure=>omega
          case rel =>
           refine ⟨r,acc ++[x],k+t.length+1,c8,A8,rfl,by simp,Nat.le_refl _,by omega,by simp;omega,?_,HF,?_,hB8⟩
           · have:=HO8.out.le_cap;simp;omega
           · refine Lib.hid ?_
             rw [List.map_append,List.length_append]
             exact HO8.out
      · have hgb:(g2 ==0)=false:=by simp [hg0]
        have hgn:(g2 !=0)=true:=by simp [hg0]
        have hl:L=(acc,k,g2):=by rw [HLL.out,if_pos hg0]
        have HF:=Lib.hid hl
        clear hl HLL hg0
        go_wp2_with fail
        refine bodyPost_ret (v:=.tuple #[.slice A acc.length c,.int .i64 (k:Int),.int .i64 g2]) (by simp [results,Tryz.results81,go_sem] <;> first | omega | (refine ⟨by omega,?_⟩;omega)) rfl ⟨A,acc.length,c,by rw [HF.out],by rw [HF.out];exact HO3.out,ON.out⟩
    · rw [hcut]
      have hl:L=(acc,k,9):=by rw [HL.out,cutc_self hno,linesP_one,if_neg H0.out]
      have HF:=Lib.hid hl
      clear hl hcut hno HL
      rintro e w1 ⟨rfl,b⟩
      replace on:=on.to b
      have HO1:=Lib.hid (HO.out.below b)
      clear HO b
      have ON:=Lib.hid on
      clear on
      go_wp2_with fail
      refine bodyPost_ret (v:=.tuple #[.slice A acc.length c,.int .i64 (k:Int),.int .i64 9]) (by simp [results,Tryz.results81,go_sem] <;> first | omega | (refine ⟨by omega,?_⟩;omega)) rfl ⟨A,acc.length,c,by rw [HF.out],by rw [HF.out];exact HO1.out,ON.out⟩
end
section
open Go.RowKit
structure DK (w:World) (A:Option Addr) (n c:Nat) (A':Option Addr) (m d:Nat) (x:Dsk):Prop where
 safe:S w 1 A n (x.safe.map encB)
 wait:S w 1 A' m (x.wait.map encB)
 n_le:n≤c
 c_le:c≤maxLen
 m_le:m≤d
 d_le:d≤maxLen
theorem DK.onto {w w':World} {A A':Option Addr} {n c m d:Nat} {x:Dsk} (h:DK w A n c A' m d x) (b:Onto w w'):DK w' A n c A' m d x:=⟨h.safe.onto b,h.wait.onto b,h.n_le,h.c_le,h.m_le,h.d_le⟩
theorem DK.n_eq {w:World} {A A':Option Addr} {n c m d:Nat} {x:Dsk} (h:DK w A n c A' m d x):n=x.safe.length:=by have:=h.safe.len;simpa using this.symm
theorem DK.m_eq {w:World} {A A':Option Addr} {n c m d:Nat} {x:Dsk} (h:DK w A n c A' m d x):m=x.wait.length:=by have:=h.wait.len;simpa using this.symm
theorem DK.none_ (w:World):DK w none 0 0 none 0 0 noK:=⟨Sl.nil,Sl.nil,by omega,by simp [maxLen],by omega,by simp [maxLen]⟩
set_option maxHeartbeats 4000000 in
set_option maxRecDepth 100000 in
theorem DCheck_calls (A A' : Option Addr) (n c m d : Nat) (x : Dsk) (w : World) (E : Env w) (K : DK w A n c A' m d x) :
    Calls Tryz.prog 54 #[.agg #[.slice A n c,.slice A' m d]] w fun e w'=>e=.returned (.int .i64 (checkK x))∧Onto w w':=by
 obtain ⟨q,hq⟩:∃ q,q=checkK x:=⟨_,rfl⟩
 rw [← hq]
 have hn:=K.n_eq;have hm:=K.m_eq
 have hq0:q=if 30000<n∨30000<n+m then 2 else (linesK x.safe 160).2.2:=by rw [hq,hn,hm];rfl
 have hnb:n≤9223372036854775807:=by have:=K.n_le;have:=K.c_le;unfold maxLen at *;omega
 have hmb:m≤9223372036854775807:=by have:=K.m_le;have:=K.d_le;unfold maxLen at *;omega
 have HN:=Lib.hid hn;have HM:=Lib.hid hm;have HQ:=Lib.hid hq0
 clear hn hm hq hq0
 go_enter Tryz.func54,Tryz.ntmps54
 go_upto_region 1 with fail
 have on:Onto w (w.alloc (Obj.cells #[.slice A n c,.slice A' m d] 54)):=(Onto.rfl' w).new _
 have B:Bx (w.alloc (Obj.cells #[.slice A n c,.slice A' m d] 54)) w.heap.size [.slice A n c,.slice A' m d]:=Bx.made _ _ _
 generalize (w.alloc (Obj.cells #[.slice A n c,.slice A' m d] 54))=w1 at *
 generalize w.heap.size=z at B ⊢
 have b0:=B.at_ 0 rfl;have b1:=B.at_ 1 rfl
 by_cases h1:30000<n
 · have hd:decide ((30000:Int)<(n:Int))=true:=by simp;omega
   have h1':(30000:Int)<(n:Int):=by omega
   have hqq:q=2:=by rw [HQ.out,if_pos (.inl h1)]
   subst hqq
   clear h1
   go_wp2_with fail
   go_ret
   exact ⟨ret_int rfl,on⟩
 · have h1':¬ (30000:Int)<(n:Int):=by omega
   have hw:wrap64 ((30000:Int) - (n:Int))=30000 - (n:Int):=by unfold wrap64;omega
   by_cases h2:30000<n+m
   · have h2':(30000:Int) - (n:Int)<(m:Int):=by omega
     have hqq:q=2:=by rw [HQ.out,if_pos (.inr h2)]
     subst hqq
     clear h1 h2
     go_wp2_with fail
     go_ret
     exact ⟨ret_int rfl,on⟩
   · have h2':¬ (30000:Int) - (n:Int)<(m:Int):=by omega
     have hqq:q=(linesK x.safe 160).2.2:=by rw [HQ.out,if_neg (by omega)]
     have cv:=conv_bytes (c:=c) (K.safe.onto on)
     have E1:=E.onto on
     have hsl:x.safe.length≤60000:=by rw [← HN.out];omega
     have HQQ:=Lib.hid hqq;have ON:=Lib.hid on
     clear h1 h2 hqq on
     go_wp2_with fail
     refine Calls.mono (Lines_calls x.safe 160 hsl (by omega) _ E1) ?_
     rintro e w2 ⟨A1,n1,c1,rfl,_,b⟩
     have ON2:=Lib.hid (ON.out.to b)
     clear b b0 b1 B
     rw [show (linesK x.safe 160).2.2=q from HQQ.out.symm]
     go_wp2_with fail
     go_ret
     exact ⟨ret_int rfl,ON2.out⟩
end
section
open Go.RowKit
theorem printR_len (x:Rec):(printR x).1.length≤100:=by
 unfold printR
 split
 · simp
 · rename_i h
   exact textR_len (Decidable.not_not.1 h)
end
section
open Go.RowKit
attribute [local go_sem ↓] Go.wp_at_zero Go.wp_at_succ
theorem sizeD:(Tryz.prog.info? 54).map (·.size)=some 2:=by kernel_rfl
theorem Live.litNl {w0 w:World} {L:List (Option Ent)} (h:Live w0 w L) {i:Nat} (hi:i<L.length):Live w0 (w.alloc (.cells #[.int .u8 10] 5)) (L.set i (some ⟨.slice (some ⟨w.heap.size,0,none⟩) 1 1,5,1,1,[encB 10]⟩)):=h.litB hi 10
def DnPost (w:World) (q:Dsk × Int) (e:Ending) (w':World):Prop:=∃ F k i F' l j,e=.returned (.tuple #[.agg #[.slice F k i,.slice F' l j],.int .i64 q.2])∧DK w' F k i F' l j q.1∧Fresh w.heap.size F∧Fresh w.heap.size F'∧Onto w w'
theorem DnPost.bad {w w':World} {q:Int} {v:Value} (h:v=.tuple #[.agg #[.slice none 0 0,.slice none 0 0],.int .i64 q]) (on:Onto w w'):DnPost w (noK,q) (.returned v) w':=⟨none,0,0,none,0,0,by rw [h],DK.none_ _,Fresh.none_ _,Fresh.none_ _,on⟩
theorem decB (x:Dsk) (h:checkK x=0):x.safe.length+x.wait.length≤30000:=(checkK_iff.1 h).1
set_option maxHeartbeats 8000000 in
set_option maxRecDepth 100000 in
theorem DPut_calls (A A' : Option Addr) (n c m d : Nat) (x : Dsk) (r : Rec) (w : World) (E : Env w) (K : DK w A n c A' m d x) :
    Calls Tryz.prog 128 #[.agg #[.slice A n c,.slice A' m d],.agg #[.int .i64 r.kind,.int .i64 r.at_,.int .i64 r.epoch,.int .i64 r.e.kind,.int .i64 r.e.job,.int .i64 r.e.every,.int .i64 r.e.time,.int .i64 r.e.client]] w (DnPost w (putK x r)):=by
 obtain ⟨g,hg⟩:∃ g,g=checkK x:=⟨_,rfl⟩
 obtain ⟨T,hT⟩:∃ T,T=(printR r).1:=⟨_,rfl⟩
 obtain ⟨h,hh⟩:∃ h,h=(printR r).2:=⟨_,rfl⟩
 obtain ⟨q,hq⟩:∃ q,q=putK x r:=⟨_,rfl⟩
 rw [← hq]
 unfold putK at hq
 rw [← hg,← hT,← hh,← K.n_eq,← K.m_eq] at hq
 have hTl:T.length≤100:=hT ▸ printR_len r
 have HG:=Lib.hid hg;have HT:=Lib.hid hT;have HH:=Lib.hid hh;have HQ:=Lib.hid hq
 clear hg hT hh hq
 go_enter Tryz.func128,Tryz.ntmps128
 go_upto_region 1 with fail
 have B2:Bx (((w.alloc (Obj.cells #[.slice A n c,.slice A' m d] 54)).alloc (Obj.cells #[.int .i64 r.kind,.int .i64 r.at_,.int .i64 r.epoch,.int .i64 r.e.kind,.int .i64 r.e.job,.int .i64 r.e.every,.int .i64 r.e.time,.int .i64 r.e.client] 96)).alloc (Obj.cells #[.slice none 0 0,.slice none 0 0] 54)) w.heap.size [.slice A n c,.slice A' m d]:=by
  have:=(((Bx.made w #[.slice A n c,.slice A' m d] 54).new (Obj.cells #[.int .i64 r.kind,.int .i64 r.at_,.int .i64 r.epoch,.int .i64 r.e.kind,.int .i64 r.e.job,.int .i64 r.e.every,.int .i64 r.e.time,.int .i64 r.e.client] 96)).new (Obj.cells #[.slice none 0 0,.slice none 0 0] 54))
  simpa using this
 have B3:Bx (((w.alloc (Obj.cells #[.slice A n c,.slice A' m d] 54)).alloc (Obj.cells #[.int .i64 r.kind,.int .i64 r.at_,.int .i64 r.epoch,.int .i64 r.e.kind,.int .i64 r.e.job,.int .i64 r.e.every,.int .i64 r.e.time,.int .i64 r.e.client] 96)).alloc (Obj.cells #[.slice none 0 0,.slice none 0 0] 54)) (w.heap.size+1) [.int .i64 r.kind,.int .i64 r.at_,.int .i64 r.epoch,.int .i64 r.e.kind,.int .i64 r.e.job,.int .i64 r.e.every,.int .i64 r.e.time,.int .i64 r.e.client]:=by
  have:=((Bx.made (w.alloc (Obj.cells #[.slice A n c,.slice A' m d] 54)) #[.int .i64 r.kind,.int .i64 r.at_,.int .i64 r.epoch,.int .i64 r.e.kind,.int .i64 r.e.job,.int .i64 r.e.every,.int .i64 r.e.time,.int .i64 r.e.client] 96).new (Obj.cells #[.slice none 0 0,.slice none 0 0] 54))
  simpa using this
 have Bz:Bx (((w.alloc (Obj.cells #[.slice A n c,.slice A' m d] 54)).alloc (Obj.cells #[.int .i64 r.kind,.int .i64 r.at_,.int .i64 r.epoch,.int .i64 r.e.kind,.int .i64 r.e.job,.int .i64 r.e.every,.int .i64 r.e.time,.int .i64 r.e.client] 96)).alloc (Obj.cells #[.slice none 0 0,.slice none 0 0] 54)) (w.heap.size+2) [.slice none 0 0,.slice none 0 0]:=by
  have:=(Bx.made ((w.alloc (Obj.cells #[.slice A n c,.slice A' m d] 54)).alloc (Obj.cells #[.int .i64 r.kind,.int .i64 r.at_,.int .i64 r.epoch,.int .i64 r.e.kind,.int .i64 r.e.job,.int .i64 r.e.every,.int .i64 r.e.time,.int .i64 r.e.client] 96)) #[.slice none 0 0,.slice none 0 0] 54)
  simpa using this
 have on:Onto w (((w.alloc (Obj.cells #[.slice A n c,.slice A' m d] 54)).alloc (Obj.cells #[.int .i64 r.kind,.int .i64 r.at_,.int .i64 r.epoch,.int .i64 r.e.kind,.int .i64 r.e.job,.int .i64 r.e.every,.int .i64 r.e.time,.int .i64 r.e.client] 96)).alloc (Obj.cells #[.slice none 0 0,.slice none 0 0] 54)):=(((Onto.rfl' w).new _).new _).new _
 generalize (((w.alloc (Obj.cells #[.slice A n c,.slice A' m d] 54)).alloc (Obj.cells #[.int .i64 r.kind,.int .i64 r.at_,.int .i64 r.epoch,.int .i64 r.e.kind,.int .i64 r.e.job,.int .i64 r.e.every,.int .i64 r.e.time,.int .i64 r.e.client] 96)).alloc (Obj.cells #[.slice none 0 0,.slice none 0 0] 54))=w1 at *
 have hz':w.heap.size≤w.heap.size+2:=by omega
 have hzz:w.heap.size≠w.heap.size+2:=by omega
 generalize w.heap.size+2=z at Bz hz' hzz ⊢
 generalize w.heap.size+1=z3 at B3 ⊢
 generalize hz2:w.heap.size=z2 at B2 hzz ⊢
 clear hz2
 have b0:=B2.at_ 0 rfl;have b1:=B2.at_ 1 rfl
 go_wp2_with fail
 refine Calls.mono (DCheck_calls A A' n c m d x _ (E.onto on) (K.onto on)) ?_
 rintro e w2 ⟨rfl,b⟩
 rw [show checkK x=g from HG.out.symm]
 replace on:=on.to b;replace B2:=B2.onto b;replace B3:=B3.onto b;replace Bz:=Bz.onto b
 clear b b0 b1
 by_cases hg0:g=0
 · have hbd:n+m≤30000:=by rw [K.n_eq,K.m_eq];exact decB x (by rw [← HG.out,hg0])
   have hn:n≤30000:=by omega
   have hm:m≤30000:=by omega
   have hq:=HQ.out
   rw [if_neg (by simp [hg0])] at hq
   replace HQ:=Lib.hid hq
   subst hg0
   clear hq
   have r0:=B3.at_ 0 rfl;have r1:=B3.at_ 1 rfl;have r2:=B3.at_ 2 rfl;have r3:=B3.at_ 3 rfl;have r4:=B3.at_ 4 rfl;have r5:=B3.at_ 5 rfl;have r6:=B3.at_ 6 rfl;have r7:=B3.at_ 7 rfl
   go_wp2_with fail
   refine Calls.mono (NPrint_calls r.kind r.at_ r.epoch r.e _ (E.onto on)) ?_
   rw [show (printR ⟨r.kind,r.at_,r.epoch,r.e⟩).1=T from HT.out.symm,show (printR ⟨r.kind,r.at_,r.epoch,r.e⟩).2=h from HH.out.symm]
   rintro e w3 ⟨rfl,b⟩
   replace on:=on.to b;replace B2:=B2.onto b;replace Bz:=Bz.onto b
   clear b r0 r1 r2 r3 r4 r5 r6 r7 B3
   by_cases hh0:h=0
   · have hq:=HQ.out
     rw [if_neg (by simp [hh0])] at hq
     replace HQ:=Lib.hid hq
     subst hh0
     clear hq
     have b0:=B2.at_ 0 rfl;have b1:=B2.at_ 1 rfl
     by_cases hf:30000<n+m+(T.length+1)
     · have hd:(30000:Int) - (n:Int) - (m:Int)<(T.length:Int)+1:=by omega
       have hq:=HQ.out
       rw [if_pos hf] at hq
       subst hq
       clear hf b0 b1
       have b0:=B2.at_ 0 rfl;have b1:=B2.at_ 1 rfl
       go_wp2_with (refine wpList_put Bz [.slice none 0 0,.slice none 0 0] 54 _ _ (by rfl) (by rfl) (by rfl) (by rfl) (by rfl) sizeD (by rfl) ?_)
       have hF:=Bz.put (us:=[.slice none 0 0,.slice none 0 0]) rfl
       have oF:=Onto.puts (b:=z) (o:=0) (us:=[.slice none 0 0,.slice none 0 0]) hz' on
       generalize World.setCells _ z 0 [.slice none 0 0,.slice none 0 0]=wF at hF oF ⊢
       go_wp2_with fail
       have p0:=hF.at_ 0 rfl;have p1:=hF.at_ 1 rfl
       refine bodyPost_ret (v:=.tuple #[.agg #[.slice none 0 0,.slice none 0 0],.int .i64 2]) (by simp [results,Tryz.results128,go_sem,p0,p1]) rfl (DnPost.bad rfl oF)
     · have hd:¬ (30000:Int) - (n:Int) - (m:Int)<(T.length:Int)+1:=by omega
       have hq:=HQ.out
       rw [if_neg hf] at hq
       subst hq
       clear hf
       go_upto_region 9 with fail
       have K3:=K.onto on
       have LV:=Live.start w3 3
       have zb0:=Bz.at_ 0 rfl;have zb1:=Bz.at_ 1 rfl
       go_region_held3 (fun w'=>w'.cell? ⟨z2,0,none⟩=some (.slice A n c)∧w'.cell? ⟨z2,1,none⟩=some (.slice A' m d))
        (first | exact ⟨cellB (Live.on (by with_reducible (first | exact LV | exact LV.draw | exact LV.litNl (i:=2) (by simp) | exact LV.draw.litNl (i:=2) (by simp) | exact (LV.litNl (i:=2) (by simp)).draw))) b0,cellB (Live.on (by with_reducible (first | exact LV | exact LV.draw | exact LV.litNl (i:=2) (by simp) | exact LV.draw.litNl (i:=2) (by simp) | exact (LV.litNl (i:=2) (by simp)).draw))) b1⟩ | exact ⟨(((B2.onto (Live.on (by with_reducible (first | exact LV | exact LV.draw | exact LV.litNl (i:=2) (by simp) | exact LV.draw.litNl (i:=2) (by simp) | exact (LV.litNl (i:=2) (by simp)).draw)))).off1 (p:=⟨z,0,none⟩) hzz _).off1 (p:=⟨z,1,none⟩) hzz _).at_ 0 rfl,(((B2.onto (Live.on (by with_reducible (first | exact LV | exact LV.draw | exact LV.litNl (i:=2) (by simp) | exact LV.draw.litNl (i:=2) (by simp) | exact (LV.litNl (i:=2) (by simp)).draw)))).off1 (p:=⟨z,0,none⟩) hzz _).off1 (p:=⟨z,1,none⟩) hzz _).at_ 1 rfl⟩ | fail)
        (first
         | (go_at_call 77;refine Calls.mono (CloneB_live (by with_reducible (first | exact LV | exact LV.draw | exact LV.litNl (i:=2) (by simp) | exact LV.draw.litNl (i:=2) (by simp) | exact (LV.litNl (i:=2) (by simp)).draw)) 0 (by simp) A n c x.safe K3.safe (by omega)) ?_;rintro e w6 ⟨A1,c1,rfl,LV⟩;have Z:=Bz.onto LV.on;have p0:=Z.at_ 0 rfl;have p1:=Z.at_ 1 rfl;have f0:=Z.froz 0;have f1:=Z.froz 1;clear Z)
         | (go_at_call 77;refine Calls.mono (CloneB_live (by with_reducible (first | exact LV | exact LV.draw | exact LV.litNl (i:=2) (by simp) | exact LV.draw.litNl (i:=2) (by simp) | exact (LV.litNl (i:=2) (by simp)).draw)) 1 (by simp) A' m d x.wait K3.wait (by omega)) ?_;rintro e w7 ⟨A2,c2,rfl,LV⟩;have Z:=Bz.onto LV.on;have p0:=Z.at_ 0 rfl;have p1:=Z.at_ 1 rfl;have f0:=Z.froz 0;have f1:=Z.froz 1;clear Z)
         | (refine step_app_str_live (by with_reducible (first | exact LV | exact LV.draw | exact LV.litNl (i:=2) (by simp) | exact LV.draw.litNl (i:=2) (by simp) | exact (LV.litNl (i:=2) (by simp)).draw)) (by rfl) _ _ (by rfl) 1 (.slice A2 m c2) m (x.wait.map encB) (by rfl) (by rfl) T (by rfl) (by omega) ?_;intro A3 c3 w8 LV;have Z:=Bz.onto LV.on;have p0:=Z.at_ 0 rfl;have p1:=Z.at_ 1 rfl;have f0:=Z.froz 0;have f1:=Z.froz 1;clear Z)
         | (refine step_app_sl_live (by with_reducible (first | exact LV | exact LV.draw | exact LV.litNl (i:=2) (by simp) | exact LV.draw.litNl (i:=2) (by simp) | exact (LV.litNl (i:=2) (by simp)).draw)) (by rfl) _ _ 52 (by rfl) 5 1 1 (.int .u8 0) rinfoB Tryz.underlying52 rfl (by omega) 1 (.slice A3 (m+T.length) c3) (m+T.length) (x.wait.map encB ++T.map encB) (by rfl) (by rfl) _ 1 1 [encB 10] (by rfl) (Live.sl (i:=2) (by with_reducible (first | exact LV | exact LV.draw | exact LV.litNl (i:=2) (by simp) | exact LV.draw.litNl (i:=2) (by simp) | exact (LV.litNl (i:=2) (by simp)).draw)) (by rfl)) (encB_one [10]) (by unfold maxLen;omega) (by omega) ?_;intro A5 c5 w9 LV;have Z:=Bz.onto LV.on;have p0:=Z.at_ 0 rfl;have p1:=Z.at_ 1 rfl;have f0:=Z.froz 0;have f1:=Z.froz 1;clear Z)
         | fail)
       all_goals
        have hz3:z<w3.heap.size:=Bz.lt
        have o1:Own _ w3.heap.size 5 1 (.slice A1 n c1) n (x.safe.map encB):=LV.own 0 _ rfl
        have o2:Own _ w3.heap.size 5 1 (.slice A5 (m+T.length+1) c5) (m+T.length+1) (x.wait.map encB ++T.map encB ++[encB 10]):=LV.own 1 _ rfl
        have on9:=on.to LV.on
        have HO1:=Lib.hid o1;have HO2:=Lib.hid o2;have HON:=Lib.hid on9
        clear o1 o2 on9 LV
        go_wp2_with fail
        refine bodyPost_ret (v:=.tuple #[.agg #[.slice A1 n c1,.slice A5 (m+T.length+1) c5],.int .i64 0]) (by simp [results,Tryz.results128,go_sem,p0,p1]) rfl ⟨A1,n,c1,A5,m+T.length+1,c5,rfl,⟨((HO1.out.setCell (p:=⟨z,0,none⟩) hz3 _).setCell (p:=⟨z,1,none⟩) hz3 _).sl,?_,HO1.out.le_cap,HO1.out.cap_max,HO2.out.le_cap,HO2.out.cap_max⟩,HO1.out.fresh on.size,HO2.out.fresh on.size,(HON.out.put hz' _).put hz' _⟩
        rw [show (⟨x.safe,x.wait ++T ++[10]⟩:Dsk).wait.map encB=x.wait.map encB ++T.map encB ++[encB 10] by simp]
        exact ((HO2.out.setCell (p:=⟨z,0,none⟩) hz3 _).setCell (p:=⟨z,1,none⟩) hz3 _).sl
   · have hq:=HQ.out
     rw [if_pos hh0] at hq
     subst hq
     have hh1:(h ==0)=false:=by simp [hh0]
     have hh2:(h !=0)=true:=by simp [hh0]
     clear hh0
     go_wp2_with (refine wpList_put Bz [.slice none 0 0,.slice none 0 0] 54 _ _ (by rfl) (by rfl) (by rfl) (by rfl) (by rfl) sizeD (by rfl) ?_)
     have hF:=Bz.put (us:=[.slice none 0 0,.slice none 0 0]) rfl
     have oF:=Onto.puts (b:=z) (o:=0) (us:=[.slice none 0 0,.slice none 0 0]) hz' on
     generalize World.setCells _ z 0 [.slice none 0 0,.slice none 0 0]=wF at hF oF ⊢
     go_wp2_with fail
     have p0:=hF.at_ 0 rfl;have p1:=hF.at_ 1 rfl
     refine bodyPost_ret (v:=.tuple #[.agg #[.slice none 0 0,.slice none 0 0],.int .i64 h]) (by simp [results,Tryz.results128,go_sem,p0,p1]) rfl (DnPost.bad rfl oF)
 · have hq:=HQ.out
   rw [if_pos hg0] at hq
   subst hq
   have hg1:(g ==0)=false:=by simp [hg0]
   have hg2:(g !=0)=true:=by simp [hg0]
   clear hg0
   go_wp2_with (refine wpList_put Bz [.slice none 0 0,.slice none 0 0] 54 _ _ (by rfl) (by rfl) (by rfl) (by rfl) (by rfl) sizeD (by rfl) ?_)
   have hF:=Bz.put (us:=[.slice none 0 0,.slice none 0 0]) rfl
   have oF:=Onto.puts (b:=z) (o:=0) (us:=[.slice none 0 0,.slice none 0 0]) hz' on
   generalize World.setCells _ z 0 [.slice none 0 0,.slice none 0 0]=wF at hF oF ⊢
   go_wp2_with fail
   have p0:=hF.at_ 0 rfl;have p1:=hF.at_ 1 rfl
   refine bodyPost_ret (v:=.tuple #[.agg #[.slice none 0 0,.slice none 0 0],.int .i64 g]) (by simp [results,Tryz.results128,go_sem,p0,p1]) rfl (DnPost.bad rfl oF)
end
section
open Go.RowKit
attribute [local go_sem ↓] Go.wp_at_zero Go.wp_at_succ
theorem Own.puts {base E k n z:Nat} {v:Value} {rows:List (List Value)} (hz:z<base):∀ {us:List Value} {o:Nat} {w:World},Own w base E k v n rows→Own (w.setCells z o us) base E k v n rows
 | [],_,_,h=>h
 | u ::us,o,w,h=>by rw [World.setCells];exact Own.puts hz (h.setCell (by simpa using hz) u)
theorem DK.one {w:World} {base n m c:Nat} {A:Option Addr} {a b:List UInt8} (h:Own w base 5 1 (.slice A (n+m) c) (n+m) (a.map encB ++b.map encB)):DK w A (n+m) c none 0 0 ⟨a ++b,[]⟩ :=
 ⟨by rw [show (⟨a ++b,[]⟩:Dsk).safe.map encB=a.map encB ++b.map encB by simp];exact h.sl,Sl.nil,h.le_cap,h.cap_max,by omega,by simp [maxLen]⟩
set_option maxHeartbeats 8000000 in
set_option maxRecDepth 100000 in
theorem DSync_calls (A A' : Option Addr) (n c m d : Nat) (x : Dsk) (w : World) (E : Env w) (K : DK w A n c A' m d x) :
    Calls Tryz.prog 129 #[.agg #[.slice A n c,.slice A' m d]] w (DnPost w (syncK x)):=by
 obtain ⟨g,hg⟩:∃ g,g=checkK x:=⟨_,rfl⟩
 obtain ⟨h,hh⟩:∃ h,h=checkK ⟨x.safe ++x.wait,[]⟩:=⟨_,rfl⟩
 obtain ⟨q,hq⟩:∃ q,q=syncK x:=⟨_,rfl⟩
 rw [← hq]
 unfold syncK at hq
 rw [← hg,← hh] at hq
 have HG:=Lib.hid hg;have HH:=Lib.hid hh;have HQ:=Lib.hid hq
 clear hg hh hq
 go_enter Tryz.func129,Tryz.ntmps129
 go_upto_region 1 with fail
 have B2:Bx ((w.alloc (Obj.cells #[.slice A n c,.slice A' m d] 54)).alloc (Obj.cells #[.slice none 0 0,.slice none 0 0] 54)) w.heap.size [.slice A n c,.slice A' m d]:=by
  have:=((Bx.made w #[.slice A n c,.slice A' m d] 54).new (Obj.cells #[.slice none 0 0,.slice none 0 0] 54))
  simpa using this
 have Bz:Bx ((w.alloc (Obj.cells #[.slice A n c,.slice A' m d] 54)).alloc (Obj.cells #[.slice none 0 0,.slice none 0 0] 54)) (w.heap.size+1) [.slice none 0 0,.slice none 0 0]:=by
  have:=(Bx.made (w.alloc (Obj.cells #[.slice A n c,.slice A' m d] 54)) #[.slice none 0 0,.slice none 0 0] 54)
  simpa using this
 have on:Onto w ((w.alloc (Obj.cells #[.slice A n c,.slice A' m d] 54)).alloc (Obj.cells #[.slice none 0 0,.slice none 0 0] 54)):=((Onto.rfl' w).new _).new _
 generalize ((w.alloc (Obj.cells #[.slice A n c,.slice A' m d] 54)).alloc (Obj.cells #[.slice none 0 0,.slice none 0 0] 54))=w1 at *
 have hz':w.heap.size≤w.heap.size+1:=by omega
 have hzz:w.heap.size≠w.heap.size+1:=by omega
 generalize w.heap.size+1=z at Bz hz' hzz ⊢
 generalize hz2:w.heap.size=z2 at B2 hzz ⊢
 clear hz2
 have b0:=B2.at_ 0 rfl;have b1:=B2.at_ 1 rfl
 go_wp2_with fail
 refine Calls.mono (DCheck_calls A A' n c m d x _ (E.onto on) (K.onto on)) ?_
 rintro e w2 ⟨rfl,b⟩
 rw [show checkK x=g from HG.out.symm]
 replace on:=on.to b;replace B2:=B2.onto b;replace Bz:=Bz.onto b
 have hs2:=on.size
 clear b b0 b1
 by_cases hg0:g=0
 · have hbd:n+m≤30000:=by rw [K.n_eq,K.m_eq];exact decB x (by rw [← HG.out,hg0])
   have hn:n≤30000:=by omega
   have hm:m≤30000:=by omega
   have hq:=HQ.out
   rw [if_neg (by simp [hg0])] at hq
   replace HQ:=Lib.hid hq
   have HG0:=Lib.hid hg0
   subst hg0
   clear hq
   have b0:=B2.at_ 0 rfl;have b1:=B2.at_ 1 rfl
   have hzw:z<w2.heap.size:=Bz.lt
   go_wp2_with fail
   refine Calls.mono (ConcatB_calls _ A A' n c m d _ 2 (x.safe.map encB) (x.wait.map encB) (by simp [go_sem]) (by simp [go_sem]) ((K.onto on).safe.new _) ((K.onto on).wait.new _) (encB_one _) (encB_one _) (by omega)) ?_
   rintro e w3 ⟨A1,c1,rfl,own1,b⟩
   have b3:Onto w2 w3:=Onto.to ((Onto.rfl' w2).new _) b
   replace on:=on.to b3;replace Bz:=Bz.onto b3
   have o1:Own w3 w2.heap.size 5 1 (.slice A1 (n+m) c1) (n+m) (x.safe.map encB ++x.wait.map encB):=own1.lower (by simp)
   clear b b3 own1 b0 b1 B2
   go_upto_region 5 with fail
   have on5:=(Onto.rfl' w3).new (Obj.cells #[.slice A1 (n+m) c1,.slice none 0 0] 54)
   have B5:Bx (w3.alloc (Obj.cells #[.slice A1 (n+m) c1,.slice none 0 0] 54)) w3.heap.size [.slice A1 (n+m) c1,.slice none 0 0]:=Bx.made _ _ _
   replace on:=on.to on5;replace Bz:=Bz.onto on5;replace o1:=o1.below on5
   clear on5
   generalize (w3.alloc (Obj.cells #[.slice A1 (n+m) c1,.slice none 0 0] 54))=w5 at *
   generalize w3.heap.size=z5 at *
   have b0:=B5.at_ 0 rfl;have b1:=B5.at_ 1 rfl
   go_wp2_with fail
   refine Calls.mono (DCheck_calls A1 none (n+m) c1 0 0 ⟨x.safe ++x.wait,[]⟩ _ (E.onto on) (DK.one o1)) ?_
   rintro e w6 ⟨rfl,b⟩
   rw [show checkK ⟨x.safe ++x.wait,[]⟩=h from HH.out.symm]
   replace on:=on.to b;replace B5:=B5.onto b;replace Bz:=Bz.onto b;replace o1:=o1.below b
   clear b b0 b1
   by_cases hh0:h=0
   · have hq:=HQ.out
     rw [if_neg (by simp [hh0])] at hq
     subst hq
     subst hh0
     have b0:=B5.at_ 0 rfl;have b1:=B5.at_ 1 rfl
     have HO:=Lib.hid o1
     clear o1
     go_wp2_with (refine wpList_put Bz [.slice A1 (n+m) c1,.slice none 0 0] 54 _ _ (by rfl) (by rfl) (by rfl) (by rfl) (by rfl) sizeD (by rfl) ?_)
     have hF:=Bz.put (us:=[.slice A1 (n+m) c1,.slice none 0 0]) rfl
     have oF:=Onto.puts (b:=z) (o:=0) (us:=[.slice A1 (n+m) c1,.slice none 0 0]) hz' on
     have HOF:=Lib.hid (Own.puts (us:=[.slice A1 (n+m) c1,.slice none 0 0]) (o:=0) hzw HO.out)
     clear HO
     generalize World.setCells _ z 0 [.slice A1 (n+m) c1,.slice none 0 0]=wF at hF oF HOF ⊢
     go_wp2_with fail
     have p0:=hF.at_ 0 rfl;have p1:=hF.at_ 1 rfl
     refine bodyPost_ret (v:=.tuple #[.agg #[.slice A1 (n+m) c1,.slice none 0 0],.int .i64 0]) (by simp [results,Tryz.results129,go_sem,p0,p1]) rfl ⟨A1,n+m,c1,none,0,0,rfl,DK.one HOF.out,HOF.out.fresh hs2,Fresh.none_ _,oF⟩
   · have hq:=HQ.out
     rw [if_pos hh0] at hq
     subst hq
     have hg1:(h ==0)=false:=by simp [hh0]
     have hg2:(h !=0)=true:=by simp [hh0]
     clear hh0
     go_wp2_with (refine wpList_put Bz [.slice none 0 0,.slice none 0 0] 54 _ _ (by rfl) (by rfl) (by rfl) (by rfl) (by rfl) sizeD (by rfl) ?_)
     have hF:=Bz.put (us:=[.slice none 0 0,.slice none 0 0]) rfl
     have oF:=Onto.puts (b:=z) (o:=0) (us:=[.slice none 0 0,.slice none 0 0]) hz' on
     generalize World.setCells _ z 0 [.slice none 0 0,.slice none 0 0]=wF at hF oF ⊢
     go_wp2_with fail
     have p0:=hF.at_ 0 rfl;have p1:=hF.at_ 1 rfl
     refine bodyPost_ret (v:=.tuple #[.agg #[.slice none 0 0,.slice none 0 0],.int .i64 h]) (by simp [results,Tryz.results129,go_sem,p0,p1]) rfl (DnPost.bad rfl oF)
 · have hq:=HQ.out
   rw [if_pos hg0] at hq
   subst hq
   have hg1:(g ==0)=false:=by simp [hg0]
   have hg2:(g !=0)=true:=by simp [hg0]
   clear hg0
   go_wp2_with (refine wpList_put Bz [.slice none 0 0,.slice none 0 0] 54 _ _ (by rfl) (by rfl) (by rfl) (by rfl) (by rfl) sizeD (by rfl) ?_)
   have hF:=Bz.put (us:=[.slice none 0 0,.slice none 0 0]) rfl
   have oF:=Onto.puts (b:=z) (o:=0) (us:=[.slice none 0 0,.slice none 0 0]) hz' on
   generalize World.setCells _ z 0 [.slice none 0 0,.slice none 0 0]=wF at hF oF ⊢
   go_wp2_with fail
   have p0:=hF.at_ 0 rfl;have p1:=hF.at_ 1 rfl
   refine bodyPost_ret (v:=.tuple #[.agg #[.slice none 0 0,.slice none 0 0],.int .i64 g]) (by simp [results,Tryz.results129,go_sem,p0,p1]) rfl (DnPost.bad rfl oF)
end
section
open Go.RowKit
attribute [local go_sem ↓] Go.wp_at_zero Go.wp_at_succ
end
end Go.Proofs.YtidlffepdcldkaaGreatDoor
