/- Part 8 of the proof: EPrint, EParse. -/
import Derived.Test.YtidlffepdcldkaaGreatDoorBa01
import Derived.Test.YtidlffepdcldkaaGreatDoorBa03
import Derived.Deep.DeepCutAuto
import Derived.Deep.CutBlock
import Derived.Test.YtidlffepdcldkaaGreatDoorBa02
namespace Go.Proofs.YtidlffepdcldkaaGreatDoor
set_option linter.unusedSimpArgs false
set_option linter.unusedVariables false
section
open Go.RowKit
theorem EPrint_bad (x : Entry) (w : World) (hc : checkE x ≠ 0) :
    Calls Tryz.prog 168 #[.agg #[.int .i64 x.kind,.int .i64 x.job,.int .i64 x.every,.int .i64 x.time,.int .i64 x.client]] w fun e w'=>e=.returned (.tuple #[str [],.int .i64 (checkE x)])∧Onto w w':=by
 obtain ⟨r,hr⟩:∃ r,r=checkE x:=⟨_,rfl⟩
 rw [← hr] at hc ⊢
 have HR:=Lib.hid hr
 clear hr
 have hb:(!decide (r=0))=true:=by simp [hc]
 go_enter Tryz.func168,Tryz.ntmps168
 go_wp2_with fail
 refine Calls.mono (Check_calls x.kind x.job x.every x.time x.client _) ?_
 rintro e w1 ⟨rfl,b⟩
 rw [show checkE ⟨x.kind,x.job,x.every,x.time,x.client⟩=r from HR.out.symm]
 have on:Onto w w1:=Onto.to ((Onto.rfl' w).new _) b
 clear b
 go_wp2
 refine bodyPost_ret (v:=.tuple #[str [],.int .i64 r]) (by simp [results,Tryz.results168,go_sem]) rfl ⟨rfl,on⟩
def pick4 (k:Int) (a b c d:Value):Value:=if k=1 then b else if k=2 then c else if k=3 then d else a
theorem ix4 (k:Int) (h0:0≤k) (h3:k≤3) (a b c d:Value) (w:World):(Instr.index 233 (.agg #[a,b,c,d]) (.int .i64 k)).run Tryz.prog w=.ok (pick4 k a b c d) w:=by
 rcases (by omega:k=0∨k=1∨k=2∨k=3) with rfl | rfl | rfl | rfl <;> kernel_rfl
theorem ix4s (k:Int) (h0:0≤k) (h3:k≤3) (a b c d:Value) (w:World):(Instr.index 234 (.agg #[a,b,c,d]) (.int .i64 k)).run Tryz.prog w=.ok (pick4 k a b c d) w:=by
 rcases (by omega:k=0∨k=1∨k=2∨k=3) with rfl | rfl | rfl | rfl <;> kernel_rfl
theorem pick_head (x:Entry):pick4 x.kind (.string ⟨#[106,117,110,107]⟩) (.string ⟨#[112,117,116]⟩) (.string ⟨#[100,114,111,112]⟩) (.string ⟨#[114,105,110,103]⟩)=str (headE x):=by
 unfold pick4 headE
 (repeat' split) <;> rfl
theorem S.ints {w:World} {b:Nat} {l:List Int} {t:TypeId} (h:w.heap[b]?=some (.cells (l.map fun n=>Value.int .i64 n).toArray t)):S w 1 (some ⟨b,0,none⟩) l.length (l.map encI):=by
 have:=Sl.block (k:=1) (l.map encI) h (by
  intro r hr
  obtain ⟨x,_,rfl⟩:=List.mem_map.1 hr
  rfl) (by
  clear h
  induction l with
  | nil=>rfl
  | cons a l ih=>simp [encI] at ih ⊢;exact ih)
 rw [List.length_map] at this
 exact this
theorem tailB_take {l:List Int} {k:Nat} {n:Int} (h:l[k]?=some n):tailB (l.take (k+1))=tailB (l.take k) ++32 ::Lib.itoa n:=by
 obtain ⟨hk,rfl⟩:=List.getElem?_eq_some_iff.1 h
 rw [List.take_succ_eq_append_getElem hk]
 simp only [tailB,List.map_append,List.flatten_append,List.map_cons,List.map_nil,List.flatten_cons,List.flatten_nil,List.append_nil]
set_option maxHeartbeats 4000000 in
theorem EPrint_ok (x : Entry) (w : World) (E : Env w) (hc : checkE x = 0) :
    Calls Tryz.prog 168 #[.agg #[.int .i64 x.kind,.int .i64 x.job,.int .i64 x.every,.int .i64 x.time,.int .i64 x.client]] w fun e w'=>e=.returned (.tuple #[str (textE x),.int .i64 0])∧Onto w w':=by
 have HC:=Lib.hid hc
 have hk:=checkE_kd hc
 have ix:∀ a b c d w,(Instr.index 233 (.agg #[a,b,c,d]) (.int .i64 x.kind)).run Tryz.prog w=.ok (pick4 x.kind a b c d) w:=fun a b c d w=>ix4 _ hk.1 hk.2 a b c d w
 have ix':∀ w,(Instr.index 234 (.agg #[.string ⟨#[106,117,110,107]⟩,.string ⟨#[112,117,116]⟩,.string ⟨#[100,114,111,112]⟩,.string ⟨#[114,105,110,103]⟩]) (.int .i64 x.kind)).run Tryz.prog w=.ok (str (headE x)) w:=fun w=>by
  rw [ix4s _ hk.1 hk.2,pick_head]
 clear hc hk
 go_enter Tryz.func168,Tryz.ntmps168
 go_wp2_with fail
 refine Calls.mono (Check_calls x.kind x.job x.every x.time x.client _) ?_
 rintro e w1 ⟨rfl,b⟩
 rw [show checkE ⟨x.kind,x.job,x.every,x.time,x.client⟩=0 from HC.out]
 have on:Onto w w1:=Onto.to ((Onto.rfl' w).new _) b
 have c0:w1.cell? ⟨w.heap.size,0,none⟩=some (.int .i64 x.kind):=cellB b (by simp [go_sem])
 have c1:w1.cell? ⟨w.heap.size,1,none⟩=some (.int .i64 x.job):=cellB b (by simp [go_sem])
 have c2:w1.cell? ⟨w.heap.size,2,none⟩=some (.int .i64 x.every):=cellB b (by simp [go_sem])
 have c3:w1.cell? ⟨w.heap.size,3,none⟩=some (.int .i64 x.time):=cellB b (by simp [go_sem])
 have c4:w1.cell? ⟨w.heap.size,4,none⟩=some (.int .i64 x.client):=cellB b (by simp [go_sem])
 have E1:=E.onto on
 clear b
 generalize w.heap.size=z at *
 have k11:∀ o,(w1.alloc o).cell? ⟨z,1,none⟩=some (.int .i64 x.job):=fun o=>cellA c1 o
 have k12:∀ o,(w1.alloc o).cell? ⟨z,2,none⟩=some (.int .i64 x.every):=fun o=>cellA c2 o
 have k13:∀ o,(w1.alloc o).cell? ⟨z,3,none⟩=some (.int .i64 x.time):=fun o=>cellA c3 o
 have k21:∀ o p,((w1.alloc o).alloc p).cell? ⟨z,1,none⟩=some (.int .i64 x.job):=fun o p=>cellA (cellA c1 o) p
 have k31:∀ o p q,(((w1.alloc o).alloc p).alloc q).cell? ⟨z,1,none⟩=some (.int .i64 x.job):=fun o p q=>cellA (cellA (cellA c1 o) p) q
 have k33:∀ o p q,(((w1.alloc o).alloc p).alloc q).cell? ⟨z,3,none⟩=some (.int .i64 x.time):=fun o p q=>cellA (cellA (cellA c3 o) p) q
 have k34:∀ o p q,(((w1.alloc o).alloc p).alloc q).cell? ⟨z,4,none⟩=some (.int .i64 x.client):=fun o p q=>cellA (cellA (cellA c4 o) p) q
 have k40:∀ o p q r,((((w1.alloc o).alloc p).alloc q).alloc r).cell? ⟨z,0,none⟩=some (.int .i64 x.kind):=fun o p q r=>cellA (cellA (cellA (cellA c0 o) p) q) r
 go_upto_region 6 with fail
 obtain ⟨A, hA, sA⟩ : ∃ A, pick4 x.kind (.slice (some ⟨w1.heap.size, 0, none⟩) 0 0) (.slice (some ⟨w1.heap.size + 1, 0, none⟩) 3 3) (.slice (some ⟨w1.heap.size + 1 + 1, 0, none⟩) 1 1) (.slice (some ⟨w1.heap.size + 1 + 1 + 1, 0, none⟩) 3 3) = .slice A (numsE x).length (numsE x).length ∧
     S ((((w1.alloc (Obj.cells #[] 3)).alloc (Obj.cells #[.int .i64 x.job,.int .i64 x.every,.int .i64 x.time] 3)).alloc (Obj.cells #[.int .i64 x.job] 3)).alloc (Obj.cells #[.int .i64 x.job,.int .i64 x.time,.int .i64 x.client] 3)) 1 A (numsE x).length ((numsE x).map encI):=by
  unfold pick4 numsE
  by_cases h1:x.kind=1
  · rw [if_pos h1,if_pos h1]
    exact ⟨_,rfl,S.ints (t:=3) (hOld (hOld (hNew (by simp))))⟩
  · rw [if_neg h1,if_neg h1]
    by_cases h2:x.kind=2
    · rw [if_pos h2,if_pos h2]
      exact ⟨_,rfl,S.ints (t:=3) (hOld (hNew (by simp)))⟩
    · rw [if_neg h2,if_neg h2]
      by_cases h3:x.kind=3
      · rw [if_pos h3,if_pos h3]
        exact ⟨_,rfl,S.ints (t:=3) (hNew (by simp))⟩
      · rw [if_neg h3,if_neg h3]
        exact ⟨_,rfl,Sl.nil⟩
 have oz:Onto w1 ((((w1.alloc (Obj.cells #[] 3)).alloc (Obj.cells #[.int .i64 x.job,.int .i64 x.every,.int .i64 x.time] 3)).alloc (Obj.cells #[.int .i64 x.job] 3)).alloc (Obj.cells #[.int .i64 x.job,.int .i64 x.time,.int .i64 x.client] 3)):=((((Onto.rfl' w1).new _).new _).new _).new _
 replace on:=Onto.to on oz
 replace E1:=E1.onto oz
 rw [hA]
 clear hA c0 c1 c2 c3 c4 k11 k12 k13 k21 k31 k33 k34 k40 oz
 generalize ((((w1.alloc (Obj.cells #[] 3)).alloc (Obj.cells #[.int .i64 x.job,.int .i64 x.every,.int .i64 x.time] 3)).alloc (Obj.cells #[.int .i64 x.job] 3)).alloc (Obj.cells #[.int .i64 x.job,.int .i64 x.time,.int .i64 x.client] 3))=w5 at *
 generalize w1.heap.size=z1
 obtain ⟨n,hn⟩:∃ n,n=(numsE x).length:=⟨_,rfl⟩
 rw [← hn] at sA ⊢
 have HN:=Lib.hid hn
 have hbd:=numsE_bounds HC.out
 have HB:=Lib.hid hbd
 clear hn hbd
 go_wp2_with fail
 go_loopg [6,8,42] n (fun g s6 s8 s42 wr=>∃ kk:Nat,kk≤n∧n - kk≤g∧s42=.int .i64 kk∧s6=str (headE x ++tailB ((numsE x).take kk))∧Onto w wr∧Onto w5 wr)
 case atStart=>exact ⟨0,Nat.zero_le _,by omega,rfl,by simp [tailB],on,Onto.rfl' _⟩
 case round =>
  obtain ⟨kk,hkk,hg,rfl,rfl,hon,h5⟩:=hrel
  have hn3:n≤3:=by rw [HN.out];unfold numsE;(repeat' split) <;> simp
  have ER:=E1.onto h5
  have sR:=S.onto sA h5
  by_cases hlt:kk<n
  · obtain ⟨bb,off,y,rfl,hb,hy,d0⟩:=Sl.atI sR hlt
    have HY:=Lib.hid hy
    have hyb:=HB.out y (List.mem_of_getElem? hy)
    clear hy sR
    obtain ⟨T,hT⟩:∃ T,T=headE x ++tailB ((numsE x).take kk):=⟨_,rfl⟩
    rw [← hT]
    have HT:=Lib.hid hT
    clear hT
    go_wp2_with fail
    refine Calls.mono (Itoa_calls y (by omega) (by omega) _ ER) ?_
    rintro e w6 ⟨rfl,b⟩
    have hl1:=Lib.itoa_length_le y (by omega) (by omega)
    have hl2:T.length≤100:=by
     have h1:=textE_len HC.out
     have h2:(tailB ((numsE x).take kk)).length≤(tailB (numsE x)).length:=by
      have e:tailB (numsE x)=tailB ((numsE x).take kk) ++tailB ((numsE x).drop kk):=by
       unfold tailB;rw [← List.flatten_append,← List.map_append,List.take_append_drop]
      rw [e,List.length_append];omega
     rw [HT.out]
     unfold textE at h1
     rw [List.length_append] at h1 ⊢
     omega
    have s1:∀ w,(Op.stringOp .add ⟨#[32]⟩ ⟨(Lib.itoa y).toArray⟩).run Tryz.prog w=.ok (str (32 ::Lib.itoa y)) w:=fun w=>run_string_add_lists w [32] (Lib.itoa y) (by simp) (by omega)
    have s2:∀ w,(Op.stringOp .add ⟨T.toArray⟩ ⟨(32 ::Lib.itoa y).toArray⟩).run Tryz.prog w=.ok (str (T ++32 ::Lib.itoa y)) w:=fun w=>run_string_add_lists w T _ (by omega) (by simp;omega)
    clear hl1 hl2
    go_wp2_with fail
    go_roundg (n - (kk+1))
    case measure=>omega
    case rel =>
     refine ⟨kk+1,by omega,by omega,by go_num,?_,hon.to b,h5.to b⟩
     rw [HT.out,tailB_take HY.out,List.append_assoc]
  · have hkn:kk=n:=by omega
    subst hkn
    have e:headE x ++tailB ((numsE x).take kk)=textE x:=by
     rw [HN.out,List.take_length];rfl
    rw [e]
    clear e sR sA
    go_wp2
    refine bodyPost_ret (v:=.tuple #[str (textE x),.int .i64 0]) (by simp [results,Tryz.results168,go_sem]) rfl ⟨rfl,hon⟩
theorem EPrint_calls (x : Entry) (w : World) (E : Env w) :
    Calls Tryz.prog 168 #[.agg #[.int .i64 x.kind,.int .i64 x.job,.int .i64 x.every,.int .i64 x.time,.int .i64 x.client]] w fun e w'=>e=.returned (.tuple #[str (printE x).1,.int .i64 (printE x).2])∧Onto w w':=by
 unfold printE
 by_cases hc:checkE x=0
 · rw [if_neg (by simp [hc])]
   exact EPrint_ok x w E hc
 · rw [if_pos hc]
   exact EPrint_bad x w hc
end
section
open Go.RowKit
def EnPost (w:World) (r:Entry × Int) (e:Ending) (w':World):Prop:=e=.returned (.tuple #[.agg #[.int .i64 r.1.kind,.int .i64 r.1.job,.int .i64 r.1.every,.int .i64 r.1.time,.int .i64 r.1.client],.int .i64 r.2])∧Onto w w'
theorem S.atS {w:World} {A:Option Addr} {n:Nat} {l:List (List UInt8)} (h:S w 1 A n (l.map encS)) {i:Nat} (hi:i<n):∃ b off x,A=some ⟨b,off,none⟩∧b<w.heap.size∧l[i]?=some x∧w.cell? ⟨b,off+i,none⟩=some (str x):=by
 obtain ⟨b,off,x,e,hb,hx,hc⟩:=Sl.at_ h hi
 have h0:=hc 0 _ rfl
 rw [Nat.mul_one] at h0
 exact ⟨b,off,x,e,hb,hx,h0⟩
theorem sizeE:(Tryz.prog.info? 46).map (·.size)=some 5:=by kernel_rfl
theorem set3 {l:List Int} {k:Nat} {v:Int} (h:l.length=k) (hk:k<3):([.int .i64 (l.getD 0 0),.int .i64 (l.getD 1 0),.int .i64 (l.getD 2 0)]:List Value).set k (.int .i64 v)=[.int .i64 ((l ++[v]).getD 0 0),.int .i64 ((l ++[v]).getD 1 0),.int .i64 ((l ++[v]).getD 2 0)]:=by
 subst h
 match l,hk with
 | [],_=>rfl
 | [a],_=>rfl
 | [a,b],_=>rfl
theorem cutc_le {c:UInt8}:∀ {l p:List UInt8},p∈cutc c l→p.length≤l.length
 | [],p,h=>by simp [cutc] at h;simp [h]
 | b ::l,p,h=>by
   rw [cutc] at h
   split at h
   · rcases List.mem_cons.1 h with rfl | h
     · simp
     · have:=cutc_le h;simp;omega
   · rcases List.mem_cons.1 h with rfl | h
     · have:=cutc_le (show (cutc c l).headD []∈cutc c l by rw [cutc_eta];simp)
       simp;simpa using this
     · have:=cutc_le (List.mem_of_mem_tail h);simp;omega
theorem numsL_snoc {t:List UInt8}:∀ {ts:List (List UInt8)} {l:List Int},numsL ts=some l→numsL (ts ++[t])=(num t).map fun v=>l ++[v]
 | [],l,h=>by simp [numsL] at h;subst h;simp only [List.nil_append,numsL];cases num t <;> rfl
 | a ::ts,l,h=>by
   simp only [numsL] at h
   simp only [List.cons_append,numsL]
   cases ha:num a with
   | none=>rw [ha] at h;cases h
   | some v =>
     rw [ha] at h
     cases hr:numsL ts with
     | none=>rw [hr] at h;cases h
     | some r =>
       rw [hr] at h
       injection h with h
       subst h
       simp only
       rw [numsL_snoc hr]
       cases num t <;> rfl
theorem numsL_none {t:List UInt8}:∀ {ts:List (List UInt8)},t∈ts→num t=none→numsL ts=none
 | [],h,_=>by simp at h
 | a ::ts,h,hn=>by
   simp only [numsL]
   rcases List.mem_cons.1 h with rfl | h
   · rw [hn]
   · rw [numsL_none h hn];cases num a <;> rfl
theorem EParse_long (s : List UInt8) (w : World) (hs : 30000 < s.length) (hm : s.length ≤ 9223372036854775807) :
    Calls Tryz.prog 133 #[str s] w (EnPost w (zeroE,2)):=by
 have hd:((30000:Int)<(s.length:Int)):=by omega
 go_enter Tryz.func133,Tryz.ntmps133
 go_wp2
 refine bodyPost_ret (v:=.tuple #[.agg #[.int .i64 0,.int .i64 0,.int .i64 0,.int .i64 0,.int .i64 0],.int .i64 2]) (by simp [results,Tryz.results133,go_sem]) rfl ⟨rfl,?_⟩
 repeat (first | exact Onto.rfl' _ | refine Onto.draw ?_ | refine Onto.new ?_ _ | refine Onto.put ?_ (by simp) _)
theorem kind0 {y:List UInt8} (h:(y ==[106,117,110,107])=true):Hid (kindW y=some (0,0)):=Lib.hid (by rw [beq_iff_eq] at h;subst h;rfl)
theorem kind1 {y:List UInt8} (h:(y ==[112,117,116])=true):Hid (kindW y=some (1,3)):=Lib.hid (by rw [beq_iff_eq] at h;subst h;rfl)
theorem kind2 {y:List UInt8} (h:(y ==[100,114,111,112])=true):Hid (kindW y=some (2,1)):=Lib.hid (by rw [beq_iff_eq] at h;subst h;rfl)
theorem kind3 {y:List UInt8} (h:(y ==[114,105,110,103])=true):Hid (kindW y=some (3,3)):=Lib.hid (by rw [beq_iff_eq] at h;subst h;rfl)
theorem kindN {y:List UInt8} (h0:(y ==[106,117,110,107])=false) (h1:(y ==[112,117,116])=false) (h2:(y ==[100,114,111,112])=false) (h3:(y ==[114,105,110,103])=false):kindW y=none:=by
 rw [beq_eq_false_iff_ne] at h0 h1 h2 h3
 unfold kindW junkW putW dropW ringW
 rw [if_neg h0,if_neg h1,if_neg h2,if_neg h3]
set_option maxRecDepth 100000 in
set_option maxHeartbeats 4000000 in
theorem EParse_short (s : List UInt8) (w : World) (E : Env w) (hs : s.length ≤ 30000) :
    Calls Tryz.prog 133 #[str s] w (EnPost w (readWs (cutc 32 s))):=by
 have HS:=Lib.hid hs
 have hd2:decide ((30000:Int)<(s.length:Int))=false:=by simp;omega
 obtain ⟨r,hr⟩:∃ r,r=readWs (cutc 32 s):=⟨_,rfl⟩
 rw [← hr]
 have HR:=Lib.hid hr
 clear hs hr
 go_enter Tryz.func133,Tryz.ntmps133
 go_wp2_with fail
 refine Calls.mono (Split_calls 32 s (by have:=HS.out;omega) _ (E.new _)) ?_
 rintro e w1 ⟨A,rfl,sA,b⟩
 have on:Onto w w1:=Onto.to ((Onto.rfl' w).new _) b
 have Bz:Bx w1 w.heap.size [.int .i64 0,.int .i64 0,.int .i64 0,.int .i64 0,.int .i64 0]:=(Bx.made w #[.int .i64 0,.int .i64 0,.int .i64 0,.int .i64 0,.int .i64 0] 46).onto b
 have E1:=E.onto on
 have hz:=Bz.lt
 clear b
 obtain ⟨ws,hws⟩:∃ ws,ws=cutc 32 s:=⟨_,rfl⟩
 have hne:ws≠[]:=hws ▸ cutc_ne 32 s
 have hlw:∀ t∈ws,t.length≤30000:=fun t ht=>Nat.le_trans (cutc_le (hws ▸ ht)) HS.out
 rw [← hws] at sA HR ⊢
 clear hws
 obtain ⟨h,ts,rfl⟩:∃ h ts,ws=h ::ts:=by
  cases ws with
  | nil=>exact absurd rfl hne
  | cons h ts=>exact ⟨h,ts,rfl⟩
 clear hne
 have HTL:=Lib.hid (show ∀ t∈ts,t.length≤30000 from fun t ht=>hlw t (by simp [ht]))
 clear hlw
 generalize hzz:w.heap.size=z at *
 obtain ⟨bb,off,y,rfl,hb,hy,d0⟩:=S.atS sA (i:=0) (by simp)
 have hy:y=h:=by simpa using hy.symm
 subst hy
 rw [Nat.add_zero] at d0
 have hn0:(0:Int)<((y ::ts).length:Int):=by simp
 go_upto_block 0 with fail
 go_cut [5,6] (fun s5 s6 wx=>∃ (k:Int) (m:Nat),s5=.int .i64 k∧s6=.int .i64 m∧wx=w1∧Hid (kindW y=some (k,m)))
 case first =>
  go_wp2_with (refine wpList_put Bz [.int .i64 0,.int .i64 0,.int .i64 0,.int .i64 0,.int .i64 0] 46 _ _ (by rfl) (by rfl) (by rfl) (by rfl) (by rfl) sizeE (by rfl) ?_)
  all_goals first
   | (go_meet;first | exact ⟨0,0,rfl,rfl,rfl,kind0 (by assumption)⟩ | exact ⟨1,3,rfl,rfl,rfl,kind1 (by assumption)⟩ | exact ⟨2,1,rfl,rfl,rfl,kind2 (by assumption)⟩ | exact ⟨3,3,rfl,rfl,rfl,kind3 (by assumption)⟩)
   | skip
  have hk:kindW y=none:=kindN (by assumption) (by assumption) (by assumption) (by assumption)
  have hr:r=(zeroE,1):=by rw [HR.out];unfold readWs;rw [List.headD_cons,hk]
  subst hr
  have hF:=Bz.put (us:=[.int .i64 0,.int .i64 0,.int .i64 0,.int .i64 0,.int .i64 0]) rfl
  have oF:=Onto.puts (b:=z) (o:=0) (us:=[.int .i64 0,.int .i64 0,.int .i64 0,.int .i64 0,.int .i64 0]) (by omega) on
  generalize World.setCells _ z 0 [.int .i64 0,.int .i64 0,.int .i64 0,.int .i64 0,.int .i64 0]=wF at hF oF ⊢
  go_wp2_with fail
  have p0:=hF.at_ 0 rfl;have p1:=hF.at_ 1 rfl;have p2:=hF.at_ 2 rfl;have p3:=hF.at_ 3 rfl;have p4:=hF.at_ 4 rfl
  refine bodyPost_ret (v:=.tuple #[.agg #[.int .i64 0,.int .i64 0,.int .i64 0,.int .i64 0,.int .i64 0],.int .i64 1]) (by simp [results,Tryz.results133,go_sem,p0,p1,p2,p3,p4]) rfl ⟨rfl,oF⟩
 case rest =>
  obtain ⟨k,m,rfl,rfl,rfl,HK⟩:=hcut
  obtain ⟨hm3,hkm⟩:m≤3∧(m=0∨1≤m):=by
   have h:=HK.out
   unfold kindW at h
   (repeat' split at h) <;> simp at h <;> omega
  by_cases hlen:ts.length=m
  · subst hlen
    have hq:((ts.length:Int)+1 !=(ts.length:Int)+1)=false:=by simp
    obtain ⟨A',hA',sA'⟩:∃ A',(∀ w,(Instr.slice 116 (.slice (some ⟨bb,off,none⟩) (ts.length+1) (ts.length+1)) (some (.int .i64 1)) none none).run Tryz.prog w=.ok (.slice A' ts.length ts.length) w)∧S wc 1 A' ts.length (ts.map encS):=by
     refine ⟨_,fun w=>run_slice_from (size:=1) (some ⟨bb,off,none⟩) (ts.length+1) (ts.length+1) 1 Tryz.underlying116 Tryz.sizeOf9 (by omega) w,?_⟩
     have:=Sl.cut (c:=ts.length+1) (m:=1) sA (by simp) (by simp)
     simpa using this
    clear hn0 hb hy d0 sA hkm
    obtain ⟨z7,hz7⟩:∃ z7,z7=wc.heap.size:=⟨_,rfl⟩
    go_upto_region 17 with fail
    have B7:Bx (wc.alloc (Obj.cells #[.int .i64 0,.int .i64 0,.int .i64 0] 201)) z7 [.int .i64 0,.int .i64 0,.int .i64 0]:=by subst hz7;exact Bx.made _ _ _
    have oa:Onto wc (wc.alloc (Obj.cells #[.int .i64 0,.int .i64 0,.int .i64 0] 201)):=(Onto.rfl' _).new _
    rw [← hz7]
    generalize (wc.alloc (Obj.cells #[.int .i64 0,.int .i64 0,.int .i64 0] 201))=w7 at *
    have E7:=E1.onto oa
    have s7:=S.onto sA' oa
    have hz7':wc.heap.size≤z7:=by omega
    clear hz7
    go_wp2_with fail
    go_loopg [8,9,10,11,41] ts.length (fun g s8 s9 s10 s11 s41 wr=>∃ (kk:Nat) (l:List Int),kk≤ts.length∧ts.length - kk≤g∧s41=.int .i64 kk∧Hid (numsL (ts.take kk)=some l∧l.length=kk) ∧
     Bx wr z7 [.int .i64 (l.getD 0 0),.int .i64 (l.getD 1 0),.int .i64 (l.getD 2 0)]∧Onto wc wr∧Env wr∧S wr 1 A' ts.length (ts.map encS))
    case atStart=>exact ⟨0,[],Nat.zero_le _,by omega,rfl,Lib.hid ⟨rfl,rfl⟩,B7,oa,E7,s7⟩
    case round =>
     obtain ⟨kk,l,hkk,hg,rfl,HL,BR,hon,ER,sR⟩:=hrel
     by_cases hlt:kk<ts.length
     · obtain ⟨bb',off',t,rfl,hb,ht,d0⟩:=S.atS sR hlt
       have HT:=Lib.hid ht
       have htl:=HTL.out t (List.mem_of_getElem? ht)
       clear ht
       go_wp2_with fail
       refine Calls.mono (Atoi_calls t (by omega) _ ER) ?_
       rintro e w8 ⟨v,er,rfl,b,hres⟩
       replace BR:=BR.onto b
       replace sR:=S.onto sR b;replace ER:=ER.onto b;replace hon:=hon.to b
       have BZ:=Bz.onto hon
       have ow:=on.to hon
       clear b d0 s7 B7 Bz
       have sA0:=sA'
       clear sA'
       rcases hres with ⟨rfl,hok,hv0,hv1⟩ | ⟨⟨et,ep,rfl⟩,hno⟩
       · have HOK:=Lib.hid hok
         clear hok
         by_cases hbt:Lib.itoa v=t
         · have hq1:(Lib.itoa v ==t)=true:=by simp [hbt]
           have HBT:=Lib.hid hbt
           clear hbt
           have hnum:num t=some v:=by unfold num;rw [HOK.out];simp only;rw [if_pos HBT.out]
           have HNUM:=Lib.hid hnum
           clear hnum
           go_wp2_with (go_at_call 154;refine (Itoa_calls v hv0 hv1 _ ER).mono ?_;rintro e w9 ⟨rfl,b9⟩;refine Hid.out ?_)
           refine Lib.hid ?_
           replace BR:=BR.onto b9
           replace sR:=S.onto sR b9;replace ER:=ER.onto b9;replace hon:=hon.to b9
           clear b9 BZ ow
           have fr:=fun o=>BR.froz o
           obtain ⟨old,hold⟩:∃ u,w9.cell? ⟨z7,kk,none⟩=some u:=⟨_,BR.at_ kk (List.getElem?_eq_getElem (show kk<3 by omega))⟩
           go_wp2_with fail
           go_roundg (ts.length - (kk+1))
           case measure=>omega
           case rel =>
            have hB:=BR.put1 (j:=kk) (show kk<3 by omega) (.int .i64 v)
            rw [set3 HL.out.2 (by omega)] at hB
            have ob:Onto wc (w9.setCell ⟨z7,kk,none⟩ (.int .i64 v)):=Onto.put hon hz7' _
            have oo:∀ w,Onto w wc→Onto w (w9.setCell ⟨z7,kk,none⟩ (.int .i64 v)):=fun w h=>h.to ob
            refine ⟨kk+1,l ++[v],by omega,by omega,by go_num,Lib.hid ⟨?_,by simp [HL.out.2]⟩,hB,ob,?_,?_⟩
            · rw [List.take_succ_eq_append_getElem hlt,(List.getElem?_eq_some_iff.1 HT.out).2,numsL_snoc HL.out.1,HNUM.out];rfl
            · exact E1.onto ob
            · exact S.onto sA0 ob
         · have hq1:(Lib.itoa v ==t)=false:=by simp [hbt]
           have hn:num t=none:=by unfold num;rw [HOK.out];simp only;rw [if_neg hbt]
           have hr:r=(zeroE,1):=by rw [HR.out];unfold readWs;rw [List.headD_cons,HK.out];dsimp only;rw [List.tail_cons,if_neg (by simp),numsL_none (List.mem_of_getElem? HT.out) hn]
           subst hr
           clear hbt
           go_wp2_with (go_at_call 154;refine (Itoa_calls v hv0 hv1 _ ER).mono ?_;rintro e w9 ⟨rfl,b9⟩;refine Hid.out ?_)
           refine Lib.hid ?_
           replace BZ:=BZ.onto b9;replace ow:=ow.to b9
           clear BR sR ER hon b9
           go_wp2_with (refine wpList_put BZ [.int .i64 0,.int .i64 0,.int .i64 0,.int .i64 0,.int .i64 0] 46 _ _ (by rfl) (by rfl) (by rfl) (by rfl) (by rfl) sizeE (by rfl) ?_)
           have hF:=BZ.put (us:=[.int .i64 0,.int .i64 0,.int .i64 0,.int .i64 0,.int .i64 0]) rfl
           have oF:=Onto.puts (b:=z) (o:=0) (us:=[.int .i64 0,.int .i64 0,.int .i64 0,.int .i64 0,.int .i64 0]) (by omega) ow
           generalize World.setCells _ z 0 [.int .i64 0,.int .i64 0,.int .i64 0,.int .i64 0,.int .i64 0]=wF at hF oF ⊢
           go_wp2_with fail
           have p0:=hF.at_ 0 rfl;have p1:=hF.at_ 1 rfl;have p2:=hF.at_ 2 rfl;have p3:=hF.at_ 3 rfl;have p4:=hF.at_ 4 rfl
           refine bodyPost_ret (v:=.tuple #[.agg #[.int .i64 0,.int .i64 0,.int .i64 0,.int .i64 0,.int .i64 0],.int .i64 1]) (by simp [results,Tryz.results133,go_sem,p0,p1,p2,p3,p4]) rfl ⟨rfl,oF⟩
       · have hn:num t=none:=by
          rcases num_case t with ⟨v,h1,_⟩ | ⟨_,h2⟩
          · exact absurd h1 (hno v)
          · exact h2
         have hr:r=(zeroE,1):=by rw [HR.out];unfold readWs;rw [List.headD_cons,HK.out];dsimp only;rw [List.tail_cons,if_neg (by simp),numsL_none (List.mem_of_getElem? HT.out) hn]
         subst hr
         go_wp2_with (refine wpList_put BZ [.int .i64 0,.int .i64 0,.int .i64 0,.int .i64 0,.int .i64 0] 46 _ _ (by rfl) (by rfl) (by rfl) (by rfl) (by rfl) sizeE (by rfl) ?_)
         have hF:=BZ.put (us:=[.int .i64 0,.int .i64 0,.int .i64 0,.int .i64 0,.int .i64 0]) rfl
         have oF:=Onto.puts (b:=z) (o:=0) (us:=[.int .i64 0,.int .i64 0,.int .i64 0,.int .i64 0,.int .i64 0]) (by omega) ow
         generalize World.setCells _ z 0 [.int .i64 0,.int .i64 0,.int .i64 0,.int .i64 0,.int .i64 0]=wF at hF oF ⊢
         go_wp2_with fail
         have p0:=hF.at_ 0 rfl;have p1:=hF.at_ 1 rfl;have p2:=hF.at_ 2 rfl;have p3:=hF.at_ 3 rfl;have p4:=hF.at_ 4 rfl
         refine bodyPost_ret (v:=.tuple #[.agg #[.int .i64 0,.int .i64 0,.int .i64 0,.int .i64 0,.int .i64 0],.int .i64 1]) (by simp [results,Tryz.results133,go_sem,p0,p1,p2,p3,p4]) rfl ⟨rfl,oF⟩
     · have hkn:kk=ts.length:=by omega
       subst hkn
       rw [List.take_length] at HL
       have HLL:=Lib.hid HL.out.2
       replace HL:=Lib.hid HL.out.1
       obtain ⟨n0,hn0⟩:∃ n,n=l.getD 0 0:=⟨_,rfl⟩
       obtain ⟨n1,hn1⟩:∃ n,n=l.getD 1 0:=⟨_,rfl⟩
       obtain ⟨n2,hn2⟩:∃ n,n=l.getD 2 0:=⟨_,rfl⟩
       rw [← hn0,← hn1,← hn2] at BR
       have HN0:=Lib.hid hn0;have HN1:=Lib.hid hn1;have HN2:=Lib.hid hn2
       clear hn0 hn1 hn2 hkk hg hlt
       have BZ:=Bz.onto hon
       have ow:=on.to hon
       have g0:=BR.at_ 0 rfl
       clear Bz sA' s7 B7 sR
       go_upto_region 26 with fail
       have oc:Onto wr (wr.alloc (Obj.cells #[.int .i64 k,.int .i64 n0,.int .i64 0,.int .i64 0,.int .i64 0] 46)):=(Onto.rfl' _).new _
       have B12:Bx (wr.alloc (Obj.cells #[.int .i64 k,.int .i64 n0,.int .i64 0,.int .i64 0,.int .i64 0] 46)) wr.heap.size [.int .i64 k,.int .i64 n0,.int .i64 0,.int .i64 0,.int .i64 0]:=Bx.made _ _ _
       have h12:z7<wr.heap.size:=BR.lt
       generalize (wr.alloc (Obj.cells #[.int .i64 k,.int .i64 n0,.int .i64 0,.int .i64 0,.int .i64 0] 46))=w12 at *
       generalize hz12:wr.heap.size=z12 at *
       clear g0
       have BZr:=BZ;have owr:=ow
       replace BZ:=BZ.onto oc;replace ow:=ow.to oc;replace BR:=BR.onto oc
       have hk4:k=0∨k=1∨k=2∨k=3:=by
        have h:=HK.out
        unfold kindW at h
        (repeat' split at h) <;> simp at h <;> omega
       by_cases hk1:k=1
       · subst hk1
         have hrr:entE 1 l=⟨1,n0,n1,n2,0⟩:=by rw [HN0.out,HN1.out,HN2.out];rfl
         have HRR:=Lib.hid hrr
         clear hrr hk4
         have g1:=BR.at_ 1 rfl;have g2:=BR.at_ 2 rfl
         have b0:=B12.at_ 0 rfl;have b2:=B12.at_ 2 rfl;have b3:=B12.at_ 3 rfl
         have fz:=fun o=>B12.froz o
         have hne:z7≠z12:=by omega
         have gn:∀ u,(w12.setCell ⟨z12,2,none⟩ u).cell? ⟨z12,3,none⟩=some (.int .i64 0):=fun u=>(B12.put1 (j:=2) (by simp) u).at_ 3 rfl
         have gm:∀ u,(w12.setCell ⟨z12,3,none⟩ u).cell? ⟨z12,2,none⟩=some (.int .i64 0):=fun u=>(B12.put1 (j:=3) (by simp) u).at_ 2 rfl
         go_upto_region 27 with fail
         go_cut [] (fun wx=>Bx wx z12 [.int .i64 1,.int .i64 n0,.int .i64 n1,.int .i64 n2,.int .i64 0]∧Onto wr wx)
         case first =>
          go_region_held3 (fun w'=>w'.cell? ⟨z7,1,none⟩=some (.int .i64 n1)∧w'.cell? ⟨z7,2,none⟩=some (.int .i64 n2))
           (first | exact ⟨g1,g2⟩ | exact ⟨(BR.off1 (p:=⟨z12,2,none⟩) hne _).draw.at_ 1 rfl,(BR.off1 (p:=⟨z12,2,none⟩) hne _).draw.at_ 2 rfl⟩ | exact ⟨(BR.off1 (p:=⟨z12,3,none⟩) hne _).draw.at_ 1 rfl,(BR.off1 (p:=⟨z12,3,none⟩) hne _).draw.at_ 2 rfl⟩ | exact ⟨((BR.off1 (p:=⟨z12,2,none⟩) hne _).off1 (p:=⟨z12,3,none⟩) hne _).draw.at_ 1 rfl,((BR.off1 (p:=⟨z12,2,none⟩) hne _).off1 (p:=⟨z12,3,none⟩) hne _).draw.at_ 2 rfl⟩ | exact ⟨((BR.off1 (p:=⟨z12,3,none⟩) hne _).off1 (p:=⟨z12,2,none⟩) hne _).draw.at_ 1 rfl,((BR.off1 (p:=⟨z12,3,none⟩) hne _).off1 (p:=⟨z12,2,none⟩) hne _).draw.at_ 2 rfl⟩ | fail)
           (first | fail)
          all_goals go_wp2_with fail
          all_goals
           go_meet
           exact ⟨((B12.put1 (j:=2) (by simp) _).put1 (j:=3) (by simp) _).draw,(Onto.put (Onto.put oc (by show wr.heap.size≤z12;omega) _) (by show wr.heap.size≤z12;omega) _).draw⟩
         case rest =>
          obtain ⟨B12',ow12'⟩:=hcut
          clear B12 g1 g2 b0 b2 b3 fz gn gm BR BZ ow
          have B12:=B12';have BZ:=BZr.onto ow12';have ow:=owr.to ow12'
          clear B12' ow12' BZr owr oc
          have hr:r=if checkE ⟨1,n0,n1,n2,0⟩≠0 then (zeroE,checkE ⟨1,n0,n1,n2,0⟩) else (⟨1,n0,n1,n2,0⟩,0):=by
           rw [HR.out];unfold readWs;rw [List.headD_cons,HK.out];dsimp only;rw [List.tail_cons,if_neg (by simp),HL.out]
           dsimp only
           rw [HRR.out]
          obtain ⟨q,hqq⟩:∃ q,q=checkE ⟨1,n0,n1,n2,0⟩:=⟨_,rfl⟩
          rw [← hqq] at hr
          have HQ:=Lib.hid hqq;have HRQ:=Lib.hid hr
          clear hqq hr
          have b0:=B12.at_ 0 rfl;have b1:=B12.at_ 1 rfl;have b2:=B12.at_ 2 rfl;have b3:=B12.at_ 3 rfl;have b4:=B12.at_ 4 rfl
          go_wp2_with fail
          refine Calls.mono (Check_calls 1 n0 n1 n2 0 _) ?_
          rintro e w13 ⟨rfl,b⟩
          rw [show checkE ⟨1,n0,n1,n2,0⟩=q from HQ.out.symm]
          replace BZ:=BZ.onto b;replace ow:=ow.to b;replace B12:=B12.onto b
          clear b b0 b1 b2 b3 b4
          by_cases hq0:q=0
          · have hr:=HRQ.out
            rw [if_neg (by simp [hq0])] at hr
            subst hr
            have hq1:(q ==0)=true:=by simp [hq0]
            have hq2:(q !=0)=false:=by simp [hq0]
            have b0:=B12.at_ 0 rfl;have b1:=B12.at_ 1 rfl;have b2:=B12.at_ 2 rfl;have b3:=B12.at_ 3 rfl;have b4:=B12.at_ 4 rfl
            clear hq0 HRQ
            go_wp2_with (refine wpList_put BZ [.int .i64 1,.int .i64 n0,.int .i64 n1,.int .i64 n2,.int .i64 0] 46 _ _ (by rfl) (by rfl) (by rfl) (by rfl) (by rfl) sizeE (by rfl) ?_)
            have hF:=BZ.put (us:=[.int .i64 1,.int .i64 n0,.int .i64 n1,.int .i64 n2,.int .i64 0]) rfl
            have oF:=Onto.puts (b:=z) (o:=0) (us:=[.int .i64 1,.int .i64 n0,.int .i64 n1,.int .i64 n2,.int .i64 0]) (by omega) ow
            generalize World.setCells _ z 0 [.int .i64 1,.int .i64 n0,.int .i64 n1,.int .i64 n2,.int .i64 0]=wF at hF oF ⊢
            go_wp2_with fail
            have p0:=hF.at_ 0 rfl;have p1:=hF.at_ 1 rfl;have p2:=hF.at_ 2 rfl;have p3:=hF.at_ 3 rfl;have p4:=hF.at_ 4 rfl
            refine bodyPost_ret (v:=.tuple #[.agg #[.int .i64 1,.int .i64 n0,.int .i64 n1,.int .i64 n2,.int .i64 0],.int .i64 0]) (by simp [results,Tryz.results133,go_sem,p0,p1,p2,p3,p4]) rfl ⟨rfl,oF⟩
          · have hr:=HRQ.out
            rw [if_pos hq0] at hr
            subst hr
            have hq1:(q ==0)=false:=by simp [hq0]
            have hq2:(q !=0)=true:=by simp [hq0]
            clear hq0 B12 HRQ
            go_wp2_with (refine wpList_put BZ [.int .i64 0,.int .i64 0,.int .i64 0,.int .i64 0,.int .i64 0] 46 _ _ (by rfl) (by rfl) (by rfl) (by rfl) (by rfl) sizeE (by rfl) ?_)
            have hF:=BZ.put (us:=[.int .i64 0,.int .i64 0,.int .i64 0,.int .i64 0,.int .i64 0]) rfl
            have oF:=Onto.puts (b:=z) (o:=0) (us:=[.int .i64 0,.int .i64 0,.int .i64 0,.int .i64 0,.int .i64 0]) (by omega) ow
            generalize World.setCells _ z 0 [.int .i64 0,.int .i64 0,.int .i64 0,.int .i64 0,.int .i64 0]=wF at hF oF ⊢
            go_wp2_with fail
            have p0:=hF.at_ 0 rfl;have p1:=hF.at_ 1 rfl;have p2:=hF.at_ 2 rfl;have p3:=hF.at_ 3 rfl;have p4:=hF.at_ 4 rfl
            refine bodyPost_ret (v:=.tuple #[.agg #[.int .i64 0,.int .i64 0,.int .i64 0,.int .i64 0,.int .i64 0],.int .i64 q]) (by simp [results,Tryz.results133,go_sem,p0,p1,p2,p3,p4]) rfl ⟨rfl,oF⟩
       · by_cases hk3:k=3
         · subst hk3
           have hrr:entE 3 l=⟨3,n0,0,n1,n2⟩:=by rw [HN0.out,HN1.out,HN2.out];rfl
           have HRR:=Lib.hid hrr
           clear hrr hk4 hk1
           have g1:=BR.at_ 1 rfl;have g2:=BR.at_ 2 rfl
           have b0:=B12.at_ 0 rfl;have b3:=B12.at_ 3 rfl;have b4:=B12.at_ 4 rfl
           have fz:=fun o=>B12.froz o
           have hne:z7≠z12:=by omega
           have gn:∀ u,(w12.setCell ⟨z12,3,none⟩ u).cell? ⟨z12,4,none⟩=some (.int .i64 0):=fun u=>(B12.put1 (j:=3) (by simp) u).at_ 4 rfl
           have gm:∀ u,(w12.setCell ⟨z12,4,none⟩ u).cell? ⟨z12,3,none⟩=some (.int .i64 0):=fun u=>(B12.put1 (j:=4) (by simp) u).at_ 3 rfl
           go_upto_region 29 with fail
           go_cut [] (fun wx=>Bx wx z12 [.int .i64 3,.int .i64 n0,.int .i64 0,.int .i64 n1,.int .i64 n2]∧Onto wr wx)
           case first =>
            go_region_held3 (fun w'=>w'.cell? ⟨z7,1,none⟩=some (.int .i64 n1)∧w'.cell? ⟨z7,2,none⟩=some (.int .i64 n2))
             (first | exact ⟨g1,g2⟩ | exact ⟨(BR.off1 (p:=⟨z12,3,none⟩) hne _).draw.at_ 1 rfl,(BR.off1 (p:=⟨z12,3,none⟩) hne _).draw.at_ 2 rfl⟩ | exact ⟨(BR.off1 (p:=⟨z12,4,none⟩) hne _).draw.at_ 1 rfl,(BR.off1 (p:=⟨z12,4,none⟩) hne _).draw.at_ 2 rfl⟩ | exact ⟨((BR.off1 (p:=⟨z12,3,none⟩) hne _).off1 (p:=⟨z12,4,none⟩) hne _).draw.at_ 1 rfl,((BR.off1 (p:=⟨z12,3,none⟩) hne _).off1 (p:=⟨z12,4,none⟩) hne _).draw.at_ 2 rfl⟩ | exact ⟨((BR.off1 (p:=⟨z12,4,none⟩) hne _).off1 (p:=⟨z12,3,none⟩) hne _).draw.at_ 1 rfl,((BR.off1 (p:=⟨z12,4,none⟩) hne _).off1 (p:=⟨z12,3,none⟩) hne _).draw.at_ 2 rfl⟩ | fail)
             (first | fail)
            all_goals go_wp2_with fail
            all_goals
             go_meet
             exact ⟨((B12.put1 (j:=3) (by simp) _).put1 (j:=4) (by simp) _).draw,(Onto.put (Onto.put oc (by show wr.heap.size≤z12;omega) _) (by show wr.heap.size≤z12;omega) _).draw⟩
           case rest =>
            obtain ⟨B12',ow12'⟩:=hcut
            clear B12 g1 g2 b0 b3 b4 fz gn gm BR BZ ow
            have B12:=B12';have BZ:=BZr.onto ow12';have ow:=owr.to ow12'
            clear B12' ow12' BZr owr oc
            have hr:r=if checkE ⟨3,n0,0,n1,n2⟩≠0 then (zeroE,checkE ⟨3,n0,0,n1,n2⟩) else (⟨3,n0,0,n1,n2⟩,0):=by
             rw [HR.out];unfold readWs;rw [List.headD_cons,HK.out];dsimp only;rw [List.tail_cons,if_neg (by simp),HL.out]
             dsimp only
             rw [HRR.out]
            obtain ⟨q,hqq⟩:∃ q,q=checkE ⟨3,n0,0,n1,n2⟩:=⟨_,rfl⟩
            rw [← hqq] at hr
            have HQ:=Lib.hid hqq;have HRQ:=Lib.hid hr
            clear hqq hr
            have b0:=B12.at_ 0 rfl;have b1:=B12.at_ 1 rfl;have b2:=B12.at_ 2 rfl;have b3:=B12.at_ 3 rfl;have b4:=B12.at_ 4 rfl
            go_wp2_with fail
            refine Calls.mono (Check_calls 3 n0 0 n1 n2 _) ?_
            rintro e w13 ⟨rfl,b⟩
            rw [show checkE ⟨3,n0,0,n1,n2⟩=q from HQ.out.symm]
            replace BZ:=BZ.onto b;replace ow:=ow.to b;replace B12:=B12.onto b
            clear b b0 b1 b2 b3 b4
            by_cases hq0:q=0
            · have hr:=HRQ.out
              rw [if_neg (by simp [hq0])] at hr
              subst hr
              have hq1:(q ==0)=true:=by simp [hq0]
              have hq2:(q !=0)=false:=by simp [hq0]
              have b0:=B12.at_ 0 rfl;have b1:=B12.at_ 1 rfl;have b2:=B12.at_ 2 rfl;have b3:=B12.at_ 3 rfl;have b4:=B12.at_ 4 rfl
              clear hq0 HRQ
              go_wp2_with (refine wpList_put BZ [.int .i64 3,.int .i64 n0,.int .i64 0,.int .i64 n1,.int .i64 n2] 46 _ _ (by rfl) (by rfl) (by rfl) (by rfl) (by rfl) sizeE (by rfl) ?_)
              have hF:=BZ.put (us:=[.int .i64 3,.int .i64 n0,.int .i64 0,.int .i64 n1,.int .i64 n2]) rfl
              have oF:=Onto.puts (b:=z) (o:=0) (us:=[.int .i64 3,.int .i64 n0,.int .i64 0,.int .i64 n1,.int .i64 n2]) (by omega) ow
              generalize World.setCells _ z 0 [.int .i64 3,.int .i64 n0,.int .i64 0,.int .i64 n1,.int .i64 n2]=wF at hF oF ⊢
              go_wp2_with fail
              have p0:=hF.at_ 0 rfl;have p1:=hF.at_ 1 rfl;have p2:=hF.at_ 2 rfl;have p3:=hF.at_ 3 rfl;have p4:=hF.at_ 4 rfl
              refine bodyPost_ret (v:=.tuple #[.agg #[.int .i64 3,.int .i64 n0,.int .i64 0,.int .i64 n1,.int .i64 n2],.int .i64 0]) (by simp [results,Tryz.results133,go_sem,p0,p1,p2,p3,p4]) rfl ⟨rfl,oF⟩
            · have hr:=HRQ.out
              rw [if_pos hq0] at hr
              subst hr
              have hq1:(q ==0)=false:=by simp [hq0]
              have hq2:(q !=0)=true:=by simp [hq0]
              clear hq0 B12 HRQ
              go_wp2_with (refine wpList_put BZ [.int .i64 0,.int .i64 0,.int .i64 0,.int .i64 0,.int .i64 0] 46 _ _ (by rfl) (by rfl) (by rfl) (by rfl) (by rfl) sizeE (by rfl) ?_)
              have hF:=BZ.put (us:=[.int .i64 0,.int .i64 0,.int .i64 0,.int .i64 0,.int .i64 0]) rfl
              have oF:=Onto.puts (b:=z) (o:=0) (us:=[.int .i64 0,.int .i64 0,.int .i64 0,.int .i64 0,.int .i64 0]) (by omega) ow
              generalize World.setCells _ z 0 [.int .i64 0,.int .i64 0,.int .i64 0,.int .i64 0,.int .i64 0]=wF at hF oF ⊢
              go_wp2_with fail
              have p0:=hF.at_ 0 rfl;have p1:=hF.at_ 1 rfl;have p2:=hF.at_ 2 rfl;have p3:=hF.at_ 3 rfl;have p4:=hF.at_ 4 rfl
              refine bodyPost_ret (v:=.tuple #[.agg #[.int .i64 0,.int .i64 0,.int .i64 0,.int .i64 0,.int .i64 0],.int .i64 q]) (by simp [results,Tryz.results133,go_sem,p0,p1,p2,p3,p4]) rfl ⟨rfl,oF⟩
         · have hrr:entE k l=⟨k,n0,0,0,0⟩:=by unfold entE;rw [if_neg hk1,if_neg hk1,if_neg hk3,if_neg hk3,HN0.out]
           have HRR:=Lib.hid hrr
           have hd1:(k ==1)=false:=by simp [hk1]
           have hd3:(k ==3)=false:=by simp [hk3]
           clear hrr hk4 hk1 hk3 BZr owr BR
           have hr:r=if checkE ⟨k,n0,0,0,0⟩≠0 then (zeroE,checkE ⟨k,n0,0,0,0⟩) else (⟨k,n0,0,0,0⟩,0):=by
            rw [HR.out];unfold readWs;rw [List.headD_cons,HK.out];dsimp only;rw [List.tail_cons,if_neg (by simp),HL.out]
            dsimp only
            rw [HRR.out]
           obtain ⟨q,hqq⟩:∃ q,q=checkE ⟨k,n0,0,0,0⟩:=⟨_,rfl⟩
           rw [← hqq] at hr
           have HQ:=Lib.hid hqq;have HRQ:=Lib.hid hr
           clear hqq hr
           have b0:=B12.at_ 0 rfl;have b1:=B12.at_ 1 rfl;have b2:=B12.at_ 2 rfl;have b3:=B12.at_ 3 rfl;have b4:=B12.at_ 4 rfl
           go_wp2_with fail
           refine Calls.mono (Check_calls k n0 0 0 0 _) ?_
           rintro e w13 ⟨rfl,b⟩
           rw [show checkE ⟨k,n0,0,0,0⟩=q from HQ.out.symm]
           replace BZ:=BZ.onto b;replace ow:=ow.to b;replace B12:=B12.onto b
           clear b b0 b1 b2 b3 b4
           by_cases hq0:q=0
           · have hr:=HRQ.out
             rw [if_neg (by simp [hq0])] at hr
             subst hr
             have hq1:(q ==0)=true:=by simp [hq0]
             have hq2:(q !=0)=false:=by simp [hq0]
             have b0:=B12.at_ 0 rfl;have b1:=B12.at_ 1 rfl;have b2:=B12.at_ 2 rfl;have b3:=B12.at_ 3 rfl;have b4:=B12.at_ 4 rfl
             clear hq0 HRQ
             go_wp2_with (refine wpList_put BZ [.int .i64 k,.int .i64 n0,.int .i64 0,.int .i64 0,.int .i64 0] 46 _ _ (by rfl) (by rfl) (by rfl) (by rfl) (by rfl) sizeE (by rfl) ?_)
             have hF:=BZ.put (us:=[.int .i64 k,.int .i64 n0,.int .i64 0,.int .i64 0,.int .i64 0]) rfl
             have oF:=Onto.puts (b:=z) (o:=0) (us:=[.int .i64 k,.int .i64 n0,.int .i64 0,.int .i64 0,.int .i64 0]) (by omega) ow
             generalize World.setCells _ z 0 [.int .i64 k,.int .i64 n0,.int .i64 0,.int .i64 0,.int .i64 0]=wF at hF oF ⊢
             go_wp2_with fail
             have p0:=hF.at_ 0 rfl;have p1:=hF.at_ 1 rfl;have p2:=hF.at_ 2 rfl;have p3:=hF.at_ 3 rfl;have p4:=hF.at_ 4 rfl
             refine bodyPost_ret (v:=.tuple #[.agg #[.int .i64 k,.int .i64 n0,.int .i64 0,.int .i64 0,.int .i64 0],.int .i64 0]) (by simp [results,Tryz.results133,go_sem,p0,p1,p2,p3,p4]) rfl ⟨rfl,oF⟩
           · have hr:=HRQ.out
             rw [if_pos hq0] at hr
             subst hr
             have hq1:(q ==0)=false:=by simp [hq0]
             have hq2:(q !=0)=true:=by simp [hq0]
             clear hq0 B12 HRQ
             go_wp2_with (refine wpList_put BZ [.int .i64 0,.int .i64 0,.int .i64 0,.int .i64 0,.int .i64 0] 46 _ _ (by rfl) (by rfl) (by rfl) (by rfl) (by rfl) sizeE (by rfl) ?_)
             have hF:=BZ.put (us:=[.int .i64 0,.int .i64 0,.int .i64 0,.int .i64 0,.int .i64 0]) rfl
             have oF:=Onto.puts (b:=z) (o:=0) (us:=[.int .i64 0,.int .i64 0,.int .i64 0,.int .i64 0,.int .i64 0]) (by omega) ow
             generalize World.setCells _ z 0 [.int .i64 0,.int .i64 0,.int .i64 0,.int .i64 0,.int .i64 0]=wF at hF oF ⊢
             go_wp2_with fail
             have p0:=hF.at_ 0 rfl;have p1:=hF.at_ 1 rfl;have p2:=hF.at_ 2 rfl;have p3:=hF.at_ 3 rfl;have p4:=hF.at_ 4 rfl
             refine bodyPost_ret (v:=.tuple #[.agg #[.int .i64 0,.int .i64 0,.int .i64 0,.int .i64 0,.int .i64 0],.int .i64 q]) (by simp [results,Tryz.results133,go_sem,p0,p1,p2,p3,p4]) rfl ⟨rfl,oF⟩
  · have hq:((ts.length:Int)+1 !=(m:Int)+1)=true:=by simp;omega
    have hr:r=(zeroE,1):=by rw [HR.out];unfold readWs;rw [List.headD_cons,HK.out];dsimp only;rw [List.tail_cons,if_pos hlen]
    subst hr
    go_wp2_with (refine wpList_put Bz [.int .i64 0,.int .i64 0,.int .i64 0,.int .i64 0,.int .i64 0] 46 _ _ (by rfl) (by rfl) (by rfl) (by rfl) (by rfl) sizeE (by rfl) ?_)
    have hF:=Bz.put (us:=[.int .i64 0,.int .i64 0,.int .i64 0,.int .i64 0,.int .i64 0]) rfl
    have oF:=Onto.puts (b:=z) (o:=0) (us:=[.int .i64 0,.int .i64 0,.int .i64 0,.int .i64 0,.int .i64 0]) (by omega) on
    generalize World.setCells _ z 0 [.int .i64 0,.int .i64 0,.int .i64 0,.int .i64 0,.int .i64 0]=wF at hF oF ⊢
    go_wp2_with fail
    have p0:=hF.at_ 0 rfl;have p1:=hF.at_ 1 rfl;have p2:=hF.at_ 2 rfl;have p3:=hF.at_ 3 rfl;have p4:=hF.at_ 4 rfl
    refine bodyPost_ret (v:=.tuple #[.agg #[.int .i64 0,.int .i64 0,.int .i64 0,.int .i64 0,.int .i64 0],.int .i64 1]) (by simp [results,Tryz.results133,go_sem,p0,p1,p2,p3,p4]) rfl ⟨rfl,oF⟩
theorem EParse_calls (s : List UInt8) (w : World) (E : Env w) (hm : s.length ≤ 9223372036854775807) :
    Calls Tryz.prog 133 #[str s] w (EnPost w (parseE s)):=by
 unfold parseE
 by_cases h:30000<s.length
 · rw [if_pos h];exact EParse_long s w h hm
 · rw [if_neg h];exact EParse_short s w E (by omega)
end
end Go.Proofs.YtidlffepdcldkaaGreatDoor
