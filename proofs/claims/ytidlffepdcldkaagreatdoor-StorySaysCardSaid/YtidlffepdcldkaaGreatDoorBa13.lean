/- Part 13 of the proof: URep, Chain, Eq1, Clone1, Book. -/
import Derived.Test.YtidlffepdcldkaaGreatDoorBa10
import Derived.Test.YtidlffepdcldkaaGreatDoorBa12
import Derived.Test.YtidlffepdcldkaaGreatDoorBa05
import Derived.Test.YtidlffepdcldkaaGreatDoorBa09
import Derived.Test.YtidlffepdcldkaaGreatDoorProg
import Derived.Test.YtidlffepdcldkaaGreatDoorBa01
import Derived.Test.YtidlffepdcldkaaGreatDoorBa06
namespace Go.Proofs.YtidlffepdcldkaaGreatDoor
set_option linter.unusedSimpArgs false
set_option linter.unusedVariables false
section
open Go.RowKit
def URPost (w:World) (u:Uni) (err:Int) (e:Ending) (w':World):Prop :=
 ∃ A n c,e=.returned (.tuple #[.agg #[.int .i64 u.ep,.slice A n c],.int .i64 err])∧S w' 5 A n (u.cells.map encE)∧Onto w w'∧Fresh w.heap.size A
def URPost2 (w:World) (u:Uni) (err:Int) (e:Ending) (w':World):Prop :=
 ∃ A n c,e=.returned (.tuple #[.agg #[.int .i64 u.ep,.slice A n c],.int .i64 err])∧S w' 5 A n (u.cells.map encE)∧Onto w w'∧Fresh w.heap.size A∧n≤c∧c≤maxLen
def Offs (z:Nat) (A:Option Addr):Prop:=∀ a,A=some a→a.block≠z
theorem Offs.n {z n:Nat} {A:Option Addr} (h:Offs z A):OffN n z A:=fun _=>h
theorem Fresh.offs {lo z:Nat} {A:Option Addr} (h:Fresh lo A) (hz:z<lo):Offs z A:=fun a e=>by have:=h a e;omega
theorem nextU_len {u:Uni} {r:Rec}:(nextU u r).1.cells.length≤60:=by
 unfold nextU
 split
 · simp
 · next hc =>
   have hl:=(checkU_iff.1 (Decidable.not_not.1 hc)).len
   repeat' split
   all_goals (simp only [List.length_nil,List.length_set];omega)
theorem unitGo_len:∀ {l:List Rec} {u:Uni},u.cells.length≤60→(unitGo u l).1.cells.length≤60
 | [],u,h=>h
 | r ::l,u,h=>by
   unfold unitGo
   split
   · simp
   · exact unitGo_len nextU_len
theorem unitL_len (l:List Rec):(unitL l).1.cells.length≤60:=by
 unfold unitL
 split
 · simp
 · exact unitGo_len (by simp [newU])
set_option maxHeartbeats 4000000 in
set_option maxRecDepth 100000 in
theorem UReplay2_calls (A : Option Addr) (n c : Nat) (l : List Rec) (w : World) (h : S w 8 A n (l.map encQ)) :
    Calls Tryz.prog 56 #[.slice A n c] w (URPost2 w (unitL l).1 (unitL l).2):=by
 have hl:l.length=n:=by have:=h.len;simpa using this
 by_cases hbig:160<n
 · have hs:unitL l=(⟨0,[]⟩,2):=by unfold unitL;rw [if_pos (by omega)]
   have HS:=Lib.hid hs
   have hd:decide ((160:Int)<(n:Int))=true:=by simp;omega
   have hd':(160:Int)<(n:Int):=by omega
   clear h hs hl
   go_enter Tryz.func56,Tryz.ntmps56
   go_wp2
   refine bodyPost_ret (v:=.tuple #[.agg #[.int .i64 0,.slice none 0 0],.int .i64 2]) (by simp [results,Tryz.results56,go_sem]) rfl ?_
   rw [HS.out]
   refine ⟨none,0,0,rfl,Sl.nil,?_,Fresh.none_ _,by omega,by simp [maxLen]⟩
   repeat (first | exact Onto.rfl' _ | refine Onto.put ?_ (by simp <;> omega) _ | refine Onto.new ?_ _)
 · have hs:unitL l=unitGo newU l:=by unfold unitL;rw [if_neg (by omega)]
   have hn60:n≤160:=by omega
   have hd:decide ((160:Int)<(n:Int))=false:=by simp;omega
   have hd':¬ (160:Int)<(n:Int):=by omega
   have HS:=Lib.hid hs;have HL:=Lib.hid hl
   clear hs hl hbig
   have h0:=h
   go_enter Tryz.func56,Tryz.ntmps56
   go_wp2_with fail
   refine Calls.mono (UNew2_calls _) ?_
   rintro e w1 ⟨A1,c1,rfl,s1,o1,hq1,hq2,hfr⟩
   have r0:w1.cell? ⟨w.heap.size,0,none⟩=some (.int .i64 0):=cellB o1 (by simp [go_sem])
   have r1:w1.cell? ⟨w.heap.size,1,none⟩=some (.slice none 0 0):=cellB o1 (by simp [go_sem])
   have g0:w1.frozen? ⟨w.heap.size,0,none⟩=false:=frozB (v:=.int .i64 0) o1 (by simp [go_sem]) (by simp [go_sem])
   have g1:w1.frozen? ⟨w.heap.size,1,none⟩=false:=frozB (v:=.slice none 0 0) o1 (by simp [go_sem]) (by simp [go_sem])
   have hzr:w.heap.size<w1.heap.size:=World.block_lt_of_cell? _ _ r0
   have hf1:Fresh (w.heap.size+1) A1:=by simpa using hfr
   have hof1:Offs w1.heap.size A1:=Sl.offN s1 (Nat.le_refl _) (by omega)
   replace o1:Onto w w1:=Onto.to ((Onto.rfl' w).new _) o1
   replace h:=S.onto h o1
   go_upto_region 4 with fail
   have hO:Onto w1 (w1.alloc (Obj.cells #[.int .i64 1,.slice A1 60 c1] 51)):=(Onto.rfl' w1).new _
   have p0:(w1.alloc (Obj.cells #[.int .i64 1,.slice A1 60 c1] 51)).cell? ⟨w1.heap.size,0,none⟩=some (.int .i64 1):=by simp [go_sem]
   have p1:(w1.alloc (Obj.cells #[.int .i64 1,.slice A1 60 c1] 51)).cell? ⟨w1.heap.size,1,none⟩=some (.slice A1 60 c1):=by simp [go_sem]
   have f0:(w1.alloc (Obj.cells #[.int .i64 1,.slice A1 60 c1] 51)).frozen? ⟨w1.heap.size,0,none⟩=false:=by simp [go_sem]
   have f1:(w1.alloc (Obj.cells #[.int .i64 1,.slice A1 60 c1] 51)).frozen? ⟨w1.heap.size,1,none⟩=false:=by simp [go_sem]
   replace g0:=frozB hO r0 g0;replace g1:=frozB hO r1 g1;replace r0:=cellB hO r0;replace r1:=cellB hO r1
   replace s1:=S.onto s1 hO;replace h:=S.onto h hO;replace o1:=Onto.to o1 hO
   have hzz:w1.heap.size<(w1.alloc (Obj.cells #[.int .i64 1,.slice A1 60 c1] 51)).heap.size:=by simp
   have ofb:Offs w1.heap.size A1:=hof1
   have ofr:Offs w.heap.size A1:=hf1.offs (by omega)
   have ohb:OffN n w1.heap.size A:=h0.offN (by omega)
   have ohr:OffN n w.heap.size A:=h0.offN (Nat.le_refl _)
   have hfw:Fresh w.heap.size A1:=fun a e=>by have:=hf1 a e;omega
   clear hO hf1 hfr hof1
   change Code.wp _ _ _ _ (w1.alloc (Obj.cells #[.int .i64 1,.slice A1 60 c1] 51))
   generalize (w1.alloc (Obj.cells #[.int .i64 1,.slice A1 60 c1] 51))=w2 at *
   generalize w1.heap.size=zb at *
   have hne:zb≠w.heap.size:=by omega
   go_wp2_with fail
   go_loopw [15] (fun s wr => ∃ (k : Nat) (u : Uni) (A1 : Option Addr) (n1 c1 : Nat), k ≤ n ∧ s = .int .i64 k ∧ wr.cell? ⟨zb, 0, none⟩ = some (.int .i64 u.ep) ∧ wr.cell? ⟨zb, 1, none⟩ = some (.slice A1 n1 c1) ∧ wr.frozen? ⟨zb, 0, none⟩ = false ∧ wr.frozen? ⟨zb, 1, none⟩ = false ∧
       wr.cell? ⟨w.heap.size,0,none⟩=some (.int .i64 0)∧wr.cell? ⟨w.heap.size,1,none⟩=some (.slice none 0 0)∧wr.frozen? ⟨w.heap.size,0,none⟩=false∧wr.frozen? ⟨w.heap.size,1,none⟩=false ∧
       S wr 5 A1 n1 (u.cells.map encE)∧Offs zb A1∧Offs w.heap.size A1∧Fresh w.heap.size A1∧S wr 8 A n (l.map encQ)∧zb<wr.heap.size∧Onto w wr∧n1≤c1∧c1≤maxLen∧Hid (unitGo newU l=unitGo u (l.drop k))) (fun s _=>n - (intOf s).toNat)
   case atStart=>exact ⟨0,newU,A1,60,c1,Nat.zero_le _,rfl,p0,p1,f0,f1,r0,r1,g0,g1,s1,ofb,ofr,hfw,h,hzz,o1,hq1,hq2,rfl⟩
   case round =>
    obtain ⟨k,u,A1,n1,c1,hk,rfl,p0,p1,f0,f1,r0,r1,g0,g1,s1,ofb,ofr,hfw,h,hzz,o1,hq1,hq2,HG⟩:=hrel
    by_cases hlt:k<n
    · obtain ⟨bb,off,x,rfl,hbb,hx,d0,d1,d2,d3,d4,d5,d6,d7⟩:=h.atQ hlt
      have hat:=unitGo_at (u:=u) hx
      have HAT:=Lib.hid hat
      clear hat hx
      go_upto_region 7 with fail
      have hO:Onto wr (wr.alloc (Obj.cells #[.int .i64 x.kind,.int .i64 x.at_,.int .i64 x.epoch,.int .i64 x.e.kind,.int .i64 x.e.job,.int .i64 x.e.every,.int .i64 x.e.time,.int .i64 x.e.client] 96)):=(Onto.rfl' wr).new _
      have e0:(wr.alloc (Obj.cells #[.int .i64 x.kind,.int .i64 x.at_,.int .i64 x.epoch,.int .i64 x.e.kind,.int .i64 x.e.job,.int .i64 x.e.every,.int .i64 x.e.time,.int .i64 x.e.client] 96)).cell? ⟨wr.heap.size,0,none⟩=some (.int .i64 x.kind):=by simp [go_sem]
      have e1:(wr.alloc (Obj.cells #[.int .i64 x.kind,.int .i64 x.at_,.int .i64 x.epoch,.int .i64 x.e.kind,.int .i64 x.e.job,.int .i64 x.e.every,.int .i64 x.e.time,.int .i64 x.e.client] 96)).cell? ⟨wr.heap.size,1,none⟩=some (.int .i64 x.at_):=by simp [go_sem]
      have e2:(wr.alloc (Obj.cells #[.int .i64 x.kind,.int .i64 x.at_,.int .i64 x.epoch,.int .i64 x.e.kind,.int .i64 x.e.job,.int .i64 x.e.every,.int .i64 x.e.time,.int .i64 x.e.client] 96)).cell? ⟨wr.heap.size,2,none⟩=some (.int .i64 x.epoch):=by simp [go_sem]
      have e3:(wr.alloc (Obj.cells #[.int .i64 x.kind,.int .i64 x.at_,.int .i64 x.epoch,.int .i64 x.e.kind,.int .i64 x.e.job,.int .i64 x.e.every,.int .i64 x.e.time,.int .i64 x.e.client] 96)).cell? ⟨wr.heap.size,3,none⟩=some (.int .i64 x.e.kind):=by simp [go_sem]
      have e4:(wr.alloc (Obj.cells #[.int .i64 x.kind,.int .i64 x.at_,.int .i64 x.epoch,.int .i64 x.e.kind,.int .i64 x.e.job,.int .i64 x.e.every,.int .i64 x.e.time,.int .i64 x.e.client] 96)).cell? ⟨wr.heap.size,4,none⟩=some (.int .i64 x.e.job):=by simp [go_sem]
      have e5:(wr.alloc (Obj.cells #[.int .i64 x.kind,.int .i64 x.at_,.int .i64 x.epoch,.int .i64 x.e.kind,.int .i64 x.e.job,.int .i64 x.e.every,.int .i64 x.e.time,.int .i64 x.e.client] 96)).cell? ⟨wr.heap.size,5,none⟩=some (.int .i64 x.e.every):=by simp [go_sem]
      have e6:(wr.alloc (Obj.cells #[.int .i64 x.kind,.int .i64 x.at_,.int .i64 x.epoch,.int .i64 x.e.kind,.int .i64 x.e.job,.int .i64 x.e.every,.int .i64 x.e.time,.int .i64 x.e.client] 96)).cell? ⟨wr.heap.size,6,none⟩=some (.int .i64 x.e.time):=by simp [go_sem]
      have e7:(wr.alloc (Obj.cells #[.int .i64 x.kind,.int .i64 x.at_,.int .i64 x.epoch,.int .i64 x.e.kind,.int .i64 x.e.job,.int .i64 x.e.every,.int .i64 x.e.time,.int .i64 x.e.client] 96)).cell? ⟨wr.heap.size,7,none⟩=some (.int .i64 x.e.client):=by simp [go_sem]
      clear d0 d1 d2 d3 d4 d5 d6 d7 hbb
      replace g0:=frozB hO r0 g0;replace g1:=frozB hO r1 g1;replace r0:=cellB hO r0;replace r1:=cellB hO r1
      replace f0:=frozB hO p0 f0;replace f1:=frozB hO p1 f1;replace p0:=cellB hO p0;replace p1:=cellB hO p1
      replace s1:=S.onto s1 hO;replace h:=S.onto h hO;replace o1:=Onto.to o1 hO
      have hz3:zb<(wr.alloc (Obj.cells #[.int .i64 x.kind,.int .i64 x.at_,.int .i64 x.epoch,.int .i64 x.e.kind,.int .i64 x.e.job,.int .i64 x.e.every,.int .i64 x.e.time,.int .i64 x.e.client] 96)).heap.size:=by simp;omega
      clear hO hzz
      change Code.wp _ _ _ _ (wr.alloc (Obj.cells #[.int .i64 x.kind,.int .i64 x.at_,.int .i64 x.epoch,.int .i64 x.e.kind,.int .i64 x.e.job,.int .i64 x.e.every,.int .i64 x.e.time,.int .i64 x.e.client] 96))
      generalize (wr.alloc (Obj.cells #[.int .i64 x.kind,.int .i64 x.at_,.int .i64 x.epoch,.int .i64 x.e.kind,.int .i64 x.e.job,.int .i64 x.e.every,.int .i64 x.e.time,.int .i64 x.e.client] 96))=w3 at *
      generalize wr.heap.size=be at *
      obtain ⟨r,hr⟩:∃ r,r=nextU u x:=⟨_,rfl⟩
      have HR:=Lib.hid hr
      clear hr
      go_wp2_with fail
      refine Calls.mono (UNext_calls u.ep A1 n1 c1 u.cells x.kind x.at_ x.epoch x.e _ s1) ?_
      rw [show nextU ⟨u.ep,u.cells⟩ ⟨x.kind,x.at_,x.epoch,x.e⟩=r from HR.out.symm]
      rintro e w4 ⟨A2,n2,c2,rfl,s2,hO,hq3,hq4,fr2⟩
      have of2b:Offs zb A2:=fr2.offs hz3
      have of2r:Offs w.heap.size A2:=fr2.offs (by omega)
      have fw2:Fresh w.heap.size A2:=fun a e=>by have:=fr2 a e;omega
      clear fr2
      replace g0:=frozB hO r0 g0;replace g1:=frozB hO r1 g1;replace r0:=cellB hO r0;replace r1:=cellB hO r1
      replace f0:=frozB hO p0 f0;replace f1:=frozB hO p1 f1;replace p0:=cellB hO p0;replace p1:=cellB hO p1
      replace s1:=S.onto s1 hO;replace h:=S.onto h hO;replace o1:=Onto.to o1 hO
      have hz4:zb<w4.heap.size:=World.block_lt_of_cell? _ _ p0
      clear hO e0 e1 e2 e3 e4 e5 e6 e7 s1 ofb ofr hfw hz3
      obtain ⟨q,hq⟩:∃ q,q=r.2:=⟨_,rfl⟩
      rw [← hq]
      have HQ:=Lib.hid hq
      clear hq
      by_cases hq0:q=0
      · subst hq0
        have HG2:Hid (unitGo newU l=unitGo r.1 (l.drop (k+1))):=Lib.hid (by rw [HG.out,HAT.out,← HR.out,if_neg (by simp [← HQ.out])])
        go_wp2_with fail
        go_roundw
        case measure=>simp [intOf] <;> omega
        case rel =>
         refine ⟨k+1,r.1,A2,n2,c2,by omega,by go_num,?_,?_,?_,?_,?_,?_,?_,?_,?_,of2b,of2r,fw2,?_,?_,?_,hq3,hq4,HG2⟩
         · simp [go_sem,p0,p1]
         · simp [go_sem,p0,p1]
         · simp [go_sem,f0]
         · simp [go_sem,f1]
         · simp [go_sem,r0,hne]
         · simp [go_sem,r1,hne]
         · simp [go_sem,g0]
         · simp [go_sem,g1]
         · exact S.off (S.off s2 of2b.n _) of2b.n _
         · exact S.off (S.off h ohb _) ohb _
         · simp;omega
         · exact Onto.put (Onto.put o1 (by simp only;omega) _) (by simp only;omega) _
      · have hqd:(q !=0)=true:=by simpa using hq0
        have hres:unitL l=(⟨0,[]⟩,q):=by rw [HS.out,HG.out,HAT.out,← HR.out,if_pos (by rw [← HQ.out];exact hq0),HQ.out]
        have HRES:=Lib.hid hres
        clear hres
        go_wp2_with fail
        refine bodyPost_ret (v:=.tuple #[.agg #[.int .i64 0,.slice none 0 0],.int .i64 q]) (by simp [results,Tryz.results56,go_sem,r0,r1,hne]) rfl ?_
        rw [HRES.out]
        refine ⟨none,0,0,rfl,Sl.nil,?_,Fresh.none_ _,by omega,by simp [maxLen]⟩
        repeat (first | exact o1 | refine Onto.put ?_ (by simp <;> omega) _ | refine Onto.new ?_ _)
    · have hkn:k=n:=by omega
      subst hkn
      have hres:unitL l=(u,0):=by
       rw [HS.out,HG.out,List.drop_eq_nil_of_le (by have:=HL.out;omega)]
       rfl
      have HRES:=Lib.hid hres
      clear hres h
      go_wp2_with fail
      refine bodyPost_ret (v:=.tuple #[.agg #[.int .i64 u.ep,.slice A1 n1 c1],.int .i64 0]) (by simp [results,Tryz.results56,go_sem,r0,r1,g0,g1]) rfl ?_
      rw [HRES.out]
      exact ⟨A1,n1,c1,rfl,S.off (S.off s1 ofr.n _) ofr.n _,Onto.put (Onto.put o1 (by simp only;omega) _) (by simp only;omega) _,hfw,hq1,hq2⟩
end
section
open Go.RowKit
structure UV where
 ep:Int
 A:Option Addr
 n:Nat
 c:Nat
 cells:List Entry
def UV.u (v:UV):Uni:=⟨v.ep,v.cells⟩
def encU (v:UV):List Value:=[.int .i64 v.ep,.slice v.A v.n v.c]
abbrev unis (l:List UV):List Uni:=l.map UV.u
structure Us (w:World) (A:Option Addr) (n:Nat) (l:List UV):Prop where
 rows:S w 2 A n (l.map encU)
 cells:∀ v∈l,S w 5 v.A v.n (v.cells.map encE)
 caps:∀ v∈l,v.n≤v.c∧v.c≤maxLen
theorem Us.onto {w w':World} {A:Option Addr} {n:Nat} {l:List UV} (h:Us w A n l) (hb:Onto w w'):Us w' A n l:=⟨h.rows.onto hb,fun v hv=>(h.cells v hv).onto hb,h.caps⟩
theorem Us.new {w:World} {A:Option Addr} {n:Nat} {l:List UV} (h:Us w A n l) (o:Obj):Us (w.alloc o) A n l:=h.onto ((Below.refl _ _).alloc (Nat.le_refl _) _)
theorem Us.len {w:World} {A:Option Addr} {n:Nat} {l:List UV} (h:Us w A n l):l.length=n:=by have:=h.rows.len;simpa using this
theorem Us.atU {w : World} {A : Option Addr} {n : Nat} {l : List UV} (h : Us w A n l) {i : Nat} (hi : i < n) : ∃ b off v, A = some ⟨b, off, none⟩ ∧ b < w.heap.size ∧ l[i]? = some v ∧
    w.cell? ⟨b,off+i*2,none⟩=some (.int .i64 v.ep)∧w.cell? ⟨b,off+i*2+1,none⟩=some (.slice v.A v.n v.c)∧S w 5 v.A v.n (v.cells.map encE)∧v.cells.length=v.n:=by
 obtain ⟨b,off,x,e,hb,hx,hc⟩:=h.rows.at_ hi
 have hs:=h.cells x (List.mem_of_getElem? hx)
 exact ⟨b,off,x,e,hb,hx,hc 0 _ rfl,hc 1 _ rfl,hs,by have:=hs.len;simpa using this⟩
theorem unis_at {l:List UV} {i:Nat} {v:UV} (h:l[i]?=some v):(unis l)[i]?=some v.u:=by simp [unis,h]
set_option maxHeartbeats 4000000 in
set_option maxRecDepth 100000 in
theorem CCheck_calls (A : Option Addr) (n c : Nat) (l : List UV) (w : World) (h : Us w A n l) :
    Calls Tryz.prog 127 #[.slice A n c] w fun e w'=>e=.returned (.int .i64 (checkC (unis l)))∧Onto w w':=by
 have hl:=h.len
 obtain ⟨r,hr⟩:∃ r,r=checkC (unis l):=⟨_,rfl⟩
 rw [← hr]
 unfold checkC at hr
 by_cases h3:n=3
 · subst h3
   rw [if_neg (by simp [hl])] at hr
   have HR:=Lib.hid hr;have HL:=Lib.hid hl
   clear hr hl
   go_enter Tryz.func127,Tryz.ntmps127
   have hne:=neqE
   go_wp2_with fail
   go_loopw [13] (fun s wr=>∃ k:Nat,k≤3∧s=.int .i64 k∧Onto w wr∧Hid (r=chainL (aheadU (unis l) k) ((unis l).drop k))∧Hid (∀ j v,j<k→l[j]?=some v→v.n=60)) (fun s _=>3 - (intOf s).toNat)
   case atStart=>exact ⟨0,by omega,rfl,Below.refl _ _,by show _=_;rw [HR.out];rfl,fun j v hj=>absurd hj (Nat.not_lt_zero _)⟩
   case round =>
    obtain ⟨i,hi,rfl,hbr,HK,HN⟩:=hrel
    by_cases hlt:i<3
    · obtain ⟨b,off,u,rfl,hb,hu,e0,e1,hs,hul⟩:=(h.onto hbr).atU hlt
      have p0:0<i→∃ v,l[i - 1]?=some v∧wr.cell? ⟨b,off+(i - 1)*2+1,none⟩=some (.slice v.A v.n v.c)∧S wr 5 v.A v.n (v.cells.map encE)∧v.n=60:=by
       intro hp
       obtain ⟨b',off',v,e',_,hv,_,e1',hs',_⟩:=(h.onto hbr).atU (i:=i - 1) (by omega)
       injection e' with e';injection e' with e1 e2 _;subst e1;subst e2
       exact ⟨v,hv,e1',hs',HN.out _ v (by omega) hv⟩
      have HU:=Lib.hid (unis_at hu);have HU0:=Lib.hid hu
      have hk:=HK.out
      rw [chainL_at HU.out] at hk
      have HKK:=Lib.hid hk
      have hal:Onto wr (wr.alloc (Obj.cells #[.int .i64 u.ep,.slice u.A u.n u.c] 51)):=(Below.refl _ _).alloc (Nat.le_refl _) _
      clear hk hu
      go_wp2_with fail
      refine Calls.mono (UCheck_calls u.ep u.A u.n u.c u.cells _ (hs.new _)) ?_
      rintro e w1 ⟨rfl,hb1⟩
      obtain ⟨q,hq⟩:∃ q,q=checkU u.ep u.cells:=⟨_,rfl⟩
      rw [← hq]
      have hk:=HKK.out
      rw [show checkU u.u.ep u.u.cells=q from hq.symm] at hk
      have HKQ:=Lib.hid hk
      have HQ:=Lib.hid hq
      have q0:w1.cell? ⟨wr.heap.size,1,none⟩=some (.slice u.A u.n u.c):=cellB hb1 (by simp [go_sem])
      have h01:=(Onto.to hbr hal).to hb1
      have h11:=hal.to hb1
      clear hk hq HKK
      by_cases hq0:q=0
      · subst hq0
        have hg:=checkU_iff.1 HQ.out.symm
        have hun:u.n=60:=by rw [← hul];exact hg.len
        have hk:=HKQ.out
        rw [if_neg (by simp)] at hk
        rcases Nat.eq_zero_or_pos i with rfl | hpos
        · clear p0
          have HK1:=Lib.hid hk
          clear hk HKQ
          go_wp2_with fail
          go_roundw
          case measure=>simp [intOf] <;> omega
          case rel =>
           refine ⟨1,by omega,rfl,h01,?_,?_⟩
           · show _=_
             rw [HK1.out]
             simp [aheadU,HU.out]
           · show ∀ j v,_
             intro j v hj hv
             obtain rfl:j=0:=by omega
             rw [HU0.out] at hv
             injection hv with hv
             rw [← hv];exact hun
        · obtain ⟨v,hv,ev,hsv,hv60⟩:=p0 hpos
          have ha:aheadU (unis l) i=some v.u:=by
           obtain ⟨i',rfl⟩:∃ i',i=i'+1:=⟨i - 1,by omega⟩
           simp only [Nat.add_sub_cancel] at hv
           exact unis_at hv
          rw [ha] at hk
          dsimp only at hk
          have HK1:=Lib.hid hk;have HV:=Lib.hid hv
          have ev1:=cellB h11 ev
          have hsv1:=hsv.onto h11;have hs1:=hs.onto h11
          have hzb:b<w1.heap.size:=by have:=h11.size;omega
          clear hk HKQ p0 ha hv ev hsv hs e0 e1
          have hi0:¬ ((i:Int)=0):=by omega
          have hi1:((i:Int) ==0)=false:=by simp;omega
          rw [hun] at hs1 q0 ⊢
          rw [hv60] at hsv1 ev1
          go_wp2_with fail
          go_loopw [28] (fun s ws=>∃ k:Nat,k≤60∧s=.int .i64 k∧Onto w1 ws∧Hid (∀ j,j<k→(cellAt u.cells j).kind=4∨cellAt v.cells j=cellAt u.cells j)) (fun s _=>60 - (intOf s).toNat)
          case atStart=>exact ⟨0,by omega,rfl,Below.refl _ _,fun j hj=>absurd hj (Nat.not_lt_zero _)⟩
          case round =>
           obtain ⟨k,hk,rfl,hbs,HJ⟩:=hrel
           by_cases hkl:k<60
           · obtain ⟨b1,off1,x,hA1,hz1,hx,c0,c1,c2,c3,c4⟩:=(hs1.onto hbs).atE hkl
             obtain ⟨b2,off2,y,hA2,hz2,hy,d0,d1,d2,d3,d4⟩:=(hsv1.onto hbs).atE hkl
             have ev2:=cellB hbs ev1
             have hz3:=World.block_lt_of_cell? _ _ ev2
             simp only at hz3
             rw [hA2] at ev2
             rw [hA1]
             have HX:=Lib.hid (cellAt_eq hx);have HY:=Lib.hid (cellAt_eq hy)
             have hpos':(0:Int)<(i:Int):=by omega
             have hal2:Onto wr (wr.alloc (Obj.cells #[.int .i64 x.kind,.int .i64 x.job,.int .i64 x.every,.int .i64 x.time,.int .i64 x.client] 46)):=(Below.refl _ _).alloc (Nat.le_refl _) _
             have hkk:(k:Int)<60:=by omega
             clear hx hy ev1 q0 hA1 hA2
             by_cases h4:x.kind=4
             · have hd:(x.kind !=4)=false:=by simp [h4]
               have HH:=Lib.hid h4
               clear h4
               go_wp2_with fail
               go_quiet (fail)
               go_wp2_with fail
               go_roundw
               case measure=>simp [intOf] <;> omega
               case rel =>
                refine ⟨k+1,by omega,by go_num,Onto.to hbs (Onto.draws hal2 _),?_⟩
                show ∀ j,_
                intro j hj
                by_cases hjk:j=k
                · subst hjk;rw [HX.out];exact .inl HH.out
                · exact HJ.out j (by omega)
             · have hd:(x.kind !=4)=true:=by simpa using h4
               by_cases hxy:y=x
               · have hd2:(!(y.kind ==x.kind && y.job ==x.job && y.every ==x.every && y.time ==x.time && y.client ==x.client))=false:=by simp [hxy]
                 have HH:=Lib.hid hxy
                 clear h4 hxy
                 go_wp2_with fail
                 go_quiet (fail)
                 go_wp2_with fail
                 go_roundw
                 case measure=>simp [intOf] <;> omega
                 case rel =>
                  refine ⟨k+1,by omega,by go_num,Onto.to hbs (Onto.draws hal2 _),?_⟩
                  show ∀ j,_
                  intro j hj
                  by_cases hjk:j=k
                  · subst hjk;rw [HX.out,HY.out];exact .inr HH.out
                  · exact HJ.out j (by omega)
               · have hd2:(!(y.kind ==x.kind && y.job ==x.job && y.every ==x.every && y.time ==x.time && y.client ==x.client))=true:=by
                  rw [entry_eq_iff] at hxy
                  simp only [Bool.not_eq_true',Bool.and_eq_false_iff,beq_eq_false_iff_ne]
                  omega
                 have hfin:(4:Int)=r:=by
                  rw [HK1.out,if_neg (fun hf=>?_)]
                  have:=hf k hkl
                  rw [show cellAt u.u.cells k=x from HX.out,show cellAt v.u.cells k=y from HY.out] at this
                  rcases this with e | e
                  · exact h4 e
                  · exact hxy e
                 have HF:=Lib.hid hfin
                 clear h4 hxy hfin
                 go_wp2_with fail
                 go_quiet (fail)
                 go_wp2_with fail
                 go_ret
                 exact ⟨ret_int HF.out,Onto.to h01 (Onto.to hbs (Onto.draws hal2 _))⟩
           · obtain rfl:k=60:=by omega
             have hfit:fitC v.u.cells u.u.cells:=HJ.out
             have hk:=HK1.out
             rw [if_pos hfit] at hk
             have HK2:=Lib.hid hk
             clear hk hfit
             go_wp2_with fail
             go_roundw
             case measure=>simp [intOf] <;> omega
             case rel =>
              refine ⟨i+1,by omega,by go_num,Onto.to h01 hbs,?_,?_⟩
              · show _=_
                rw [HK2.out]
                simp [aheadU,HU.out]
              · show ∀ j v,_
                intro j v' hj hv'
                by_cases hji:j=i
                · subst hji
                  rw [HU0.out] at hv'
                  injection hv' with hv'
                  rw [← hv'];exact hun
                · exact HN.out j v' (by omega) hv'
      · have hq1:(q !=0)=true:=by simpa using hq0
        have hfin:q=r:=by rw [HKQ.out,if_pos hq0]
        have HF:=Lib.hid hfin
        clear hfin
        go_wp2_with fail
        go_ret
        exact ⟨ret_int HF.out,h01⟩
    · obtain rfl:i=3:=by omega
      have hfin:(0:Int)=r:=by rw [HK.out,List.drop_eq_nil_of_le (by simp [HL.out])];rfl
      have HF:=Lib.hid hfin
      clear hfin
      go_wp2_with fail
      go_ret
      exact ⟨ret_int HF.out,hbr⟩
 · rw [if_pos (by simp [hl];omega)] at hr
   subst hr
   have hnn:((n:Int) !=3)=true:=by simp;omega
   have hnn':¬ ((n:Int)=3):=by omega
   clear h hl h3
   go_enter Tryz.func127,Tryz.ntmps127
   go_wp2_with fail
   go_ret
   exact ⟨rfl,Below.refl _ _⟩
end
section
open Go.RowKit
theorem neqJ (a0 a1 a2 b0 b1 b2:Int) (w:World):(binOp .neq 82 (.agg #[.int .i64 a0,.int .i64 a1,.int .i64 a2]) (.agg #[.int .i64 b0,.int .i64 b1,.int .i64 b2])).run Tryz.prog w=.ok (.bool (!((a0 ==b0) && (a1 ==b1) && (a2 ==b2)))) w:=by
 have u3:=Tryz.underlying3;have a3:=Tryz.isAgg3;have z3:=Tryz.sizeOf3
 have hS:Tryz.prog.underlying 82=some (.struct (Tryz.prog.fieldsOf 82)):=by kernel_rfl
 have hp:Tryz.prog.stoodInHeld 82=false:=by kernel_rfl
 rw [run_neq_struct,show (10000:Nat)=9999+1 from rfl,run_equalIn_agg w 9999 82 _ _ hS hp]
 simp only [Program.fieldsOf,Tryz.underlying82]
 go_simp
 by_cases h0:a0=b0 <;> by_cases h1:a1=b1 <;> by_cases h2:a2=b2 <;> simp [h0,h1,h2]
set_option maxHeartbeats 1000000 in
theorem EqualJ_calls (A A' : Option Addr) (n m c d B : Nat) (l l' : List Job) (w : World) (h : Sl w B 3 A n (l.map encJ)) (h' : Sl w B 3 A' m (l'.map encJ)) (hn : n ≤ 9223372036854775807) :
    Calls Tryz.prog 31 #[.slice A n c,.slice A' m d] w fun e w'=>e=.returned (.bool (decide (l=l')))∧∃ q,w'=w.drewN q:=by
 by_cases hnm:n=m
 · subst hnm
   go_enter Tryz.func31,Tryz.ntmps31
   go_wp2
   go_loopg [13] n (fun g s13 wr=>∃ kk q:Nat,kk≤n∧n - kk≤g∧s13=.int .i64 kk∧wr=w.drewN q∧Hid (∀ j,j<kk→l[j]?=l'[j]?))
   case atStart=>exact ⟨0,0,Nat.zero_le _,by omega,rfl,rfl,fun j hj=>absurd hj (Nat.not_lt_zero _)⟩
   case round =>
    obtain ⟨kk,q,hkk,hg,rfl,rfl,H⟩:=hrel
    by_cases hlt:kk<n
    · obtain ⟨b,off,x,rfl,hb,hx,c0,c1,c2⟩:=h.atJ hlt
      obtain ⟨b',off',x',rfl,hb',hx',d0,d1,d2⟩:=h'.atJ hlt
      have HX:=Lib.hid hx;have HX':=Lib.hid hx';clear hx hx'
      clear h h'
      have hne:=neqJ
      go_wp2_with fail
      go_quiet (fail)
      go_wp2
      · go_ret
        refine ⟨?_,q+nq,by simp⟩
        have hd:l≠l':=by
         rintro rfl
         have:=HX.out.symm.trans HX'.out
         simp at this;subst this;simp_all
        simp [hd]
      · go_roundg (n - (kk+1))
        case measure=>omega
        case rel =>
         refine ⟨kk+1,q+nq,by omega,by omega,by go_num,by simp,?_⟩
         intro j hj
         by_cases e:j=kk
         · subst e
           rw [HX.out,HX'.out];congr 1;rw [job_eq_iff];simp_all
         · exact H.out j (by omega)
    · have:kk=n:=by omega
      subst this
      have hl:=h.len;have hl':=h'.len
      simp at hl hl'
      have he:l=l':=list_eq_of (by omega) (fun j hj=>H.out j (by omega))
      clear h h' hl hl'
      go_wp2
      go_ret
      refine ⟨by simp [he],q,rfl⟩
 · have hnm':¬ (n:Int)=(m:Int):=by omega
   have hd:l≠l':=by
    rintro rfl
    exact hnm (h.len.symm.trans h'.len)
   clear h h'
   go_enter Tryz.func31,Tryz.ntmps31
   go_wp2
   go_ret
   exact ⟨by simp [hd],0,rfl⟩
theorem neqR (a0 a1 a2 b0 b1 b2:Int) (w:World):(binOp .neq 85 (.agg #[.int .i64 a0,.int .i64 a1,.int .i64 a2]) (.agg #[.int .i64 b0,.int .i64 b1,.int .i64 b2])).run Tryz.prog w=.ok (.bool (!((a0 ==b0) && (a1 ==b1) && (a2 ==b2)))) w:=by
 have u3:=Tryz.underlying3;have a3:=Tryz.isAgg3;have z3:=Tryz.sizeOf3
 have hS:Tryz.prog.underlying 85=some (.struct (Tryz.prog.fieldsOf 85)):=by kernel_rfl
 have hp:Tryz.prog.stoodInHeld 85=false:=by kernel_rfl
 rw [run_neq_struct,show (10000:Nat)=9999+1 from rfl,run_equalIn_agg w 9999 85 _ _ hS hp]
 simp only [Program.fieldsOf,Tryz.underlying85]
 go_simp
 by_cases h0:a0=b0 <;> by_cases h1:a1=b1 <;> by_cases h2:a2=b2 <;> simp [h0,h1,h2]
set_option maxHeartbeats 1000000 in
theorem EqualR_calls (A A' : Option Addr) (n m c d B : Nat) (l l' : List Rung) (w : World) (h : Sl w B 3 A n (l.map encR)) (h' : Sl w B 3 A' m (l'.map encR)) (hn : n ≤ 9223372036854775807) :
    Calls Tryz.prog 32 #[.slice A n c,.slice A' m d] w fun e w'=>e=.returned (.bool (decide (l=l')))∧∃ q,w'=w.drewN q:=by
 by_cases hnm:n=m
 · subst hnm
   go_enter Tryz.func32,Tryz.ntmps32
   go_wp2
   go_loopg [13] n (fun g s13 wr=>∃ kk q:Nat,kk≤n∧n - kk≤g∧s13=.int .i64 kk∧wr=w.drewN q∧Hid (∀ j,j<kk→l[j]?=l'[j]?))
   case atStart=>exact ⟨0,0,Nat.zero_le _,by omega,rfl,rfl,fun j hj=>absurd hj (Nat.not_lt_zero _)⟩
   case round =>
    obtain ⟨kk,q,hkk,hg,rfl,rfl,H⟩:=hrel
    by_cases hlt:kk<n
    · obtain ⟨b,off,x,rfl,hb,hx,c0,c1,c2⟩:=h.atR hlt
      obtain ⟨b',off',x',rfl,hb',hx',d0,d1,d2⟩:=h'.atR hlt
      have HX:=Lib.hid hx;have HX':=Lib.hid hx';clear hx hx'
      clear h h'
      have hne:=neqR
      go_wp2_with fail
      go_quiet (fail)
      go_wp2
      · go_ret
        refine ⟨?_,q+nq,by simp⟩
        have hd:l≠l':=by
         rintro rfl
         have:=HX.out.symm.trans HX'.out
         simp at this;subst this;simp_all
        simp [hd]
      · go_roundg (n - (kk+1))
        case measure=>omega
        case rel =>
         refine ⟨kk+1,q+nq,by omega,by omega,by go_num,by simp,?_⟩
         intro j hj
         by_cases e:j=kk
         · subst e
           rw [HX.out,HX'.out];congr 1;rw [rung_eq_iff];simp_all
         · exact H.out j (by omega)
    · have:kk=n:=by omega
      subst this
      have hl:=h.len;have hl':=h'.len
      simp at hl hl'
      have he:l=l':=list_eq_of (by omega) (fun j hj=>H.out j (by omega))
      clear h h' hl hl'
      go_wp2
      go_ret
      refine ⟨by simp [he],q,rfl⟩
 · have hnm':¬ (n:Int)=(m:Int):=by omega
   have hd:l≠l':=by
    rintro rfl
    exact hnm (h.len.symm.trans h'.len)
   clear h h'
   go_enter Tryz.func32,Tryz.ntmps32
   go_wp2
   go_ret
   exact ⟨by simp [hd],0,rfl⟩
end
section
open Go.RowKit
theorem infoJ:(Tryz.prog.info? 82).map (fun i=>(i.zero,i.size,i.bytes))=some (some (.agg #[.int .i64 0,.int .i64 0,.int .i64 0]),3,24):=by kernel_rfl
set_option maxHeartbeats 1000000 in
theorem CloneJ_calls (w : World) (A : Option Addr) (n c B : Nat) (hB : B ≤ w.heap.size) (rows : List (List Value)) (h : Sl w B 3 A n rows) (h1 : ∀ r ∈ rows, ∀ u ∈ r, u.oneCell' = true) (hn : n * 24 ≤ 140737488355328) :
    Calls Tryz.prog 83 #[.slice A n c] w fun e w'=>∃ A' c',e=.returned (.slice A' n c')∧Own w' w.heap.size 82 3 (.slice A' n c') n rows∧Below w.heap.size w w':=by
 obtain ⟨i0,hi0,hz0,hz1,hz2⟩:=info_parts infoJ
 have hnm:n≤maxLen:=by unfold maxLen;omega
 cases A with
 | none =>
   have h0:n=0:=by
    rcases Nat.eq_zero_or_pos n with h0 | h0
    · exact h0
    · obtain ⟨b,off,e,_⟩:=h.2.2 h0
      cases e
   subst h0
   have hr:rows=[]:=List.eq_nil_of_length_eq_zero h.1
   subst hr
   clear h h1 hi0 hz0 hz1 hz2 hnm hn
   have hs:∀ w,(binOp .eql 30 (.slice none 0 c) (.slice none 0 0)).run Tryz.prog w=.ok (.bool true) w:=fun w=>by kernel_rfl
   go_enter Tryz.func83,Tryz.ntmps83
   go_wp2
   go_ret
   exact ⟨none,0,rfl,Own.nil _ _ _ _,Below.refl _ _⟩
 | some a =>
   have hs:∀ w,(binOp .eql 30 (.slice (some a) n c) (.slice none 0 0)).run Tryz.prog w=.ok (.bool false) w:=fun w=>by kernel_rfl
   have HN:=Lib.hid hn;have HM:=Lib.hid hnm;have H1:=Lib.hid h1;have H:=Lib.hid h;clear hn hnm h1 h
   have HI:=Lib.hid hi0;have HZ0:=Lib.hid hz0;have HZ1:=Lib.hid hz1;have HZ2:=Lib.hid hz2;clear hi0 hz0 hz1 hz2
   go_enter Tryz.func83,Tryz.ntmps83
   go_wp2_with (at_builtin;refine wpList_append_sl _ rfl _ _ 30 rfl w.heap.size 82 i0 _ 3 24 Tryz.underlying30 HI.out HZ0.out HZ1.out HZ2.out rfl (by decide) _ 0 [] rfl ?c1 B (some a) n c rows rfl ?c2 H1.out ?c3 ?c4 ?c5 ?_)
   case c1=>exact ⟨World.ownsRow_made _ _ _ (Nat.le_refl _) (by simp [maxLen]) (by simp),rfl,by simp⟩
   case c2=>exact H.out.keep fun p hp=>World.cell?_alloc_lt w _ p (by omega)
   case c3=>rw [Nat.zero_add];exact HM.out
   case c4=>rw [Nat.zero_add];exact HN.out
   case c5=>simp
   intro v' w' hown hgrow hblk
   obtain ⟨A',c',rfl,_,_⟩:=hown.slice
   go_wp2
   go_ret
   refine ⟨A',c',rfl,hown,?_⟩
   exact ((Below.refl _ _).alloc (Nat.le_refl _) _).grown hgrow (by simp) (by simp [Value.ownBlock])
theorem infoR:(Tryz.prog.info? 85).map (fun i=>(i.zero,i.size,i.bytes))=some (some (.agg #[.int .i64 0,.int .i64 0,.int .i64 0]),3,24):=by kernel_rfl
set_option maxHeartbeats 1000000 in
theorem CloneR_calls (w : World) (A : Option Addr) (n c B : Nat) (hB : B ≤ w.heap.size) (rows : List (List Value)) (h : Sl w B 3 A n rows) (h1 : ∀ r ∈ rows, ∀ u ∈ r, u.oneCell' = true) (hn : n * 24 ≤ 140737488355328) :
    Calls Tryz.prog 84 #[.slice A n c] w fun e w'=>∃ A' c',e=.returned (.slice A' n c')∧Own w' w.heap.size 85 3 (.slice A' n c') n rows∧Below w.heap.size w w':=by
 obtain ⟨i0,hi0,hz0,hz1,hz2⟩:=info_parts infoR
 have hnm:n≤maxLen:=by unfold maxLen;omega
 cases A with
 | none =>
   have h0:n=0:=by
    rcases Nat.eq_zero_or_pos n with h0 | h0
    · exact h0
    · obtain ⟨b,off,e,_⟩:=h.2.2 h0
      cases e
   subst h0
   have hr:rows=[]:=List.eq_nil_of_length_eq_zero h.1
   subst hr
   clear h h1 hi0 hz0 hz1 hz2 hnm hn
   have hs:∀ w,(binOp .eql 31 (.slice none 0 c) (.slice none 0 0)).run Tryz.prog w=.ok (.bool true) w:=fun w=>by kernel_rfl
   go_enter Tryz.func84,Tryz.ntmps84
   go_wp2
   go_ret
   exact ⟨none,0,rfl,Own.nil _ _ _ _,Below.refl _ _⟩
 | some a =>
   have hs:∀ w,(binOp .eql 31 (.slice (some a) n c) (.slice none 0 0)).run Tryz.prog w=.ok (.bool false) w:=fun w=>by kernel_rfl
   have HN:=Lib.hid hn;have HM:=Lib.hid hnm;have H1:=Lib.hid h1;have H:=Lib.hid h;clear hn hnm h1 h
   have HI:=Lib.hid hi0;have HZ0:=Lib.hid hz0;have HZ1:=Lib.hid hz1;have HZ2:=Lib.hid hz2;clear hi0 hz0 hz1 hz2
   go_enter Tryz.func84,Tryz.ntmps84
   go_wp2_with (at_builtin;refine wpList_append_sl _ rfl _ _ 31 rfl w.heap.size 85 i0 _ 3 24 Tryz.underlying31 HI.out HZ0.out HZ1.out HZ2.out rfl (by decide) _ 0 [] rfl ?c1 B (some a) n c rows rfl ?c2 H1.out ?c3 ?c4 ?c5 ?_)
   case c1=>exact ⟨World.ownsRow_made _ _ _ (Nat.le_refl _) (by simp [maxLen]) (by simp),rfl,by simp⟩
   case c2=>exact H.out.keep fun p hp=>World.cell?_alloc_lt w _ p (by omega)
   case c3=>rw [Nat.zero_add];exact HM.out
   case c4=>rw [Nat.zero_add];exact HN.out
   case c5=>simp
   intro v' w' hown hgrow hblk
   obtain ⟨A',c',rfl,_,_⟩:=hown.slice
   go_wp2
   go_ret
   refine ⟨A',c',rfl,hown,?_⟩
   exact ((Below.refl _ _).alloc (Nat.le_refl _) _).grown hgrow (by simp) (by simp [Value.ownBlock])
end
section
open Go.RowKit
set_option maxHeartbeats 2000000 in
theorem BCheck_calls (A A' : Option Addr) (n c m d B : Nat) (jobs : List Job) (rung : List Rung) (w : World) (h : Sl w B 3 A n (jobs.map encJ)) (h' : Sl w B 3 A' m (rung.map encR)) (hB : B ≤ w.heap.size) :
    Calls Tryz.prog 59 #[.agg #[.slice A n c,.slice A' m d]] w fun e w'=>e=.returned (.int .i64 (checkB ⟨jobs,rung⟩))∧Below w.heap.size w w':=by
 have hn:=h.len;have hm:=h'.len
 simp at hn hm
 by_cases hbig:6<n∨60<m
 · have hs:checkB ⟨jobs,rung⟩=2:=by
    unfold checkB
    rw [if_pos (by simp only;omega)]
   have HS:=Lib.hid hs
   have HB:=Lib.hid hbig
   clear hbig hs hn hm h h'
   by_cases h6:6<n
   all_goals
    go_enter Tryz.func59,Tryz.ntmps59
    go_wp2_with fail
    any_goals
     go_ret
     exact ⟨ret_int HS.out.symm,(Below.refl _ _).alloc (Nat.le_refl _) _⟩
   have:=HB.out
   exfalso
   omega
 · have hn6:n≤6:=by omega
   have hm6:m≤60:=by omega
   have hs:checkB ⟨jobs,rung⟩=if checkJs (-1) jobs=0 then checkRs rung else checkJs (-1) jobs:=by
    unfold checkB
    rw [if_neg (by simp only;omega)]
   have HS:=Lib.hid hs
   clear hbig hs hn hm
   go_enter Tryz.func59,Tryz.ntmps59
   go_wp2
   go_loopw [20] (fun s wr=>∃ k:Nat,k≤n∧s=.int .i64 k∧Below (w.heap.size+1) (w.alloc (Obj.cells #[.slice A n c,.slice A' m d] 33)) wr∧Hid (checkJs (-1) jobs=checkJs (aheadJ jobs k) (jobs.drop k))) (fun s _=>n - (intOf s).toNat)
   case atStart=>exact ⟨0,by omega,rfl,Below.refl _ _,by simp [Hid,aheadJ]⟩
   case round =>
    obtain ⟨k,hk,rfl,hbel,HJ⟩:=hrel
    have c0:wr.cell? ⟨w.heap.size,0,none⟩=some (.slice A n c):=(hbel.cell (p:=⟨w.heap.size,0,none⟩) (by simp)).trans (by simp)
    have c1:wr.cell? ⟨w.heap.size,1,none⟩=some (.slice A' m d):=(hbel.cell (p:=⟨w.heap.size,1,none⟩) (by simp)).trans (by simp)
    by_cases hlt:k<n
    · have hr:=(h.keep (w':=w.alloc (Obj.cells #[.slice A n c,.slice A' m d] 33)) fun p hp=>World.cell?_alloc_lt w _ p (by omega)).below (hbel.mono (by omega))
      obtain ⟨b,off,x,rfl,hb,hx,e0,e1,e2⟩:=hr.atJ hlt
      have p0:0<k→∃ y,jobs[k - 1]?=some y∧wr.cell? ⟨b,off+(k - 1)*3,none⟩=some (.int .i64 y.id):=by
       intro hp
       obtain ⟨b',off',y,e',_,hy,e0',_,_⟩:=hr.atJ (i:=k - 1) (by omega)
       injection e' with e';injection e' with e1 e2 _;subst e1;subst e2
       exact ⟨y,hy,e0'⟩
      have HX:=Lib.hid hx
      clear h h' hx hr
      have hb0:Below w.heap.size w wr:=((Below.refl _ _).alloc (Nat.le_refl _) _).trans (hbel.mono (by omega))
      have hz:w.heap.size<wr.heap.size:=by have:=hbel.size;simp at this;omega
      have hzb:b<wr.heap.size:=by omega
      go_wp2_with fail
      any_goals
       go_ret
       have hbj:badJ x:=by unfold badJ;omega
       refine ⟨ret_int (by rw [HS.out,HJ.out,checkJs_at HX.out,if_pos hbj];simp),?_⟩
       repeat (first | exact hb0 | refine Below.alloc ?_ (by have:=hb0.size;simp <;> omega) _)
      have hgood:¬ badJ x:=by unfold badJ;omega
      have HG:=Lib.hid hgood
      clear hgood
      rcases Nat.eq_zero_or_pos k with rfl | hpos
      · clear p0
        go_quiet (fail)
        go_wp2
        go_roundw
        case measure=>simp [intOf];omega
        case rel =>
         refine ⟨1,by omega,rfl,?_,?_⟩
         · repeat (first | exact hbel | refine below_drewN ?_ _ | refine Below.setCell ?_ (by simp <;> omega) _ | refine Below.alloc ?_ (by have:=hbel.size;simp at this;simp <;> omega) _)
         · show _=_
           have h0:¬ x.id≤-1:=by have:=HG.out;unfold badJ at this;omega
           rw [HJ.out,checkJs_at HX.out,if_neg HG.out,if_neg (show ¬ x.id≤aheadJ jobs 0 from h0)]
           simp [aheadJ,HX.out]
      · obtain ⟨y,hy,ey⟩:=p0 hpos
        have HY:=Lib.hid hy
        have hpos':(0:Int)<(k:Int):=by omega
        clear hy p0
        have ha:aheadJ jobs k=y.id:=by
         obtain ⟨k',rfl⟩:∃ k',k=k'+1:=⟨k - 1,by omega⟩
         have:=HY.out
         simp only [Nat.add_sub_cancel] at this
         simp [aheadJ,this]
        have HA:=Lib.hid ha
        clear ha
        go_quiet (fail)
        go_wp2
        · go_ret
          have hle:x.id≤y.id:=by assumption
          refine ⟨ret_int (by rw [HS.out,HJ.out,checkJs_at HX.out,if_neg HG.out,HA.out,if_pos hle];simp),?_⟩
          repeat (first | exact hb0 | refine below_drewN ?_ _ | refine Below.alloc ?_ (by have:=hb0.size;simp <;> omega) _)
        · have hlt':y.id<x.id:=by assumption
          go_roundw
          case measure=>simp [intOf];omega
          case rel =>
           refine ⟨k+1,by omega,by go_num,?_,?_⟩
           · repeat (first | exact hbel | refine below_drewN ?_ _ | refine Below.alloc ?_ (by have:=hbel.size;simp at this;simp <;> omega) _)
           · show _=_
             rw [HJ.out,checkJs_at HX.out,if_neg HG.out,HA.out,if_neg (by omega)]
             simp [aheadJ,HX.out]
    · obtain rfl:k=n:=by omega
      have hj:checkB ⟨jobs,rung⟩=checkRs rung:=by
       have h0:checkJs (-1) jobs=0:=by
        rw [HJ.out,List.drop_eq_nil_of_le (by have:=h.len;simp at this;omega)]
        rfl
       rw [HS.out,h0];rfl
      have HK:=Lib.hid hj
      clear hj HJ HS
      have hz0:w.heap.size<wr.heap.size:=by have:=hbel.size;simp at this;omega
      go_wp2
      go_loopw [71] (fun s ws=>∃ j:Nat,j≤m∧s=.int .i64 j∧Below (w.heap.size+1) (w.alloc (Obj.cells #[.slice A k c,.slice A' m d] 33)) ws∧Hid (checkRs rung=checkRs (rung.drop j))) (fun s _=>m - (intOf s).toNat)
      case atStart=>exact ⟨0,by omega,rfl,hbel,by simp [Hid]⟩
      case round =>
       obtain ⟨j,hj,rfl,hbel',HR⟩:=hrel
       clear c0 c1 hz0
       by_cases hlt':j<m
       · obtain ⟨b,off,x,rfl,hb,hx,e0,e1,e2⟩:=((h'.keep (w':=w.alloc (Obj.cells #[.slice A k c,.slice A' m d] 33)) fun p hp=>World.cell?_alloc_lt w _ p (by omega)).below (hbel'.mono (by omega))).atR hlt'
         have HX:=Lib.hid hx
         clear h h' hx hlt
         have hb0:Below w.heap.size w wr:=((Below.refl _ _).alloc (Nat.le_refl _) _).trans (hbel'.mono (by omega))
         have hz:w.heap.size<wr.heap.size:=by have:=hbel'.size;simp at this;omega
         go_wp2_with fail
         any_goals
          go_ret
          have hbr:badR x:=by unfold badR;omega
          refine ⟨ret_int (by rw [HK.out,HR.out,checkRs_bad HX.out hbr]),?_⟩
          repeat (first | exact hb0 | refine Below.alloc ?_ (by have:=hb0.size;simp <;> omega) _)
         have hgr:¬ badR x:=by unfold badR;omega
         go_roundw
         case measure=>simp [intOf];omega
         case rel =>
          refine ⟨j+1,by omega,by go_num,?_,?_⟩
          · repeat (first | exact hbel' | refine Below.alloc ?_ (by have:=hbel'.size;simp at this;simp <;> omega) _)
          · show _=_
            rw [HR.out,checkRs_good HX.out hgr]
       · obtain rfl:j=m:=by omega
         have hb0:Below w.heap.size w wr:=((Below.refl _ _).alloc (Nat.le_refl _) _).trans (hbel'.mono (by omega))
         have hfin:checkB ⟨jobs,rung⟩=0:=by
          rw [HK.out,HR.out,List.drop_eq_nil_of_le (by have:=h'.len;simp at this;omega)]
          rfl
         have HF:=Lib.hid hfin
         clear h h' hfin
         go_wp2
         go_ret
         exact ⟨ret_int HF.out.symm,hb0⟩
end
end Go.Proofs.YtidlffepdcldkaaGreatDoor
