/- Part 41 of the proof: WLog, WBook, LawS, WHoles, WToldP, WTolled, WDo, WLawP, EqI. -/
import Derived.Test.YtidlffepdcldkaaGreatDoorBa29
import Derived.Test.YtidlffepdcldkaaGreatDoorBa25
import Derived.Test.YtidlffepdcldkaaGreatDoorBa21
import Derived.Test.YtidlffepdcldkaaGreatDoorBa20
import Derived.Test.YtidlffepdcldkaaGreatDoorBa16
import Derived.Test.YtidlffepdcldkaaGreatDoorBa40
import Derived.Test.YtidlffepdcldkaaGreatDoorBa07
import Derived.Test.YtidlffepdcldkaaGreatDoorBa30
import Derived.Test.YtidlffepdcldkaaGreatDoorBa01
import Derived.Test.YtidlffepdcldkaaGreatDoorBa13
import Derived.Test.YtidlffepdcldkaaGreatDoorProg
namespace Go.Proofs.YtidlffepdcldkaaGreatDoor
set_option linter.unusedSimpArgs false
set_option linter.unusedVariables false
section
open Go.RowKit
attribute [local go_sem ↓] Go.wp_at_zero Go.wp_at_succ
def LogPost (w:World) (q:List Entry × Int) (e:Ending) (w':World):Prop :=
 ∃ B b y,e=.returned (.tuple #[.slice B b y,.int .i64 q.2])∧S w' 5 B b (q.1.map encE)∧b≤y∧y≤maxLen∧Onto w w'∧Fresh w.heap.size B
theorem rinfoE:(Tryz.prog.info? 46).map (fun i=>(i.zero,i.size,i.bytes))=some (some (.agg #[.int .i64 0,.int .i64 0,.int .i64 0,.int .i64 0,.int .i64 0]),5,40):=by kernel_rfl
theorem take_while {l:List Entry} {p:Entry→Bool}:∀ {j:Nat},j≤l.length→(∀ e∈l.take j,p e=true)→(∀ e,l[j]?=some e→p e=false)→l.takeWhile p=l.take j:=by
 induction l with
 | nil=>intro j hj h1 h2;simp
 | cons x l ih =>
   intro j hj h1 h2
   cases j with
   | zero=>have:=h2 x rfl;simp [List.takeWhile,this]
   | succ j =>
     have hx:=h1 x (by simp)
     simp only [List.takeWhile,hx,List.take_succ_cons]
     rw [ih (by simpa using hj) (fun e he=>h1 e (by simp [he])) (fun e he=>h2 e (by simpa using he))]
set_option maxHeartbeats 8000000 in
set_option maxRecDepth 100000 in
theorem SLog_calls (A : Option Addr) (n c : Nat) (tip : Int) (C : Option Addr) (m d : Nat) (time : Int) (ns : List NV) (cs : List CV) (w : World) (E : Env w) (R : WR w A n C m ns cs) :
    Calls Tryz.prog 4 #[.agg #[.slice A n c,.int .i64 tip,.slice C m d,.int .i64 time]] w (LogPost w (logW (wor ns tip cs time))):=by
 obtain ⟨q,hq⟩:∃ q,q=logW (wor ns tip cs time):=⟨_,rfl⟩
 obtain ⟨g,hg⟩:∃ g,g=checkW (wor ns tip cs time):=⟨_,rfl⟩
 rw [← hq]
 unfold logW at hq
 rw [← hg] at hq
 have HQ:=Lib.hid hq;have HG:=Lib.hid hg
 clear hq hg
 go_enter Tryz.func4,Tryz.ntmps4
 go_upto_region 1 with fail
 have ob:=(Onto.rfl' w).new (Obj.cells #[.slice A n c,.int .i64 tip,.slice C m d,.int .i64 time] 25)
 have BX:Bx (w.alloc (Obj.cells #[.slice A n c,.int .i64 tip,.slice C m d,.int .i64 time] 25)) w.heap.size [.slice A n c,.int .i64 tip,.slice C m d,.int .i64 time]:=Bx.made _ _ _
 have on:=ob
 clear ob
 try change Code.wp _ _ _ _ (w.alloc (Obj.cells #[.slice A n c,.int .i64 tip,.slice C m d,.int .i64 time] 25))
 generalize (w.alloc (Obj.cells #[.slice A n c,.int .i64 tip,.slice C m d,.int .i64 time] 25))=v1 at *
 generalize w.heap.size=zx at *
 replace R:=R.onto on
 have x0:=BX.at_ 0 rfl;have x1:=BX.at_ 1 rfl;have x2:=BX.at_ 2 rfl;have x3:=BX.at_ 3 rfl
 go_wp2_with fail
 refine Calls.mono (WCheck_calls A n c tip C m d time ns cs _ (E.onto on) R) ?_
 rw [← HG.out]
 rintro e v2 ⟨rfl,b⟩
 replace on:=on.to b
 replace BX:=BX.onto b
 replace R:=R.onto b
 clear b
 clear x0 x1 x2 x3
 by_cases hg0:g=0
 · subst hg0
   have hgood:=checkW_iff.1 HG.out.symm
   obtain ⟨rfl,rfl,hsm⟩:=small_of R hgood
   have hq:=HQ.out
   rw [if_neg (by simp)] at hq
   replace HQ:=Lib.hid hq
   obtain ⟨b0,off0,u,hA,hb0,hu,vi,a0,a1,a2,a3,a4⟩:=R.atN (i:=2) (by omega)
   subst hA
   have hun:u.n=60:=(hsm.n u (List.mem_of_getElem? hu)).1
   have hlog:logOf (wor ns tip cs time)=u.x.u.cells.takeWhile fun c=>decide (c.kind≠4):=by
    show ((nodAt (wor ns tip cs time).n 2).u.cells.takeWhile _)=_
    rw [show nodAt (wor ns tip cs time).n 2=u.x from nodAt_ns hu]
   have hS:=vi.cells
   rw [hun] at hS a1
   have hlen:u.x.u.cells.length=60:=by have:=hS.len;simpa using this
   have HLOG:=Lib.hid hlog;have HLEN:=Lib.hid hlen
   clear hlog hlen hq hgood hsm hu vi hun a0 a2 a3 a4
   have x0:=BX.at_ 0 rfl
   go_wp2_with fail
   clear x0 a1
   have hv:=on.size
   go_loopg [5,7,24] 60 (fun g s5 s7 s24 wr=>∃ (j yc:Nat) (B:Option Addr),j≤60∧60 - j≤g∧s24=.int .i64 j∧s5=.slice B j yc∧Hid (Own wr v2.heap.size 46 5 (.slice B j yc) j ((u.x.u.cells.take j).map encE))∧Hid (∀ e∈u.x.u.cells.take j,e.kind≠4)∧Onto v2 wr)
   case atStart=>exact ⟨0,0,none,by omega,by omega,rfl,rfl,Own.nil _ _ _ _,Lib.hid (by simp),Onto.rfl' _⟩
   case round =>
    obtain ⟨j,yc,B,hj,hg,rfl,rfl,HO,HK,bw⟩:=hrel
    have on2:=on.to bw
    replace hS:=hS.onto bw
    by_cases hlt:j<60
    · have hk3:(j:Int)<60:=by omega
      obtain ⟨bc,oc,e,hA0,hbc,he,d0,d1,d2,d3,d4⟩:=hS.atE hlt
      have HA0:=Lib.hid hA0;have HE:=Lib.hid he
      clear he
      rw [hA0]
      go_upto_region 8 with fail
      refine wp_box1 (v1:=[.int .i64 e.kind,.int .i64 e.job,.int .i64 e.every,.int .i64 e.time,.int .i64 e.client]) rfl fun w5 ox V=>?_
      generalize wr.heap.size=ze at V ⊢
      replace bw:=bw.to ox;replace on2:=on2.to ox;replace HO:=Lib.hid (HO.out.below ox)
      clear ox d0 d1 d2 d3 d4 hA0 hbc
      by_cases h4:e.kind=4
      · have hd:(e.kind ==4)=true:=by simp [h4]
        have V0:=V.at_ 0 rfl
        have HQ2:Hid (q=(u.x.u.cells.take j,0)):=Lib.hid (by
         rw [HQ.out,HLOG.out,take_while (j:=j) (by have:=HLEN.out;omega) (fun e he=>by simpa using HK.out e he) (fun e' he'=>by rw [HE.out] at he';injection he' with he';subst he';simp [h4])])
        have HE4:=Lib.hid h4
        clear h4
        go_wp2_with fail
        refine bodyPost_ret (v:=.tuple #[.slice B j yc,.int .i64 0]) (by simp [results,Tryz.results4,go_sem]) rfl ?_
        rw [HQ2.out]
        exact ⟨B,j,yc,rfl,HO.out.sl,HO.out.le_cap,HO.out.cap_max,on2,fun a e=>Nat.le_trans hv (HO.out.fresh (Nat.le_refl _) a e)⟩
      · have hd:(e.kind ==4)=false:=by simp [h4]
        have HK2:Hid (∀ x∈u.x.u.cells.take (j+1),x.kind≠4):=Lib.hid (fun x hx=>by
         rw [List.take_add_one,HE.out] at hx
         rcases List.mem_append.1 hx with h | h
         · exact HK.out x h
         · simp at h;subst h;exact h4)
        clear h4
        have V0:=V.at_ 0 rfl;have V1:=V.at_ 1 rfl;have V2:=V.at_ 2 rfl;have V3:=V.at_ 3 rfl;have V4:=V.at_ 4 rfl
        obtain ⟨i0,hi0,hzz0,hzz1,hzz2⟩:=info_parts rinfoE
        have HI0:=Lib.hid hi0;have HZ0:=Lib.hid hzz0;have HZ1:=Lib.hid hzz1;have HZ2:=Lib.hid hzz2
        clear hi0 hzz0 hzz1 hzz2
        have hnew:Sl (w5.alloc (Obj.cells #[.int .i64 e.kind,.int .i64 e.job,.int .i64 e.every,.int .i64 e.time,.int .i64 e.client] 46)) (w5.heap.size+1) 5 (some ⟨w5.heap.size,0,none⟩) 1 [encE e]:=by
         have:=Sl.block (w:=w5.alloc (Obj.cells #[.int .i64 e.kind,.int .i64 e.job,.int .i64 e.every,.int .i64 e.time,.int .i64 e.client] 46)) (k:=5) [encE e] (heap_alloc_new w5 _) (by simp [encE]) rfl
         simpa using this
        have HNEW:=Lib.hid hnew
        have hbw:=bw.size
        clear hnew
        go_wp2_with (at_builtin;refine wpList_append_sl _ rfl _ _ 26 rfl v2.heap.size 46 i0 _ 5 40 Tryz.underlying26 HI0.out HZ0.out HZ1.out HZ2.out rfl (by decide) (.slice B j yc) j ((u.x.u.cells.take j).map encE) (by rfl) (HO.out.alloc _) (w5.heap.size+1) (some ⟨w5.heap.size,0,none⟩) 1 1 [encE e] (by rfl) HNEW.out (by simp [encE,Value.oneCell']) (by unfold maxLen;omega) (by omega) (by simp;omega) ?_)
        intro v8 wa own8 grow8 hv8
        obtain ⟨A8,c8,rfl,_,_⟩:=own8.slice
        have ona:=(Onto.rfl' w5).new (Obj.cells #[.int .i64 e.kind,.int .i64 e.job,.int .i64 e.every,.int .i64 e.time,.int .i64 e.client] 46)
        have bw3:Onto v2 wa:=below_grown (bw.to ona) (bw.to ona).size grow8 (fun g hg=>by have:=(HO.out.1.lt g hg).1;omega)
        have HOa:Hid (Own wa v2.heap.size 46 5 (.slice A8 (j+1) c8) (j+1) ((u.x.u.cells.take (j+1)).map encE)):=Lib.hid (by rw [show (u.x.u.cells.take (j+1)).map encE=(u.x.u.cells.take j).map encE ++[encE e] by rw [List.take_add_one,HE.out,List.map_append];rfl];simpa using own8)
        clear own8 grow8 hv8 HO HNEW HI0 HZ0 HZ1 HZ2 ona V0 V1 V2 V3 V4 bw on2 V HK HE
        go_wp2_with fail
        rw [← HA0.out]
        go_roundg (60 - (j+1))
        case measure=>omega
        case rel=>exact ⟨j+1,c8,A8,by omega,Nat.le_refl _,by go_num,rfl,HOa,HK2,bw3⟩
    · obtain rfl:j=60:=by omega
      have HQ2:Hid (q=(u.x.u.cells.take 60,0)):=Lib.hid (by
       rw [HQ.out,HLOG.out,take_while (j:=60) (by have:=HLEN.out;omega) (fun e he=>by simpa using HK.out e he) (fun e' he'=>by rw [List.getElem?_eq_none (by have:=HLEN.out;omega)] at he';cases he')])
      go_wp2_with fail
      refine bodyPost_ret (v:=.tuple #[.slice B 60 yc,.int .i64 0]) (by simp [results,Tryz.results4,go_sem]) rfl ?_
      rw [HQ2.out]
      exact ⟨B,60,yc,rfl,HO.out.sl,HO.out.le_cap,HO.out.cap_max,on2,fun a e=>Nat.le_trans hv (HO.out.fresh (Nat.le_refl _) a e)⟩
 · have hd:(g !=0)=true:=by simpa using hg0
   have HQ2:Hid (q=([],g)):=Lib.hid (by rw [HQ.out,if_pos hg0])
   clear hg0
   go_wp2_with fail
   refine bodyPost_ret (v:=.tuple #[.slice none 0 0,.int .i64 g]) (by simp [results,Tryz.results4,go_sem]) rfl ?_
   rw [HQ2.out]
   exact ⟨none,0,0,rfl,Sl.nil,by omega,by simp [maxLen],on,Fresh.none_ _⟩
end
section
open Go.RowKit
attribute [local go_sem ↓] Go.wp_at_zero Go.wp_at_succ
def SBookPost (w:World) (q:Book × Int) (e:Ending) (w':World):Prop :=
 ∃ A n c B m d,e=.returned (.tuple #[.agg #[.slice A n c,.slice B m d],.int .i64 q.2])∧S w' 3 A n (q.1.jobs.map encJ)∧S w' 3 B m (q.1.rung.map encR)∧Onto w w'
set_option maxHeartbeats 8000000 in
set_option maxRecDepth 100000 in
theorem SBook_calls (A : Option Addr) (n c : Nat) (tip : Int) (C : Option Addr) (m d : Nat) (time : Int) (ns : List NV) (cs : List CV) (w : World) (E : Env w) (R : WR w A n C m ns cs) :
    Calls Tryz.prog 5 #[.agg #[.slice A n c,.int .i64 tip,.slice C m d,.int .i64 time]] w (SBookPost w (bookW (wor ns tip cs time))):=by
 obtain ⟨q,hq⟩:∃ q,q=bookW (wor ns tip cs time):=⟨_,rfl⟩
 obtain ⟨p,hp⟩:∃ p,p=logW (wor ns tip cs time):=⟨_,rfl⟩
 have hqp:q=if p.2≠0 then (Book.none,p.2) else replay p.1:=by
  rw [hq,hp];unfold bookW logW
  by_cases h:checkW (wor ns tip cs time)=0 <;> simp [h]
 rw [← hq]
 have HQ:=Lib.hid hqp;have HP:=Lib.hid hp
 clear hq hp hqp
 go_enter Tryz.func5,Tryz.ntmps5
 go_upto_region 1 with fail
 refine wp_box2 (v1:=[.slice A n c,.int .i64 tip,.slice C m d,.int .i64 time]) (v2:=[.slice none 0 0,.slice none 0 0]) rfl rfl fun v1 on BX BB=>?_
 replace R:=R.onto on
 generalize hzx:w.heap.size=zx at BX BB ⊢
 have hz:w.heap.size≤zx+1:=by omega
 clear hzx
 have x0:=BX.at_ 0 rfl;have x1:=BX.at_ 1 rfl;have x2:=BX.at_ 2 rfl;have x3:=BX.at_ 3 rfl
 go_wp2_with fail
 refine Calls.mono (SLog_calls A n c tip C m d time ns cs _ (E.onto on) R) ?_
 rw [← HP.out]
 rintro e v2 ⟨B,b',y,rfl,hS,hy,hym,b,hfr⟩
 replace on:=on.to b
 replace BX:=BX.onto b
 replace BB:=BB.onto b
 replace R:=R.onto b
 clear b
 clear x0 x1 x2 x3
 have r0:=BB.at_ 0 rfl;have r1:=BB.at_ 1 rfl
 have g0:=BB.froz 0;have g1:=BB.froz 1
 have hw:=on.size;have hB:=BB.lt
 by_cases hp0:p.2=0
 · have hd:(p.2 !=0)=false:=by simp [hp0]
   have hr:q=replay p.1:=by rw [HQ.out,if_neg (by simp [hp0])]
   have HR:=Lib.hid hr
   clear hp0 hr r0 r1 g0 g1
   go_wp2_with fail
   refine Calls.mono (Replay_calls B b' y _ p.1 _ hS (Nat.le_refl _)) ?_
   rintro e vv ⟨A1,n1,c1,A2,n2,c2,rfl,s1,s2,bl,f1,f2,hc1,hc2⟩
   rw [← HR.out] at s1 s2
   rw [← HR.out]
   have BB2:=BB.onto bl
   have r0:=BB2.at_ 0 rfl;have r1:=BB2.at_ 1 rfl;have g0:=BB2.froz 0;have g1:=BB2.froz 1
   have o1:∀ n,OffN n (zx+1) A1:=fun n=>f1.offN hB
   have o2:∀ n,OffN n (zx+1) A2:=fun n=>f2.offN hB
   have on3:=on.to bl
   go_wp2_with fail
   refine bodyPost_ret (v:=.tuple #[.agg #[.slice A1 n1 c1,.slice A2 n2 c2],.int .i64 q.2]) (by simp [results,Tryz.results5,go_sem,r0,r1,g0,g1]) rfl ?_
   exact ⟨A1,n1,c1,A2,n2,c2,rfl,S.off (S.off s1 (o1 _) _) (o1 _) _,S.off (S.off s2 (o2 _) _) (o2 _) _,(on3.put hz _).put hz _⟩
 · have hd:(p.2 !=0)=true:=by simpa using hp0
   have hr:q=(Book.none,p.2):=by rw [HQ.out,if_pos hp0]
   have HR:=Lib.hid hr
   clear hp0 hr
   go_wp2_with fail
   refine bodyPost_ret (v:=.tuple #[.agg #[.slice none 0 0,.slice none 0 0],.int .i64 p.2]) (by simp [results,Tryz.results5,go_sem,r0,r1,g0,g1]) rfl ?_
   rw [HR.out]
   exact ⟨none,0,0,none,0,0,rfl,Sl.nil,Sl.nil,(on.put hz _).put hz _⟩
end
section
/-! ### The log -/
theorem takeWhile_upon : ∀ {cs ds : List Entry}, ds.length = cs.length → (∀ k, (cellAt cs k).kind ≠ 4 → cellAt ds k = cellAt cs k) →
    (ds.takeWhile fun c=>decide (c.kind≠4)).take (cs.takeWhile fun c=>decide (c.kind≠4)).length=cs.takeWhile fun c=>decide (c.kind≠4)
 | [],_,_,_=>by simp
 | c ::cs,[],h,_=>by simp at h
 | c ::cs,d ::ds,h,hk=>by
   by_cases h4:c.kind=4
   · simp [List.takeWhile_cons,h4]
   · have h0:d=c:=hk 0 h4
     subst h0
     have ih:=takeWhile_upon (cs:=cs) (ds:=ds) (by simpa using h) fun k=>hk (k+1)
     simp [List.takeWhile_cons,h4]
     simpa using ih
theorem logOf_upon {w y:Wor} (h:Upon (nodAt w.n 2).u (nodAt y.n 2).u):(logOf y).take (logOf w).length=logOf w:=takeWhile_upon h.len h.cell
theorem grows_law {w:Wor} {x:Hap} (h:GoodW w) (hx:(happenW w x).2=0):(logOf w).length≤(logOf (happenW w x).1).length∧(logOf (happenW w x).1).take (logOf w).length=logOf w:=by
 have e:=logOf_upon ((keepsW_law h hx).upon 2)
 have h1:=congrArg List.length e
 rw [List.length_take] at h1
 exact ⟨by omega,e⟩
/-! ### The tail -/
theorem cellAt_lt {ds:List Entry} {c:Entry} {j:Nat} (h:j<ds.length):cellAt (ds ++[c]) j=cellAt ds j:=by
 unfold cellAt;rw [List.getElem?_append_left h]
theorem cellAt_last {ds:List Entry} {c:Entry}:cellAt (ds ++[c]) ds.length=c:=by
 unfold cellAt;simp
theorem tailU_snoc {ds:List Entry} {c:Entry}:tailU (ds ++[c])=if c.kind=4 then tailU ds else ds.length+1:=by
 unfold tailU
 rw [List.reverse_append,List.reverse_singleton,List.singleton_append,List.dropWhile_cons]
 by_cases h:c.kind=4
 · simp [h]
 · simp [h]
theorem tail_iff:∀ (n:Nat) {cs:List Entry},cs.length=n→∀ k,k<tailU cs↔∃ j,k≤j∧j<cs.length∧(cellAt cs j).kind≠4
 | 0,cs,h,k=>by
   obtain rfl:=List.eq_nil_of_length_eq_zero h
   simp [tailU]
 | n+1,cs,h,k=>by
   obtain rfl | ⟨ds,c,rfl⟩:=List.eq_nil_or_concat cs
   · simp at h
   · rw [List.concat_eq_append] at h ⊢
     have hn:ds.length=n:=by simpa using h
     have ih:=tail_iff n hn k
     rw [tailU_snoc]
     by_cases h4:c.kind=4
     · rw [if_pos h4,ih]
       constructor
       · rintro ⟨j,h1,h2,h3⟩
         exact ⟨j,h1,by simp;omega,by rw [cellAt_lt h2];exact h3⟩
       · rintro ⟨j,h1,h2,h3⟩
         rw [List.length_append,List.length_singleton] at h2
         by_cases hj:j=ds.length
         · subst hj;rw [cellAt_last] at h3;exact absurd h4 h3
         · exact ⟨j,h1,by omega,by rwa [cellAt_lt (by omega)] at h3⟩
     · rw [if_neg h4]
       constructor
       · intro hk
         exact ⟨ds.length,by omega,by simp,by rw [cellAt_last];exact h4⟩
       · rintro ⟨j,h1,h2,h3⟩
         rw [List.length_append,List.length_singleton] at h2
         omega
theorem lt_tail {cs:List Entry} {k:Nat}:k<tailU cs↔∃ j,k≤j∧j<cs.length∧(cellAt cs j).kind≠4:=tail_iff _ rfl k
theorem log_cells:∀ {cs:List Entry} {k:Nat},k<(cs.takeWhile fun c=>decide (c.kind≠4)).length→k<cs.length∧(cellAt cs k).kind≠4
 | [],k,h=>by simp at h
 | c ::cs,k,h=>by
   by_cases h4:c.kind=4
   · simp [List.takeWhile_cons,h4] at h
   · cases k with
     | zero=>exact ⟨by simp,h4⟩
     | succ k =>
       have:k<(cs.takeWhile fun c=>decide (c.kind≠4)).length:=by simpa [List.takeWhile_cons,h4] using h
       have ih:=log_cells this
       exact ⟨by simpa using ih.1,ih.2⟩
theorem log_end:∀ {cs:List Entry},(cs.takeWhile fun c=>decide (c.kind≠4)).length<cs.length→(cellAt cs (cs.takeWhile fun c=>decide (c.kind≠4)).length).kind=4
 | [],h=>by simp at h
 | c ::cs,h=>by
   by_cases h4:c.kind=4
   · simp [List.takeWhile_cons,h4,cellAt]
   · have e:((c ::cs).takeWhile fun c=>decide (c.kind≠4)).length=(cs.takeWhile fun c=>decide (c.kind≠4)).length+1:=by simp [List.takeWhile_cons,h4]
     rw [e] at h ⊢
     exact log_end (cs:=cs) (by simpa using h)
/-! ### The holes -/
theorem GoodW.front {w:Wor} (h:GoodW w) {j k:Nat} (hjk:j≤k) (hk:k<3) {a:Nat} (ha:a<60) (h4:(cellAt (nodAt w.n k).u.cells a).kind≠4):cellAt (nodAt w.n j).u.cells a=cellAt (nodAt w.n k).u.cells a:=by
 have one:∀ {k:Nat},k<2→(cellAt (nodAt w.n (k+1)).u.cells a).kind≠4→cellAt (nodAt w.n k).u.cells a=cellAt (nodAt w.n (k+1)).u.cells a:=fun {k} hk h4=>by
  obtain ⟨l,m,hI⟩:=checkN_inv (h.node (k+1) (by omega))
  have e:=hI.upon.cell a h4
  rcases h.fit k hk a ha with g | g
  · unfold gr at g;rw [e] at g;exact absurd g h4
  · unfold gr at g;rw [g,e]
 rcases (by omega:j=k∨(j=0∧k=1)∨(j=1∧k=2)∨(j=0∧k=2)) with rfl | ⟨rfl,rfl⟩ | ⟨rfl,rfl⟩ | ⟨rfl,rfl⟩
 · rfl
 · exact one (by omega) h4
 · exact one (by omega) h4
 · have e:=one (k:=1) (by omega) h4
   rw [← e]
   exact one (k:=0) (by omega) (by rw [e];exact h4)
theorem GoodW.tails {w:Wor} (h:GoodW w) {k:Nat} (hk:k<3):tailU (nodAt w.n k).u.cells≤tailU (nodAt w.n 0).u.cells:=by
 rcases Nat.lt_or_ge (tailU (nodAt w.n 0).u.cells) (tailU (nodAt w.n k).u.cells) with hlt | hge
 · obtain ⟨j,h1,h2,h3⟩:=lt_tail.1 hlt
   have l0:=(h.unitOk (k:=0) (by omega)).len
   have lk:=(h.unitOk hk).len
   have e:=h.front (j:=0) (by omega) hk (a:=j) (by omega) h3
   have:=(lt_tail (cs:=(nodAt w.n 0).u.cells) (k:=j)).2 ⟨j,Nat.le_refl _,by omega,by rw [e];exact h3⟩
   omega
 · exact hge
theorem tail_le {cs:List Entry}:tailU cs≤cs.length:=by
 rcases Nat.lt_or_ge cs.length (tailU cs) with h | h
 · obtain ⟨j,h1,h2,_⟩:=lt_tail.1 h
   omega
 · exact h
theorem holes_law {w : Wor} (h : GoodW w) : (holesOf w).Pairwise (· < ·) ∧ (holesOf w = [] → (logOf w).length = tailU (nodAt w.n 0).u.cells) ∧ (∀ a l, holesOf w = a :: l → a = (logOf w).length) ∧
    (logOf w).length≤tailU (nodAt w.n 0).u.cells∧∀ k,k<3→tailU (nodAt w.n k).u.cells≤tailU (nodAt w.n 0).u.cells:=by
 have l0:=(h.unitOk (k:=0) (by omega)).len
 have l2:=(h.unitOk (k:=2) (by omega)).len
 have ht:=tail_le (cs:=(nodAt w.n 0).u.cells)
 have hsort:(holesOf w).Pairwise (·<·):=by
  unfold holesOf
  exact List.Pairwise.filter _ List.pairwise_lt_range
 have hmem:∀ a,a∈holesOf w↔a<tailU (nodAt w.n 0).u.cells∧(cellAt (nodAt w.n 2).u.cells a).kind=4:=fun a=>by
  unfold holesOf
  rw [List.mem_filter,List.mem_range]
  simp
 have hin:∀ a,a<(logOf w).length→a<60∧(cellAt (nodAt w.n 2).u.cells a).kind≠4:=fun a ha=>by
  have:=log_cells ha
  exact ⟨by omega,this.2⟩
 have hend:(logOf w).length<60→(cellAt (nodAt w.n 2).u.cells (logOf w).length).kind=4:=fun hl=>log_end (by rw [l2];exact hl)
 have hle:(logOf w).length≤tailU (nodAt w.n 0).u.cells:=by
  rcases Nat.lt_or_ge (tailU (nodAt w.n 0).u.cells) (logOf w).length with hlt | hge
  · obtain ⟨g1,g2⟩:=hin _ hlt
    have e:=h.front (j:=0) (k:=2) (by omega) (by omega) g1 g2
    have:=(lt_tail (cs:=(nodAt w.n 0).u.cells) (k:=tailU (nodAt w.n 0).u.cells)).2 ⟨_,Nat.le_refl _,by omega,by rw [e];exact g2⟩
    omega
  · exact hge
 refine ⟨hsort,fun he=>?_,fun a l he=>?_,hle,fun k hk=>h.tails hk⟩
 · rcases Nat.lt_or_ge (logOf w).length (tailU (nodAt w.n 0).u.cells) with hlt | hge
   · have:=(hmem _).2 ⟨hlt,hend (by omega)⟩
     rw [he] at this
     cases this
   · omega
 · have ha:=(hmem a).1 (by rw [he];simp)
   have h1:(logOf w).length≤a:=by
    rcases Nat.lt_or_ge a (logOf w).length with hlt | hge
    · exact absurd ha.2 (hin a hlt).2
    · exact hge
   have h2:=(hmem (logOf w).length).2 ⟨by omega,hend (by omega)⟩
   rw [he] at h2 hsort
   rcases List.mem_cons.1 h2 with h3 | h3
   · exact h3.symm
   · have:=(List.pairwise_cons.1 hsort).1 _ h3
     omega
end
section
open Go.RowKit
attribute [local go_sem ↓] Go.wp_at_zero Go.wp_at_succ
def HolesPost (w:World) (q:List Nat × Int) (e:Ending) (w':World):Prop :=
 ∃ B b y,e=.returned (.tuple #[.slice B b y,.int .i64 q.2])∧S w' 1 B b (q.1.map fun k:Nat=>encI k)∧b≤y∧y≤maxLen∧Onto w w'∧Fresh w.heap.size B
theorem rinfoI:(Tryz.prog.info? 3).map (fun i=>(i.zero,i.size,i.bytes))=some (some (.int .i64 0),1,8):=by kernel_rfl
theorem cellAt_some {l:List Entry} {k:Nat} {e:Entry} (h:l[k]?=some e):cellAt l k=e:=by simp [cellAt,h]
set_option maxHeartbeats 8000000 in
set_option maxRecDepth 100000 in
theorem SHoles_calls (A : Option Addr) (n c : Nat) (tip : Int) (C : Option Addr) (m d : Nat) (time : Int) (ns : List NV) (cs : List CV) (w : World) (E : Env w) (R : WR w A n C m ns cs) :
    Calls Tryz.prog 6 #[.agg #[.slice A n c,.int .i64 tip,.slice C m d,.int .i64 time]] w (HolesPost w (holesW (wor ns tip cs time))):=by
 obtain ⟨q,hq⟩:∃ q,q=holesW (wor ns tip cs time):=⟨_,rfl⟩
 obtain ⟨g,hg⟩:∃ g,g=checkW (wor ns tip cs time):=⟨_,rfl⟩
 rw [← hq]
 unfold holesW at hq
 rw [← hg] at hq
 have HQ:=Lib.hid hq;have HG:=Lib.hid hg
 clear hq hg
 go_enter Tryz.func6,Tryz.ntmps6
 go_upto_region 1 with fail
 have ob:=(Onto.rfl' w).new (Obj.cells #[.slice A n c,.int .i64 tip,.slice C m d,.int .i64 time] 25)
 have BX:Bx (w.alloc (Obj.cells #[.slice A n c,.int .i64 tip,.slice C m d,.int .i64 time] 25)) w.heap.size [.slice A n c,.int .i64 tip,.slice C m d,.int .i64 time]:=Bx.made _ _ _
 have on:=ob
 clear ob
 try change Code.wp _ _ _ _ (w.alloc (Obj.cells #[.slice A n c,.int .i64 tip,.slice C m d,.int .i64 time] 25))
 generalize (w.alloc (Obj.cells #[.slice A n c,.int .i64 tip,.slice C m d,.int .i64 time] 25))=v1 at *
 generalize w.heap.size=zx at *
 replace R:=R.onto on
 have x0:=BX.at_ 0 rfl;have x1:=BX.at_ 1 rfl;have x2:=BX.at_ 2 rfl;have x3:=BX.at_ 3 rfl
 go_wp2_with fail
 refine Calls.mono (WCheck_calls A n c tip C m d time ns cs _ (E.onto on) R) ?_
 rw [← HG.out]
 rintro e v2 ⟨rfl,b⟩
 replace on:=on.to b
 replace BX:=BX.onto b
 replace R:=R.onto b
 clear b
 clear x0 x1 x2 x3
 by_cases hg0:g=0
 · subst hg0
   have hgood:=checkW_iff.1 HG.out.symm
   obtain ⟨rfl,rfl,hsm⟩:=small_of R hgood
   have hq:=HQ.out
   rw [if_neg (by simp)] at hq
   replace HQ:=Lib.hid hq
   obtain ⟨b0,off0,u,hA,hb0,hu,vi,a0,a1,a2,a3,a4⟩:=R.atN (i:=2) (by omega)
   obtain ⟨b0',off0',u0,hA',hb0',hu0,vi0,f0,f1,f2,f3,f4⟩:=R.atN (i:=0) (by omega)
   subst hA
   injection hA' with hA'
   injection hA' with h1 h2
   subst h1 h2
   have hun:u.n=60:=(hsm.n u (List.mem_of_getElem? hu)).1
   have hun0:u0.n=60:=(hsm.n u0 (List.mem_of_getElem? hu0)).1
   have hhol:holesOf (wor ns tip cs time)=(List.range (tailU u0.x.u.cells)).filter fun k=>decide ((cellAt u.x.u.cells k).kind=4):=by
    show (List.range (tailU (nodAt (wor ns tip cs time).n 0).u.cells)).filter (fun k=>decide ((cellAt (nodAt (wor ns tip cs time).n 2).u.cells k).kind=4))=_
    rw [show nodAt (wor ns tip cs time).n 2=u.x from nodAt_ns hu,show nodAt (wor ns tip cs time).n 0=u0.x from nodAt_ns hu0]
   have hS:=vi.cells
   have hS0:=vi0.cells
   rw [hun] at hS a1
   rw [hun0] at hS0 f1
   have hlen:u0.x.u.cells.length=60:=by have:=hS0.len;simpa using this
   have HHOL:=Lib.hid hhol;have HLEN:=Lib.hid hlen
   clear hhol hlen hq hgood hsm hu vi hun a2 a3 a4 hu0 vi0 hun0 f0 f2 f3 f4 hb0 hb0'
   have x0:=BX.at_ 0 rfl
   go_upto_region 6 with fail
   refine wp_box1 (v1:=[.int .i64 u.x.u.ep,.slice u.A 60 u.c]) rfl fun w3 ox U=>?_
   replace f1:=cellB ox f1
   replace on:=on.to ox;replace BX:=BX.onto ox;replace hS:=hS.onto ox;replace hS0:=hS0.onto ox
   generalize v2.heap.size=zu at U ⊢
   clear ox a0 a1 x0 R
   have x0:=BX.at_ 0 rfl
   go_wp2_with fail
   clear x0 f1
   have hv:=on.size
   go_loopg [7,8,9,32] 60 (fun g s7 s8 s9 s32 wr=>∃ j:Nat,j≤60∧60 - j≤g∧s32=.int .i64 j∧s7=.int .i64 (tailU (u0.x.u.cells.take j):Nat)∧Onto w3 wr)
   case atStart=>exact ⟨0,by omega,by omega,rfl,rfl,Onto.rfl' _⟩
   case round =>
    obtain ⟨j,hj,hg,rfl,rfl,bw⟩:=hrel
    by_cases hlt:j<60
    · have hk3:(j:Int)<60:=by omega
      obtain ⟨bc,oc,e,hA0,hbc,he,d0,d1,d2,d3,d4⟩:=(hS0.onto bw).atE hlt
      have HA0:=Lib.hid hA0
      have htl:tailU (u0.x.u.cells.take (j+1))=if e.kind=4 then tailU (u0.x.u.cells.take j) else j+1:=by
       have hl:(u0.x.u.cells.take j).length=j:=by rw [List.length_take,HLEN.out];omega
       rw [List.take_add_one,he]
       have:=tailU_snoc (ds:=u0.x.u.cells.take j) (c:=e)
       rw [hl] at this
       exact this
      have HTL:=Lib.hid htl
      clear he htl
      rw [hA0]
      go_upto_region 10 with fail
      refine wp_box1 (v1:=[.int .i64 e.kind,.int .i64 e.job,.int .i64 e.every,.int .i64 e.time,.int .i64 e.client]) rfl fun w5 ox V=>?_
      generalize wr.heap.size=ze at V ⊢
      replace bw:=bw.to ox
      clear ox d0 d1 d2 d3 d4 hA0 hbc
      have V0:=V.at_ 0 rfl
      by_cases h4:e.kind=4
      · have hd:(e.kind !=4)=false:=by simp [h4]
        have ht:=HTL.out
        rw [if_pos h4] at ht
        have HT:=Lib.hid ht
        clear ht h4
        go_wp2_with fail
        rw [← HA0.out]
        go_roundg (60 - (j+1))
        case measure=>omega
        case rel=>exact ⟨j+1,by omega,Nat.le_refl _,by go_num,by rw [HT.out],bw⟩
      · have hd:(e.kind !=4)=true:=by simpa using h4
        have ht:=HTL.out
        rw [if_neg h4] at ht
        have HT:=Lib.hid ht
        clear ht h4
        go_wp2_with fail
        rw [← HA0.out]
        go_roundg (60 - (j+1))
        case measure=>omega
        case rel=>exact ⟨j+1,by omega,Nat.le_refl _,by go_num,by rw [HT.out];go_num,bw⟩
    · obtain rfl:j=60:=by omega
      obtain ⟨te,hte⟩:∃ te,te=tailU (u0.x.u.cells.take 60):=⟨_,rfl⟩
      have hte2:te=tailU u0.x.u.cells:=by rw [hte,List.take_of_length_le (by have:=HLEN.out;omega)]
      have hte3:te≤60:=by have:=tail_le (cs:=u0.x.u.cells);have:=HLEN.out;omega
      rw [← hte]
      have HTE:=Lib.hid hte2
      clear hte hte2 hlt hg hj
      replace hS:=hS.onto bw;replace U:=U.onto bw;replace on:=on.to bw
      clear bw BX hS0 hv
      generalize wr=w6 at *
      go_wp2_with fail
      have hv:=on.size
      go_loopg [5,10,44] te (fun g s5 s10 s44 wr=>∃ (j yc k:Nat) (B:Option Addr),j≤te∧te - j≤g∧s44=.int .i64 j∧s5=.slice B k yc∧k≤j∧Hid (Own wr w6.heap.size 3 1 (.slice B k yc) k (((List.range j).filter fun k=>decide ((cellAt u.x.u.cells k).kind=4)).map fun k:Nat=>encI k))∧Onto w6 wr)
      case atStart=>exact ⟨0,0,0,none,by omega,by omega,rfl,rfl,by omega,Own.nil _ _ _ _,Onto.rfl' _⟩
      case round =>
       obtain ⟨j,yc,k,B,hj,hg,rfl,rfl,hkj,HO,bw⟩:=hrel
       have on2:=on.to bw
       by_cases hlt:j<te
       · have hk3:(j:Int)<te:=by omega
         obtain ⟨bc,oc,e,hA0,hbc,he,d0,d1,d2,d3,d4⟩:=(hS.onto bw).atE (i:=j) (by omega)
         have hU:=U.onto bw
         have U1:=hU.at_ 1 rfl
         rw [hA0] at U1
         have hj6:(j:Int)<60:=by omega
         have hce:cellAt u.x.u.cells j=e:=cellAt_some he
         clear d1 d2 d3 d4 he hA0 hbc
         by_cases h4:e.kind=4
         · have hd:(e.kind ==4)=true:=by simp [h4]
           have hfl:((List.range (j+1)).filter fun k=>decide ((cellAt u.x.u.cells k).kind=4)).map (fun k:Nat=>encI k)=((List.range j).filter fun k=>decide ((cellAt u.x.u.cells k).kind=4)).map (fun k:Nat=>encI k) ++[encI (j:Int)]:=by
            rw [List.range_succ,List.filter_append,List.map_append]
            simp [hce,h4]
           have HFL:=Lib.hid hfl
           clear hfl h4 hce
           obtain ⟨i0,hi0,hzz0,hzz1,hzz2⟩:=info_parts rinfoI
           have HI0:=Lib.hid hi0;have HZ0:=Lib.hid hzz0;have HZ1:=Lib.hid hzz1;have HZ2:=Lib.hid hzz2
           clear hi0 hzz0 hzz1 hzz2
           have hnew:Sl (wr.alloc (Obj.cells #[.int .i64 j] 3)) (wr.heap.size+1) 1 (some ⟨wr.heap.size,0,none⟩) 1 [encI j]:=by
            have:=Sl.block (w:=wr.alloc (Obj.cells #[.int .i64 j] 3)) (k:=1) [encI j] (heap_alloc_new wr _) (by simp [encI]) rfl
            simpa using this
           have HNEW:=Lib.hid hnew
           have hbw:=bw.size
           clear hnew
           go_wp2_with (at_builtin;refine wpList_append_sl _ rfl _ _ 36 rfl w6.heap.size 3 i0 _ 1 8 Tryz.underlying36 HI0.out HZ0.out HZ1.out HZ2.out rfl (by decide) (.slice B k yc) k (((List.range j).filter fun k=>decide ((cellAt u.x.u.cells k).kind=4)).map fun k:Nat=>encI k) (by rfl) (HO.out.alloc _) (wr.heap.size+1) (some ⟨wr.heap.size,0,none⟩) 1 1 [encI j] (by rfl) HNEW.out (by simp [encI,Value.oneCell']) (by unfold maxLen;omega) (by omega) (by simp;omega) ?_)
           intro v8 wa own8 grow8 hv8
           obtain ⟨A8,c8,rfl,_,_⟩:=own8.slice
           have ona:=(Onto.rfl' wr).new (Obj.cells #[.int .i64 j] 3)
           have bw3:Onto w6 wa:=below_grown (bw.to ona) (bw.to ona).size grow8 (fun g hg=>by have:=(HO.out.1.lt g hg).1;omega)
           have HOa:Hid (Own wa w6.heap.size 3 1 (.slice A8 (k+1) c8) (k+1) (((List.range (j+1)).filter fun k=>decide ((cellAt u.x.u.cells k).kind=4)).map fun k:Nat=>encI k)):=Lib.hid (by rw [HFL.out];exact own8)
           clear own8 grow8 hv8 HO HNEW HI0 HZ0 HZ1 HZ2 ona U1 d0 bw on2 hU HFL
           go_wp2_with fail
           go_roundg (te - (j+1))
           case measure=>omega
           case rel=>exact ⟨j+1,c8,k+1,A8,by omega,Nat.le_refl _,by go_num,rfl,by omega,HOa,bw3⟩
         · have hd:(e.kind ==4)=false:=by simp [h4]
           have hfl:(List.range (j+1)).filter (fun k=>decide ((cellAt u.x.u.cells k).kind=4))=(List.range j).filter fun k=>decide ((cellAt u.x.u.cells k).kind=4):=by
            rw [List.range_succ,List.filter_append]
            simp [hce,h4]
           have HOa:Hid (Own wr w6.heap.size 3 1 (.slice B k yc) k (((List.range (j+1)).filter fun k=>decide ((cellAt u.x.u.cells k).kind=4)).map fun k:Nat=>encI k)):=Lib.hid (by rw [hfl];exact HO.out)
           clear hfl h4 hce HO
           go_wp2_with fail
           go_roundg (te - (j+1))
           case measure=>omega
           case rel=>exact ⟨j+1,yc,k,B,by omega,Nat.le_refl _,by go_num,rfl,by omega,HOa,bw⟩
       · obtain rfl:j=te:=by omega
         have HQ2:Hid (q=((List.range j).filter (fun k=>decide ((cellAt u.x.u.cells k).kind=4)),0)):=Lib.hid (by rw [HQ.out,HHOL.out,← HTE.out])
         go_wp2_with fail
         refine bodyPost_ret (v:=.tuple #[.slice B k yc,.int .i64 0]) (by simp [results,Tryz.results6,go_sem]) rfl ?_
         rw [HQ2.out]
         exact ⟨B,k,yc,rfl,HO.out.sl,HO.out.le_cap,HO.out.cap_max,on2,fun a e=>Nat.le_trans hv (HO.out.fresh (Nat.le_refl _) a e)⟩
 · have hd:(g !=0)=true:=by simpa using hg0
   have HQ2:Hid (q=([],g)):=Lib.hid (by rw [HQ.out,if_pos hg0])
   clear hg0
   go_wp2_with fail
   refine bodyPost_ret (v:=.tuple #[.slice none 0 0,.int .i64 g]) (by simp [results,Tryz.results6,go_sem]) rfl ?_
   rw [HQ2.out]
   exact ⟨none,0,0,rfl,Sl.nil,by omega,by simp [maxLen],on,Fresh.none_ _⟩
end
section
def ofH (k c:Int):Hap:=⟨k,c,0,0,0,zeroE⟩
def toE:Entry:=⟨1,2,5,3,0⟩
def toX:Hap:=⟨1,0,0,0,0,toE⟩
def tlE:Entry:=⟨1,1,5,3,0⟩
def tlA:List Hap:=[toX,ofH 3 0,⟨1,1,0,0,0,tlE⟩,ofH 3 1,ofH 4 1,ofH 4 1,ofH 4 1]
def tlB:List Hap:=[⟨6,1,0,0,0,zeroE⟩,ofH 4 1,ofH 4 1,ofH 4 1,ofH 4 0]
def tlW:Wor:=(runW newW tlA).1
def tlV:Wor:=(runW tlW tlB).1
theorem tl_said:(runW newW tlA).2=([0,0,0,0,0,0,0],0):=by decide +kernel
theorem tl_more:(runW tlW tlB).2=([0,0,0,0,0],0):=by decide +kernel
theorem tl_holes:holesW tlW=([0],0):=by decide +kernel
theorem tl_log:logW tlW=([],0):=by decide +kernel
theorem tl_log2:logW tlV=([zeroE,tlE],0):=by decide +kernel
theorem tl_book:(bookW tlV).2=0∧(bookW tlV).1.jobs.length=1:=by decide +kernel
theorem tl_do:(cliAt tlV.c 0).doing=1:=by decide +kernel
end
section
open Go.RowKit
attribute [local go_sem ↓] Go.wp_at_zero Go.wp_at_succ
theorem encH_len (l:List Hap):∀ r∈l.map encH,r.length=10:=fun r hr=>by obtain ⟨v,_,rfl⟩:=List.mem_map.1 hr;rfl
end
section
open Go.RowKit
attribute [local go_sem ↓] Go.wp_at_zero Go.wp_at_succ
theorem Bx.kp {K w:World} {e z nb cb:Nat} {vs:List Value} (h:Bx K e vs) (k:Kp K w z nb cb) (h1:e≠z) (h2:e≠nb) (h3:e≠cb):Bx w e vs:=by
 have hb:=k.block e h.unf.lt h1 h2 h3
 exact ⟨fun j v hv=>(World.cell?_of_block (a:=⟨e,j,none⟩) hb).trans (h.cells j v hv),by
  obtain ⟨cs,t,hu⟩:=h.unf
  exact ⟨cs,t,hb.trans hu⟩⟩
theorem WBox.kp {K w:World} {e z nb cb:Nat} (h:WBox K e) (k:Kp K w z nb cb) (h1:e≠z) (h2:e≠nb) (h3:e≠cb):WBox w e:=by
 obtain ⟨A,n,c,t0,C,m,d,s,T,fr,h⟩:=h
 exact ⟨A,n,c,t0,C,m,d,s,T,fr,(k.block e (Array.getElem?_eq_some_iff.1 h).1 h1 h2 h3).trans h⟩
def WPost (w:World) (q:Wor × Int) (e:Ending) (w':World):Prop :=
 ∃ A n c C m d ns cs,e=.returned (.tuple #[.agg #[.slice A n c,.int .i64 q.1.tip,.slice C m d,.int .i64 q.1.time],.int .i64 q.2])∧WR w' A n C m ns cs∧nods ns=q.1.n∧clis cs=q.1.c∧Onto w w'
theorem WPost.bad {w w':World} {e:Int} {v:Value} (h:v=.tuple #[.agg #[.slice none 0 0,.int .i64 0,.slice none 0 0,.int .i64 0],.int .i64 e]) (on:Onto w w'):WPost w (zeroW,e) (.returned v) w' :=
 ⟨none,0,0,none,0,0,[],[],by rw [h];rfl,⟨Sl.nil,Sl.nil,fun v hv=>absurd hv (by simp),fun v hv=>absurd hv (by simp)⟩,rfl,rfl,on⟩
end
section
open Go.RowKit
theorem runW_good {w:Wor} {l:List Hap} (h:(runW w l).2.2=0):GoodW w∧GoodW (runW w l).1:=by
 unfold runW at h ⊢
 by_cases h1:checkW w≠0
 · rw [if_pos h1] at h;exact absurd h h1
 · rw [if_neg h1] at h ⊢
   have hg:=checkW_iff.1 (Decidable.not_not.1 h1)
   by_cases h2:150<l.length
   · rw [if_pos h2] at h;cases h
   · rw [if_neg h2];exact ⟨hg,hg.run⟩
theorem wor_of {ns:List NV} {cs:List CV} {q:Wor} (h1:nods ns=q.n) (h2:clis cs=q.c):wor ns q.tip cs q.time=q:=by unfold wor;rw [h1,h2]
theorem WBox.rowN {w:World} {e n:Nat} {A:Option Addr} {ns:List NV} (h:WBox w e) (hs:S w 5 A n (ns.map encN)):OffN n e A:=fun hn a ea hb=>by
 obtain ⟨b,off,e',_,hc⟩:=hs.2.2 hn
 rw [ea] at e';injection e' with e';subst e'
 simp only at hb;subst hb
 have hl:ns.length=n:=by have:=hs.1;simpa using this
 have h0:0<ns.length:=by omega
 have hr:(ns.map encN)[0]?=some (encN ns[0]):=by rw [List.getElem?_map,List.getElem?_eq_getElem h0];rfl
 have g1:=hc 0 0 _ _ hr rfl
 have g3:=hc 0 3 _ _ hr rfl
 simp only [Nat.zero_mul,Nat.add_zero] at g1 g3
 obtain ⟨A,n,c,t,C,m,d,s,T,fr,h⟩:=h
 rw [cell_of_row _ _ _ _ _ _ h] at g1 g3
 match off with
 | 0=>simp at g1
 | 1=>simp at g3
 | 2=>simp at g1
 | 3=>simp at g3
 | o+4=>simp at g1
theorem WBox.all {w w':World} {e n m:Nat} {A C:Option Addr} {ns:List NV} {cs:List CV} (h:WBox w e) (R:WR w A n C m ns cs) (t:Turn w w' e):WR w' A n C m ns cs :=
 ⟨R.nr.grown t (fun g e'=>by injection e' with e';subst e';exact h.rowN R.nr),R.cr.grown t (fun g e'=>by injection e' with e';subst e';exact h.off2 R.cr (fun r hr=>by obtain ⟨x,_,rfl⟩:=List.mem_map.1 hr;exact ⟨_,_,rfl,rfl⟩)),fun v hv=>(R.ni v hv).grown t (h.node (R.ni v hv)),fun v hv=>(R.ci v hv).grown t (h.client (R.ci v hv))⟩
theorem Turn.four {w:World} {z:Nat} (a b c d:Value):Turn w ((((w.setCell ⟨z,0,none⟩ a).setCell ⟨z,1,none⟩ b).setCell ⟨z,2,none⟩ c).setCell ⟨z,3,none⟩ d) z :=
 ((((Turn.rfl' w z).put (p:=⟨z,0,none⟩) rfl a).put (p:=⟨z,1,none⟩) rfl b).put (p:=⟨z,2,none⟩) rfl c).put (p:=⟨z,3,none⟩) rfl d
theorem Bx.four {w:World} {z:Nat} {x0 x1 x2 x3:Value} (h:Bx w z [x0,x1,x2,x3]) (a b c d:Value):Bx ((((w.setCell ⟨z,0,none⟩ a).setCell ⟨z,1,none⟩ b).setCell ⟨z,2,none⟩ c).setCell ⟨z,3,none⟩ d) z [a,b,c,d] :=
 (((h.put1 (j:=0) (by simp) a).put1 (j:=1) (by simp) b).put1 (j:=2) (by simp) c).put1 (j:=3) (by simp) d
theorem Onto.four {w w':World} {z:Nat} (h:Onto w w') (hz:w.heap.size≤z) (a b c d:Value):Onto w ((((w'.setCell ⟨z,0,none⟩ a).setCell ⟨z,1,none⟩ b).setCell ⟨z,2,none⟩ c).setCell ⟨z,3,none⟩ d) :=
 (((h.put (p:=⟨z,0,none⟩) hz a).put (p:=⟨z,1,none⟩) hz b).put (p:=⟨z,2,none⟩) hz c).put (p:=⟨z,3,none⟩) hz d
end
section
open Go.RowKit
set_option maxHeartbeats 1000000 in
theorem EqualI_calls (A A' : Option Addr) (n m c d B : Nat) (l l' : List Int) (w : World) (h : Sl w B 1 A n (l.map encI)) (h' : Sl w B 1 A' m (l'.map encI)) (hn : n ≤ 9223372036854775807) :
    Calls Tryz.prog 13 #[.slice A n c,.slice A' m d] w fun e w'=>e=.returned (.bool (decide (l=l')))∧∃ q,w'=w.drewN q:=by
 by_cases hnm:n=m
 · subst hnm
   go_enter Tryz.func13,Tryz.ntmps13
   go_wp2
   go_loopg [13] n (fun g s13 wr=>∃ kk q:Nat,kk≤n∧n - kk≤g∧s13=.int .i64 kk∧wr=w.drewN q∧Hid (∀ j,j<kk→l[j]?=l'[j]?))
   case atStart=>exact ⟨0,0,Nat.zero_le _,by omega,rfl,rfl,fun j hj=>absurd hj (Nat.not_lt_zero _)⟩
   case round =>
    obtain ⟨kk,q,hkk,hg,rfl,rfl,H⟩:=hrel
    by_cases hlt:kk<n
    · obtain ⟨b,off,x,rfl,hb,hx,c0⟩:=h.atI hlt
      obtain ⟨b',off',x',rfl,hb',hx',d0⟩:=h'.atI hlt
      have HX:=Lib.hid hx;have HX':=Lib.hid hx';clear hx hx'
      clear h h'
      go_wp2_with fail
      go_quiet (fail)
      go_wp2
      · go_ret
        refine ⟨?_,q+nq,by simp⟩
        have hd:l≠l':=by
         rintro rfl
         have:=HX.out.symm.trans HX'.out
         simp at this;subst this;simp_all
        simp [hd]
      · go_roundg (n - (kk+1))
        case measure=>omega
        case rel =>
         refine ⟨kk+1,q+nq,by omega,by omega,by go_num,by simp,?_⟩
         intro j hj
         by_cases e:j=kk
         · subst e
           rw [HX.out,HX'.out];congr 1;simp_all
         · exact H.out j (by omega)
    · have:kk=n:=by omega
      subst this
      have hl:=h.len;have hl':=h'.len
      simp at hl hl'
      have he:l=l':=list_eq_of (by omega) (fun j hj=>H.out j (by omega))
      clear h h' hl hl'
      go_wp2
      go_ret
      refine ⟨by simp [he],q,rfl⟩
 · have hnm':¬ (n:Int)=(m:Int):=by omega
   have hd:l≠l':=by
    rintro rfl
    exact hnm (h.len.symm.trans h'.len)
   clear h h'
   go_enter Tryz.func13,Tryz.ntmps13
   go_wp2
   go_ret
   exact ⟨by simp [hd],0,rfl⟩
end
end Go.Proofs.YtidlffepdcldkaaGreatDoor
