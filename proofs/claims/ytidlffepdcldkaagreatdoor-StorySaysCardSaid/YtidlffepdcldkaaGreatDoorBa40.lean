/- Part 40 of the proof: Replay, RBookO. -/
import Derived.Test.YtidlffepdcldkaaGreatDoorBa16
import Derived.Test.YtidlffepdcldkaaGreatDoorBa39
import Derived.Test.YtidlffepdcldkaaGreatDoorBa37
namespace Go.Proofs.YtidlffepdcldkaaGreatDoor
set_option linter.unusedSimpArgs false
set_option linter.unusedVariables false
section
open Go.RowKit
theorem replayB_at {b:Book} {l:List Entry} {k:Nat} {x:Entry} (hx:l[k]?=some x):replayB b (l.drop k)=if (applyB b x).2≠0 then (Book.none,(applyB b x).2) else replayB (applyB b x).1 (l.drop (k+1)):=by
 obtain ⟨hk,rfl⟩:=List.getElem?_eq_some_iff.1 hx
 rw [List.drop_eq_getElem_cons hk]
 rfl
set_option maxHeartbeats 4000000 in
set_option maxRecDepth 100000 in
theorem Replay_calls (A : Option Addr) (n c B : Nat) (l : List Entry) (w : World) (h : Sl w B 5 A n (l.map encE)) (hB : B ≤ w.heap.size) :
    Calls Tryz.prog 16 #[.slice A n c] w (BookPost w (replay l).1 (replay l).2):=by
 have hl:l.length=n:=by have:=h.len;simpa using this
 by_cases hbig:60<n
 · have hs:replay l=(Book.none,2):=by unfold replay;rw [if_pos (by omega)]
   have HS:=Lib.hid hs
   clear h hs hl
   go_enter Tryz.func16,Tryz.ntmps16
   go_wp2
   refine bodyPost_ret (v:=.tuple #[.agg #[.slice none 0 0,.slice none 0 0],.int .i64 2]) (by simp [results,Tryz.results16,go_sem]) rfl ?_
   rw [HS.out]
   refine ⟨none,0,0,none,0,0,rfl,Sl.nil,Sl.nil,?_,Fresh.none_ _,Fresh.none_ _,Nat.le_refl _,Nat.le_refl _⟩
   repeat (first | exact Below.refl _ _ | refine Below.setCell ?_ (by simp <;> omega) _ | refine Below.alloc ?_ (by simp <;> omega) _)
 · have hs:replay l=replayB Book.none l:=by unfold replay;rw [if_neg (by omega)]
   have hn60:n≤60:=by omega
   have HS:=Lib.hid hs
   have HL:=Lib.hid hl
   clear hs hl hbig
   go_enter Tryz.func16,Tryz.ntmps16
   go_wp2
   go_loopw [14] (fun s wr => ∃ k : Nat, ∃ b : Book, ∃ A1 n1 c1 A2 n2 c2, k ≤ n ∧ s = .int .i64 k ∧ wr.cell? ⟨w.heap.size + 1, 0, none⟩ = some (.slice A1 n1 c1) ∧ wr.cell? ⟨w.heap.size + 1, 1, none⟩ = some (.slice A2 n2 c2) ∧
       wr.frozen? ⟨w.heap.size+1,0,none⟩=false∧wr.frozen? ⟨w.heap.size+1,1,none⟩=false ∧
       wr.cell? ⟨w.heap.size,0,none⟩=some (.slice none 0 0)∧wr.cell? ⟨w.heap.size,1,none⟩=some (.slice none 0 0)∧wr.frozen? ⟨w.heap.size,0,none⟩=false∧wr.frozen? ⟨w.heap.size,1,none⟩=false ∧
       w.heap.size+1<wr.heap.size∧Below w.heap.size w wr∧Sl wr wr.heap.size 3 A1 n1 (b.jobs.map encJ)∧Sl wr wr.heap.size 3 A2 n2 (b.rung.map encR)∧Fresh (w.heap.size+2) A1∧Fresh (w.heap.size+2) A2∧n1≤c1∧n2≤c2 ∧
       Hid (replayB Book.none l=replayB b (l.drop k))) (fun s _=>n - (intOf s).toNat)
   case atStart =>
    exact ⟨0,Book.none,none,0,0,none,0,0,Nat.zero_le _,rfl,by simp [go_sem],by simp [go_sem],by simp [go_sem],by simp [go_sem],by simp [go_sem],by simp [go_sem],by simp [go_sem],by simp [go_sem],by simp,((Below.refl _ _).alloc (Nat.le_refl _) _).alloc (by simp) _,Sl.nil,Sl.nil,Fresh.none_ _,Fresh.none_ _,Nat.le_refl _,Nat.le_refl _,rfl⟩
   case round =>
    obtain ⟨k,b,A1,n1,c1,A2,n2,c2,hk,rfl,q0,q1,f0,f1,r0,r1,g0,g1,hz,hB0,hs1,hs2,hf1,hf2,hnc1,hnc2,HR⟩:=hrel
    have hza:w.heap.size<wr.heap.size:=by omega
    by_cases hlt:k<n
    · obtain ⟨bb,off,x,rfl,hb,hx,e0,e1,e2,e3,e4⟩:=(h.under hB hB0).atE hlt
      have HX:=Lib.hid hx
      have hbz:bb<wr.heap.size:=by omega
      clear h hx
      go_wp2_with fail
      refine Calls.mono (Apply_calls A1 A2 n1 c1 n2 c2 wr.heap.size b _ _ _ _ _ _ (hs1.alloc (Nat.le_refl _) _) (hs2.alloc (Nat.le_refl _) _) (by simp)) ?_
      rintro e w1 ⟨A3,n3,c3,A4,n4,c4,rfl,hs3,hs4,hb1,hf3,hf4,hnc3,hnc4⟩
      have hbA:Below wr.heap.size wr (wr.alloc (Obj.cells #[.int .i64 x.kind,.int .i64 x.job,.int .i64 x.every,.int .i64 x.time,.int .i64 x.client] 46)):=(Below.refl _ _).alloc (Nat.le_refl _) _
      have q0':=cellB hb1 (cellB hbA q0);have q1':=cellB hb1 (cellB hbA q1);have f0':=frozB hb1 (cellB hbA q0) (frozB hbA q0 f0);have f1':=frozB hb1 (cellB hbA q1) (frozB hbA q1 f1)
      have r0':=cellB hb1 (cellB hbA r0);have r1':=cellB hb1 (cellB hbA r1);have g0':=frozB hb1 (cellB hbA r0) (frozB hbA r0 g0);have g1':=frozB hb1 (cellB hbA r1) (frozB hbA r1 g1)
      have hz1:w.heap.size+1<w1.heap.size:=by have:=hb1.size;simp at this;omega
      have hz1a:w.heap.size<w1.heap.size:=by omega
      have hB1:Below w.heap.size w w1:=(hB0.alloc (by omega) _).trans (hb1.mono (by simp;omega))
      have hf3':Fresh (w.heap.size+2) A3:=fun a e=>by have:=hf3 a e;simp at this;omega
      have hf4':Fresh (w.heap.size+2) A4:=fun a e=>by have:=hf4 a e;simp at this;omega
      have hat:=replayB_at (b:=b) HX.out
      obtain ⟨r,hr⟩:∃ r,r=applyB b ⟨x.kind,x.job,x.every,x.time,x.client⟩:=⟨_,rfl⟩
      have hr2:r=applyB b x:=hr
      rw [← hr] at hs3 hs4 ⊢
      rw [← hr2] at hat
      have HAt:=Lib.hid hat
      clear hat hr hr2 q0 q1 f0 f1 r0 r1 g0 g1 hbA hb1 e0 e1 e2 e3 e4 hs1 hs2 hf1 hf2 hB0 hf3 hf4
      by_cases h0:r.2=0
      · rw [h0]
        have H0:=Lib.hid h0
        clear h0
        go_wp2_with fail
        go_roundw
        case measure=>simp [intOf];omega
        case rel =>
         refine ⟨k+1,r.1,A3,n3,c3,A4,n4,c4,by omega,by go_num,by simp [go_sem,q0',q1'],by simp [go_sem,q0',q1'],by simp [go_sem,f0'],by simp [go_sem,f1'],by simp [go_sem,r0'],by simp [go_sem,r1'],by simp [go_sem,g0'],by simp [go_sem,g1'],by simpa using hz1,?_,?_,?_,hf3',hf4',hnc3,hnc4,?_⟩
         · exact (hB1.setCell (by simp) _).setCell (by simp) _
         · simpa using (hs3.away hf3' (p:=⟨w.heap.size+1,0,none⟩) (by simp) (.slice A3 n3 c3)).away hf3' (p:=⟨w.heap.size+1,1,none⟩) (by simp) (.slice A4 n4 c4)
         · simpa using (hs4.away hf4' (p:=⟨w.heap.size+1,0,none⟩) (by simp) (.slice A3 n3 c3)).away hf4' (p:=⟨w.heap.size+1,1,none⟩) (by simp) (.slice A4 n4 c4)
         · show _=_
           rw [HR.out,HAt.out,if_neg (by simp [H0.out])]
      · have h0':(r.2 !=0)=true:=by simpa using h0
        have H0:=Lib.hid h0
        clear h0
        go_wp2_with fail
        refine bodyPost_ret (v:=.tuple #[.agg #[.slice none 0 0,.slice none 0 0],.int .i64 r.2]) (by simp [results,Tryz.results16,go_sem,r0',r1']) rfl ?_
        rw [HS.out,HR.out,HAt.out,if_pos H0.out]
        refine ⟨none,0,0,none,0,0,rfl,Sl.nil,Sl.nil,?_,Fresh.none_ _,Fresh.none_ _,Nat.le_refl _,Nat.le_refl _⟩
        repeat (first | exact hB1 | refine Below.setCell ?_ (by simp <;> omega) _)
    · obtain rfl:k=n:=by omega
      have hfin:replayB Book.none l=(b,0):=by
       rw [HR.out,List.drop_eq_nil_of_le (by have:=HL.out;omega)]
       rfl
      have HF:=Lib.hid hfin
      clear hfin h
      go_wp2_with fail
      refine bodyPost_ret (v:=.tuple #[.agg #[.slice A1 n1 c1,.slice A2 n2 c2],.int .i64 0]) (by simp [results,Tryz.results16,go_sem,r0,r1,g0,g1]) rfl ?_
      rw [HS.out,HF.out]
      exact ⟨A1,n1,c1,A2,n2,c2,rfl,by simpa using (hs1.away hf1 (by simp) _).away hf1 (by simp) _,by simpa using (hs2.away hf2 (by simp) _).away hf2 (by simp) _,(hB0.setCell (by simp) _).setCell (by simp) _,fun a e=>by have:=hf1 a e;omega,fun a e=>by have:=hf2 a e;omega,hnc1,hnc2⟩
end
section
open Go.RowKit
set_option maxHeartbeats 4000000 in
set_option maxRecDepth 100000 in
theorem RBookOf_calls (A : Option Addr) (n c B : Nat) (l : List Entry) (w : World) (h : Sl w B 5 A n (l.map encE)) (hB : B ≤ w.heap.size) :
    Calls Tryz.prog 10 #[.slice A n c] w (BookPost w (replay l).1 (replay l).2):=by
 have hl:l.length=n:=by have:=h.len;simpa using this
 by_cases hbig:60<n
 · have hs:replay l=(Book.none,2):=by unfold replay;rw [if_pos (by omega)]
   have HS:=Lib.hid hs
   clear h hs hl
   go_enter Tryz.func10,Tryz.ntmps10
   go_wp2
   refine bodyPost_ret (v:=.tuple #[.agg #[.slice none 0 0,.slice none 0 0],.int .i64 2]) (by simp [results,Tryz.results10,go_sem]) rfl ?_
   rw [HS.out]
   refine ⟨none,0,0,none,0,0,rfl,Sl.nil,Sl.nil,?_,Fresh.none_ _,Fresh.none_ _,Nat.le_refl _,Nat.le_refl _⟩
   repeat (first | exact Below.refl _ _ | refine Below.setCell ?_ (by simp <;> omega) _ | refine Below.alloc ?_ (by simp <;> omega) _)
 · have hs:replay l=replayB Book.none l:=by unfold replay;rw [if_neg (by omega)]
   have hn60:n≤60:=by omega
   have HS:=Lib.hid hs
   have HL:=Lib.hid hl
   clear hs hl hbig
   go_enter Tryz.func10,Tryz.ntmps10
   go_wp2
   go_loopw [15] (fun s wr => ∃ k : Nat, ∃ b : Book, ∃ A1 n1 c1 A2 n2 c2, k ≤ n ∧ s = .int .i64 k ∧ wr.cell? ⟨w.heap.size + 1, 0, none⟩ = some (.slice A1 n1 c1) ∧ wr.cell? ⟨w.heap.size + 1, 1, none⟩ = some (.slice A2 n2 c2) ∧
       wr.frozen? ⟨w.heap.size+1,0,none⟩=false∧wr.frozen? ⟨w.heap.size+1,1,none⟩=false ∧
       wr.cell? ⟨w.heap.size,0,none⟩=some (.slice none 0 0)∧wr.cell? ⟨w.heap.size,1,none⟩=some (.slice none 0 0)∧wr.frozen? ⟨w.heap.size,0,none⟩=false∧wr.frozen? ⟨w.heap.size,1,none⟩=false ∧
       w.heap.size+1<wr.heap.size∧Below w.heap.size w wr∧Sl wr wr.heap.size 3 A1 n1 (b.jobs.map encJ)∧Sl wr wr.heap.size 3 A2 n2 (b.rung.map encR)∧Fresh (w.heap.size+2) A1∧Fresh (w.heap.size+2) A2∧n1≤c1∧n2≤c2 ∧
       Hid (replayB Book.none l=replayB b (l.drop k))) (fun s _=>n - (intOf s).toNat)
   case atStart =>
    exact ⟨0,Book.none,none,0,0,none,0,0,Nat.zero_le _,rfl,by simp [go_sem],by simp [go_sem],by simp [go_sem],by simp [go_sem],by simp [go_sem],by simp [go_sem],by simp [go_sem],by simp [go_sem],by simp,((Below.refl _ _).alloc (Nat.le_refl _) _).alloc (by simp) _,Sl.nil,Sl.nil,Fresh.none_ _,Fresh.none_ _,Nat.le_refl _,Nat.le_refl _,rfl⟩
   case round =>
    obtain ⟨k,b,A1,n1,c1,A2,n2,c2,hk,rfl,q0,q1,f0,f1,r0,r1,g0,g1,hz,hB0,hs1,hs2,hf1,hf2,hnc1,hnc2,HR⟩:=hrel
    have hza:w.heap.size<wr.heap.size:=by omega
    by_cases hlt:k<n
    · obtain ⟨bb,off,x,rfl,hb,hx,e0,e1,e2,e3,e4⟩:=(h.under hB hB0).atE hlt
      have HX:=Lib.hid hx
      have hbz:bb<wr.heap.size:=by omega
      clear h hx
      go_wp2_with fail
      refine Calls.mono (RApplied_calls A1 A2 n1 c1 n2 c2 b x _ (hs1.alloc (Nat.le_refl _) _ |>.more (by simp)) (hs2.alloc (Nat.le_refl _) _ |>.more (by simp))) ?_
      rintro e w1 ⟨A3,n3,c3,A4,n4,c4,rfl,hs3,hs4,hb1,hf3,hf4,hnc3,hnc4⟩
      have hbA:Below wr.heap.size wr (wr.alloc (Obj.cells #[.int .i64 x.kind,.int .i64 x.job,.int .i64 x.every,.int .i64 x.time,.int .i64 x.client] 46)):=(Below.refl _ _).alloc (Nat.le_refl _) _
      have q0':=cellB hb1 (cellB hbA q0);have q1':=cellB hb1 (cellB hbA q1);have f0':=frozB hb1 (cellB hbA q0) (frozB hbA q0 f0);have f1':=frozB hb1 (cellB hbA q1) (frozB hbA q1 f1)
      have r0':=cellB hb1 (cellB hbA r0);have r1':=cellB hb1 (cellB hbA r1);have g0':=frozB hb1 (cellB hbA r0) (frozB hbA r0 g0);have g1':=frozB hb1 (cellB hbA r1) (frozB hbA r1 g1)
      have hz1:w.heap.size+1<w1.heap.size:=by have:=hb1.size;simp at this;omega
      have hz1a:w.heap.size<w1.heap.size:=by omega
      have hB1:Below w.heap.size w w1:=(hB0.alloc (by omega) _).trans (hb1.mono (by simp;omega))
      have hf3':Fresh (w.heap.size+2) A3:=fun a e=>by have:=hf3 a e;simp at this;omega
      have hf4':Fresh (w.heap.size+2) A4:=fun a e=>by have:=hf4 a e;simp at this;omega
      have hat:=replayB_at (b:=b) HX.out
      obtain ⟨r,hr⟩:∃ r,r=applyB b x:=⟨_,rfl⟩
      have hr2:r=applyB b x:=hr
      rw [← hr] at hs3 hs4 ⊢
      rw [← hr2] at hat
      have HAt:=Lib.hid hat
      clear hat hr hr2 q0 q1 f0 f1 r0 r1 g0 g1 hbA hb1 e0 e1 e2 e3 e4 hs1 hs2 hf1 hf2 hB0 hf3 hf4
      have hw1:w.heap.size+1≠w1.heap.size:=by omega
      go_upto_region 8 with fail
      have hbN:Onto w1 (w1.alloc (Obj.cells #[.slice A3 n3 c3,.slice A4 n4 c4] 33)):=(Below.refl _ _).alloc (Nat.le_refl _) _
      have t0:(w1.alloc (Obj.cells #[.slice A3 n3 c3,.slice A4 n4 c4] 33)).cell? ⟨w1.heap.size,0,none⟩=some (.slice A3 n3 c3):=by simp [go_sem]
      have t1:(w1.alloc (Obj.cells #[.slice A3 n3 c3,.slice A4 n4 c4] 33)).cell? ⟨w1.heap.size,1,none⟩=some (.slice A4 n4 c4):=by simp [go_sem]
      replace f0':=frozB hbN q0' f0';replace f1':=frozB hbN q1' f1';replace g0':=frozB hbN r0' g0';replace g1':=frozB hbN r1' g1'
      replace q0':=cellB hbN q0';replace q1':=cellB hbN q1';replace r0':=cellB hbN r0';replace r1':=cellB hbN r1'
      replace hs3:=S.onto hs3 hbN;replace hs4:=S.onto hs4 hbN
      replace hB1:=Onto.to hB1 hbN
      replace hz1:w.heap.size+1<(w1.alloc (Obj.cells #[.slice A3 n3 c3,.slice A4 n4 c4] 33)).heap.size:=by simp;omega
      replace hz1a:w.heap.size<(w1.alloc (Obj.cells #[.slice A3 n3 c3,.slice A4 n4 c4] 33)).heap.size:=by simp;omega
      clear hbN
      change Code.wp _ _ _ _ (w1.alloc (Obj.cells #[.slice A3 n3 c3,.slice A4 n4 c4] 33))
      generalize (w1.alloc (Obj.cells #[.slice A3 n3 c3,.slice A4 n4 c4] 33))=w2 at *
      by_cases h0:r.2=0
      · rw [h0]
        have H0:=Lib.hid h0
        clear h0
        go_wp2_with fail
        go_roundw
        case measure=>simp [intOf];omega
        case rel =>
         refine ⟨k+1,r.1,A3,n3,c3,A4,n4,c4,by omega,by go_num,by simp [go_sem,q0',q1'],by simp [go_sem,q0',q1'],by simp [go_sem,f0'],by simp [go_sem,f1'],by simp [go_sem,r0'],by simp [go_sem,r1'],by simp [go_sem,g0'],by simp [go_sem,g1'],by simpa using hz1,?_,?_,?_,hf3',hf4',hnc3,hnc4,?_⟩
         · exact (hB1.setCell (by simp) _).setCell (by simp) _
         · simpa using (hs3.away hf3' (p:=⟨w.heap.size+1,0,none⟩) (by simp) (.slice A3 n3 c3)).away hf3' (p:=⟨w.heap.size+1,1,none⟩) (by simp) (.slice A4 n4 c4)
         · simpa using (hs4.away hf4' (p:=⟨w.heap.size+1,0,none⟩) (by simp) (.slice A3 n3 c3)).away hf4' (p:=⟨w.heap.size+1,1,none⟩) (by simp) (.slice A4 n4 c4)
         · show _=_
           rw [HR.out,HAt.out,if_neg (by simp [H0.out])]
      · have h0':(r.2 !=0)=true:=by simpa using h0
        have H0:=Lib.hid h0
        clear h0
        go_wp2_with fail
        refine bodyPost_ret (v:=.tuple #[.agg #[.slice none 0 0,.slice none 0 0],.int .i64 r.2]) (by simp [results,Tryz.results10,go_sem,r0',r1']) rfl ?_
        rw [HS.out,HR.out,HAt.out,if_pos H0.out]
        refine ⟨none,0,0,none,0,0,rfl,Sl.nil,Sl.nil,?_,Fresh.none_ _,Fresh.none_ _,Nat.le_refl _,Nat.le_refl _⟩
        repeat (first | exact hB1 | refine Below.setCell ?_ (by simp <;> omega) _)
    · obtain rfl:k=n:=by omega
      have hfin:replayB Book.none l=(b,0):=by
       rw [HR.out,List.drop_eq_nil_of_le (by have:=HL.out;omega)]
       rfl
      have HF:=Lib.hid hfin
      clear hfin h
      go_wp2_with fail
      refine bodyPost_ret (v:=.tuple #[.agg #[.slice A1 n1 c1,.slice A2 n2 c2],.int .i64 0]) (by simp [results,Tryz.results10,go_sem,r0,r1,g0,g1]) rfl ?_
      rw [HS.out,HF.out]
      exact ⟨A1,n1,c1,A2,n2,c2,rfl,by simpa using (hs1.away hf1 (by simp) _).away hf1 (by simp) _,by simpa using (hs2.away hf2 (by simp) _).away hf2 (by simp) _,(hB0.setCell (by simp) _).setCell (by simp) _,fun a e=>by have:=hf1 a e;omega,fun a e=>by have:=hf2 a e;omega,hnc1,hnc2⟩
end
end Go.Proofs.YtidlffepdcldkaaGreatDoor
