/- Part 15 of the proof: WLog, Replay, WBook, LawS, WHoles, WToldP, WTolled, EqI, WTold, WPlayed. -/
import Derived.Test.YtmppkaoonncddaaGreatDoorBa14
import Derived.Test.YtmppkaoonncddaaGreatDoorBa10
import Derived.Test.YtmppkaoonncddaaGreatDoorBa08
import Derived.Test.YtmppkaoonncddaaGreatDoorBa06
import Derived.Test.YtmppkaoonncddaaGreatDoorBa03
import Derived.Test.YtmppkaoonncddaaGreatDoorBa01
import Derived.Test.YtmppkaoonncddaaGreatDoorBa05
import Derived.Test.YtmppkaoonncddaaGreatDoorProg
import Derived.Test.YtmppkaoonncddaaGreatDoorBa02
namespace Go.Proofs.YtmppkaoonncddaaGreatDoor
section
set_option linter.unusedSimpArgs false
set_option linter.unusedVariables false
open Go.RowKit
attribute [local go_sem ↓] Go.wp_at_zero Go.wp_at_succ
def LogPost (w : World) (q : List Entry × Int) (e : Ending) (w' : World) : Prop :=
 ∃ B b y, e = .returned (.tuple #[.slice B b y, .int .i64 q.2]) ∧ S w' 5 B b (q.1.map encE) ∧ b ≤ y ∧ y ≤ maxLen ∧ Onto w w' ∧ Fresh w.heap.size B
theorem rinfoE : (Tryz.prog.info? 27).map (fun i => (i.zero, i.size, i.bytes)) = some (some (.agg #[.int .i64 0, .int .i64 0, .int .i64 0, .int .i64 0, .int .i64 0]), 5, 40) := by kernel_rfl
theorem take_while {l : List Entry} {p : Entry → Bool} : ∀ {j : Nat}, j ≤ l.length → (∀ e ∈ l.take j, p e = true) → (∀ e, l[j]? = some e → p e = false) → l.takeWhile p = l.take j := by
 induction l with
 | nil => intro j hj h1 h2; simp
 | cons x l ih =>
   intro j hj h1 h2
   cases j with
   | zero => have := h2 x rfl; simp [List.takeWhile, this]
   | succ j =>
     have hx := h1 x (by simp)
     simp only [List.takeWhile, hx, List.take_succ_cons]
     rw [ih (by simpa using hj) (fun e he => h1 e (by simp [he])) (fun e he => h2 e (by simpa using he))]
set_option maxHeartbeats 8000000 in
set_option maxRecDepth 100000 in
theorem SLog_calls (A : Option Addr) (n c : Nat) (tip : Int) (C : Option Addr) (m d : Nat) (time : Int) (ns : List NV) (cs : List CV) (w : World) (E : Env w) (R : WR w A n C m ns cs) :
    Calls Tryz.prog 26 #[.agg #[.slice A n c, .int .i64 tip, .slice C m d, .int .i64 time]] w (LogPost w (logW (wor ns tip cs time))) := by
 obtain ⟨q, hq⟩ : ∃ q, q = logW (wor ns tip cs time) := ⟨_, rfl⟩
 obtain ⟨g, hg⟩ : ∃ g, g = checkW (wor ns tip cs time) := ⟨_, rfl⟩
 rw [← hq]
 unfold logW at hq
 rw [← hg] at hq
 have HQ := Lib.hid hq; have HG := Lib.hid hg
 clear hq hg
 go_enter Tryz.func26, Tryz.ntmps26
 go_upto_region 1 with fail
 have ob := (Onto.rfl' w).new (Obj.cells #[.slice A n c, .int .i64 tip, .slice C m d, .int .i64 time] 25)
 have BX : Bx (w.alloc (Obj.cells #[.slice A n c, .int .i64 tip, .slice C m d, .int .i64 time] 25)) w.heap.size [.slice A n c, .int .i64 tip, .slice C m d, .int .i64 time] := Bx.made _ _ _
 have on := ob
 clear ob
 try change Code.wp _ _ _ _ (w.alloc (Obj.cells #[.slice A n c, .int .i64 tip, .slice C m d, .int .i64 time] 25))
 generalize (w.alloc (Obj.cells #[.slice A n c, .int .i64 tip, .slice C m d, .int .i64 time] 25)) = v1 at *
 generalize w.heap.size = zx at *
 replace R := R.onto on
 have x0 := BX.at_ 0 rfl; have x1 := BX.at_ 1 rfl; have x2 := BX.at_ 2 rfl; have x3 := BX.at_ 3 rfl
 go_wp2_with fail
 refine Calls.mono (WCheck_calls A n c tip C m d time ns cs _ (E.onto on) R) ?_
 rw [← HG.out]
 rintro e v2 ⟨rfl, b⟩
 replace on := on.to b
 replace BX := BX.onto b
 replace R := R.onto b
 clear b
 clear x0 x1 x2 x3
 by_cases hg0 : g = 0
 · subst hg0
   have hgood := checkW_iff.1 HG.out.symm
   obtain ⟨rfl, rfl, hsm⟩ := small_of R hgood
   have hq := HQ.out
   rw [if_neg (by simp)] at hq
   replace HQ := Lib.hid hq
   obtain ⟨b0, off0, u, hA, hb0, hu, vi, a0, a1, a2, a3, a4⟩ := R.atN (i := 2) (by omega)
   subst hA
   have hun : u.n = 60 := (hsm.n u (List.mem_of_getElem? hu)).1
   have hlog : logOf (wor ns tip cs time) = u.x.u.cells.takeWhile fun c => decide (c.kind ≠ 4) := by
    show ((nodAt (wor ns tip cs time).n 2).u.cells.takeWhile _) = _
    rw [show nodAt (wor ns tip cs time).n 2 = u.x from nodAt_ns hu]
   have hS := vi.cells
   rw [hun] at hS a1
   have hlen : u.x.u.cells.length = 60 := by have := hS.len; simpa using this
   have HLOG := Lib.hid hlog; have HLEN := Lib.hid hlen
   clear hlog hlen hq hgood hsm hu vi hun a0 a2 a3 a4
   have x0 := BX.at_ 0 rfl
   go_wp2_with fail
   clear x0 a1
   have hv := on.size
   go_loopg [5, 7, 24] 60 (fun g s5 s7 s24 wr => ∃ (j yc : Nat) (B : Option Addr), j ≤ 60 ∧ 60 - j ≤ g ∧ s24 = .int .i64 j ∧ s5 = .slice B j yc ∧ Hid (Own wr v2.heap.size 27 5 (.slice B j yc) j ((u.x.u.cells.take j).map encE)) ∧ Hid (∀ e ∈ u.x.u.cells.take j, e.kind ≠ 4) ∧ Onto v2 wr)
   case atStart => exact ⟨0, 0, none, by omega, by omega, rfl, rfl, Own.nil _ _ _ _, Lib.hid (by simp), Onto.rfl' _⟩
   case round =>
    obtain ⟨j, yc, B, hj, hg, rfl, rfl, HO, HK, bw⟩ := hrel
    have on2 := on.to bw
    replace hS := hS.onto bw
    by_cases hlt : j < 60
    · have hk3 : (j : Int) < 60 := by omega
      obtain ⟨bc, oc, e, hA0, hbc, he, d0, d1, d2, d3, d4⟩ := hS.atE hlt
      have HA0 := Lib.hid hA0; have HE := Lib.hid he
      clear he
      rw [hA0]
      go_upto_region 8 with fail
      refine wp_box1 (v1 := [.int .i64 e.kind, .int .i64 e.job, .int .i64 e.every, .int .i64 e.time, .int .i64 e.client]) rfl fun w5 ox V => ?_
      generalize wr.heap.size = ze at V ⊢
      replace bw := bw.to ox; replace on2 := on2.to ox; replace HO := Lib.hid (HO.out.below ox)
      clear ox d0 d1 d2 d3 d4 hA0 hbc
      by_cases h4 : e.kind = 4
      · have hd : (e.kind == 4) = true := by simp [h4]
        have V0 := V.at_ 0 rfl
        have HQ2 : Hid (q = (u.x.u.cells.take j, 0)) := Lib.hid (by
         rw [HQ.out, HLOG.out, take_while (j := j) (by have := HLEN.out; omega) (fun e he => by simpa using HK.out e he) (fun e' he' => by rw [HE.out] at he'; injection he' with he'; subst he'; simp [h4])])
        have HE4 := Lib.hid h4
        clear h4
        go_wp2_with fail
        refine bodyPost_ret (v := .tuple #[.slice B j yc, .int .i64 0]) (by simp [results, Tryz.results26, go_sem]) rfl ?_
        rw [HQ2.out]
        exact ⟨B, j, yc, rfl, HO.out.sl, HO.out.le_cap, HO.out.cap_max, on2, fun a e => Nat.le_trans hv (HO.out.fresh (Nat.le_refl _) a e)⟩
      · have hd : (e.kind == 4) = false := by simp [h4]
        have HK2 : Hid (∀ x ∈ u.x.u.cells.take (j + 1), x.kind ≠ 4) := Lib.hid (fun x hx => by
         rw [List.take_add_one, HE.out] at hx
         rcases List.mem_append.1 hx with h | h
         · exact HK.out x h
         · simp at h; subst h; exact h4)
        clear h4
        have V0 := V.at_ 0 rfl; have V1 := V.at_ 1 rfl; have V2 := V.at_ 2 rfl; have V3 := V.at_ 3 rfl; have V4 := V.at_ 4 rfl
        obtain ⟨i0, hi0, hzz0, hzz1, hzz2⟩ := info_parts rinfoE
        have HI0 := Lib.hid hi0; have HZ0 := Lib.hid hzz0; have HZ1 := Lib.hid hzz1; have HZ2 := Lib.hid hzz2
        clear hi0 hzz0 hzz1 hzz2
        have hnew : Sl (w5.alloc (Obj.cells #[.int .i64 e.kind, .int .i64 e.job, .int .i64 e.every, .int .i64 e.time, .int .i64 e.client] 27)) (w5.heap.size + 1) 5 (some ⟨w5.heap.size, 0, none⟩) 1 [encE e] := by
         have := Sl.block (w := w5.alloc (Obj.cells #[.int .i64 e.kind, .int .i64 e.job, .int .i64 e.every, .int .i64 e.time, .int .i64 e.client] 27)) (k := 5) [encE e] (heap_alloc_new w5 _) (by simp [encE]) rfl
         simpa using this
        have HNEW := Lib.hid hnew
        have hbw := bw.size
        clear hnew
        go_wp2_with (at_builtin; refine wpList_append_sl _ rfl _ _ 42 rfl v2.heap.size 27 i0 _ 5 40 Tryz.underlying42 HI0.out HZ0.out HZ1.out HZ2.out rfl (by decide) (.slice B j yc) j ((u.x.u.cells.take j).map encE) (by rfl) (HO.out.alloc _) (w5.heap.size + 1) (some ⟨w5.heap.size, 0, none⟩) 1 1 [encE e] (by rfl) HNEW.out (by simp [encE, Value.oneCell']) (by unfold maxLen; omega) (by omega) (by simp; omega) ?_)
        intro v8 wa own8 grow8 hv8
        obtain ⟨A8, c8, rfl, _, _⟩ := own8.slice
        have ona := (Onto.rfl' w5).new (Obj.cells #[.int .i64 e.kind, .int .i64 e.job, .int .i64 e.every, .int .i64 e.time, .int .i64 e.client] 27)
        have bw3 : Onto v2 wa := below_grown (bw.to ona) (bw.to ona).size grow8 (fun g hg => by have := (HO.out.1.lt g hg).1; omega)
        have HOa : Hid (Own wa v2.heap.size 27 5 (.slice A8 (j + 1) c8) (j + 1) ((u.x.u.cells.take (j + 1)).map encE)) := Lib.hid (by rw [show (u.x.u.cells.take (j + 1)).map encE = (u.x.u.cells.take j).map encE ++ [encE e] by rw [List.take_add_one, HE.out, List.map_append]; rfl]; simpa using own8)
        clear own8 grow8 hv8 HO HNEW HI0 HZ0 HZ1 HZ2 ona V0 V1 V2 V3 V4 bw on2 V HK HE
        go_wp2_with fail
        rw [← HA0.out]
        go_roundg (60 - (j + 1))
        case measure => omega
        case rel => exact ⟨j + 1, c8, A8, by omega, Nat.le_refl _, by go_num, rfl, HOa, HK2, bw3⟩
    · obtain rfl : j = 60 := by omega
      have HQ2 : Hid (q = (u.x.u.cells.take 60, 0)) := Lib.hid (by
       rw [HQ.out, HLOG.out, take_while (j := 60) (by have := HLEN.out; omega) (fun e he => by simpa using HK.out e he) (fun e' he' => by rw [List.getElem?_eq_none (by have := HLEN.out; omega)] at he'; cases he')])
      go_wp2_with fail
      refine bodyPost_ret (v := .tuple #[.slice B 60 yc, .int .i64 0]) (by simp [results, Tryz.results26, go_sem]) rfl ?_
      rw [HQ2.out]
      exact ⟨B, 60, yc, rfl, HO.out.sl, HO.out.le_cap, HO.out.cap_max, on2, fun a e => Nat.le_trans hv (HO.out.fresh (Nat.le_refl _) a e)⟩
 · have hd : (g != 0) = true := by simpa using hg0
   have HQ2 : Hid (q = ([], g)) := Lib.hid (by rw [HQ.out, if_pos hg0])
   clear hg0
   go_wp2_with fail
   refine bodyPost_ret (v := .tuple #[.slice none 0 0, .int .i64 g]) (by simp [results, Tryz.results26, go_sem]) rfl ?_
   rw [HQ2.out]
   exact ⟨none, 0, 0, rfl, Sl.nil, by omega, by simp [maxLen], on, Fresh.none_ _⟩
end
section
set_option linter.unusedSimpArgs false
set_option linter.unusedVariables false
open Go.RowKit
theorem replayB_at {b : Book} {l : List Entry} {k : Nat} {x : Entry} (hx : l[k]? = some x) : replayB b (l.drop k) = if (applyB b x).2 ≠ 0 then (Book.none, (applyB b x).2) else replayB (applyB b x).1 (l.drop (k + 1)) := by
 obtain ⟨hk, rfl⟩ := List.getElem?_eq_some_iff.1 hx
 rw [List.drop_eq_getElem_cons hk]
 rfl
set_option maxHeartbeats 4000000 in
set_option maxRecDepth 100000 in
theorem Replay_calls (A : Option Addr) (n c B : Nat) (l : List Entry) (w : World) (h : Sl w B 5 A n (l.map encE)) (hB : B ≤ w.heap.size) :
    Calls Tryz.prog 33 #[.slice A n c] w (BookPost w (replay l).1 (replay l).2) := by
 have hl : l.length = n := by have := h.len; simpa using this
 by_cases hbig : 60 < n
 · have hs : replay l = (Book.none, 2) := by unfold replay; rw [if_pos (by omega)]
   have HS := Lib.hid hs
   clear h hs hl
   go_enter Tryz.func33, Tryz.ntmps33
   go_wp2
   refine bodyPost_ret (v := .tuple #[.agg #[.slice none 0 0, .slice none 0 0], .int .i64 2]) (by simp [results, Tryz.results33, go_sem]) rfl ?_
   rw [HS.out]
   refine ⟨none, 0, 0, none, 0, 0, rfl, Sl.nil, Sl.nil, ?_, Fresh.none_ _, Fresh.none_ _, Nat.le_refl _, Nat.le_refl _⟩
   repeat (first | exact Below.refl _ _ | refine Below.setCell ?_ (by simp <;> omega) _ | refine Below.alloc ?_ (by simp <;> omega) _)
 · have hs : replay l = replayB Book.none l := by unfold replay; rw [if_neg (by omega)]
   have hn60 : n ≤ 60 := by omega
   have HS := Lib.hid hs
   have HL := Lib.hid hl
   clear hs hl hbig
   go_enter Tryz.func33, Tryz.ntmps33
   go_wp2
   go_loopw [14] (fun s wr => ∃ k : Nat, ∃ b : Book, ∃ A1 n1 c1 A2 n2 c2, k ≤ n ∧ s = .int .i64 k ∧ wr.cell? ⟨w.heap.size + 1, 0, none⟩ = some (.slice A1 n1 c1) ∧ wr.cell? ⟨w.heap.size + 1, 1, none⟩ = some (.slice A2 n2 c2) ∧
       wr.frozen? ⟨w.heap.size + 1, 0, none⟩ = false ∧ wr.frozen? ⟨w.heap.size + 1, 1, none⟩ = false ∧
       wr.cell? ⟨w.heap.size, 0, none⟩ = some (.slice none 0 0) ∧ wr.cell? ⟨w.heap.size, 1, none⟩ = some (.slice none 0 0) ∧ wr.frozen? ⟨w.heap.size, 0, none⟩ = false ∧ wr.frozen? ⟨w.heap.size, 1, none⟩ = false ∧
       w.heap.size + 1 < wr.heap.size ∧ Below w.heap.size w wr ∧ Sl wr wr.heap.size 3 A1 n1 (b.jobs.map encJ) ∧ Sl wr wr.heap.size 3 A2 n2 (b.rung.map encR) ∧ Fresh (w.heap.size + 2) A1 ∧ Fresh (w.heap.size + 2) A2 ∧ n1 ≤ c1 ∧ n2 ≤ c2 ∧
       Hid (replayB Book.none l = replayB b (l.drop k))) (fun s _ => n - (intOf s).toNat)
   case atStart =>
    exact ⟨0, Book.none, none, 0, 0, none, 0, 0, Nat.zero_le _, rfl, by simp [go_sem], by simp [go_sem], by simp [go_sem], by simp [go_sem], by simp [go_sem], by simp [go_sem], by simp [go_sem], by simp [go_sem], by simp, ((Below.refl _ _).alloc (Nat.le_refl _) _).alloc (by simp) _, Sl.nil, Sl.nil, Fresh.none_ _, Fresh.none_ _, Nat.le_refl _, Nat.le_refl _, rfl⟩
   case round =>
    obtain ⟨k, b, A1, n1, c1, A2, n2, c2, hk, rfl, q0, q1, f0, f1, r0, r1, g0, g1, hz, hB0, hs1, hs2, hf1, hf2, hnc1, hnc2, HR⟩ := hrel
    have hza : w.heap.size < wr.heap.size := by omega
    by_cases hlt : k < n
    · obtain ⟨bb, off, x, rfl, hb, hx, e0, e1, e2, e3, e4⟩ := (h.under hB hB0).atE hlt
      have HX := Lib.hid hx
      have hbz : bb < wr.heap.size := by omega
      clear h hx
      go_wp2_with fail
      refine Calls.mono (Apply_calls A1 A2 n1 c1 n2 c2 wr.heap.size b _ _ _ _ _ _ (hs1.alloc (Nat.le_refl _) _) (hs2.alloc (Nat.le_refl _) _) (by simp)) ?_
      rintro e w1 ⟨A3, n3, c3, A4, n4, c4, rfl, hs3, hs4, hb1, hf3, hf4, hnc3, hnc4⟩
      have hbA : Below wr.heap.size wr (wr.alloc (Obj.cells #[.int .i64 x.kind, .int .i64 x.job, .int .i64 x.every, .int .i64 x.time, .int .i64 x.client] 27)) := (Below.refl _ _).alloc (Nat.le_refl _) _
      have q0' := cellB hb1 (cellB hbA q0); have q1' := cellB hb1 (cellB hbA q1); have f0' := frozB hb1 (cellB hbA q0) (frozB hbA q0 f0); have f1' := frozB hb1 (cellB hbA q1) (frozB hbA q1 f1)
      have r0' := cellB hb1 (cellB hbA r0); have r1' := cellB hb1 (cellB hbA r1); have g0' := frozB hb1 (cellB hbA r0) (frozB hbA r0 g0); have g1' := frozB hb1 (cellB hbA r1) (frozB hbA r1 g1)
      have hz1 : w.heap.size + 1 < w1.heap.size := by have := hb1.size; simp at this; omega
      have hz1a : w.heap.size < w1.heap.size := by omega
      have hB1 : Below w.heap.size w w1 := (hB0.alloc (by omega) _).trans (hb1.mono (by simp; omega))
      have hf3' : Fresh (w.heap.size + 2) A3 := fun a e => by have := hf3 a e; simp at this; omega
      have hf4' : Fresh (w.heap.size + 2) A4 := fun a e => by have := hf4 a e; simp at this; omega
      have hat := replayB_at (b := b) HX.out
      obtain ⟨r, hr⟩ : ∃ r, r = applyB b ⟨x.kind, x.job, x.every, x.time, x.client⟩ := ⟨_, rfl⟩
      have hr2 : r = applyB b x := hr
      rw [← hr] at hs3 hs4 ⊢
      rw [← hr2] at hat
      have HAt := Lib.hid hat
      clear hat hr hr2 q0 q1 f0 f1 r0 r1 g0 g1 hbA hb1 e0 e1 e2 e3 e4 hs1 hs2 hf1 hf2 hB0 hf3 hf4
      by_cases h0 : r.2 = 0
      · rw [h0]
        have H0 := Lib.hid h0
        clear h0
        go_wp2_with fail
        go_roundw
        case measure => simp [intOf]; omega
        case rel =>
         refine ⟨k + 1, r.1, A3, n3, c3, A4, n4, c4, by omega, by go_num, by simp [go_sem, q0', q1'], by simp [go_sem, q0', q1'], by simp [go_sem, f0'], by simp [go_sem, f1'], by simp [go_sem, r0'], by simp [go_sem, r1'], by simp [go_sem, g0'], by simp [go_sem, g1'], by simpa using hz1, ?_, ?_, ?_, hf3', hf4', hnc3, hnc4, ?_⟩
         · exact (hB1.setCell (by simp) _).setCell (by simp) _
         · simpa using (hs3.away hf3' (p := ⟨w.heap.size + 1, 0, none⟩) (by simp) (.slice A3 n3 c3)).away hf3' (p := ⟨w.heap.size + 1, 1, none⟩) (by simp) (.slice A4 n4 c4)
         · simpa using (hs4.away hf4' (p := ⟨w.heap.size + 1, 0, none⟩) (by simp) (.slice A3 n3 c3)).away hf4' (p := ⟨w.heap.size + 1, 1, none⟩) (by simp) (.slice A4 n4 c4)
         · show _ = _
           rw [HR.out, HAt.out, if_neg (by simp [H0.out])]
      · have h0' : (r.2 != 0) = true := by simpa using h0
        have H0 := Lib.hid h0
        clear h0
        go_wp2_with fail
        refine bodyPost_ret (v := .tuple #[.agg #[.slice none 0 0, .slice none 0 0], .int .i64 r.2]) (by simp [results, Tryz.results33, go_sem, r0', r1']) rfl ?_
        rw [HS.out, HR.out, HAt.out, if_pos H0.out]
        refine ⟨none, 0, 0, none, 0, 0, rfl, Sl.nil, Sl.nil, ?_, Fresh.none_ _, Fresh.none_ _, Nat.le_refl _, Nat.le_refl _⟩
        repeat (first | exact hB1 | refine Below.setCell ?_ (by simp <;> omega) _)
    · obtain rfl : k = n := by omega
      have hfin : replayB Book.none l = (b, 0) := by
       rw [HR.out, List.drop_eq_nil_of_le (by have := HL.out; omega)]
       rfl
      have HF := Lib.hid hfin
      clear hfin h
      go_wp2_with fail
      refine bodyPost_ret (v := .tuple #[.agg #[.slice A1 n1 c1, .slice A2 n2 c2], .int .i64 0]) (by simp [results, Tryz.results33, go_sem, r0, r1, g0, g1]) rfl ?_
      rw [HS.out, HF.out]
      exact ⟨A1, n1, c1, A2, n2, c2, rfl, by simpa using (hs1.away hf1 (by simp) _).away hf1 (by simp) _, by simpa using (hs2.away hf2 (by simp) _).away hf2 (by simp) _, (hB0.setCell (by simp) _).setCell (by simp) _, fun a e => by have := hf1 a e; omega, fun a e => by have := hf2 a e; omega, hnc1, hnc2⟩
end
section
set_option linter.unusedSimpArgs false
set_option linter.unusedVariables false
open Go.RowKit
attribute [local go_sem ↓] Go.wp_at_zero Go.wp_at_succ
def SBookPost (w : World) (q : Book × Int) (e : Ending) (w' : World) : Prop :=
 ∃ A n c B m d, e = .returned (.tuple #[.agg #[.slice A n c, .slice B m d], .int .i64 q.2]) ∧ S w' 3 A n (q.1.jobs.map encJ) ∧ S w' 3 B m (q.1.rung.map encR) ∧ Onto w w'
set_option maxHeartbeats 8000000 in
set_option maxRecDepth 100000 in
theorem SBook_calls (A : Option Addr) (n c : Nat) (tip : Int) (C : Option Addr) (m d : Nat) (time : Int) (ns : List NV) (cs : List CV) (w : World) (E : Env w) (R : WR w A n C m ns cs) :
    Calls Tryz.prog 30 #[.agg #[.slice A n c, .int .i64 tip, .slice C m d, .int .i64 time]] w (SBookPost w (bookW (wor ns tip cs time))) := by
 obtain ⟨q, hq⟩ : ∃ q, q = bookW (wor ns tip cs time) := ⟨_, rfl⟩
 obtain ⟨p, hp⟩ : ∃ p, p = logW (wor ns tip cs time) := ⟨_, rfl⟩
 have hqp : q = if p.2 ≠ 0 then (Book.none, p.2) else replay p.1 := by
  rw [hq, hp]; unfold bookW logW
  by_cases h : checkW (wor ns tip cs time) = 0 <;> simp [h]
 rw [← hq]
 have HQ := Lib.hid hqp; have HP := Lib.hid hp
 clear hq hp hqp
 go_enter Tryz.func30, Tryz.ntmps30
 go_upto_region 1 with fail
 refine wp_box2 (v1 := [.slice A n c, .int .i64 tip, .slice C m d, .int .i64 time]) (v2 := [.slice none 0 0, .slice none 0 0]) rfl rfl fun v1 on BX BB => ?_
 replace R := R.onto on
 generalize hzx : w.heap.size = zx at BX BB ⊢
 have hz : w.heap.size ≤ zx + 1 := by omega
 clear hzx
 have x0 := BX.at_ 0 rfl; have x1 := BX.at_ 1 rfl; have x2 := BX.at_ 2 rfl; have x3 := BX.at_ 3 rfl
 go_wp2_with fail
 refine Calls.mono (SLog_calls A n c tip C m d time ns cs _ (E.onto on) R) ?_
 rw [← HP.out]
 rintro e v2 ⟨B, b', y, rfl, hS, hy, hym, b, hfr⟩
 replace on := on.to b
 replace BX := BX.onto b
 replace BB := BB.onto b
 replace R := R.onto b
 clear b
 clear x0 x1 x2 x3
 have r0 := BB.at_ 0 rfl; have r1 := BB.at_ 1 rfl
 have g0 := BB.froz 0; have g1 := BB.froz 1
 have hw := on.size; have hB := BB.lt
 by_cases hp0 : p.2 = 0
 · have hd : (p.2 != 0) = false := by simp [hp0]
   have hr : q = replay p.1 := by rw [HQ.out, if_neg (by simp [hp0])]
   have HR := Lib.hid hr
   clear hp0 hr r0 r1 g0 g1
   go_wp2_with fail
   refine Calls.mono (Replay_calls B b' y _ p.1 _ hS (Nat.le_refl _)) ?_
   rintro e vv ⟨A1, n1, c1, A2, n2, c2, rfl, s1, s2, bl, f1, f2, hc1, hc2⟩
   rw [← HR.out] at s1 s2
   rw [← HR.out]
   have BB2 := BB.onto bl
   have r0 := BB2.at_ 0 rfl; have r1 := BB2.at_ 1 rfl; have g0 := BB2.froz 0; have g1 := BB2.froz 1
   have o1 : ∀ n, OffN n (zx + 1) A1 := fun n => f1.offN hB
   have o2 : ∀ n, OffN n (zx + 1) A2 := fun n => f2.offN hB
   have on3 := on.to bl
   go_wp2_with fail
   refine bodyPost_ret (v := .tuple #[.agg #[.slice A1 n1 c1, .slice A2 n2 c2], .int .i64 q.2]) (by simp [results, Tryz.results30, go_sem, r0, r1, g0, g1]) rfl ?_
   exact ⟨A1, n1, c1, A2, n2, c2, rfl, S.off (S.off s1 (o1 _) _) (o1 _) _, S.off (S.off s2 (o2 _) _) (o2 _) _, (on3.put hz _).put hz _⟩
 · have hd : (p.2 != 0) = true := by simpa using hp0
   have hr : q = (Book.none, p.2) := by rw [HQ.out, if_pos hp0]
   have HR := Lib.hid hr
   clear hp0 hr
   go_wp2_with fail
   refine bodyPost_ret (v := .tuple #[.agg #[.slice none 0 0, .slice none 0 0], .int .i64 p.2]) (by simp [results, Tryz.results30, go_sem, r0, r1, g0, g1]) rfl ?_
   rw [HR.out]
   exact ⟨none, 0, 0, none, 0, 0, rfl, Sl.nil, Sl.nil, (on.put hz _).put hz _⟩
end
section
set_option linter.unusedSimpArgs false
set_option linter.unusedVariables false
/-! ### The log -/
/-! ### The tail -/
theorem cellAt_lt {ds : List Entry} {c : Entry} {j : Nat} (h : j < ds.length) : cellAt (ds ++ [c]) j = cellAt ds j := by
 unfold cellAt; rw [List.getElem?_append_left h]
theorem cellAt_last {ds : List Entry} {c : Entry} : cellAt (ds ++ [c]) ds.length = c := by
 unfold cellAt; simp
theorem tailU_snoc {ds : List Entry} {c : Entry} : tailU (ds ++ [c]) = if c.kind = 4 then tailU ds else ds.length + 1 := by
 unfold tailU
 rw [List.reverse_append, List.reverse_singleton, List.singleton_append, List.dropWhile_cons]
 by_cases h : c.kind = 4
 · simp [h]
 · simp [h]
theorem tail_iff : ∀ (n : Nat) {cs : List Entry}, cs.length = n → ∀ k, k < tailU cs ↔ ∃ j, k ≤ j ∧ j < cs.length ∧ (cellAt cs j).kind ≠ 4
 | 0, cs, h, k => by
   obtain rfl := List.eq_nil_of_length_eq_zero h
   simp [tailU]
 | n + 1, cs, h, k => by
   obtain rfl | ⟨ds, c, rfl⟩ := List.eq_nil_or_concat cs
   · simp at h
   · rw [List.concat_eq_append] at h ⊢
     have hn : ds.length = n := by simpa using h
     have ih := tail_iff n hn k
     rw [tailU_snoc]
     by_cases h4 : c.kind = 4
     · rw [if_pos h4, ih]
       constructor
       · rintro ⟨j, h1, h2, h3⟩
         exact ⟨j, h1, by simp; omega, by rw [cellAt_lt h2]; exact h3⟩
       · rintro ⟨j, h1, h2, h3⟩
         rw [List.length_append, List.length_singleton] at h2
         by_cases hj : j = ds.length
         · subst hj; rw [cellAt_last] at h3; exact absurd h4 h3
         · exact ⟨j, h1, by omega, by rwa [cellAt_lt (by omega)] at h3⟩
     · rw [if_neg h4]
       constructor
       · intro hk
         exact ⟨ds.length, by omega, by simp, by rw [cellAt_last]; exact h4⟩
       · rintro ⟨j, h1, h2, h3⟩
         rw [List.length_append, List.length_singleton] at h2
         omega
theorem lt_tail {cs : List Entry} {k : Nat} : k < tailU cs ↔ ∃ j, k ≤ j ∧ j < cs.length ∧ (cellAt cs j).kind ≠ 4 := tail_iff _ rfl k
theorem log_cells : ∀ {cs : List Entry} {k : Nat}, k < (cs.takeWhile fun c => decide (c.kind ≠ 4)).length → k < cs.length ∧ (cellAt cs k).kind ≠ 4
 | [], k, h => by simp at h
 | c :: cs, k, h => by
   by_cases h4 : c.kind = 4
   · simp [List.takeWhile_cons, h4] at h
   · cases k with
     | zero => exact ⟨by simp, h4⟩
     | succ k =>
       have : k < (cs.takeWhile fun c => decide (c.kind ≠ 4)).length := by simpa [List.takeWhile_cons, h4] using h
       have ih := log_cells this
       exact ⟨by simpa using ih.1, ih.2⟩
theorem log_end : ∀ {cs : List Entry}, (cs.takeWhile fun c => decide (c.kind ≠ 4)).length < cs.length → (cellAt cs (cs.takeWhile fun c => decide (c.kind ≠ 4)).length).kind = 4
 | [], h => by simp at h
 | c :: cs, h => by
   by_cases h4 : c.kind = 4
   · simp [List.takeWhile_cons, h4, cellAt]
   · have e : ((c :: cs).takeWhile fun c => decide (c.kind ≠ 4)).length = (cs.takeWhile fun c => decide (c.kind ≠ 4)).length + 1 := by simp [List.takeWhile_cons, h4]
     rw [e] at h ⊢
     exact log_end (cs := cs) (by simpa using h)
/-! ### The holes -/
theorem GoodW.front {w : Wor} (h : GoodW w) {j k : Nat} (hjk : j ≤ k) (hk : k < 3) {a : Nat} (ha : a < 60) (h4 : (cellAt (nodAt w.n k).u.cells a).kind ≠ 4) : cellAt (nodAt w.n j).u.cells a = cellAt (nodAt w.n k).u.cells a := by
 have one : ∀ {k : Nat}, k < 2 → (cellAt (nodAt w.n (k + 1)).u.cells a).kind ≠ 4 → cellAt (nodAt w.n k).u.cells a = cellAt (nodAt w.n (k + 1)).u.cells a := fun {k} hk h4 => by
  obtain ⟨l, m, hI⟩ := checkN_inv (h.node (k + 1) (by omega))
  have e := hI.upon.cell a h4
  rcases h.fit k hk a ha with g | g
  · unfold gr at g; rw [e] at g; exact absurd g h4
  · unfold gr at g; rw [g, e]
 rcases (by omega : j = k ∨ (j = 0 ∧ k = 1) ∨ (j = 1 ∧ k = 2) ∨ (j = 0 ∧ k = 2)) with rfl | ⟨rfl, rfl⟩ | ⟨rfl, rfl⟩ | ⟨rfl, rfl⟩
 · rfl
 · exact one (by omega) h4
 · exact one (by omega) h4
 · have e := one (k := 1) (by omega) h4
   rw [← e]
   exact one (k := 0) (by omega) (by rw [e]; exact h4)
theorem GoodW.tails {w : Wor} (h : GoodW w) {k : Nat} (hk : k < 3) : tailU (nodAt w.n k).u.cells ≤ tailU (nodAt w.n 0).u.cells := by
 rcases Nat.lt_or_ge (tailU (nodAt w.n 0).u.cells) (tailU (nodAt w.n k).u.cells) with hlt | hge
 · obtain ⟨j, h1, h2, h3⟩ := lt_tail.1 hlt
   have l0 := (h.unitOk (k := 0) (by omega)).len
   have lk := (h.unitOk hk).len
   have e := h.front (j := 0) (by omega) hk (a := j) (by omega) h3
   have := (lt_tail (cs := (nodAt w.n 0).u.cells) (k := j)).2 ⟨j, Nat.le_refl _, by omega, by rw [e]; exact h3⟩
   omega
 · exact hge
theorem tail_le {cs : List Entry} : tailU cs ≤ cs.length := by
 rcases Nat.lt_or_ge cs.length (tailU cs) with h | h
 · obtain ⟨j, h1, h2, _⟩ := lt_tail.1 h
   omega
 · exact h
theorem holes_law {w : Wor} (h : GoodW w) : (holesOf w).Pairwise (· < ·) ∧ (holesOf w = [] → (logOf w).length = tailU (nodAt w.n 0).u.cells) ∧ (∀ a l, holesOf w = a :: l → a = (logOf w).length) ∧
    (logOf w).length ≤ tailU (nodAt w.n 0).u.cells ∧ ∀ k, k < 3 → tailU (nodAt w.n k).u.cells ≤ tailU (nodAt w.n 0).u.cells := by
 have l0 := (h.unitOk (k := 0) (by omega)).len
 have l2 := (h.unitOk (k := 2) (by omega)).len
 have ht := tail_le (cs := (nodAt w.n 0).u.cells)
 have hsort : (holesOf w).Pairwise (· < ·) := by
  unfold holesOf
  exact List.Pairwise.filter _ List.pairwise_lt_range
 have hmem : ∀ a, a ∈ holesOf w ↔ a < tailU (nodAt w.n 0).u.cells ∧ (cellAt (nodAt w.n 2).u.cells a).kind = 4 := fun a => by
  unfold holesOf
  rw [List.mem_filter, List.mem_range]
  simp
 have hin : ∀ a, a < (logOf w).length → a < 60 ∧ (cellAt (nodAt w.n 2).u.cells a).kind ≠ 4 := fun a ha => by
  have := log_cells ha
  exact ⟨by omega, this.2⟩
 have hend : (logOf w).length < 60 → (cellAt (nodAt w.n 2).u.cells (logOf w).length).kind = 4 := fun hl => log_end (by rw [l2]; exact hl)
 have hle : (logOf w).length ≤ tailU (nodAt w.n 0).u.cells := by
  rcases Nat.lt_or_ge (tailU (nodAt w.n 0).u.cells) (logOf w).length with hlt | hge
  · obtain ⟨g1, g2⟩ := hin _ hlt
    have e := h.front (j := 0) (k := 2) (by omega) (by omega) g1 g2
    have := (lt_tail (cs := (nodAt w.n 0).u.cells) (k := tailU (nodAt w.n 0).u.cells)).2 ⟨_, Nat.le_refl _, by omega, by rw [e]; exact g2⟩
    omega
  · exact hge
 refine ⟨hsort, fun he => ?_, fun a l he => ?_, hle, fun k hk => h.tails hk⟩
 · rcases Nat.lt_or_ge (logOf w).length (tailU (nodAt w.n 0).u.cells) with hlt | hge
   · have := (hmem _).2 ⟨hlt, hend (by omega)⟩
     rw [he] at this
     cases this
   · omega
 · have ha := (hmem a).1 (by rw [he]; simp)
   have h1 : (logOf w).length ≤ a := by
    rcases Nat.lt_or_ge a (logOf w).length with hlt | hge
    · exact absurd ha.2 (hin a hlt).2
    · exact hge
   have h2 := (hmem (logOf w).length).2 ⟨by omega, hend (by omega)⟩
   rw [he] at h2 hsort
   rcases List.mem_cons.1 h2 with h3 | h3
   · exact h3.symm
   · have := (List.pairwise_cons.1 hsort).1 _ h3
     omega
end
section
set_option linter.unusedSimpArgs false
set_option linter.unusedVariables false
open Go.RowKit
attribute [local go_sem ↓] Go.wp_at_zero Go.wp_at_succ
def HolesPost (w : World) (q : List Nat × Int) (e : Ending) (w' : World) : Prop :=
 ∃ B b y, e = .returned (.tuple #[.slice B b y, .int .i64 q.2]) ∧ S w' 1 B b (q.1.map fun k : Nat => encI k) ∧ b ≤ y ∧ y ≤ maxLen ∧ Onto w w' ∧ Fresh w.heap.size B
theorem rinfoI : (Tryz.prog.info? 3).map (fun i => (i.zero, i.size, i.bytes)) = some (some (.int .i64 0), 1, 8) := by kernel_rfl
theorem cellAt_some {l : List Entry} {k : Nat} {e : Entry} (h : l[k]? = some e) : cellAt l k = e := by simp [cellAt, h]
set_option maxHeartbeats 8000000 in
set_option maxRecDepth 100000 in
theorem SHoles_calls (A : Option Addr) (n c : Nat) (tip : Int) (C : Option Addr) (m d : Nat) (time : Int) (ns : List NV) (cs : List CV) (w : World) (E : Env w) (R : WR w A n C m ns cs) :
    Calls Tryz.prog 38 #[.agg #[.slice A n c, .int .i64 tip, .slice C m d, .int .i64 time]] w (HolesPost w (holesW (wor ns tip cs time))) := by
 obtain ⟨q, hq⟩ : ∃ q, q = holesW (wor ns tip cs time) := ⟨_, rfl⟩
 obtain ⟨g, hg⟩ : ∃ g, g = checkW (wor ns tip cs time) := ⟨_, rfl⟩
 rw [← hq]
 unfold holesW at hq
 rw [← hg] at hq
 have HQ := Lib.hid hq; have HG := Lib.hid hg
 clear hq hg
 go_enter Tryz.func38, Tryz.ntmps38
 go_upto_region 1 with fail
 have ob := (Onto.rfl' w).new (Obj.cells #[.slice A n c, .int .i64 tip, .slice C m d, .int .i64 time] 25)
 have BX : Bx (w.alloc (Obj.cells #[.slice A n c, .int .i64 tip, .slice C m d, .int .i64 time] 25)) w.heap.size [.slice A n c, .int .i64 tip, .slice C m d, .int .i64 time] := Bx.made _ _ _
 have on := ob
 clear ob
 try change Code.wp _ _ _ _ (w.alloc (Obj.cells #[.slice A n c, .int .i64 tip, .slice C m d, .int .i64 time] 25))
 generalize (w.alloc (Obj.cells #[.slice A n c, .int .i64 tip, .slice C m d, .int .i64 time] 25)) = v1 at *
 generalize w.heap.size = zx at *
 replace R := R.onto on
 have x0 := BX.at_ 0 rfl; have x1 := BX.at_ 1 rfl; have x2 := BX.at_ 2 rfl; have x3 := BX.at_ 3 rfl
 go_wp2_with fail
 refine Calls.mono (WCheck_calls A n c tip C m d time ns cs _ (E.onto on) R) ?_
 rw [← HG.out]
 rintro e v2 ⟨rfl, b⟩
 replace on := on.to b
 replace BX := BX.onto b
 replace R := R.onto b
 clear b
 clear x0 x1 x2 x3
 by_cases hg0 : g = 0
 · subst hg0
   have hgood := checkW_iff.1 HG.out.symm
   obtain ⟨rfl, rfl, hsm⟩ := small_of R hgood
   have hq := HQ.out
   rw [if_neg (by simp)] at hq
   replace HQ := Lib.hid hq
   obtain ⟨b0, off0, u, hA, hb0, hu, vi, a0, a1, a2, a3, a4⟩ := R.atN (i := 2) (by omega)
   obtain ⟨b0', off0', u0, hA', hb0', hu0, vi0, f0, f1, f2, f3, f4⟩ := R.atN (i := 0) (by omega)
   subst hA
   injection hA' with hA'
   injection hA' with h1 h2
   subst h1 h2
   have hun : u.n = 60 := (hsm.n u (List.mem_of_getElem? hu)).1
   have hun0 : u0.n = 60 := (hsm.n u0 (List.mem_of_getElem? hu0)).1
   have hhol : holesOf (wor ns tip cs time) = (List.range (tailU u0.x.u.cells)).filter fun k => decide ((cellAt u.x.u.cells k).kind = 4) := by
    show (List.range (tailU (nodAt (wor ns tip cs time).n 0).u.cells)).filter (fun k => decide ((cellAt (nodAt (wor ns tip cs time).n 2).u.cells k).kind = 4)) = _
    rw [show nodAt (wor ns tip cs time).n 2 = u.x from nodAt_ns hu, show nodAt (wor ns tip cs time).n 0 = u0.x from nodAt_ns hu0]
   have hS := vi.cells
   have hS0 := vi0.cells
   rw [hun] at hS a1
   rw [hun0] at hS0 f1
   have hlen : u0.x.u.cells.length = 60 := by have := hS0.len; simpa using this
   have HHOL := Lib.hid hhol; have HLEN := Lib.hid hlen
   clear hhol hlen hq hgood hsm hu vi hun a2 a3 a4 hu0 vi0 hun0 f0 f2 f3 f4 hb0 hb0'
   have x0 := BX.at_ 0 rfl
   go_upto_region 6 with fail
   refine wp_box1 (v1 := [.int .i64 u.x.u.ep, .slice u.A 60 u.c]) rfl fun w3 ox U => ?_
   replace f1 := cellB ox f1
   replace on := on.to ox; replace BX := BX.onto ox; replace hS := hS.onto ox; replace hS0 := hS0.onto ox
   generalize v2.heap.size = zu at U ⊢
   clear ox a0 a1 x0 R
   have x0 := BX.at_ 0 rfl
   go_wp2_with fail
   clear x0 f1
   have hv := on.size
   go_loopg [7, 8, 9, 32] 60 (fun g s7 s8 s9 s32 wr => ∃ j : Nat, j ≤ 60 ∧ 60 - j ≤ g ∧ s32 = .int .i64 j ∧ s7 = .int .i64 (tailU (u0.x.u.cells.take j) : Nat) ∧ Onto w3 wr)
   case atStart => exact ⟨0, by omega, by omega, rfl, rfl, Onto.rfl' _⟩
   case round =>
    obtain ⟨j, hj, hg, rfl, rfl, bw⟩ := hrel
    by_cases hlt : j < 60
    · have hk3 : (j : Int) < 60 := by omega
      obtain ⟨bc, oc, e, hA0, hbc, he, d0, d1, d2, d3, d4⟩ := (hS0.onto bw).atE hlt
      have HA0 := Lib.hid hA0
      have htl : tailU (u0.x.u.cells.take (j + 1)) = if e.kind = 4 then tailU (u0.x.u.cells.take j) else j + 1 := by
       have hl : (u0.x.u.cells.take j).length = j := by rw [List.length_take, HLEN.out]; omega
       rw [List.take_add_one, he]
       have := tailU_snoc (ds := u0.x.u.cells.take j) (c := e)
       rw [hl] at this
       exact this
      have HTL := Lib.hid htl
      clear he htl
      rw [hA0]
      go_upto_region 10 with fail
      refine wp_box1 (v1 := [.int .i64 e.kind, .int .i64 e.job, .int .i64 e.every, .int .i64 e.time, .int .i64 e.client]) rfl fun w5 ox V => ?_
      generalize wr.heap.size = ze at V ⊢
      replace bw := bw.to ox
      clear ox d0 d1 d2 d3 d4 hA0 hbc
      have V0 := V.at_ 0 rfl
      by_cases h4 : e.kind = 4
      · have hd : (e.kind != 4) = false := by simp [h4]
        have ht := HTL.out
        rw [if_pos h4] at ht
        have HT := Lib.hid ht
        clear ht h4
        go_wp2_with fail
        rw [← HA0.out]
        go_roundg (60 - (j + 1))
        case measure => omega
        case rel => exact ⟨j + 1, by omega, Nat.le_refl _, by go_num, by rw [HT.out], bw⟩
      · have hd : (e.kind != 4) = true := by simpa using h4
        have ht := HTL.out
        rw [if_neg h4] at ht
        have HT := Lib.hid ht
        clear ht h4
        go_wp2_with fail
        rw [← HA0.out]
        go_roundg (60 - (j + 1))
        case measure => omega
        case rel => exact ⟨j + 1, by omega, Nat.le_refl _, by go_num, by rw [HT.out]; go_num, bw⟩
    · obtain rfl : j = 60 := by omega
      obtain ⟨te, hte⟩ : ∃ te, te = tailU (u0.x.u.cells.take 60) := ⟨_, rfl⟩
      have hte2 : te = tailU u0.x.u.cells := by rw [hte, List.take_of_length_le (by have := HLEN.out; omega)]
      have hte3 : te ≤ 60 := by have := tail_le (cs := u0.x.u.cells); have := HLEN.out; omega
      rw [← hte]
      have HTE := Lib.hid hte2
      clear hte hte2 hlt hg hj
      replace hS := hS.onto bw; replace U := U.onto bw; replace on := on.to bw
      clear bw BX hS0 hv
      generalize wr = w6 at *
      go_wp2_with fail
      have hv := on.size
      go_loopg [5, 10, 44] te (fun g s5 s10 s44 wr => ∃ (j yc k : Nat) (B : Option Addr), j ≤ te ∧ te - j ≤ g ∧ s44 = .int .i64 j ∧ s5 = .slice B k yc ∧ k ≤ j ∧ Hid (Own wr w6.heap.size 3 1 (.slice B k yc) k (((List.range j).filter fun k => decide ((cellAt u.x.u.cells k).kind = 4)).map fun k : Nat => encI k)) ∧ Onto w6 wr)
      case atStart => exact ⟨0, 0, 0, none, by omega, by omega, rfl, rfl, by omega, Own.nil _ _ _ _, Onto.rfl' _⟩
      case round =>
       obtain ⟨j, yc, k, B, hj, hg, rfl, rfl, hkj, HO, bw⟩ := hrel
       have on2 := on.to bw
       by_cases hlt : j < te
       · have hk3 : (j : Int) < te := by omega
         obtain ⟨bc, oc, e, hA0, hbc, he, d0, d1, d2, d3, d4⟩ := (hS.onto bw).atE (i := j) (by omega)
         have hU := U.onto bw
         have U1 := hU.at_ 1 rfl
         rw [hA0] at U1
         have hj6 : (j : Int) < 60 := by omega
         have hce : cellAt u.x.u.cells j = e := cellAt_some he
         clear d1 d2 d3 d4 he hA0 hbc
         by_cases h4 : e.kind = 4
         · have hd : (e.kind == 4) = true := by simp [h4]
           have hfl : ((List.range (j + 1)).filter fun k => decide ((cellAt u.x.u.cells k).kind = 4)).map (fun k : Nat => encI k) = ((List.range j).filter fun k => decide ((cellAt u.x.u.cells k).kind = 4)).map (fun k : Nat => encI k) ++ [encI (j : Int)] := by
            rw [List.range_succ, List.filter_append, List.map_append]
            simp [hce, h4]
           have HFL := Lib.hid hfl
           clear hfl h4 hce
           obtain ⟨i0, hi0, hzz0, hzz1, hzz2⟩ := info_parts rinfoI
           have HI0 := Lib.hid hi0; have HZ0 := Lib.hid hzz0; have HZ1 := Lib.hid hzz1; have HZ2 := Lib.hid hzz2
           clear hi0 hzz0 hzz1 hzz2
           have hnew : Sl (wr.alloc (Obj.cells #[.int .i64 j] 3)) (wr.heap.size + 1) 1 (some ⟨wr.heap.size, 0, none⟩) 1 [encI j] := by
            have := Sl.block (w := wr.alloc (Obj.cells #[.int .i64 j] 3)) (k := 1) [encI j] (heap_alloc_new wr _) (by simp [encI]) rfl
            simpa using this
           have HNEW := Lib.hid hnew
           have hbw := bw.size
           clear hnew
           go_wp2_with (at_builtin; refine wpList_append_sl _ rfl _ _ 81 rfl w6.heap.size 3 i0 _ 1 8 Tryz.underlying81 HI0.out HZ0.out HZ1.out HZ2.out rfl (by decide) (.slice B k yc) k (((List.range j).filter fun k => decide ((cellAt u.x.u.cells k).kind = 4)).map fun k : Nat => encI k) (by rfl) (HO.out.alloc _) (wr.heap.size + 1) (some ⟨wr.heap.size, 0, none⟩) 1 1 [encI j] (by rfl) HNEW.out (by simp [encI, Value.oneCell']) (by unfold maxLen; omega) (by omega) (by simp; omega) ?_)
           intro v8 wa own8 grow8 hv8
           obtain ⟨A8, c8, rfl, _, _⟩ := own8.slice
           have ona := (Onto.rfl' wr).new (Obj.cells #[.int .i64 j] 3)
           have bw3 : Onto w6 wa := below_grown (bw.to ona) (bw.to ona).size grow8 (fun g hg => by have := (HO.out.1.lt g hg).1; omega)
           have HOa : Hid (Own wa w6.heap.size 3 1 (.slice A8 (k + 1) c8) (k + 1) (((List.range (j + 1)).filter fun k => decide ((cellAt u.x.u.cells k).kind = 4)).map fun k : Nat => encI k)) := Lib.hid (by rw [HFL.out]; exact own8)
           clear own8 grow8 hv8 HO HNEW HI0 HZ0 HZ1 HZ2 ona U1 d0 bw on2 hU HFL
           go_wp2_with fail
           go_roundg (te - (j + 1))
           case measure => omega
           case rel => exact ⟨j + 1, c8, k + 1, A8, by omega, Nat.le_refl _, by go_num, rfl, by omega, HOa, bw3⟩
         · have hd : (e.kind == 4) = false := by simp [h4]
           have hfl : (List.range (j + 1)).filter (fun k => decide ((cellAt u.x.u.cells k).kind = 4)) = (List.range j).filter fun k => decide ((cellAt u.x.u.cells k).kind = 4) := by
            rw [List.range_succ, List.filter_append]
            simp [hce, h4]
           have HOa : Hid (Own wr w6.heap.size 3 1 (.slice B k yc) k (((List.range (j + 1)).filter fun k => decide ((cellAt u.x.u.cells k).kind = 4)).map fun k : Nat => encI k)) := Lib.hid (by rw [hfl]; exact HO.out)
           clear hfl h4 hce HO
           go_wp2_with fail
           go_roundg (te - (j + 1))
           case measure => omega
           case rel => exact ⟨j + 1, yc, k, B, by omega, Nat.le_refl _, by go_num, rfl, by omega, HOa, bw⟩
       · obtain rfl : j = te := by omega
         have HQ2 : Hid (q = ((List.range j).filter (fun k => decide ((cellAt u.x.u.cells k).kind = 4)), 0)) := Lib.hid (by rw [HQ.out, HHOL.out, ← HTE.out])
         go_wp2_with fail
         refine bodyPost_ret (v := .tuple #[.slice B k yc, .int .i64 0]) (by simp [results, Tryz.results38, go_sem]) rfl ?_
         rw [HQ2.out]
         exact ⟨B, k, yc, rfl, HO.out.sl, HO.out.le_cap, HO.out.cap_max, on2, fun a e => Nat.le_trans hv (HO.out.fresh (Nat.le_refl _) a e)⟩
 · have hd : (g != 0) = true := by simpa using hg0
   have HQ2 : Hid (q = ([], g)) := Lib.hid (by rw [HQ.out, if_pos hg0])
   clear hg0
   go_wp2_with fail
   refine bodyPost_ret (v := .tuple #[.slice none 0 0, .int .i64 g]) (by simp [results, Tryz.results38, go_sem]) rfl ?_
   rw [HQ2.out]
   exact ⟨none, 0, 0, rfl, Sl.nil, by omega, by simp [maxLen], on, Fresh.none_ _⟩
end
section
set_option linter.unusedSimpArgs false
set_option linter.unusedVariables false
def ofH (k c : Int) : Hap := ⟨k, c, 0, 0, 0, zeroE⟩
def toE : Entry := ⟨1, 2, 5, 3, 0⟩
def toX : Hap := ⟨1, 0, 0, 0, 0, toE⟩
def tlE : Entry := ⟨1, 1, 5, 3, 0⟩
def tlA : List Hap := [toX, ofH 3 0, ⟨1, 1, 0, 0, 0, tlE⟩, ofH 3 1, ofH 4 1, ofH 4 1, ofH 4 1]
def tlB : List Hap := [⟨6, 1, 0, 0, 0, zeroE⟩, ofH 4 1, ofH 4 1, ofH 4 1, ofH 4 0]
def tlW : Wor := (runW newW tlA).1
def tlV : Wor := (runW tlW tlB).1
theorem tl_said : (runW newW tlA).2 = ([0, 0, 0, 0, 0, 0, 0], 0) := by decide +kernel
theorem tl_more : (runW tlW tlB).2 = ([0, 0, 0, 0, 0], 0) := by decide +kernel
theorem tl_holes : holesW tlW = ([0], 0) := by decide +kernel
theorem tl_log : logW tlW = ([], 0) := by decide +kernel
theorem tl_log2 : logW tlV = ([zeroE, tlE], 0) := by decide +kernel
theorem tl_book : (bookW tlV).2 = 0 ∧ (bookW tlV).1.jobs.length = 1 := by decide +kernel
theorem tl_do : (cliAt tlV.c 0).doing = 1 := by decide +kernel
end
section
set_option linter.unusedSimpArgs false
set_option linter.unusedVariables false
open Go.RowKit
attribute [local go_sem ↓] Go.wp_at_zero Go.wp_at_succ
theorem encH_len (l : List Hap) : ∀ r ∈ l.map encH, r.length = 10 := fun r hr => by obtain ⟨v, _, rfl⟩ := List.mem_map.1 hr; rfl
end
section
set_option linter.unusedSimpArgs false
set_option linter.unusedVariables false
open Go.RowKit
set_option maxHeartbeats 1000000 in
theorem EqualI_calls (A A' : Option Addr) (n m c d B : Nat) (l l' : List Int) (w : World) (h : Sl w B 1 A n (l.map encI)) (h' : Sl w B 1 A' m (l'.map encI)) (hn : n ≤ 9223372036854775807) :
    Calls Tryz.prog 63 #[.slice A n c, .slice A' m d] w fun e w' => e = .returned (.bool (decide (l = l'))) ∧ ∃ q, w' = w.drewN q := by
 by_cases hnm : n = m
 · subst hnm
   go_enter Tryz.func63, Tryz.ntmps63
   go_wp2
   go_loopg [13] n (fun g s13 wr => ∃ kk q : Nat, kk ≤ n ∧ n - kk ≤ g ∧ s13 = .int .i64 kk ∧ wr = w.drewN q ∧ Hid (∀ j, j < kk → l[j]? = l'[j]?))
   case atStart => exact ⟨0, 0, Nat.zero_le _, by omega, rfl, rfl, fun j hj => absurd hj (Nat.not_lt_zero _)⟩
   case round =>
    obtain ⟨kk, q, hkk, hg, rfl, rfl, H⟩ := hrel
    by_cases hlt : kk < n
    · obtain ⟨b, off, x, rfl, hb, hx, c0⟩ := h.atI hlt
      obtain ⟨b', off', x', rfl, hb', hx', d0⟩ := h'.atI hlt
      have HX := Lib.hid hx; have HX' := Lib.hid hx'; clear hx hx'
      clear h h'
      go_wp2_with fail
      go_quiet (fail)
      go_wp2
      · go_ret
        refine ⟨?_, q + nq, by simp⟩
        have hd : l ≠ l' := by
         rintro rfl
         have := HX.out.symm.trans HX'.out
         simp at this; subst this; simp_all
        simp [hd]
      · go_roundg (n - (kk + 1))
        case measure => omega
        case rel =>
         refine ⟨kk + 1, q + nq, by omega, by omega, by go_num, by simp, ?_⟩
         intro j hj
         by_cases e : j = kk
         · subst e
           rw [HX.out, HX'.out]; congr 1; simp_all
         · exact H.out j (by omega)
    · have : kk = n := by omega
      subst this
      have hl := h.len; have hl' := h'.len
      simp at hl hl'
      have he : l = l' := list_eq_of (by omega) (fun j hj => H.out j (by omega))
      clear h h' hl hl'
      go_wp2
      go_ret
      refine ⟨by simp [he], q, rfl⟩
 · have hnm' : ¬ (n : Int) = (m : Int) := by omega
   have hd : l ≠ l' := by
    rintro rfl
    exact hnm (h.len.symm.trans h'.len)
   clear h h'
   go_enter Tryz.func63, Tryz.ntmps63
   go_wp2
   go_ret
   exact ⟨by simp [hd], 0, rfl⟩
end
section
set_option linter.unusedSimpArgs false
set_option linter.unusedVariables false
open Go.RowKit
attribute [local go_sem ↓] Go.wp_at_zero Go.wp_at_succ
theorem z7 : ([0, 0, 0, 0, 0, 0, 0] : List Int).map encI = [encI 0, encI 0, encI 0, encI 0, encI 0, encI 0, encI 0] := rfl
theorem goodtl : GoodW tlV := by
 obtain ⟨_, h⟩ := runW_good (w := newW) (l := tlA) (by rw [tl_said])
 exact (runW_good (w := tlW) (l := tlB) (by rw [tl_more])).2
theorem encE_len (l : List Entry) : ∀ r ∈ l.map encE, r.length = 5 := fun r hr => by obtain ⟨v, _, rfl⟩ := List.mem_map.1 hr; rfl
theorem encI_len (l : List Int) : ∀ r ∈ l.map encI, r.length = 1 := fun r hr => by obtain ⟨v, _, rfl⟩ := List.mem_map.1 hr; rfl
theorem encI_uno (l : List Int) : ∀ r ∈ l.map encI, ∀ u ∈ r, u.oneCell' = true := fun r hr u hu => by
 obtain ⟨v, _, rfl⟩ := List.mem_map.1 hr
 simp [encI] at hu
 subst hu; rfl
set_option maxHeartbeats 8000000 in
set_option maxRecDepth 100000 in
theorem told_calls (w : World) (E : Env w) : Calls Tryz.prog 28 #[] w fun e w' => e = .returned (.bool true) ∧ Onto w w' := by
 go_enter Tryz.func28, Tryz.ntmps28
 go_wp2_with fail
 refine Calls.mono (WNew_calls _) ?_
 rintro e w1 ⟨A, n, C, m, ns, cs, rfl, R, hW, on⟩
 have HW := Lib.hid hW
 clear hW
 go_wp2_with fail
 refine Calls.mono (put_calls 2 5 3 _) ?_
 rintro e w2 ⟨rfl, b⟩
 replace b : Onto w1 w2 := b
 replace on := on.to b
 replace R := R.onto b
 clear b
 go_wp2_with fail
 refine Calls.mono (tlOf_calls 3 0 _) ?_
 rintro e w3 ⟨rfl, b⟩
 replace on := on.to b
 replace R := R.onto b
 clear b
 go_wp2_with fail
 refine Calls.mono (put_calls 1 5 3 _) ?_
 rintro e w4 ⟨rfl, b⟩
 replace b : Onto w3 w4 := b
 replace on := on.to b
 replace R := R.onto b
 clear b
 go_wp2_with fail
 refine Calls.mono (tlOf_calls 3 1 _) ?_
 rintro e w5 ⟨rfl, b⟩
 replace on := on.to b
 replace R := R.onto b
 clear b
 go_wp2_with fail
 refine Calls.mono (tlOf_calls 4 1 _) ?_
 rintro e w6 ⟨rfl, b⟩
 replace on := on.to b
 replace R := R.onto b
 clear b
 go_wp2_with fail
 refine Calls.mono (tlOf_calls 4 1 _) ?_
 rintro e w7 ⟨rfl, b⟩
 replace on := on.to b
 replace R := R.onto b
 clear b
 go_wp2_with fail
 refine Calls.mono (tlOf_calls 4 1 _) ?_
 rintro e w8 ⟨rfl, b⟩
 replace on := on.to b
 replace R := R.onto b
 clear b
 have oA := (Onto.rfl' w8).new (Obj.cells #[.int .i64 1, .int .i64 0, .int .i64 0, .int .i64 0, .int .i64 0, .int .i64 1, .int .i64 2, .int .i64 5, .int .i64 3, .int .i64 0, .int .i64 3, .int .i64 0, .int .i64 0, .int .i64 0, .int .i64 0, .int .i64 0, .int .i64 0, .int .i64 0, .int .i64 0, .int .i64 0, .int .i64 1, .int .i64 1, .int .i64 0, .int .i64 0, .int .i64 0, .int .i64 1, .int .i64 1, .int .i64 5, .int .i64 3, .int .i64 0, .int .i64 3, .int .i64 1, .int .i64 0, .int .i64 0, .int .i64 0, .int .i64 0, .int .i64 0, .int .i64 0, .int .i64 0, .int .i64 0, .int .i64 4, .int .i64 1, .int .i64 0, .int .i64 0, .int .i64 0, .int .i64 0, .int .i64 0, .int .i64 0, .int .i64 0, .int .i64 0, .int .i64 4, .int .i64 1, .int .i64 0, .int .i64 0, .int .i64 0, .int .i64 0, .int .i64 0, .int .i64 0, .int .i64 0, .int .i64 0, .int .i64 4, .int .i64 1, .int .i64 0, .int .i64 0, .int .i64 0, .int .i64 0, .int .i64 0, .int .i64 0, .int .i64 0, .int .i64 0] 29)
 have SA : S (w8.alloc (Obj.cells #[.int .i64 1, .int .i64 0, .int .i64 0, .int .i64 0, .int .i64 0, .int .i64 1, .int .i64 2, .int .i64 5, .int .i64 3, .int .i64 0, .int .i64 3, .int .i64 0, .int .i64 0, .int .i64 0, .int .i64 0, .int .i64 0, .int .i64 0, .int .i64 0, .int .i64 0, .int .i64 0, .int .i64 1, .int .i64 1, .int .i64 0, .int .i64 0, .int .i64 0, .int .i64 1, .int .i64 1, .int .i64 5, .int .i64 3, .int .i64 0, .int .i64 3, .int .i64 1, .int .i64 0, .int .i64 0, .int .i64 0, .int .i64 0, .int .i64 0, .int .i64 0, .int .i64 0, .int .i64 0, .int .i64 4, .int .i64 1, .int .i64 0, .int .i64 0, .int .i64 0, .int .i64 0, .int .i64 0, .int .i64 0, .int .i64 0, .int .i64 0, .int .i64 4, .int .i64 1, .int .i64 0, .int .i64 0, .int .i64 0, .int .i64 0, .int .i64 0, .int .i64 0, .int .i64 0, .int .i64 0, .int .i64 4, .int .i64 1, .int .i64 0, .int .i64 0, .int .i64 0, .int .i64 0, .int .i64 0, .int .i64 0, .int .i64 0, .int .i64 0] 29)) 10 (some ⟨w8.heap.size, 0, none⟩) 7 (tlA.map encH) := by
  have := Sl.block (w := (w8.alloc (Obj.cells #[.int .i64 1, .int .i64 0, .int .i64 0, .int .i64 0, .int .i64 0, .int .i64 1, .int .i64 2, .int .i64 5, .int .i64 3, .int .i64 0, .int .i64 3, .int .i64 0, .int .i64 0, .int .i64 0, .int .i64 0, .int .i64 0, .int .i64 0, .int .i64 0, .int .i64 0, .int .i64 0, .int .i64 1, .int .i64 1, .int .i64 0, .int .i64 0, .int .i64 0, .int .i64 1, .int .i64 1, .int .i64 5, .int .i64 3, .int .i64 0, .int .i64 3, .int .i64 1, .int .i64 0, .int .i64 0, .int .i64 0, .int .i64 0, .int .i64 0, .int .i64 0, .int .i64 0, .int .i64 0, .int .i64 4, .int .i64 1, .int .i64 0, .int .i64 0, .int .i64 0, .int .i64 0, .int .i64 0, .int .i64 0, .int .i64 0, .int .i64 0, .int .i64 4, .int .i64 1, .int .i64 0, .int .i64 0, .int .i64 0, .int .i64 0, .int .i64 0, .int .i64 0, .int .i64 0, .int .i64 0, .int .i64 4, .int .i64 1, .int .i64 0, .int .i64 0, .int .i64 0, .int .i64 0, .int .i64 0, .int .i64 0, .int .i64 0, .int .i64 0] 29))) (k := 10) (tlA.map encH) (heap_alloc_new w8 _) (encH_len _) rfl
  exact this
 have on1 := on.to oA; have R1 := R.onto oA
 have HS := Lib.hid SA; have HR := Lib.hid R1; have HON := Lib.hid on1
 clear SA oA on1 R1 R on
 go_wp2_with fail
 refine Calls.mono (WRun_calls A 3 n 0 C 3 m 0 ns cs (some ⟨w8.heap.size, 0, none⟩) 7 7 tlA _ (E.onto HON.out) HR.out HS.out) ?_
 rw [HW.out]
 rintro e w9 ⟨A1, n1, c1, C1, m1, d1, ns1, cs1, B, b, y, rfl, R, e1, e2, SE, hby, hym, b10, _⟩
 have on := HON.out.to b10
 clear HS HR HON b10
 have hs1 : (runW newW tlA).2.1 = [0, 0, 0, 0, 0, 0, 0] := by rw [tl_said]
 have hs2 : (runW newW tlA).2.2 = 0 := by rw [tl_said]
 rw [hs1] at SE
 rw [hs2]
 have hb7 : 7 = b := by have := SE.len; simpa using this
 subst hb7
 obtain ⟨tp, htp⟩ : ∃ t, t = (runW newW tlA).1.tip := ⟨_, rfl⟩
 obtain ⟨tm, htm⟩ : ∃ t, t = (runW newW tlA).1.time := ⟨_, rfl⟩
 rw [← htp, ← htm]
 have hw : wor ns1 tp cs1 tm = tlW := by rw [htp, htm]; exact wor_of e1 e2
 have HWL := Lib.hid hw
 have oSE : OffN 7 w9.heap.size B := SE.offN (Nat.le_refl _)
 have hwz := on.size
 clear htp htm hw e1 e2 hs1 hs2 HW
 go_upto_region 3 with fail
 have WZ := WBox.made w9 A1 C1 n1 c1 m1 d1 tp tm 25
 have ob := (Onto.rfl' w9).new (Obj.cells #[.slice A1 n1 c1, .int .i64 tp, .slice C1 m1 d1, .int .i64 tm] 25)
 have ZW : Bx (w9.alloc (Obj.cells #[.slice A1 n1 c1, .int .i64 tp, .slice C1 m1 d1, .int .i64 tm] 25)) w9.heap.size [.slice A1 n1 c1, .int .i64 tp, .slice C1 m1 d1, .int .i64 tm] := Bx.made _ _ _
 replace on := on.to ob
 replace R := R.onto ob
 replace SE := SE.onto ob
 clear ob
 try change Code.wp _ _ _ _ (w9.alloc (Obj.cells #[.slice A1 n1 c1, .int .i64 tp, .slice C1 m1 d1, .int .i64 tm] 25))
 generalize (w9.alloc (Obj.cells #[.slice A1 n1 c1, .int .i64 tp, .slice C1 m1 d1, .int .i64 tm] 25)) = v10 at *
 generalize w9.heap.size = zw at *
 have hzw := ZW.lt
 have z0 := ZW.at_ 0 rfl; have z1 := ZW.at_ 1 rfl; have z2 := ZW.at_ 2 rfl; have z3 := ZW.at_ 3 rfl
 go_wp2_with fail
 refine Calls.mono (SHoles_calls A1 n1 c1 tp C1 m1 d1 tm ns1 cs1 _ (E.onto on) R) ?_
 rw [HWL.out, tl_holes]
 rintro e v11 ⟨Bh, bh, yh, rfl, SH, hbh, hyh, b, hfh⟩
 replace on := on.to b
 replace ZW := ZW.onto b
 replace R := R.onto b
 replace SE := SE.onto b
 replace WZ := WZ.onto b
 clear b
 clear z0 z1 z2 z3
 have hb1 : 1 = bh := by have := SH.len; simpa using this
 subst hb1
 replace SH : S v11 1 Bh 1 (([0] : List Int).map encI) := by simpa using SH
 have oSH : OffN 1 zw Bh := hfh.offN hzw
 clear hfh hzw hbh
 have z0 := ZW.at_ 0 rfl; have z1 := ZW.at_ 1 rfl; have z2 := ZW.at_ 2 rfl; have z3 := ZW.at_ 3 rfl
 go_wp2_with fail
 refine Calls.mono (SLog_calls A1 n1 c1 tp C1 m1 d1 tm ns1 cs1 _ (E.onto on) R) ?_
 rw [HWL.out, tl_log]
 rintro e v12 ⟨Bl, bl, yl, rfl, SLg, hbl, hyl, b, hfl⟩
 replace on := on.to b
 replace ZW := ZW.onto b
 replace R := R.onto b
 replace SE := SE.onto b
 replace WZ := WZ.onto b
 replace SH := SH.onto b
 clear b
 clear z0 z1 z2 z3
 have hb0 : 0 = bl := by have := SLg.len; simpa using this
 subst hb0
 clear SLg hbl hyl hfl
 have z0 := ZW.at_ 0 rfl; have z1 := ZW.at_ 1 rfl; have z2 := ZW.at_ 2 rfl; have z3 := ZW.at_ 3 rfl
 have sB : ∀ w' : World, S (w'.alloc (Obj.cells #[.int .i64 6, .int .i64 1, .int .i64 0, .int .i64 0, .int .i64 0, .int .i64 0, .int .i64 0, .int .i64 0, .int .i64 0, .int .i64 0, .int .i64 4, .int .i64 1, .int .i64 0, .int .i64 0, .int .i64 0, .int .i64 0, .int .i64 0, .int .i64 0, .int .i64 0, .int .i64 0, .int .i64 4, .int .i64 1, .int .i64 0, .int .i64 0, .int .i64 0, .int .i64 0, .int .i64 0, .int .i64 0, .int .i64 0, .int .i64 0, .int .i64 4, .int .i64 1, .int .i64 0, .int .i64 0, .int .i64 0, .int .i64 0, .int .i64 0, .int .i64 0, .int .i64 0, .int .i64 0, .int .i64 4, .int .i64 0, .int .i64 0, .int .i64 0, .int .i64 0, .int .i64 0, .int .i64 0, .int .i64 0, .int .i64 0, .int .i64 0] 29)) 10 (some ⟨w'.heap.size, 0, none⟩) 5 (tlB.map encH) := fun w' => by
  have := Sl.block (w := (w'.alloc (Obj.cells #[.int .i64 6, .int .i64 1, .int .i64 0, .int .i64 0, .int .i64 0, .int .i64 0, .int .i64 0, .int .i64 0, .int .i64 0, .int .i64 0, .int .i64 4, .int .i64 1, .int .i64 0, .int .i64 0, .int .i64 0, .int .i64 0, .int .i64 0, .int .i64 0, .int .i64 0, .int .i64 0, .int .i64 4, .int .i64 1, .int .i64 0, .int .i64 0, .int .i64 0, .int .i64 0, .int .i64 0, .int .i64 0, .int .i64 0, .int .i64 0, .int .i64 4, .int .i64 1, .int .i64 0, .int .i64 0, .int .i64 0, .int .i64 0, .int .i64 0, .int .i64 0, .int .i64 0, .int .i64 0, .int .i64 4, .int .i64 0, .int .i64 0, .int .i64 0, .int .i64 0, .int .i64 0, .int .i64 0, .int .i64 0, .int .i64 0, .int .i64 0] 29))) (k := 10) (tlB.map encH) (heap_alloc_new w' _) (encH_len _) rfl
  exact this
 have HSB := Lib.hid sB
 clear sB
 go_upto_region 5 with fail
 go_cut [9, 10] (fun s9 s10 wx => ∃ (A2 : Option Addr) (n2 c2 : Nat) (C2 : Option Addr) (m2 d2 : Nat) (ns2 : List NV) (cs2 : List CV) (B2 : Option Addr) (b2 y2 : Nat), s9 = .slice B2 b2 y2 ∧ s10 = .int .i64 0 ∧ Bx wx zw [.slice A2 n2 c2, .int .i64 tlV.tip, .slice C2 m2 d2, .int .i64 tlV.time] ∧ WR wx A2 n2 C2 m2 ns2 cs2 ∧ wor ns2 tlV.tip cs2 tlV.time = tlV ∧ S wx 1 B2 b2 (([0, 0, 0, 0, 0] : List Int).map encI) ∧ b2 ≤ y2 ∧ y2 ≤ maxLen ∧ S wx 1 B 7 (([0, 0, 0, 0, 0, 0, 0] : List Int).map encI) ∧ S wx 1 Bh 1 (([0] : List Int).map encI) ∧ Onto w wx)
 case first =>
  go_region_law (first
   | (go_simp; go_at_call 61; refine Calls.mono (tlOf_calls _ _ _) ?_; rintro e wq ⟨rfl, ob⟩; have bb : Onto v12 wq := Onto.to (by with_reducible (first | exact Onto.rfl' _ | assumption | (repeat (first | exact Onto.rfl' _ | assumption | refine Onto.draw ?_ | refine Onto.new ?_ _)))) ob; have u0 := cellB bb z0; have u1 := cellB bb z1; have u2 := cellB bb z2; have u3 := cellB bb z3; have hlq : zw < wq.heap.size := Nat.lt_of_lt_of_le ZW.lt bb.size; clear ob)
   | (go_simp; go_at_call 19; go_loud (refine Calls.mono (WRun_calls A1 n1 c1 tp C1 m1 d1 tm ns1 cs1 (some ⟨_, 0, none⟩) 5 5 tlB _ (E.onto (on.to (by with_reducible (first | exact Onto.rfl' _ | assumption | (repeat (first | exact Onto.rfl' _ | assumption | refine Onto.draw ?_ | refine Onto.new ?_ _)))))) (R.onto (by with_reducible (first | exact Onto.rfl' _ | assumption | (repeat (first | exact Onto.rfl' _ | assumption | refine Onto.draw ?_ | refine Onto.new ?_ _))))) (by first | exact HSB.out _ | exact (HSB.out _).onto (Onto.rfl' _).draw)) ?_); rw [HWL.out]; rintro e w6 ⟨A2, n2, c2, C2, m2, d2, ns2, cs2, B2, b2, y2, rfl, R2, e1, e2, S2, hb2, hy2, ob, hf2⟩; rw [show (runW tlW tlB).2.2 = 0 by rw [tl_more], show (runW tlW tlB).1 = tlV from rfl]; rw [show (runW tlW tlB).1 = tlV from rfl] at e1 e2; rw [show (runW tlW tlB).2.1 = [0, 0, 0, 0, 0] by rw [tl_more]] at S2; have b6 : Onto v12 w6 := Onto.to (by with_reducible (first | exact Onto.rfl' _ | assumption | (repeat (first | exact Onto.rfl' _ | assumption | refine Onto.draw ?_ | refine Onto.new ?_ _)))) ob; have V := ZW.onto b6; have WV := WZ.onto b6; have u0 := V.at_ 0 rfl; have u1 := V.at_ 1 rfl; have u2 := V.at_ 2 rfl; have u3 := V.at_ 3 rfl; have t0 := V.froz 0; have t1 := V.froz 1; have t2 := V.froz 2; have t3 := V.froz 3; have on6 := on.to b6; have SE6 := SE.onto b6; have SH6 := SH.onto b6; have o2 : OffN b2 zw B2 := hf2.offN (Nat.lt_of_lt_of_le ZW.lt (by have h9 : ∀ w', Onto v12 w' → v12.heap.size ≤ w'.heap.size := fun _ h => h.size; exact h9 _ (by with_reducible (first | exact Onto.rfl' _ | assumption | (repeat (first | exact Onto.rfl' _ | assumption | refine Onto.draw ?_ | refine Onto.new ?_ _)))))); clear ob hf2))
  all_goals
   go_wp2_with fail
   go_meet
   have t := Turn.four (w := w6) (z := zw) (.slice A2 n2 c2) (.int .i64 tlV.tip) (.slice C2 m2 d2) (.int .i64 tlV.time)
   exact ⟨A2, n2, c2, C2, m2, d2, ns2, cs2, B2, b2, y2, rfl, rfl, V.four _ _ _ _, WV.all R2 t, wor_of e1 e2, S2.grown t (fun g hg => by injection hg with hg; subst hg; exact o2), hb2, hy2, SE6.grown t (fun g hg => by injection hg with hg; subst hg; exact oSE), SH6.grown t (fun g hg => by injection hg with hg; subst hg; exact oSH), on6.four hwz _ _ _ _⟩
 case rest =>
  obtain ⟨A2, n2, c2, C2, m2, d2, ns2, cs2, B2, b2, y2, rfl, rfl, BW, R2, hw2, S2, hb2, hy2, SE2, SH2, on2⟩ := hcut
  clear z0 z1 z2 z3 ZW WZ R SE SH on HSB HWL oSE oSH
  have hb5 : 5 = b2 := by have := S2.len; simpa using this
  subst hb5
  have HW2 := Lib.hid hw2
  clear hw2
  have on := on2
  clear on2
  generalize wc = x0 at *
  obtain ⟨tp2, htp2⟩ : ∃ t, t = tlV.tip := ⟨_, rfl⟩
  obtain ⟨tm2, htm2⟩ : ∃ t, t = tlV.time := ⟨_, rfl⟩
  rw [← htp2, ← htm2] at BW
  have hwv : wor ns2 tp2 cs2 tm2 = tlV := by rw [htp2, htm2]; exact HW2.out
  have HWV := Lib.hid hwv
  clear hwv HW2 htp2 htm2
  have z0 := BW.at_ 0 rfl; have z1 := BW.at_ 1 rfl; have z2 := BW.at_ 2 rfl; have z3 := BW.at_ 3 rfl
  go_wp2_with fail
  refine Calls.mono (SLog_calls A2 n2 c2 tp2 C2 m2 d2 tm2 ns2 cs2 _ (E.onto on) R2) ?_
  rw [HWV.out, tl_log2]
  rintro e v101 ⟨B3, b3, y3, rfl, S3, hb3, hy3, b, _⟩
  replace on := on.to b
  replace BW := BW.onto b
  replace R2 := R2.onto b
  replace S2 := S2.onto b
  replace SE2 := SE2.onto b
  replace SH2 := SH2.onto b
  clear b
  clear z0 z1 z2 z3
  have hb2' : 2 = b3 := by have := S3.len; simpa using this
  subst hb2'
  have z0 := BW.at_ 0 rfl; have z1 := BW.at_ 1 rfl; have z2 := BW.at_ 2 rfl; have z3 := BW.at_ 3 rfl
  go_wp2_with fail
  refine Calls.mono (SBook_calls A2 n2 c2 tp2 C2 m2 d2 tm2 ns2 cs2 _ (E.onto on) R2) ?_
  rw [HWV.out]
  rintro e v102 ⟨A4, n4, c4, A5, n5, c5, rfl, s4, s5, b⟩
  replace on := on.to b
  replace BW := BW.onto b
  replace R2 := R2.onto b
  replace S2 := S2.onto b
  replace SE2 := SE2.onto b
  replace SH2 := SH2.onto b
  replace S3 := S3.onto b
  clear b
  clear z0 z1 z2 z3
  have hn4 : 1 = n4 := by have := s4.len; rw [List.length_map, tl_book.2] at this; exact this
  subst hn4
  rw [tl_book.1]
  have hl3 : 3 = m2 := by
   have h8 : tlV.c.length = 3 := (goodtl).c3
   have h9 : clis cs2 = tlV.c := by rw [← HWV.out]
   have h7 : (clis cs2).length = cs2.length := by simp [clis]
   rw [h9, h8] at h7
   exact h7.trans R2.clen
  subst hl3
  obtain ⟨bc, oc, vv, hC2, hbc, hv, vi, q0, q1, q2, q3, q4, q5, q6, q7, q8, q9, q10, q11⟩ := R2.atC (i := 0) (by omega)
  subst hC2
  have hvx : vv.x.doing = 1 := by
   have h9 : cliAt tlV.c 0 = vv.x := by rw [← HWV.out]; exact cliAt_cs hv
   rw [← h9]; exact tl_do
  rw [hvx] at q1
  simp only [Nat.zero_mul, Nat.add_zero] at q1
  clear q0 q2 q3 q4 q5 q6 q7 q8 q9 q10 q11 hv vi hvx hbc R2 s4 s5 HWV
  go_upto_region 8 with fail
  refine wp_box1 (v1 := [.slice A4 1 c4, .slice A5 n5 c5]) rfl fun x9 ox BB => ?_
  replace q1 := cellB ox q1
  replace on := on.to ox
  replace BW := BW.onto ox
  replace S2 := S2.onto ox
  replace SE2 := SE2.onto ox
  replace SH2 := SH2.onto ox
  replace S3 := S3.onto ox
  generalize v102.heap.size = zb at BB ⊢
  clear ox
  have oS := (Onto.rfl' x9).new (Obj.cells #[.slice B 7 y, .slice B2 5 y2] 54)
  have HZ : Hid (∀ i p, ([⟨B, 7, y, ([0, 0, 0, 0, 0, 0, 0] : List Int).map encI⟩, ⟨B2, 5, y2, ([0, 0, 0, 0, 0] : List Int).map encI⟩] : List Pt)[i]? = some p → (x9.alloc (Obj.cells #[.slice B 7 y, .slice B2 5 y2] 54)).cell? ⟨x9.heap.size, i, none⟩ = some (.slice p.A p.n p.c)) := Lib.hid fun i p hp => by
   match i with
   | 0 => simp at hp; subst hp; simp [go_sem]
   | 1 => simp at hp; subst hp; simp [go_sem]
   | i + 2 => simp at hp
  have HS : Hid (∀ p ∈ ([⟨B, 7, y, ([0, 0, 0, 0, 0, 0, 0] : List Int).map encI⟩, ⟨B2, 5, y2, ([0, 0, 0, 0, 0] : List Int).map encI⟩] : List Pt), Sl (x9.alloc (Obj.cells #[.slice B 7 y, .slice B2 5 y2] 54)) (x9.alloc (Obj.cells #[.slice B 7 y, .slice B2 5 y2] 54)).heap.size 1 p.A p.n p.rows) := Lib.hid fun p hp => by
   simp only [List.mem_cons, List.not_mem_nil, or_false] at hp
   rcases hp with rfl | rfl
   · exact SE2.onto oS
   · exact S2.onto oS
  have H1 : Hid (∀ p ∈ ([⟨B, 7, y, ([0, 0, 0, 0, 0, 0, 0] : List Int).map encI⟩, ⟨B2, 5, y2, ([0, 0, 0, 0, 0] : List Int).map encI⟩] : List Pt), ∀ r ∈ p.rows, ∀ u ∈ r, u.oneCell' = true) := Lib.hid fun p hp => by
   simp only [List.mem_cons, List.not_mem_nil, or_false] at hp
   rcases hp with rfl | rfl
   all_goals exact encI_uno _
  clear SE2 S2
  replace q1 := cellB oS q1
  replace on := on.to oS
  replace BW := BW.onto oS
  replace BB := BB.onto oS
  replace SH2 := SH2.onto oS
  replace S3 := S3.onto oS
  clear oS
  go_wp2_with fail
  refine Calls.mono (ConcatNN_calls _ [⟨B, 7, y, ([0, 0, 0, 0, 0, 0, 0] : List Int).map encI⟩, ⟨B2, 5, y2, ([0, 0, 0, 0, 0] : List Int).map encI⟩] x9.heap.size 2 HZ.out HS.out H1.out (by simp) (by simp) (by simp [lenP])) ?_
  rintro e x10 ⟨A6, c6, rfl, ow, b⟩
  have SC : S x10 1 A6 12 (([0, 0, 0, 0, 0, 0, 0, 0, 0, 0, 0, 0] : List Int).map encI) := ow.sl
  replace q1 := cellB b q1
  replace on := on.to b
  replace BW := BW.onto b
  replace BB := BB.onto b
  replace SH2 := SH2.onto b
  replace S3 := S3.onto b
  clear b ow HZ HS H1
  go_wp2_with fail
  refine Calls.mono (ContainsFuncN_calls A6 12 c6 _ 62 (fun x => decide (x ≠ 0)) _ SC (by omega) (fun _ _ => by kernel_rfl) (fun x w' _ => tlBad_calls x w')) ?_
  rw [show decide (0 ≤ idxI (fun x : Int => decide (x ≠ 0)) [0, 0, 0, 0, 0, 0, 0, 0, 0, 0, 0, 0]) = false by decide]
  rintro e x11 ⟨rfl, b⟩
  replace q1 := cellB b q1
  replace on := on.to b
  replace BW := BW.onto b
  replace BB := BB.onto b
  replace SH2 := SH2.onto b
  replace S3 := S3.onto b
  clear b SC
  have oI := (Onto.rfl' x11).new (Obj.cells #[.int .i64 0] 3)
  have SI : S (x11.alloc (Obj.cells #[.int .i64 0] 3)) 1 (some ⟨x11.heap.size, 0, none⟩) 1 (([0] : List Int).map encI) := by
   have := Sl.block (w := (x11.alloc (Obj.cells #[.int .i64 0] 3))) (k := 1) (([0] : List Int).map encI) (heap_alloc_new x11 _) (encI_len _) rfl
   exact this
  replace q1 := cellB oI q1
  replace on := on.to oI
  replace BW := BW.onto oI
  replace BB := BB.onto oI
  replace SH2 := SH2.onto oI
  replace S3 := S3.onto oI
  have HSI := Lib.hid SI
  clear oI SI
  go_wp2_with fail
  refine Calls.mono (EqualI_calls Bh (some ⟨x11.heap.size, 0, none⟩) 1 1 yh 1 _ [0] [0] _ SH2 HSI.out (by omega)) ?_
  rw [show decide (([0] : List Int) = [0]) = true by decide]
  rintro e x12 ⟨rfl, qd, hqd⟩
  have b : Onto (x11.alloc (Obj.cells #[.int .i64 0] 3)) x12 := by rw [hqd]; exact (Onto.rfl' _).draws _
  clear SH2 HSI
  replace q1 := cellB b q1
  replace on := on.to b
  replace BW := BW.onto b
  replace BB := BB.onto b
  replace S3 := S3.onto b
  clear b hqd
  go_wp2_with fail
  refine Calls.mono (put_calls 1 5 3 _) ?_
  rintro e x13 ⟨rfl, b⟩
  replace b : Onto x12 x13 := b
  replace q1 := cellB b q1
  replace on := on.to b
  replace BW := BW.onto b
  replace BB := BB.onto b
  replace S3 := S3.onto b
  clear b
  have oI := (Onto.rfl' x13).new (Obj.cells #[.int .i64 0, .int .i64 0, .int .i64 0, .int .i64 0, .int .i64 0, .int .i64 1, .int .i64 1, .int .i64 5, .int .i64 3, .int .i64 0] 27)
  have SI : S (x13.alloc (Obj.cells #[.int .i64 0, .int .i64 0, .int .i64 0, .int .i64 0, .int .i64 0, .int .i64 1, .int .i64 1, .int .i64 5, .int .i64 3, .int .i64 0] 27)) 5 (some ⟨x13.heap.size, 0, none⟩) 2 ([zeroE, tlE].map encE) := by
   have := Sl.block (w := (x13.alloc (Obj.cells #[.int .i64 0, .int .i64 0, .int .i64 0, .int .i64 0, .int .i64 0, .int .i64 1, .int .i64 1, .int .i64 5, .int .i64 3, .int .i64 0] 27))) (k := 5) ([zeroE, tlE].map encE) (heap_alloc_new x13 _) (encE_len _) rfl
   exact this
  replace q1 := cellB oI q1
  replace on := on.to oI
  replace BW := BW.onto oI
  replace BB := BB.onto oI
  replace S3 := S3.onto oI
  have HSI := Lib.hid SI
  clear oI SI
  go_wp2_with fail
  refine Calls.mono (EqualE_calls B3 (some ⟨x13.heap.size, 0, none⟩) 2 2 y3 2 _ [zeroE, tlE] [zeroE, tlE] _ S3 HSI.out (by omega)) ?_
  rw [show decide ([zeroE, tlE] = [zeroE, tlE]) = true by simp]
  rintro e x14 ⟨rfl, qd, hqd⟩
  have b : Onto (x13.alloc (Obj.cells #[.int .i64 0, .int .i64 0, .int .i64 0, .int .i64 0, .int .i64 0, .int .i64 1, .int .i64 1, .int .i64 5, .int .i64 3, .int .i64 0] 27)) x14 := by rw [hqd]; exact (Onto.rfl' _).draws _
  clear S3 HSI
  replace q1 := cellB b q1
  replace on := on.to b
  replace BW := BW.onto b
  replace BB := BB.onto b
  clear b hqd
  have r0 := BB.at_ 0 rfl; have z2 := BW.at_ 2 rfl
  go_wp2_with fail
  go_ret
  exact ⟨by first | rfl | simp, on⟩
end
section
set_option linter.unusedSimpArgs false
set_option linter.unusedVariables false
open Go.RowKit
attribute [local go_sem ↓] Go.wp_at_zero Go.wp_at_succ
structure Plays (P : Wor → World → Prop) (g : FuncId) (lb : Array Value) (row : Option Nat) (A : Option Addr) (k : Nat) (l : List Hap) (w0 : World) : Prop where
 start : P newW w0
 onto : ∀ x w w', P x w → Onto w w' → P x w'
 turn : ∀ x w w' z, w0.heap.size ≤ z → P x w → WBox w z → Turn w w' z → P x w'
 env : ∀ x w, P x w → Env w
 hap : ∀ x w, P x w → S w 10 A k (l.map encH)
 far : ∀ x w w' A n C m ns cs, P x w → WR w A n C m ns cs → w.grownBy w' row → WR w' A n C m ns cs
 low : ∀ b, row = some b → b < w0.heap.size
 enter : ∀ args w, (callFunc g args).run Tryz.prog w = .ok (.enter g args) w
 call : ∀ x w A n c C m d ns cs h, P x w → GoodW x → (happenW x h).2 = 0 → WR w A n C m ns cs → wor ns (happenW x h).1.tip cs (happenW x h).1.time = (happenW x h).1 →
  Calls Tryz.prog g (#[.agg #[.slice A n c, .int .i64 (happenW x h).1.tip, .slice C m d, .int .i64 (happenW x h).1.time]] ++ lb) w fun e w' => e = .returned (.bool true) ∧ P (happenW x h).1 w' ∧ w.grownBy w' row
def PlayPost (P : Wor → World → Prop) (e : Ending) (w' : World) : Prop :=
 ∃ x A n c C m d ns cs, e = .returned (.tuple #[.agg #[.slice A n c, .int .i64 x.tip, .slice C m d, .int .i64 x.time], .bool true]) ∧ P x w' ∧ GoodW x ∧ WR w' A n C m ns cs ∧ wor ns x.tip cs x.time = x
set_option maxHeartbeats 8000000 in
set_option maxRecDepth 100000 in
theorem Played_calls (P : Wor → World → Prop) (g : FuncId) (lb : Array Value) (row : Option Nat) (A0 : Option Addr) (k i : Nat) (l : List Hap) (w : World) (hki : k ≤ i) (Y : Plays P g lb row A0 k l w) :
    Calls Tryz.prog 24 #[.slice A0 k i, .func (.func g) #[] lb] w (PlayPost P) := by
 have eg := Y.enter
 have HY := Lib.hid Y
 clear Y
 obtain ⟨kk, hkk⟩ : ∃ kk, kk = min k 120 := ⟨_, rfl⟩
 have hkk1 : kk ≤ k := by omega
 go_enter Tryz.func24, Tryz.ntmps24
 go_upto_region 1 with fail
 have on := (Onto.rfl' w).new (Obj.cells #[.slice none 0 0, .int .i64 0, .slice none 0 0, .int .i64 0] 25)
 have Q : Bx (w.alloc (Obj.cells #[.slice none 0 0, .int .i64 0, .slice none 0 0, .int .i64 0] 25)) w.heap.size [.slice none 0 0, .int .i64 0, .slice none 0 0, .int .i64 0] := Bx.made _ _ _
 have WB := WBox.made w none none 0 0 0 0 0 0 25
 have HP := HY.out.onto _ _ _ HY.out.start on
 have HLOW : Hid (∀ b, row = some b → b < w.heap.size) := Lib.hid HY.out.low
 try change Code.wp _ _ _ _ (w.alloc (Obj.cells #[.slice none 0 0, .int .i64 0, .slice none 0 0, .int .i64 0] 25))
 generalize (w.alloc (Obj.cells #[.slice none 0 0, .int .i64 0, .slice none 0 0, .int .i64 0] 25)) = w1 at *
 generalize hz4 : w.heap.size = z4 at *
 have h4 : w.heap.size ≤ z4 := by omega
 clear on hz4
 go_wp2_with fail
 refine Calls.mono (WNew_calls _) ?_
 rintro e w2 ⟨A, n, C, m, ns, cs, rfl, R, hW, b⟩
 replace Q := Q.onto b; replace WB := WB.onto b; replace HP := HY.out.onto _ _ _ HP b
 clear b
 go_upto_region 2 with fail
 have ob := (Onto.rfl' w2).new (Obj.cells #[.slice A 3 n, .int .i64 0, .slice C 3 m, .int .i64 0] 25)
 have Z : Bx (w2.alloc (Obj.cells #[.slice A 3 n, .int .i64 0, .slice C 3 m, .int .i64 0] 25)) w2.heap.size [.slice A 3 n, .int .i64 0, .slice C 3 m, .int .i64 0] := Bx.made _ _ _
 have WZ := WBox.made w2 A C 3 n 3 m 0 0 25
 have hz : z4 < w2.heap.size := Q.lt
 replace Q := Q.onto ob; replace WB := WB.onto ob; replace R := R.onto ob; replace HP := HY.out.onto _ _ _ HP ob
 clear ob
 try change Code.wp _ _ _ _ (w2.alloc (Obj.cells #[.slice A 3 n, .int .i64 0, .slice C 3 m, .int .i64 0] 25))
 generalize (w2.alloc (Obj.cells #[.slice A 3 n, .int .i64 0, .slice C 3 m, .int .i64 0] 25)) = w3 at *
 generalize w2.heap.size = z6 at *
 have i0 : (0 : Int) ≤ (kk : Int) := by omega
 have i1 : (kk : Int) ≤ (i : Int) := by omega
 have hmin : (min (k : Int) 120) = (kk : Int) := by omega
 have HW := Lib.hid hW
 clear hW hkk
 have HP3 := Lib.hid HP
 clear HP
 go_wp2_with fail
 go_loopg [8, 9, 10, 18] kk (fun g s8 s9 s10 s18 wr => ∃ (j : Nat) (x : Wor) (A : Option Addr) (n c : Nat) (C : Option Addr) (m d : Nat) (ns : List NV) (cs : List CV), j ≤ kk ∧ kk - j ≤ g ∧ s18 = .int .i64 j ∧ Hid (P x wr) ∧ Hid (GoodW x) ∧ Bx wr z6 [.slice A n c, .int .i64 x.tip, .slice C m d, .int .i64 x.time] ∧ WBox wr z6 ∧ Bx wr z4 [.slice none 0 0, .int .i64 0, .slice none 0 0, .int .i64 0] ∧ WBox wr z4 ∧ WR wr A n C m ns cs ∧ Hid (wor ns x.tip cs x.time = x))
 case atStart => exact ⟨0, newW, A, 3, n, C, 3, m, ns, cs, by omega, by omega, rfl, HP3, Lib.hid GoodW.new, Z, WZ, Q, WB, R, HW⟩
 case round =>
  clear Z WZ Q WB R HP3 HW
  obtain ⟨j, x, A, n, c, C, m, d, ns, cs, hj, hg, rfl, HP, HG, Z, WZ, Q, WB, R, HW⟩ := hrel
  by_cases hlt : j < kk
  · obtain ⟨b0, off0, h, rfl, hb0, hx, hcx⟩ := (HY.out.hap _ _ HP.out).at_ (i := j) (by omega)
    have d0 : wr.cell? ⟨b0, off0 + j * 10, none⟩ = some (.int .i64 h.kind) := hcx 0 _ rfl; have d1 := hcx 1 _ rfl; have d2 := hcx 2 _ rfl; have d3 := hcx 3 _ rfl; have d4 := hcx 4 _ rfl; have d5 := hcx 5 _ rfl; have d6 := hcx 6 _ rfl; have d7 := hcx 7 _ rfl; have d8 := hcx 8 _ rfl; have d9 := hcx 9 _ rfl
    clear hcx hx hb0
    go_upto_region 5 with fail
    refine wp_box1 (v1 := [.int .i64 h.kind, .int .i64 h.client, .int .i64 h.n, .int .i64 h.job, .int .i64 h.epoch, .int .i64 h.e.kind, .int .i64 h.e.job, .int .i64 h.e.every, .int .i64 h.e.time, .int .i64 h.e.client]) rfl fun w5 b X => ?_
    replace Z := Z.onto b; replace WZ := WZ.onto b; replace Q := Q.onto b; replace WB := WB.onto b; replace R := R.onto b
    replace HP := Lib.hid (HY.out.onto _ _ _ HP.out b)
    clear b d0 d1 d2 d3 d4 d5 d6 d7 d8 d9
    generalize wr.heap.size = zx at *
    have E := HY.out.env _ _ HP.out
    have x0 := X.at_ 0 rfl; have x1 := X.at_ 1 rfl; have x2 := X.at_ 2 rfl; have x3 := X.at_ 3 rfl; have x4 := X.at_ 4 rfl; have x5 := X.at_ 5 rfl; have x6 := X.at_ 6 rfl; have x7 := X.at_ 7 rfl; have x8 := X.at_ 8 rfl; have x9 := X.at_ 9 rfl
    have z0 := Z.at_ 0 rfl; have z1 := Z.at_ 1 rfl; have z2 := Z.at_ 2 rfl; have z3 := Z.at_ 3 rfl
    obtain ⟨q, hq⟩ : ∃ q, q = doW x h := ⟨_, rfl⟩
    have HQ := Lib.hid hq
    clear hq
    go_wp2_with fail
    refine Calls.mono (WDo_calls A n c x.tip C m d x.time ns cs h.kind h.client h.n h.job h.epoch h.e _ E R) ?_
    rw [HW.out, show doW x ⟨h.kind, h.client, h.n, h.job, h.epoch, h.e⟩ = q from HQ.out.symm]
    rintro e w6 ⟨A1, n1, c1, C1, m1, d1, ns1, cs1, rfl, R1, e1, e2, b⟩
    replace Z := Z.onto b; replace WZ := WZ.onto b; replace Q := Q.onto b; replace WB := WB.onto b; replace R := R.onto b
    replace HP := Lib.hid (HY.out.onto _ _ _ HP.out b)
    have HW1 : Hid (wor ns1 q.1.tip cs1 q.1.time = q.1) := Lib.hid (wor_of e1 e2)
    clear b X E x0 x1 x2 x3 x4 x5 x6 x7 x8 x9 z0 z1 z2 z3 e1 e2
    go_upto_region 6 with fail
    refine wp_box1 (v1 := [.slice A1 n1 c1, .int .i64 q.1.tip, .slice C1 m1 d1, .int .i64 q.1.time]) rfl fun w7 b V => ?_
    replace Z := Z.onto b; replace WZ := WZ.onto b; replace Q := Q.onto b; replace WB := WB.onto b; replace R := R.onto b; replace R1 := R1.onto b
    replace HP := Lib.hid (HY.out.onto _ _ _ HP.out b)
    clear b
    generalize w6.heap.size = zv at *
    by_cases h0 : q.2 = 0
    · have hd : (q.2 == 0) = true := by simp [h0]
      obtain ⟨_, k1, k2, k3⟩ := doW_ok (w := x) (x := h) (by rw [← HQ.out]; exact h0)
      rw [← HQ.out] at k2 k3
      have K1 := Lib.hid k1; have K2 := Lib.hid k2; have K3 := Lib.hid k3
      clear h0 k1 k2 k3
      have v0 := V.at_ 0 rfl; have v1 := V.at_ 1 rfl; have v2 := V.at_ 2 rfl; have v3 := V.at_ 3 rfl
      have z0 := Z.at_ 0 rfl; have z1 := Z.at_ 1 rfl; have z2 := Z.at_ 2 rfl; have z3 := Z.at_ 3 rfl
      have g0 := Z.froz 0; have g1 := Z.froz 1; have g2 := Z.froz 2; have g3 := Z.froz 3
      go_upto_region 8 with fail
      have t := Turn.four (w := w7) (z := z6) (.slice A1 n1 c1) (.int .i64 q.1.tip) (.slice C1 m1 d1) (.int .i64 q.1.time)
      have R2 := WZ.all R1 t
      have Z2 := Z.four (.slice A1 n1 c1) (.int .i64 q.1.tip) (.slice C1 m1 d1) (.int .i64 q.1.time)
      have Q2 := Q.grown t (by intro e; injection e with e; omega)
      have WB2 := WB.turn t (by omega)
      have HP2 := Lib.hid (HY.out.turn _ _ _ _ (by omega) HP.out WZ t)
      have WZ2 := WZ.store A1 C1 n1 c1 m1 d1 q.1.tip q.1.time
      clear v0 v1 v2 v3 z0 z1 z2 z3 g0 g1 g2 g3 t V Z WZ Q WB R R1 HP
      try change Code.wp _ _ _ _ ((((w7.setCell ⟨z6, 0, none⟩ (.slice A1 n1 c1)).setCell ⟨z6, 1, none⟩ (.int .i64 q.1.tip)).setCell ⟨z6, 2, none⟩ (.slice C1 m1 d1)).setCell ⟨z6, 3, none⟩ (.int .i64 q.1.time))
      generalize ((((w7.setCell ⟨z6, 0, none⟩ (.slice A1 n1 c1)).setCell ⟨z6, 1, none⟩ (.int .i64 q.1.tip)).setCell ⟨z6, 2, none⟩ (.slice C1 m1 d1)).setCell ⟨z6, 3, none⟩ (.int .i64 q.1.time)) = w8 at *
      have z0 := Z2.at_ 0 rfl; have z1 := Z2.at_ 1 rfl; have z2 := Z2.at_ 2 rfl; have z3 := Z2.at_ 3 rfl
      go_wp2_with fail
      have hc := HY.out.call x w8 A1 n1 c1 C1 m1 d1 ns1 cs1 h HP2.out HG.out K1.out R2 (by rw [← K2.out]; exact HW1.out)
      rw [← K2.out] at hc
      refine Calls.mono hc ?_
      rintro e w9 ⟨rfl, hp9, gr⟩
      have R3 := HY.out.far _ _ _ _ _ _ _ _ _ HP2.out R2 gr
      have Z3 := Z2.grown gr (fun e => by have := HLOW.out _ e.symm; omega)
      have Q3 := Q2.grown gr (fun e => by have := HLOW.out _ e.symm; omega)
      have WZ3 := WZ2.gr gr (fun e => by have := HLOW.out _ e.symm; omega)
      have WB3 := WB2.gr gr (fun e => by have := HLOW.out _ e.symm; omega)
      have HP9 := Lib.hid hp9
      clear z0 z1 z2 z3 hc hp9 gr Z2 Q2 WZ2 WB2 R2 HP2
      go_wp2_with fail
      go_roundg (kk - (j + 1))
      case measure => omega
      case rel => exact ⟨j + 1, q.1, A1, n1, c1, C1, m1, d1, ns1, cs1, by omega, Nat.le_refl _, by go_num, HP9, K3, Z3, WZ3, Q3, WB3, R3, HW1⟩
    · have hd : (q.2 == 0) = false := by simpa using h0
      clear h0
      go_wp2_with fail
      go_roundg (kk - (j + 1))
      case measure => omega
      case rel => exact ⟨j + 1, x, A, n, c, C, m, d, ns, cs, by omega, Nat.le_refl _, by go_num, HP, HG, Z, WZ, Q, WB, R, HW⟩
  · obtain rfl : j = kk := by omega
    have z0 := Z.at_ 0 rfl; have z1 := Z.at_ 1 rfl; have z2 := Z.at_ 2 rfl; have z3 := Z.at_ 3 rfl
    have q0 := Q.at_ 0 rfl; have q1 := Q.at_ 1 rfl; have q2 := Q.at_ 2 rfl; have q3 := Q.at_ 3 rfl
    have f0 := Q.froz 0; have f1 := Q.froz 1; have f2 := Q.froz 2; have f3 := Q.froz 3
    go_wp2_with fail
    refine bodyPost_ret (v := .tuple #[.agg #[.slice A n c, .int .i64 x.tip, .slice C m d, .int .i64 x.time], .bool true]) (by simp [results, Tryz.results24, go_sem, q0, q1, q2, q3, f0, f1, f2, f3]) rfl ?_
    have t := Turn.four (w := wr) (z := z4) (.slice A n c) (.int .i64 x.tip) (.slice C m d) (.int .i64 x.time)
    exact ⟨x, A, n, c, C, m, d, ns, cs, rfl, HY.out.turn _ _ _ _ h4 HP.out WB t, HG.out, WB.all R t, HW.out⟩
end
end Go.Proofs.YtmppkaoonncddaaGreatDoor
