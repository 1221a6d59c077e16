/- The law StoryBooks. No condition beyond the listed variables, which the card ties. -/
/- Part 17 of the proof: LawS2, WBooks, WBooksL. -/
import Derived.Test.YtmppkaoonncddaaGreatDoorBaSt
import Derived.Test.YtmppkaoonncddaaGreatDoorBa02
import Derived.Test.YtmppkaoonncddaaGreatDoorBa06
import Derived.Test.YtmppkaoonncddaaGreatDoorBa09
import Derived.Test.YtmppkaoonncddaaGreatDoorBa04
import Derived.Test.YtmppkaoonncddaaGreatDoorCards
import Derived.Test.YtmppkaoonncddaaGreatDoorTie
import Derived.SevenTiedAt
namespace Go.Proofs.YtmppkaoonncddaaGreatDoor
section
set_option linter.unusedSimpArgs false
set_option linter.unusedVariables false
def SameB (c c' : Cli) : Prop := c'.played = c.played ∧ c'.b = c.b
theorem learnCl_b {c : Cli} {v : Int} (h : (learnCl c v).2 = 0) : SameB c (learnCl c v).1 := by
 obtain ⟨_, _, _, e⟩ := learnCl_keeps h; rw [e]; exact ⟨rfl, rfl⟩
theorem wantCl_b {c : Cli} {y : Entry} (h : (wantCl c y).2 = 0) : SameB c (wantCl c y).1 := by
 obtain ⟨_, _, _, _, e⟩ := wantCl_keeps h; rw [e]; exact ⟨rfl, rfl⟩
theorem ringCl_b {c : Cli} {me job t : Int} (h : (ringCl c me job t).2 = 0) : SameB c (ringCl c me job t).1 := by
 obtain ⟨j, _, _, _, e, h1⟩ := ringCl_keeps h; rw [e]; exact wantCl_b h1
theorem placeCl_b {c : Cli} {v : Int} (h : (placeCl c v).2 = 0) : SameB c (placeCl c v).1 := by
 obtain ⟨_, _, _, _, e⟩ := placeCl_keeps h; rw [e]; exact ⟨rfl, rfl⟩
theorem fillCl_b {c : Cli} {v : Int} (h : (fillCl c v).2 = 0) : SameB c (fillCl c v).1 := by
 obtain ⟨_, _, _, _, e⟩ := fillCl_keeps h; rw [e]; exact ⟨rfl, rfl⟩
theorem heardCl_b {c : Cli} {y : Entry} (h : (heardCl c y).2 = 0) : SameB c (heardCl c y).1 := by
 obtain ⟨_, _, _, h4⟩ := heardCl_keeps h
 rcases h4 with ⟨_, _, e⟩ | ⟨_, _, e⟩ | ⟨_, _, e⟩ <;> (rw [e]; exact ⟨rfl, rfl⟩)
theorem cliAt_setC {w : Wor} {i j : Nat} {c : Cli} (hi : i < w.c.length) : cliAt (setC w i c).c j = if j = i then c else cliAt w.c j := cliAt_set hi
theorem books_cases {w : Wor} {x : Hap} (h : GoodW w) (hx : (happenW w x).2 = 0) : ∀ j, j < 3 →
    SameB (cliAt w.c j) (cliAt (happenW w x).1.c j) ∨ cliAt (happenW w x).1.c j = newCl ∨
    (∃ s, (cliAt w.c j).played < 60 ∧ (happenW w x).1.n = w.n ∧ readC (unitsN w.n) (cliAt w.c j).played = (s, 0) ∧ (playCl (cliAt w.c j) s).2 = 0 ∧ cliAt (happenW w x).1.c j = (playCl (cliAt w.c j) s).1) := by
 intro j hj
 have hcl := h.c3
 have put : ∀ {y : Wor} {i : Nat} {c' : Cli}, y.c = w.c → i < 3 → SameB (cliAt w.c i) c' → SameB (cliAt w.c j) (cliAt (setC y i c').c j) := fun {y i c'} hy hi hs => by
  rw [cliAt_setC (by rw [hy]; omega), hy]
  split
  · rename_i e; subst e; exact hs
  · exact ⟨rfl, rfl⟩
 rcases happen_inv hx with ⟨_, h1, h2, e⟩ | ⟨_, h1, h2, e⟩ | ⟨k, hk, hn, hh⟩ | ⟨i, hi, hc, hh⟩
 · rw [e]; exact .inl ⟨rfl, rfl⟩
 · rw [e]; exact .inl ⟨rfl, rfl⟩
 · rcases hh with ⟨_, h2, e⟩ | ⟨_, h2, h3, e⟩ | ⟨_, h2, h3, e⟩ | ⟨_, h2, i, hi, hc, h3, e⟩
   · rw [e]; exact .inl ⟨rfl, rfl⟩
   · rw [e]; exact .inl ⟨rfl, rfl⟩
   · rw [e]; exact .inl ⟨rfl, rfl⟩
   · rw [e]; exact .inl (put rfl hi (learnCl_b h3))
 · rcases hh with ⟨_, h1, e⟩ | ⟨_, _, h1, e⟩ | ⟨_, h1, e⟩ | ⟨_, h2, h1, e⟩ | ⟨_, h1, e⟩ | ⟨_, h1, e⟩ | ⟨_, e⟩
   · rw [e]
     left
     obtain ⟨i', k, a, c, n, r, rfl, rfl, hd, hlk, hk, rfl, hu, hat, ha, he, hep, hfr, rfl, hcase⟩ := link_inv h (by omega) h1
     rcases hcase with ⟨h4, h5, ⟨h6, e⟩ | ⟨h6, h7, e⟩⟩ | ⟨h4, hnx, ⟨h6, e⟩ | ⟨h6, e⟩ | ⟨h5, h6, h7, e⟩⟩
     · rw [e]; exact ⟨rfl, rfl⟩
     · rw [e]; exact put rfl (by omega) (heardCl_b h7)
     · rw [e]; exact ⟨rfl, rfl⟩
     · rw [e]; exact ⟨rfl, rfl⟩
     · rw [e]; exact put rfl (by omega) (heardCl_b h7)
   · rw [e]; exact .inl (put rfl hi (wantCl_b h1))
   · rw [e]; exact .inl (put rfl hi (ringCl_b h1))
   · rw [e]; exact .inl (put rfl hi (placeCl_b h1))
   · rw [e]; exact .inl (put rfl hi (fillCl_b h1))
   · rw [e]
     by_cases hji : j = i
     · subst hji
       right; right
       unfold nextPl at h1 ⊢
       split at h1
       · cases h1
       · rename_i g1
         split at h1
         · cases h1
         · rename_i g2
           split at h1
           · rename_i g3; exact absurd h1 g3
           · rename_i g3
             rw [if_neg g1, if_neg g2, if_neg g3]
             have := (checkCl_iff.1 (h.cli j hj).1).1
             refine ⟨(readC (unitsN w.n) (cliAt w.c j).played).1, by omega, rfl, Prod.ext rfl (Decidable.not_not.1 g3), h1, ?_⟩
             rw [cliAt_setC (by omega), if_pos rfl]
     · left
       rw [cliAt_setC (by omega), if_neg hji]
       exact ⟨rfl, rfl⟩
   · rw [e]
     rw [cliAt_setC (by omega)]
     split
     · exact .inr (.inl rfl)
     · exact .inl ⟨rfl, rfl⟩
theorem replayB_snoc {e : Entry} : ∀ {l : List Entry} {b b1 : Book}, replayB b l = (b1, 0) → replayB b (l ++ [e]) = replayB b1 [e]
 | [], b, b1, h => by
   simp only [replayB, Prod.mk.injEq, and_true] at h
   subst h
   rfl
 | x :: l, b, b1, h => by
   rw [List.cons_append, replayB]
   rw [replayB] at h
   by_cases h1 : (applyB b x).2 ≠ 0
   · rw [if_pos h1] at h
     simp only [Prod.mk.injEq] at h
     exact absurd h.2 h1
   · rw [if_neg h1] at h ⊢
     exact replayB_snoc h
theorem replay_snoc {l : List Entry} {b : Book} {e : Entry} (h : replay l = (b, 0)) (hl : l.length < 60) (he : (applyB b e).2 = 0) : replay (l ++ [e]) = ((applyB b e).1, 0) := by
 unfold replay at h ⊢
 rw [if_neg (by omega)] at h
 rw [if_neg (by simp; omega), replayB_snoc h, replayB, if_neg (by simp [he])]
 rfl
theorem GoodW.logLen {w : Wor} (h : GoodW w) : (logOf w).length ≤ 60 := by
 have := (holes_law h).2.2.2.1
 have h1 := tail_le (cs := (nodAt w.n 0).u.cells)
 have h2 := (h.unitOk (k := 0) (by omega)).len
 omega
theorem read_log {w : Wor} (h : GoodW w) {p : Nat} {s : Entry} (hp : p ≤ (logOf w).length) (h6 : p < 60) (hr : readC (unitsN w.n) p = (s, 0)) : (logOf w)[p]? = some s := by
 have hl := (h.unitOk (k := 2) (by omega)).len
 unfold readC at hr
 rw [if_neg (by simp [checkC_iff.2 h.chain]), if_neg (by omega)] at hr
 simp only [Int.toNat_natCast, uniAt_units] at hr
 by_cases h4 : (cellAt (nodAt w.n 2).u.cells p).kind = 4
 · rw [if_pos h4] at hr; cases hr
 · rw [if_neg h4] at hr
   have hs : cellAt (nodAt w.n 2).u.cells p = s := (Prod.mk.inj hr).1
   have hlt : p < (logOf w).length := by
    rcases Nat.lt_or_ge p (logOf w).length with g | g
    · exact g
    · have e : p = (logOf w).length := by omega
      have := log_end (cs := (nodAt w.n 2).u.cells) (by
       show (logOf w).length < _
       omega)
      exact absurd (by rw [e]; exact this) h4
   rw [← hs, List.getElem?_eq_getElem hlt]
   congr 1
   have hpre : logOf w <+: (nodAt w.n 2).u.cells := List.takeWhile_prefix _
   rw [hpre.getElem hlt]
   unfold cellAt
   rw [List.getElem?_eq_getElem (by omega)]
   rfl
def BooksI (w : Wor) : Prop := ∀ i, i < 3 → (cliAt w.c i).played.toNat ≤ (logOf w).length ∧ replay ((logOf w).take (cliAt w.c i).played.toNat) = ((cliAt w.c i).b, 0)
theorem BooksI.new : BooksI newW := fun i hi => by
 have : cliAt newW.c i = newCl := by rcases lt3 hi with rfl | rfl | rfl <;> rfl
 rw [this]
 exact ⟨Nat.zero_le _, rfl⟩
theorem books_law {w : Wor} {x : Hap} (h : GoodW w) (hb : BooksI w) (hx : (happenW w x).2 = 0) : BooksI (happenW w x).1 := by
 obtain ⟨g1, g2⟩ := grows_law h hx
 intro j hj
 obtain ⟨b1, b2⟩ := hb j hj
 have hc := (checkCl_iff.1 (h.cli j hj).1).1
 rcases books_cases h hx j hj with ⟨e1, e2⟩ | e | ⟨s, hp, hn, hr, hpl, e⟩
 · rw [e1, e2]
   refine ⟨by omega, ?_⟩
   rw [← b2, ← g2, List.take_take, Nat.min_eq_left b1]
 · rw [e]
   exact ⟨Nat.zero_le _, rfl⟩
 · obtain ⟨_, _, hs, ep, _⟩ := playCl_keeps hpl
   have hlog : logOf (happenW w x).1 = logOf w := by unfold logOf; rw [hn]
   rw [e, ep, hlog]
   dsimp only
   obtain ⟨p, hpn⟩ : ∃ p : Nat, (cliAt w.c j).played = p := ⟨(cliAt w.c j).played.toNat, by omega⟩
   rw [hpn] at hr b1 b2 hp ⊢
   rw [Int.toNat_natCast] at b1 b2
   have hat := read_log h b1 (by omega) hr
   obtain ⟨hlt, hat'⟩ := List.getElem?_eq_some_iff.1 hat
   have ht : ((p : Int) + 1).toNat = p + 1 := by omega
   rw [ht]
   refine ⟨by omega, ?_⟩
   rw [List.take_add_one, hat]
   refine replay_snoc b2 (by rw [List.length_take]; omega) ?_
   unfold playCl at hpl
   split at hpl
   · rename_i g; exact absurd hpl g
   · split at hpl
     · cases hpl
     · split at hpl
       · rename_i g; exact absurd hpl g
       · rename_i g; exact Decidable.not_not.1 g
end
section
set_option linter.unusedSimpArgs false
set_option linter.unusedVariables false
open Go.RowKit
attribute [local go_sem ↓] Go.wp_at_zero Go.wp_at_succ
def BooksQ (wb : World) (x : Wor) (w : World) : Prop := Onto wb w ∧ BooksI x
theorem logW_ok {x : Wor} (h : GoodW x) : logW x = (logOf x, 0) := by
 unfold logW; rw [if_neg (by rw [checkW_iff.2 h]; simp)]
theorem played0 {x : Wor} (h : GoodW x) {k : Nat} (hk : k < 3) : 0 ≤ (cliAt x.c k).played := by
 have h1 := (h.cli k hk).1
 unfold checkCl at h1
 by_cases h2 : ((cliAt x.c k).epoch < 1 ∨ 20 < (cliAt x.c k).epoch ∨ (cliAt x.c k).doing < 0 ∨ 2 < (cliAt x.c k).doing ∨ (cliAt x.c k).at_ < 0 ∨ 60 ≤ (cliAt x.c k).at_ ∨ (cliAt x.c k).link < 0 ∨ 3 ≤ (cliAt x.c k).link ∨ (cliAt x.c k).played < 0 ∨ 60 < (cliAt x.c k).played)
 · rw [if_pos h2] at h1; cases h1
 · omega
set_option maxHeartbeats 8000000 in
set_option maxRecDepth 100000 in
theorem BooksF_calls (wb : World) (EW : Env wb) (x : Wor) (w : World) (A : Option Addr) (n c : Nat) (C : Option Addr) (m d : Nat) (ns : List NV) (cs : List CV) (h : Hap) (I : BooksQ wb x w) (hg : GoodW x) (hx : (happenW x h).2 = 0) (R : WR w A n C m ns cs) (hw : wor ns (happenW x h).1.tip cs (happenW x h).1.time = (happenW x h).1) :
    Calls Tryz.prog 32 #[.agg #[.slice A n c, .int .i64 (happenW x h).1.tip, .slice C m d, .int .i64 (happenW x h).1.time]] w fun e w' => e = .returned (.bool true) ∧ BooksQ wb (happenW x h).1 w' ∧ w.grownBy w' none := by
 have hbk := books_law hg I.2 hx
 have hg2 := hg.happen hx
 have hlw := logW_ok hg2
 have on0 := I.1
 obtain ⟨v, hv⟩ : ∃ v, v = (happenW x h).1 := ⟨_, rfl⟩
 rw [← hv] at hlw hbk hg2 hw ⊢
 rw [← hw] at hg2
 obtain ⟨rfl, rfl, hsm⟩ := small_of R hg2
 rw [hw] at hg2
 have HLW := Lib.hid hlw; have HB := Lib.hid hbk; have HW := Lib.hid hw; have HG2 := Lib.hid hg2; have HSM := Lib.hid hsm
 clear hlw hbk hw hv hg hx I hg2 hsm
 go_enter Tryz.func32, Tryz.ntmps32
 go_upto_region 1 with fail
 refine wp_box1 (v1 := [.slice A 3 c, .int .i64 v.tip, .slice C 3 d, .int .i64 v.time]) rfl fun w1 on BX => ?_
 replace R := R.onto on
 have on1 := on0.to on
 generalize w.heap.size = zx at BX ⊢
 have x0 := BX.at_ 0 rfl; have x1 := BX.at_ 1 rfl; have x2 := BX.at_ 2 rfl; have x3 := BX.at_ 3 rfl
 go_wp2_with fail
 refine Calls.mono (SLog_calls A 3 c v.tip C 3 d v.time ns cs _ (EW.onto on1) R) ?_
 rw [HW.out, HLW.out]
 rintro e w2 ⟨B1, b1, y1, rfl, S1, hb1, hy1, ob, hf1⟩
 replace S1 : S w2 5 B1 b1 ((logOf v).map encE) := S1
 replace R := R.onto ob; replace BX := BX.onto ob; replace on := on.to ob; replace on1 := on1.to ob
 clear x0 x1 x2 x3 ob hf1
 have hl1 : (logOf v).length = b1 := by have := S1.len; simpa using this
 have HL1 := Lib.hid hl1
 clear hl1
 have x2 := BX.at_ 2 rfl
 go_wp2_with fail
 clear x2 BX
 have bw0 := Onto.rfl' w2
 go_loopg [6, 7, 8, 19] 3 (fun g s6 s7 s8 s19 wr => ∃ k : Nat, k ≤ 3 ∧ 3 - k ≤ g ∧ s19 = .int .i64 k ∧ Onto w2 wr)
 case atStart => exact ⟨0, by omega, by omega, rfl, Onto.rfl' _⟩
 case round =>
  obtain ⟨k, hk, hgk, rfl, bw⟩ := hrel
  by_cases hlt : k < 3
  · obtain ⟨ba, oa, u, hC0, _, hu, vi, a0, a1, a2, a3, a4, a5, a6, a7, a8, a9, a10, a11⟩ := (R.onto bw).atC hlt
    have hcl : cliAt v.c k = u.x := by rw [← HW.out]; exact cliAt_cs hu
    have hp0 := played0 HG2.out hlt
    have hbk := HB.out k hlt
    rw [hcl] at hp0 hbk
    obtain ⟨p, hp⟩ : ∃ p : Nat, u.x.played = (p : Int) := ⟨u.x.played.toNat, by omega⟩
    rw [hp] at hbk
    rw [show ((p : Int)).toNat = p from rfl] at hbk
    have hsu := HSM.out.c u (List.mem_of_getElem? hu)
    have HC0 := Lib.hid hC0
    have hpb : p ≤ b1 := by have := hbk.1; have := HL1.out; omega
    have HR := Lib.hid hbk.2
    have HU1 := Lib.hid hsu.1; have HU2 := Lib.hid hsu.2
    rw [hC0]
    rw [hp] at a9
    have HP := Lib.hid hp
    clear hcl hp0 hbk hC0 hu hsu hp
    go_upto_region 7 with fail
    refine wp_box1 (v1 := [.int .i64 u.x.epoch, .int .i64 u.x.doing, .int .i64 u.x.e.kind, .int .i64 u.x.e.job, .int .i64 u.x.e.every, .int .i64 u.x.e.time, .int .i64 u.x.e.client, .int .i64 u.x.at_, .int .i64 u.x.link, .int .i64 p, .slice u.A u.n u.c, .slice u.G u.m u.d]) rfl fun w5 ox V => ?_
    generalize wr.heap.size = zv at V ⊢
    replace vi := vi.onto ox; replace bw := bw.to ox
    clear a0 a1 a2 a3 a4 a5 a6 a7 a8 a9 a10 a11 ox
    have a9 := V.at_ 9 rfl
    have hgt : ¬ (b1 : Int) < (p : Int) := by omega
    have hgt2 : ¬ b1 < p := by omega
    have i0 : (0 : Int) ≤ (p : Int) := by omega
    have i1 : (p : Int) ≤ (y1 : Int) := by omega
    have s1 : S w5 5 B1 p (((logOf v).take p).map encE) := by
     rw [List.map_take]; exact (S1.onto bw).take hpb
    have HS1 := Lib.hid s1
    clear s1
    go_wp2_with fail
    refine Calls.mono (Replay_calls B1 p y1 _ ((logOf v).take p) _ HS1.out (Nat.le_refl _)) ?_
    rw [HR.out]
    rintro e w6 ⟨A5, n5, c5, A6, n6, c6, rfl, s5, s6, ob, _, _, h5, h6⟩
    replace vi := vi.onto ob; replace bw := bw.to ob; replace V := V.onto ob
    clear a9 HS1 ob
    go_upto_region 10 with fail
    refine wp_box1 (v1 := [.slice A5 n5 c5, .slice A6 n6 c6]) rfl fun w7 ox T => ?_
    generalize w6.heap.size = zt at T ⊢
    replace vi := vi.onto ox; replace bw := bw.to ox; replace V := V.onto ox
    have t5 := S.onto s5 ox; have t6 := S.onto s6 ox
    have hn5 : n5 ≤ 1000000 := by have h1 := t5.len; have h2 := vi.jobs.len; have := HU1.out; rw [List.length_map] at h1 h2; omega
    have hn6 : n6 ≤ 1000000 := by have h1 := t6.len; have h2 := vi.rung.len; have := HU2.out; rw [List.length_map] at h1 h2; omega
    clear ox s5 s6
    have a10 := V.at_ 10 rfl; have a11 := V.at_ 11 rfl
    have r0 := T.at_ 0 rfl; have r1 := T.at_ 1 rfl
    have HT5 := Lib.hid t5; have HT6 := Lib.hid t6; have HVI := Lib.hid vi
    have HN5 : Hid (n5 ≤ 9223372036854775807) := Lib.hid (by omega)
    have HN6 : Hid (n6 ≤ 9223372036854775807) := Lib.hid (by omega)
    clear t5 t6 vi hn5 hn6
    go_wp2_with fail
    refine Calls.mono (BSame_calls A5 A6 u.A u.G n5 c5 n6 c6 u.n u.c u.m u.d _ u.x.b.jobs u.x.b.jobs u.x.b.rung u.x.b.rung _ HT5.out HT6.out HVI.out.jobs HVI.out.rung (Nat.le_refl _) HN5.out HN6.out) ?_
    rw [show decide ((⟨u.x.b.jobs, u.x.b.rung⟩ : Book) = ⟨u.x.b.jobs, u.x.b.rung⟩) = true by simp]
    rintro e w8 ⟨rfl, ob⟩
    replace bw := bw.to ob
    clear a10 a11 r0 r1 ob
    go_wp2_with fail
    rw [← HC0.out]
    go_roundg (3 - (k + 1))
    case measure => omega
    case rel => exact ⟨k + 1, by omega, Nat.le_refl _, by go_num, bw⟩
  · obtain rfl : k = 3 := by omega
    have on2 := on.to bw
    have on3 := on1.to bw
    go_wp2_with fail
    go_ret
    exact ⟨rfl, ⟨on3, HB.out⟩, gb_onto (World.grownBy.refl w _) on2⟩
set_option maxHeartbeats 8000000 in
set_option maxRecDepth 100000 in
theorem StoryBooks_calls (A0 : Option Addr) (k i : Nat) (l : List Hap) (w : World) (E : Env w) (SL : S w 10 A0 k (l.map encH)) (hki : k ≤ i) (him : i ≤ maxLen) :
    Calls Tryz.prog 10 #[.slice A0 k i] w fun e w' => e = .returned (.bool true) ∧ Onto w w' := by
 have I : BooksQ w newW w := ⟨Onto.rfl' w, BooksI.new⟩
 have Y : Plays (BooksQ w) 32 #[] none A0 k l w :=
  ⟨I, fun x w1 w2 h b => ⟨h.1.to b, h.2⟩, fun x w2 w3 z hz2 h hw t => ⟨below_grown h.1 h.1.size t (fun g hg => by injection hg with hg; subst hg; exact hz2), h.2⟩, fun x w2 h => E.onto h.1, fun x w2 h => SL.onto h.1,
   fun x w2 w3 A n C m ns cs h R t => ⟨R.nr.grown t (fun g e => by cases e), R.cr.grown t (fun g e => by cases e), fun v hv => (R.ni v hv).gr t (fun g e => by cases e), fun v hv => (R.ci v hv).gr t (fun g e => by cases e)⟩, fun b e => (by cases e), fun _ _ => (by kernel_rfl),
   fun x w2 A n c C m d ns cs h hp hg hx R hw => BooksF_calls w E x w2 A n c C m d ns cs h hp hg hx R hw⟩
 have HY := Lib.hid Y
 clear Y I
 go_enter Tryz.func10, Tryz.ntmps10
 go_wp2_with fail
 refine Calls.mono (Played_calls (BooksQ w) 32 #[] none A0 k i l w hki HY.out) ?_
 rintro e w2 ⟨x, A, n, c, C, m, d, ns, cs, rfl, hP, hG, R, hw⟩
 have on2 : Onto w w2 := hP.1
 clear hP hG R hw HY
 go_upto_region 2 with fail
 refine wp_box1 (v1 := [.slice A n c, .int .i64 x.tip, .slice C m d, .int .i64 x.time]) rfl fun w3 b X => ?_
 replace on2 := on2.to b
 clear b X
 go_wp2_with fail
 refine Calls.mono (told_calls _ (E.onto on2)) ?_
 rintro e w4 ⟨rfl, b⟩
 replace on2 := on2.to b
 clear b
 go_wp2_with fail
 go_ret
 exact ⟨rfl, on2⟩
end
section
set_option linter.unusedSimpArgs false
set_option linter.unusedVariables false
open Go.RowKit Go.ChangeShapes Go.WideShapes Go.ChangeAt
set_option maxRecDepth 100000 in
theorem storyBooks_lifted (os : Os) (started : os.Started) (H : Type) (enc : TypeId × Value → H) :
    ReturnsInHanded {} Tryz.checked os 10 .any (fun w args => (Rows.storyBooksSpec.pre enc Tryz.prog Tryz.f10 Rows.storyBooksRow.domain false w args ∧ laidMetH Tryz.prog Rows.storyBooksRow.laid w) ∧ sizedMet enc Tryz.prog Tryz.f10 (OpenSpec.ofChange Rows.storyBooksSpec) false w args)
     (Rows.storyBooksSpec.post enc Tryz.prog Tryz.f10 false true false false) := by
 refine handed_shaped (C := Tryz.checked) (X := fun w _ => laidMetH Tryz.prog Rows.storyBooksRow.laid w) (fun _ _ _ hh h => h.of_heap hh) own started (by kernel_rfl) Tryz.func10
  (ChangeSpec.witness_shaped (enc := enc) (C := Tryz.checked) (os := os) (X := fun w _ => laidMetH Tryz.prog Rows.storyBooksRow.laid w) false (World.laidAll Tryz.prog os Rows.storyBooksRow.laid) #[.slice none 0 0] 8 (World.laidAll_os _ _ _)
   (World.shaped_of_ZipB (by kernel_rfl) (by kernel_rfl)) (by kernel_rfl) (by kernel_rfl) (by kernel_rfl)
   (by rw [MakeChecks.laidMetH_plain _ _ _ (by kernel_rfl)]; exact laidMet_laidAll _ (by kernel_rfl) (by kernel_rfl))) ?_
 intro W base args ds gs before hval0 hW hsz0 hL hS
 rw [MakeChecks.laidMetH_plain _ _ _ (by kernel_rfl)] at hL
 have E : Env W := env_of hL hS
 clear hL hS
 have hval : ∀ (j : Nat) t v, Tryz.f10.params[j]? = some t → args[j]? = some v → Value.okWide Tryz.prog W .any base t v := hval0
 have hW' := hW
 obtain ⟨p, q, hA0, hV, rfl, hfz, hnd⟩ := hW
 have hA : DataW.TrodAll enc Tryz.prog W 0 (fun _ => true) true Tryz.f10.params.toList args.toList ds p := hA0
 rw [Tryz.params10] at hA hval
 obtain ⟨v0, vs0, d0, ds0, p0, q0, hargs, rfl, rfl, h0, r0⟩ := trodAll_cons hA
 obtain ⟨rfl, rfl, rfl⟩ := trodAll_nil r0
 obtain rfl : args = #[v0] := by cases args; simp_all
 obtain ⟨rfl, rfl⟩ := trodVars_none hV
 have hall := hA
 obtain ⟨qa0, qb0, qc0, rfl⟩ := okWide_slice Tryz.underlying53 (hval 0 53 v0 rfl rfl)
 obtain ⟨A0, n0, c0, l0, e0, hnc0, hcm0, s0⟩ := reads_haps (reads_of h0)
 simp [Value.cells] at e0
 obtain ⟨rfl, rfl, rfl⟩ := e0
 clear hA0 hval0
 refine (StoryBooks_calls qa0 qb0 qc0 l0 W E s0 hnc0 hcm0).mono fun e W' ⟨he, bel⟩ => ?_
 subst he
 exact ⟨_, rfl, _, _, _, [], _, [], hW', trodAll_mk1 (shut_bool Tryz.underlying4 _), Below_trodAll (ts := [53]) laidOut bel (by intro t ht; simp only [List.mem_cons, List.not_mem_nil, or_false] at ht; rcases ht with rfl <;> exact ⟨by kernel_rfl, of_decide_eq_true (by kernel_rfl)⟩) hall, rfl, bel.frame _, fun h => by cases h⟩
theorem storyBooks_row : Rows.StoryBooksSaid :=
 OpenClaim.holds_of_wide 10 Tryz.f10 rfl rfl rfl rfl rfl rfl rfl ⟨rfl, rfl, rfl, rfl, rfl⟩ rfl rfl rfl rfl rfl (by kernel_rfl) Tryz.func10 (by kernel_rfl)
  (of_decide_eq_true (by kernel_rfl)) (by unfold Func.isWrapper; first | (rw [if_pos (by decide +kernel)]; kernel_rfl) | (rw [if_neg (by decide +kernel)]; exact ⟨rfl, rfl⟩))
  (fun os started H enc _ => storyBooks_lifted os started H enc)
theorem storyBooks_holds : Rows.StoryBooksCardSaid :=
 Claim7.holds_tied_plain_at .later [] [.data, .data, .data, .data, .sentinel, .sentinel, .pinned] true Rows.storyBooksCard.stood.harness true storyBooks_row (fun _ h => by cases h) (by kernel_rfl) (fun _ h => by cases h) storyBooks_row_tie rfl ⟨rfl, rfl⟩ (by kernel_rfl) rfl
  (fun f fn hf hfn => by
   obtain rfl : f = 10 := Option.some.inj ((show Tryz.prog.funcNamed "carillon/carillonlaw.StoryBooks" = some 10 by kernel_rfl).symm.trans hf) |>.symm
   obtain rfl : fn = Tryz.f10 := (Option.some.inj (Tryz.func10.symm.trans hfn)).symm
   exact ⟨by kernel_rfl, fun j t ht => by
    rw [Tryz.params10] at ht
    have hm : t ∈ [53] := by simpa using Array.mem_of_getElem? ht
    have hall : ([53].all fun u => !Tryz.prog.wantsStandIn u) = true := by kernel_rfl
    exact (show Tryz.prog.wantsStandIn t = false by simpa using List.all_eq_true.1 hall t hm)⟩)
  (by kernel_rfl)
end
end Go.Proofs.YtmppkaoonncddaaGreatDoor
