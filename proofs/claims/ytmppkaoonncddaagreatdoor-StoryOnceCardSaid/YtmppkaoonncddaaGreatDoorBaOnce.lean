/- The law StoryOnce. No condition beyond the listed variables, which the card ties. -/
/- Part 16 of the proof: LawS2, LawS3, LawS4, Key2, Map2, WOnce, WOnceL. -/
import Derived.Test.YtmppkaoonncddaaGreatDoorBaSt
import Derived.Test.YtmppkaoonncddaaGreatDoorProg
import Derived.Test.YtmppkaoonncddaaGreatDoorBa05
import Derived.DeepKeys4
import Derived.Maps.Keyed
import Derived.Maps.Own
import Derived.Maps.Range
import Derived.Test.YtmppkaoonncddaaGreatDoorBa08
import Derived.Maps.RangeWalk
import Derived.Maps.Views
import Derived.WideKeyPair
import Derived.Test.YtmppkaoonncddaaGreatDoorBa04
import Derived.Test.YtmppkaoonncddaaGreatDoorCards
import Derived.Test.YtmppkaoonncddaaGreatDoorTie
import Derived.SevenTiedAt
namespace Go.Proofs.YtmppkaoonncddaaGreatDoor
section
set_option linter.unusedSimpArgs false
set_option linter.unusedVariables false
theorem cliAt_setC {w : Wor} {i j : Nat} {c : Cli} (hi : i < w.c.length) : cliAt (setC w i c).c j = if j = i then c else cliAt w.c j := cliAt_set hi
theorem GoodW.logLen {w : Wor} (h : GoodW w) : (logOf w).length ≤ 60 := by
 have := (holes_law h).2.2.2.1
 have h1 := tail_le (cs := (nodAt w.n 0).u.cells)
 have h2 := (h.unitOk (k := 0) (by omega)).len
 omega
def BooksI (w : Wor) : Prop := ∀ i, i < 3 → (cliAt w.c i).played.toNat ≤ (logOf w).length ∧ replay ((logOf w).take (cliAt w.c i).played.toNat) = ((cliAt w.c i).b, 0)
theorem BooksI.new : BooksI newW := fun i hi => by
 have : cliAt newW.c i = newCl := by rcases lt3 hi with rfl | rfl | rfl <;> rfl
 rw [this]
 exact ⟨Nat.zero_le _, rfl⟩
end
section
set_option linter.unusedSimpArgs false
set_option linter.unusedVariables false
/-! ### No ring twice -/
theorem stepB_shape {b : Book} {e : Entry} (hb : GoodB b) (he : checkE e = 0) : stepB b e = b ∨
    (e.kind = 1 ∧ (∀ y ∈ b.jobs, y.id ≠ e.job) ∧ (stepB b e).jobs.length = b.jobs.length + 1 ∧ (stepB b e).rung = b.rung ∧ ∀ y ∈ (stepB b e).jobs, y.id = e.job ∨ y ∈ b.jobs) ∨
    (e.kind = 2 ∧ (stepB b e).jobs.length ≤ b.jobs.length ∧ (stepB b e).rung = b.rung ∧ ∀ y ∈ (stepB b e).jobs, y ∈ b.jobs) ∨
    (e.kind = 3 ∧ ∃ (i : Nat) (y : Job), b.jobs[i]? = some y ∧ y.id = e.job ∧ y.next = e.time ∧ stepB b e = ⟨b.jobs.set i ⟨y.id, y.every, y.next + y.every⟩, b.rung ++ [⟨e.job, e.time, e.client⟩]⟩) := by
 rcases checkE_kind he with hkd | hkd | hkd | hkd
 · exact .inl (by simp [stepB, hkd])
 · by_cases hf : 0 ≤ findB b e.job
   · exact .inl (by simp [stepB, hkd, hf])
   · right; left
     have e1 : stepB b e = ⟨b.jobs.take (posJ b.jobs e.job) ++ [⟨e.job, e.every, e.time⟩] ++ b.jobs.drop (posJ b.jobs e.job), b.rung⟩ := by simp [stepB, hkd, hf]
     refine ⟨hkd, findB_neg hf, ?_, by rw [e1], fun y hy => ?_⟩
     · rw [e1]
       have : posJ b.jobs e.job ≤ b.jobs.length := by
        unfold posJ
        exact (List.takeWhile_prefix _).length_le
       simp only [List.length_append, List.length_take, List.length_drop, List.length_singleton]
       omega
     · rw [e1] at hy
       simp only [List.mem_append, List.mem_singleton] at hy
       rcases hy with (hy | rfl) | hy
       · exact .inr (List.mem_of_mem_take hy)
       · exact .inl rfl
       · exact .inr (List.mem_of_mem_drop hy)
 · by_cases hf : 0 ≤ findB b e.job
   · right; right; left
     have e1 : stepB b e = ⟨b.jobs.take (findB b e.job).toNat ++ b.jobs.drop ((findB b e.job).toNat + 1), b.rung⟩ := by
      unfold stepB
      rw [if_neg (by omega), if_pos hkd, if_pos hf]
     refine ⟨hkd, ?_, by rw [e1], fun y hy => ?_⟩
     · rw [e1]
       simp only [List.length_append, List.length_take, List.length_drop]
       omega
     · rw [e1] at hy
       rcases List.mem_append.1 hy with hy | hy
       · exact List.mem_of_mem_take hy
       · exact List.mem_of_mem_drop hy
   · exact .inl (by simp [stepB, hkd, hf])
 · have h0 : stepB b e = (match b.jobs[(findB b e.job).toNat]? with
    | some j => if 0 ≤ findB b e.job ∧ j.next = e.time ∧ b.rung.length < 60 then ⟨b.jobs.set (findB b e.job).toNat ⟨j.id, j.every, j.next + j.every⟩, b.rung ++ [⟨e.job, e.time, e.client⟩]⟩ else b
    | none => b) := by
    unfold stepB
    rw [if_neg (by omega), if_neg (by omega), if_pos hkd]
    cases b.jobs[(findB b e.job).toNat]? <;> rfl
   cases hjj : b.jobs[(findB b e.job).toNat]? with
   | none => rw [hjj] at h0; exact .inl h0
   | some y =>
     rw [hjj] at h0
     simp only at h0
     by_cases hc : 0 ≤ findB b e.job ∧ y.next = e.time ∧ b.rung.length < 60
     · rw [if_pos hc] at h0
       right; right; right
       obtain ⟨i, x, h1, h2, h3⟩ := findB_pos hc.1
       rw [h1, Int.toNat_natCast] at hjj h0
       rw [h2] at hjj
       injection hjj with hjj
       subst hjj
       exact ⟨hkd, i, x, h2, h3, hc.2.1, h0⟩
     · rw [if_neg hc] at h0; exact .inl h0
def seenB (b : Book) (S : List (Int × Int)) (e : Entry) : List (Int × Int) :=
 if b.jobs.length < (stepB b e).jobs.length then S.filter (fun p => decide (p.1 ≠ e.job)) else S
def onceB (b : Book) (S : List (Int × Int)) : List Entry → Prop
 | [] => True
 | e :: l => (applyB b e).2 = 0 ∧
   if b.rung.length < (stepB b e).rung.length then (e.job, e.time) ∉ seenB b S e ∧ onceB (stepB b e) ((e.job, e.time) :: seenB b S e) l
   else onceB (stepB b e) (seenB b S e) l
theorem once_law : ∀ {l : List Entry} {b : Book} {S : List (Int × Int)}, GoodB b → (∀ e ∈ l, checkE e = 0) → (∀ p ∈ S, ∀ y ∈ b.jobs, y.id = p.1 → p.2 < y.next) → onceB b S l
 | [], _, _, _, _, _ => trivial
 | e :: l, b, S, hb, hl, hS => by
   have he := hl e (by simp)
   have hg := stepB_good hb he
   have hl' : ∀ x ∈ l, checkE x = 0 := fun x hx => hl x (by simp [hx])
   refine ⟨by unfold applyB; rw [if_neg (by simp [checkB_iff.2 hb]), if_neg (by simp [he])], ?_⟩
   rcases stepB_shape hb he with h1 | ⟨hk, h1, h2, h3, h4⟩ | ⟨hk, h2, h3, h4⟩ | ⟨hk, i, y, h1, h2, h3, h4⟩
   · unfold seenB
     rw [h1, if_neg (by omega), if_neg (by omega)]
     exact once_law hb hl' hS
   · rw [if_neg (by rw [h3]; omega)]
     refine once_law hg hl' fun p hp z hz ez => ?_
     unfold seenB at hp
     rw [if_pos (by omega)] at hp
     obtain ⟨hp1, hp2⟩ := List.mem_filter.1 hp
     rcases h4 z hz with e1 | e1
     · rw [← ez, e1] at hp2; simp at hp2
     · exact hS p hp1 z e1 ez
   · rw [if_neg (by rw [h3]; omega)]
     refine once_law hg hl' fun p hp z hz ez => ?_
     unfold seenB at hp
     rw [if_neg (by omega)] at hp
     exact hS p hp z (h4 z hz) ez
   · have hs : seenB b S e = S := by
      unfold seenB
      rw [h4, if_neg (by simp)]
     rw [hs, if_pos (by rw [h4]; simp)]
     have hy := List.mem_of_getElem? h1
     refine ⟨fun hin => ?_, once_law hg hl' fun p hp z hz ez => ?_⟩
     · have := hS _ hin y hy h2
       dsimp only at this
       omega
     · have hev : 1 ≤ y.every := by
        have := hb.ok y hy
        unfold badJ at this
        omega
       rw [h4] at hz
       obtain ⟨k, hk', hz'⟩ := List.getElem_of_mem hz
       rw [List.getElem_set] at hz'
       by_cases hik : i = k
       · rw [if_pos hik] at hz'
         subst hz'
         dsimp only at ez ⊢
         rcases List.mem_cons.1 hp with rfl | hp
         · dsimp only; omega
         · have := hS p hp y hy ez
           omega
       · rw [if_neg hik] at hz'
         have hk2 : k < b.jobs.length := by simpa using hk'
         have hzm : b.jobs[k]? = some z := by rw [List.getElem?_eq_getElem hk2, hz']
         rcases List.mem_cons.1 hp with rfl | hp
         · dsimp only at ez
           have a1 := findB_at hb.ord h1
           have a2 := findB_at hb.ord hzm
           rw [ez, ← h2, a1] at a2
           omega
         · exact hS p hp z (List.mem_of_getElem? hzm) ez
/-! ### No ring too early -/
def ringOk (t : Int) (e : Entry) : Prop := e.kind = 3 → e.time ≤ t
theorem rung_law {t : Int} : ∀ {l : List Entry} {b : Book}, GoodB b → (∀ e ∈ l, checkE e = 0 ∧ ringOk t e) → (∀ r ∈ b.rung, r.time ≤ t) → (replayB b l).2 = 0 ∧ ∀ r ∈ (replayB b l).1.rung, r.time ≤ t
 | [], b, _, _, h => ⟨rfl, h⟩
 | e :: l, b, hb, hl, h => by
   obtain ⟨he, hr⟩ := hl e (by simp)
   have ea : applyB b e = (stepB b e, 0) := by unfold applyB; rw [if_neg (by simp [checkB_iff.2 hb]), if_neg (by simp [he])]
   rw [replayB, ea, if_neg (by simp)]
   refine rung_law (stepB_good hb he) (fun x hx => hl x (by simp [hx])) fun r hr' => ?_
   rcases stepB_shape hb he with h1 | ⟨hk, _, _, h3, _⟩ | ⟨hk, _, h3, _⟩ | ⟨hk, i, y, h1, h2, h3, h4⟩
   · rw [h1] at hr'; exact h r hr'
   · rw [h3] at hr'; exact h r hr'
   · rw [h3] at hr'; exact h r hr'
   · rw [h4] at hr'
     rcases List.mem_append.1 hr' with hr' | hr'
     · exact h r hr'
     · rw [List.mem_singleton] at hr'
       subst hr'
       exact hr hk
structure RingsI (w : Wor) : Prop where
 cells : ∀ k, k < 3 → ∀ a, ringOk w.time (cellAt (gr (nodAt w.n k)).cells a)
 cl : ∀ i, i < 3 → ringOk w.time (cliAt w.c i).e
theorem ringOk_blank {t : Int} : ringOk t zeroE := fun h => by cases h
theorem ringOk.later {t t' : Int} {e : Entry} (h : ringOk t e) (ht : t ≤ t') : ringOk t' e := fun hk => by have := h hk; omega
theorem good_none : GoodB Book.none := ⟨by decide, by decide, by simp [Book.none], by simp [Book.none], by simp [Book.none]⟩
theorem RingsI.now {w : Wor} (h : GoodW w) (hr : RingsI w) {k a : Nat} (hk : k < 3) : ringOk w.time (cellAt (nodAt w.n k).u.cells a) := by
 obtain ⟨l, m, hI⟩ := checkN_inv (h.node k hk)
 by_cases h4 : (cellAt (nodAt w.n k).u.cells a).kind = 4
 · exact fun h3 => by omega
 · have := hr.cells k hk a
   unfold gr at this
   rwa [hI.upon.cell a h4] at this
theorem log_mem {w : Wor} {e : Entry} (he : e ∈ logOf w) : ∃ k, k < (logOf w).length ∧ cellAt (nodAt w.n 2).u.cells k = e ∧ e.kind ≠ 4 := by
 obtain ⟨k, hk, rfl⟩ := List.getElem_of_mem he
 have hpre : logOf w <+: (nodAt w.n 2).u.cells := List.takeWhile_prefix _
 have hlt : k < (nodAt w.n 2).u.cells.length := by have := hpre.length_le; omega
 have e1 : cellAt (nodAt w.n 2).u.cells k = (logOf w)[k] := by
  rw [hpre.getElem hk]
  unfold cellAt
  rw [List.getElem?_eq_getElem hlt]
  rfl
 exact ⟨k, hk, e1, by rw [← e1]; exact (log_cells hk).2⟩
theorem story_once {w : Wor} (h : GoodW w) (hr : RingsI w) : (replay (logOf w)).2 = 0 ∧ (∀ r ∈ (replay (logOf w)).1.rung, r.time ≤ w.time) ∧ onceB Book.none [] (logOf w) := by
 have hl := h.logLen
 have ok : ∀ e ∈ logOf w, checkE e = 0 ∧ ringOk w.time e := fun e he => by
  obtain ⟨k, hk, e1, h4⟩ := log_mem he
  refine ⟨?_, ?_⟩
  · rw [← e1]
    exact h.cellOk (k := 2) (by omega) (by omega) (by rw [e1]; exact h4)
  · rw [← e1]
    exact hr.now h (by omega)
 have := rung_law good_none ok (by simp [Book.none])
 unfold replay
 rw [if_neg (by omega)]
 exact ⟨this.1, this.2, once_law good_none (fun e he => (ok e he).1) (by simp)⟩
end
section
set_option linter.unusedSimpArgs false
set_option linter.unusedVariables false
theorem RingsI.setN {w : Wor} (h : RingsI w) (hl : w.n.length = 3) {k : Nat} {n' : Nod} (hk : k < 3) (hn : ∀ a, ringOk w.time (cellAt (gr n').cells a)) : RingsI (setN w k n') := by
 refine ⟨fun j hj a => ?_, h.cl⟩
 show ringOk w.time (cellAt (gr (nodAt (w.n.set k n') j)).cells a)
 rw [nodAt_set (by omega)]
 split
 · exact hn a
 · exact h.cells j hj a
theorem RingsI.setC {w : Wor} (h : RingsI w) (hl : w.c.length = 3) {i : Nat} {c' : Cli} (hi : i < 3) (hc : ringOk w.time c'.e) : RingsI (setC w i c') := by
 refine ⟨h.cells, fun j hj => ?_⟩
 show ringOk w.time (cliAt (w.c.set i c') j).e
 rw [cliAt_set (by omega)]
 split
 · exact hc
 · exact h.cl j hj
theorem put_rings {u : Uni} {t : Int} {a : Nat} {e : Entry} (hu : ∀ b, ringOk t (cellAt u.cells b)) (he : ringOk t e) (b : Nat) : ringOk t (cellAt (putU u a e).cells b) := by
 unfold putU
 dsimp only
 rw [cellAt_put]
 split
 · exact he
 · exact hu b
theorem heard_rings {c : Cli} {y : Entry} {t : Int} (h : (heardCl c y).2 = 0) (hc : ringOk t c.e) (hy : ringOk t y) : ringOk t (heardCl c y).1.e := by
 obtain ⟨_, _, _, h4⟩ := heardCl_keeps h
 rcases h4 with ⟨_, _, e⟩ | ⟨_, _, e⟩ | ⟨_, _, e⟩
 · rw [e]; exact hc
 · rw [e]; exact ringOk_blank
 · rw [e]; exact hy
theorem RingsI.new : RingsI newW := by
 have hn : NodI newN [] [] newU := Holds.new.nodI true
 have hg : gr newN = newU := by unfold gr; rw [hn.chkN]
 refine ⟨fun k hk a => ?_, fun i hi => ?_⟩
 · have e : nodAt newW.n k = newN := by rcases lt3 hk with rfl | rfl | rfl <;> rfl
   rw [e, hg]
   unfold cellAt newU
   dsimp only
   rw [List.getElem?_replicate]
   split
   · exact fun h => by cases h
   · exact fun h => by cases h
 · have e : cliAt newW.c i = newCl := by rcases lt3 hi with rfl | rfl | rfl <;> rfl
   rw [e]
   exact ringOk_blank
theorem RingsI.happen {w : Wor} {x : Hap} (h : GoodW w) (hr : RingsI w) (hx : (happenW w x).2 = 0) : RingsI (happenW w x).1 := by
 have hl := h.n3
 have hcl := h.c3
 rcases happen_inv hx with ⟨_, h1, h2, e⟩ | ⟨_, h1, h2, e⟩ | ⟨k, hk, hn, hh⟩ | ⟨i, hi, hc, hh⟩
 · rw [e]; exact ⟨hr.cells, hr.cl⟩
 · rw [e]; exact ⟨fun k hk a => (hr.cells k hk a).later (by dsimp only; omega), fun i hi => (hr.cl i hi).later (by dsimp only; omega)⟩
 · have hnk := h.node k hk
   obtain ⟨l, m, hI⟩ := checkN_inv hnk
   have hold := hr.cells k hk
   rcases hh with ⟨_, h2, e⟩ | ⟨_, h2, h3, e⟩ | ⟨_, h2, h3, e⟩ | ⟨_, h2, i, hi, _, h3, e⟩
   · rw [e]
     refine hr.setN hl hk fun a => ?_
     have := hold a
     unfold gr
     rw [hI.down.chkN]
     exact this
   · rw [e, hI.boot]
     refine hr.setN hl hk fun a => ?_
     have := hold a
     dsimp only
     unfold gr
     rw [hI.gHolds.gr true]
     exact this
   · rw [e]
     have hok := write_ok h3
     refine hr.setN hl hk fun a => ?_
     unfold gr
     rw [(write_node hnk h2 hok).2.2.2]
     obtain ⟨e1, _⟩ := nextU_seal hok rfl
     rw [e1]
     exact hr.now h hk
   · rw [e]
     obtain ⟨_, _, _, e1⟩ := learnCl_keeps h3
     refine hr.setC hcl hi ?_
     rw [e1]; exact hr.cl i hi
 · rcases hh with ⟨_, h1, e⟩ | ⟨_, hk3, h1, e⟩ | ⟨_, h1, e⟩ | ⟨_, h2, h1, e⟩ | ⟨_, h1, e⟩ | ⟨_, h1, e⟩ | ⟨_, e⟩
   · rw [e]
     obtain ⟨i', k, a, c, n, r, rfl, rfl, hd, hlk, hk, rfl, hu, hat, ha, he, hep, hfr, rfl, hcase⟩ := link_inv h (by omega) h1
     have hi3 : x.client.toNat < 3 := by omega
     have hce := hr.cl _ hi3
     rcases hcase with ⟨h4, h5, ⟨h6, e⟩ | ⟨h6, h7, e⟩⟩ | ⟨h4, hnx, hh⟩
     · rw [e]; exact hr
     · rw [e]; exact hr.setC hcl hi3 (heard_rings h7 hce (hr.now h hk))
     · have hnk := h.node k hk
       have hok : (nextU (nodAt w.n k).u ⟨1, a, 0, (cliAt w.c x.client.toNat).e⟩).2 = 0 := by rw [hnx]
       have hput := put_rings (a := a) (fun b => hr.now h hk (a := b)) hce
       have hwr : RingsI (Go.Proofs.YtmppkaoonncddaaGreatDoor.setN w k (writeN (nodAt w.n k) ⟨1, a, 0, (cliAt w.c x.client.toNat).e⟩).1) := by
        refine hr.setN hl hk fun b => ?_
        unfold gr
        rw [(write_node hnk hu hok).2.2.2, hnx]
        exact hput b
       rcases hh with ⟨h6, e⟩ | ⟨h6, e⟩ | ⟨h5, h6, h7, e⟩
       · rw [e]
         refine hr.setN hl hk fun b => ?_
         unfold gr
         rcases (tear_node (k := x.n) hnk hu hok).2.2.2 with g | g
         · rw [g]; exact hr.now h hk
         · rw [g, hnx]; exact hput b
       · rw [e]; exact hwr
       · rw [e]; exact hwr.setC hcl hi3 (heard_rings h7 hce hce)
   · rw [e]
     obtain ⟨_, _, _, _, e1⟩ := wantCl_keeps h1
     refine hr.setC hcl hi ?_
     rw [e1]; exact fun h => absurd h hk3
   · rw [e]
     obtain ⟨j, _, _, hj, e2, h3⟩ := ringCl_keeps h1
     rw [e2]
     obtain ⟨_, _, _, _, e1⟩ := wantCl_keeps h3
     refine hr.setC hcl hi ?_
     rw [e1]; exact fun _ => hj
   · rw [e]
     obtain ⟨_, _, _, _, e1⟩ := placeCl_keeps h1
     have := hr.setC (c' := (placeCl (cliAt w.c i) w.tip).1) hcl hi (by rw [e1]; exact hr.cl i hi)
     exact ⟨this.cells, this.cl⟩
   · rw [e]
     obtain ⟨_, _, _, _, e1⟩ := fillCl_keeps h1
     refine hr.setC hcl hi ?_
     rw [e1]; exact ringOk_blank
   · rw [e]
     refine hr.setC hcl hi ?_
     unfold nextPl at h1 ⊢
     split at h1
     · cases h1
     · rename_i g1
       split at h1
       · cases h1
       · rename_i g2
         split at h1
         · rename_i g3; exact absurd h1 g3
         · rename_i g3
           rw [if_neg g1, if_neg g2, if_neg g3]
           obtain ⟨_, _, _, e1, _⟩ := playCl_keeps h1
           rw [e1]; exact hr.cl i hi
   · rw [e]; exact hr.setC hcl hi ringOk_blank
end
section
open Go.WideMaps Go.Maps
theorem key2_law : KeyLaw Tryz.prog 77 := deep_law_laid (by kernel_rfl) (m := 2) (by omega) (of_decide_eq_true (by kernel_rfl)) (by kernel_rfl) (by kernel_rfl)
theorem key2 : Keyed Tryz.prog 77 := Keyed.of_law key2_law
end
section
set_option linter.unusedSimpArgs false
set_option linter.unusedVariables false
open Go.WideMaps Go.Maps
theorem key2_arr : ArrKey Tryz.prog 77 3 2 := ⟨Tryz.underlying77, by kernel_rfl, by kernel_rfl, by kernel_rfl⟩
def wf2 (j t : Int) : Prop := (Lit.int .i64 j).wf = true ∧ (Lit.int .i64 t).wf = true
def vk (j t : Int) : Value := .agg #[.int .i64 j, .int .i64 t]
def kl2 (j t : Int) : Lit := .string (keyBytes [.int .i64 j, .int .i64 t])
theorem key2_of {j t : Int} (h : wf2 j t) : keyOf Tryz.prog 77 (vk j t) = some (kl2 j t) :=
 keyOf_pair key2_arr Tryz.underlying3 ⟨Tryz.prog.types.size - 1, by kernel_rfl⟩ h.1 h.2
theorem two_of {α : Type} : ∀ {l : List α}, l.length = 2 → ∃ a b, l = [a, b]
 | [a, b], _ => ⟨a, b, rfl⟩
theorem lits1 {P : Program} {e : TypeId} {m : Nat} (he : P.underlying e = some (.int .i64)) {c : Value} {y : List Lit} (hy : P.keyLits (m + 1) e [c] = some y) : ∃ a, c = .int .i64 a ∧ (Lit.int .i64 a).wf = true := by
 unfold Program.keyLits at hy
 rw [he] at hy
 cases c <;> simp at hy
 obtain ⟨⟨rfl, hw⟩, _⟩ := hy
 exact ⟨_, rfl, hw⟩
theorem pair_inv {P : Program} {k e : TypeId} (A : ArrKey P k e 2) (he : P.underlying e = some (.int .i64)) {v : Value} {m : Nat} {ls : List Lit} (hf : v.formed P k = true) (h : P.keyLits (m + 2) k v.cells.toList = some ls) :
    ∃ j t, v = vk j t ∧ wf2 j t := by
 unfold Value.formed at hf
 cases v with
 | agg cs =>
   simp only [A.hu, A.size] at hf
   obtain ⟨l⟩ := cs
   have hl : l.length = 2 := by simpa using hf
   obtain ⟨c0, c1, rfl⟩ := two_of hl
   unfold Program.keyLits at h
   simp only [A.hu, Value.cells] at h
   rw [if_pos (by rw [A.size]; rfl), show List.range 2 = [0, 1] from rfl, List.mapM_cons, List.mapM_cons, List.mapM_nil, Option.map_eq_some_iff] at h
   obtain ⟨xs, h, _⟩ := h
   simp only [bind, Option.bind_eq_some_iff, pure, Option.some.injEq, A.one] at h
   obtain ⟨y0, h0, _, ⟨y1, h1, _, _, _⟩, _⟩ := h
   obtain ⟨a, ea, ha⟩ := lits1 he h0
   obtain ⟨b, eb, hb⟩ := lits1 he h1
   subst ea; subst eb
   exact ⟨a, b, rfl, ha, hb⟩
 | tuple _ => simp at hf
 | _ => simp [A.hu] at hf
theorem pair_key {P : Program} {k e : TypeId} (A : ArrKey P k e 2) (he : P.underlying e = some (.int .i64)) (hsz : ∃ m, P.types.size = m + 1) {v : Value} {kl : Lit} (h : keyOf P k v = some kl) : ∃ j t, v = vk j t ∧ wf2 j t := by
 obtain ⟨m, hm⟩ := hsz
 unfold keyOf at h
 simp only [A.hu] at h
 split at h
 · rename_i hf
   simp only [Bool.and_eq_true] at hf
   rw [hm, Option.map_eq_some_iff] at h
   obtain ⟨ls, h, _⟩ := h
   exact pair_inv A he hf.2 h
 · cases h
theorem bool_inv {P : Program} {e : TypeId} (he : P.underlying e = some .bool) {v : Value} {y : DataW Unit × List MemPlace} (h : plainElem P e v = some y) : ∃ c, v = .bool c := by
 unfold plainElem at h
 rw [he] at h
 cases v <;> simp at h
 exact ⟨_, rfl⟩
theorem key2_inv {v : Value} {kl : Lit} (h : keyOf Tryz.prog 77 v = some kl) : ∃ j t, v = vk j t ∧ wf2 j t ∧ kl = kl2 j t := by
 obtain ⟨j, t, rfl, hw⟩ := pair_key key2_arr Tryz.underlying3 ⟨Tryz.prog.types.size - 1, by kernel_rfl⟩ h
 refine ⟨j, t, rfl, hw, ?_⟩
 rw [key2_of hw] at h
 exact (Option.some.inj h).symm
theorem kl2_key {j t : Int} (h : wf2 j t) : WideAt.IsKeyLit (kl2 j t) := key2.key (key2_of h)
theorem kl2_inj {j t j' t' : Int} (h : wf2 j t) (h' : wf2 j' t') (e : kl2 j t = kl2 j' t') : j = j' ∧ t = t' := by
 have := key2.inj (key2_of h) (e ▸ key2_of h')
 unfold vk at this
 simpa using this
theorem kl2_same {j t j' t' : Int} (h : wf2 j t) (h' : wf2 j' t') : (kl2 j t).sameKey (kl2 j' t') = decide (j = j' ∧ t = t') := by
 by_cases e : j = j' ∧ t = t'
 · obtain ⟨rfl, rfl⟩ := e
   rw [WideAt.sameKey_self (kl2_key h)]; simp
 · rw [Maps.sameKey_ne (fun e' => e (kl2_inj h h' e'))]; simp [e]
noncomputable abbrev R2 : Value → Option (DataW Unit × List MemPlace) := plainElem Tryz.prog 4
theorem R2_bool (x : Bool) : R2 (.bool x) = some (.lit (.bool x), []) := plainElem_bool Tryz.underlying4 x
theorem R2_inv {v : Value} {y : DataW Unit × List MemPlace} (h : R2 v = some y) : ∃ c, v = .bool c := bool_inv Tryz.underlying4 h
theorem R2_one {c d : Bool} {ps : List MemPlace} (h : R2 (.bool c) = some (.lit (.bool d), ps)) : c = d := by
 rw [R2_bool] at h
 have h := Option.some.inj h
 have h : (DataW.lit (.bool c) : DataW Unit) = .lit (.bool d) := congrArg Prod.fst h
 have h := DataW.lit.inj h
 exact Lit.bool.inj h
def reads2 (D : DataW Unit) (f : Int → Int → Bool) : Prop := ∀ j t, wf2 j t → D.atKey (kl2 j t) (.lit (.bool false)) = .lit (.bool (f j t))
def MapS (w : World) (b n : Nat) (f : Int → Int → Bool) : Prop := ∃ D, w.ownsMap Tryz.prog 77 R2 b n D ∧ reads2 D f
section
variable {w w' : World} {b n : Nat} {f : Int → Int → Bool}
theorem MapS.made (w : World) : MapS (w.alloc (.map #[] 0)) w.heap.size 0 (fun _ _ => false) := ⟨_, World.ownsMap_made w _ _ _, fun _ _ _ => rfl⟩
theorem MapS.lt (h : MapS w b n f) : b < w.heap.size := by obtain ⟨D, h, _⟩ := h; exact h.lt
theorem MapS.kept {row : Option Nat} (h : MapS w b n f) (hg : w.grownBy w' row) (hne : some b ≠ row) : MapS w' b n f := by obtain ⟨D, h, r⟩ := h; exact ⟨D, h.kept hg hne, r⟩
theorem MapS.onto (h : MapS w b n f) (hg : Onto w w') : MapS w' b n f := h.kept (gb_of hg none) (by simp)
theorem MapS.mono {n' : Nat} (h : MapS w b n f) (hn : n ≤ n') : MapS w b n' f := by obtain ⟨D, h, r⟩ := h; exact ⟨D, h.mono hn, r⟩
theorem MapS.eq {g : Int → Int → Bool} (h : MapS w b n f) (e : ∀ j t, wf2 j t → f j t = g j t) : MapS w b n g := by obtain ⟨D, h, r⟩ := h; exact ⟨D, h, fun j t hw => by rw [r j t hw, e j t hw]⟩
theorem MapS.isMap (h : MapS w b n f) : ∃ es clock, w.heap[b]? = some (.map es clock) := by obtain ⟨D, ⟨es, clock, h, _⟩, _⟩ := h; exact ⟨es, clock, h⟩
theorem MapS.off {k m : Nat} {A : Option Addr} {rows : List (List Value)} (h : MapS w b n f) (hs : S w k A m rows) (hr : ∀ r ∈ rows, ∃ u, r[0]? = some u) : OffN m b A := fun hn a ea hb => by
 obtain ⟨es, clock, hm⟩ := h.isMap
 obtain ⟨b', off, e', _, hc⟩ := hs.2.2 hn
 rw [ea] at e'; injection e' with e'; subst e'
 simp only at hb; subst hb
 have h0 : 0 < rows.length := by rw [hs.1]; exact hn
 obtain ⟨x, h1⟩ := hr rows[0] (List.getElem_mem h0)
 have g1 := hc 0 0 _ _ (List.getElem?_eq_getElem h0) h1
 unfold World.cell? at g1
 simp [hm] at g1
theorem MapS.look {j t : Int} (h : MapS w b n f) (hw : wf2 j t) : (Instr.lookup 75 (.map (some b)) (.agg #[.int .i64 j, .int .i64 t]) false).run Tryz.prog w = .ok (.bool (f j t)) w := by
 obtain ⟨D, h, r⟩ := h
 obtain ⟨v, ps, hrun, hv⟩ := h.lookup key2 Tryz.underlying75 (z := .bool false) (by kernel_rfl) (R2_bool false) (key2_of hw)
 rw [r j t hw] at hv
 obtain ⟨c, rfl⟩ := R2_inv hv
 rw [R2_one hv] at hrun
 exact hrun
end
def RangeS (w : World) (b r n cnt : Nat) (J : Int) (f : Int → Int → Bool) : Prop :=
 ∃ (D : DataW Unit) (left : Lit → Bool), w.ranges Tryz.prog 77 R2 b r n D left cnt ∧ reads2 D (fun j t => f j t && (decide (j ≠ J) || left (kl2 j t)))
def PendS (w : World) (b r n cnt : Nat) (J : Int) (f : Int → Int → Bool) (j0 t0 : Int) : Prop :=
 ∃ (D : DataW Unit) (left : Lit → Bool), w.ranges Tryz.prog 77 R2 b r n D (fun z => left z && !z.sameKey (kl2 j0 t0)) cnt ∧ reads2 D (fun j t => f j t && (decide (j ≠ J) || left (kl2 j t)))
section
variable {w w' : World} {b r n cnt : Nat} {J j0 t0 : Int} {f : Int → Int → Bool}
theorem RangeS.left (h : RangeS w b r n cnt J f) : w.rangeLeft b r = cnt := by obtain ⟨D, left, h, _⟩ := h; exact h.left_eq
theorem RangeS.owns (h : RangeS w b r n cnt J f) : b < w.heap.size ∧ r < w.heap.size := by obtain ⟨D, left, h, _⟩ := h; exact ⟨h.owns.lt, h.lt⟩
theorem PendS.owns (h : PendS w b r n cnt J f j0 t0) : b < w.heap.size ∧ r < w.heap.size := by obtain ⟨D, left, h, _⟩ := h; exact ⟨h.owns.lt, h.lt⟩
theorem RangeS.kept {row : Option Nat} (h : RangeS w b r n cnt J f) (hg : w.grownBy w' row) (h1 : some b ≠ row) (h2 : some r ≠ row) : RangeS w' b r n cnt J f := by
 obtain ⟨D, left, h, q⟩ := h; exact ⟨D, left, h.kept hg h1 h2, q⟩
theorem PendS.kept {row : Option Nat} (h : PendS w b r n cnt J f j0 t0) (hg : w.grownBy w' row) (h1 : some b ≠ row) (h2 : some r ≠ row) : PendS w' b r n cnt J f j0 t0 := by
 obtain ⟨D, left, h, q⟩ := h; exact ⟨D, left, h.kept hg h1 h2, q⟩
theorem PendS.onto (h : PendS w b r n cnt J f j0 t0) (hg : Onto w w') : PendS w' b r n cnt J f j0 t0 := h.kept (gb_of hg none) (by simp) (by simp)
theorem PendS.skip (h : PendS w b r n cnt J f j0 t0) (hw : wf2 j0 t0) (hj : j0 ≠ J) : RangeS w b r n cnt J f := by
 obtain ⟨D, left, h, q⟩ := h
 refine ⟨D, _, h, fun j t hjt => ?_⟩
 rw [q j t hjt]
 dsimp only
 rw [kl2_same hjt hw]
 by_cases e : j = j0 ∧ t = t0
 · obtain ⟨rfl, rfl⟩ := e
   simp [hj]
 · simp [e]
end
section
variable (w : World) {ops : Array Oper} {rest : List Oper} {o : Oper} {a : Act} {Q : Exit → Act → World → Prop} {b r n cnt : Nat} {f : Int → Int → Bool}
theorem wpList_put2 (hg : o.guard = none) (m x v : Operand) (hop : o.op = Op.mapUpdate 75 m x v) {j t : Int} (hm : a.eval m = .map (some b)) (hx : a.eval x = .agg #[.int .i64 j, .int .i64 t]) (hv : a.eval v = .bool true) (h : MapS w b n f) (hn : n < maxLen) (hw : wf2 j t)
    (hK : ∀ w', MapS w' b (n + 1) (fun j' t' => decide (j' = j ∧ t' = t) || f j' t') → w.grownBy w' (some b) → wpList Tryz.prog ops Q rest (a.put o.dst undef) w') :
    wpList Tryz.prog ops Q (o :: rest) a w := by
 obtain ⟨D, h, q⟩ := h
 have hmap : Maps.IsMap D := by obtain ⟨es, e, _⟩ := h.entries key2; exact ⟨es, e⟩
 refine wpList_mapUpdate_own w hg m x v _ hop _ 4 key2 Tryz.underlying75 R2 b n D hm h hn _ _ (kl2 j t) hx hv (key2_of hw) (.lit (.bool true)) [] (R2_bool true) fun w' h' g => hK w' ⟨_, h', fun j' t' hw' => ?_⟩ g
 by_cases e : j' = j ∧ t' = t
 · obtain ⟨rfl, rfl⟩ := e
   rw [Maps.atKey_put_same hmap (kl2_key hw)]; simp
 · rw [Maps.atKey_put_other (fun e' => e (kl2_inj hw' hw e')), q j' t' hw']; simp [e]
theorem wpList_range2 (hg : o.guard = none) (m : Operand) (hop : o.op = Op.range 75 m) (J : Int) (hm : a.eval m = .map (some b)) (h : MapS w b n f)
    (hK : ∀ w' cnt, RangeS w' b w.heap.size n cnt J f → w.grownBy w' none → w'.heap.size = w.heap.size + 1 → wpList Tryz.prog ops Q rest (a.put o.dst (.pointer (some ⟨w.heap.size, 0, none⟩))) w') :
    wpList Tryz.prog ops Q (o :: rest) a w := by
 obtain ⟨D, h, q⟩ := h
 refine wpList_range_own w hg m _ hop _ _ key2 Tryz.underlying75 R2 b n D hm h fun w' h1 h2 h3 => hK w' _ ⟨D, _, h1, fun j t hw => ?_⟩ h2 h3
 cases hh : Maps.has D (kl2 j t)
 · have := q j t hw
   rw [Maps.atKey_of_not_has hh] at this ⊢
   injection this with this
   injection this with this
   dsimp only
   rw [← this]; rfl
 · rw [q j t hw]; simp [hh]
theorem wpList_next2 (hg : o.guard = none) (it : Operand) (hop : o.op = Op.next it false) (J : Int) (hit : a.eval it = .pointer (some ⟨r, 0, none⟩)) (h : RangeS w b r n cnt J f)
    (hDone : cnt = 0 → MapS w b n (fun j t => f j t && decide (j ≠ J)) → wpList Tryz.prog ops Q rest (a.put o.dst (.tuple #[.bool false])) w)
    (hMore : ∀ (j t : Int) (u : Value) (w' : World) (cnt' : Nat), wf2 j t → PendS w' b r n cnt' J f j t → cnt' < cnt → w.grownBy w' (some r) → w'.heap.size = w.heap.size →
     (Instr.entry (.pointer (some ⟨r, 0, none⟩))).run Tryz.prog w' = .ok (.tuple #[.agg #[.int .i64 j, .int .i64 t], u]) w' → wpList Tryz.prog ops Q rest (a.put o.dst (.tuple #[.bool true, .agg #[.int .i64 j, .int .i64 t], u])) w') :
    wpList Tryz.prog ops Q (o :: rest) a w := by
 obtain ⟨D, left, h, q⟩ := h
 refine wpList_next_ranges w hg it hop _ key2 R2 (fun p : Int × Int => vk p.1 p.2) Value.bool (fun key kl hk => by obtain ⟨j, t, rfl, _⟩ := key2_inv hk; exact ⟨(j, t), rfl⟩) (fun v y hv => R2_inv hv) b r n D left cnt hit h (fun h0 hl => hDone h0 ⟨D, h.owns, fun j t hw => ?_⟩) ?_
 · rw [q j t hw]; dsimp only; rw [hl]; simp
 · rintro ⟨j, t⟩ c kl y w' cnt' hk hl hv hat hr hlt hgr hsz hen
   obtain ⟨j', t', e, hw, rfl⟩ := key2_inv hk
   unfold vk at e
   simp only [Value.agg.injEq] at e
   obtain ⟨rfl, rfl⟩ : j = j' ∧ t = t' := by simpa using e
   exact hMore j t (.bool c) w' cnt' hw ⟨D, left, hr, q⟩ hlt hgr hsz hen
theorem wpList_delete2 (hg : o.guard = none) (m x : Operand) (hop : o.op = Op.call { callee := Callee.builtin Builtin.delete, args := #[m, x], argTypes := #[75, 77] })
    {J j0 t0 : Int} (hm : a.eval m = .map (some b)) (hx : a.eval x = .agg #[.int .i64 j0, .int .i64 t0]) (h : PendS w b r n cnt J f j0 t0) (hw : wf2 j0 t0) (hj : j0 = J)
    (hK : ∀ w' cnt', RangeS w' b r n cnt' J f → cnt' ≤ cnt → w.mapTurned w' b → wpList Tryz.prog ops Q rest (a.put o.dst (.tuple #[])) w') :
    wpList Tryz.prog ops Q (o :: rest) a w := by
 obtain ⟨D, left, h, q⟩ := h
 refine wpList_delete_ranges w hg m x _ _ hop 4 key2 Tryz.underlying75 R2 b r n D _ cnt hm h _ (kl2 j0 t0) hx (key2_of hw) fun w' cnt' h' hle ht => hK w' cnt' ⟨_, _, h', fun j t hjt => ?_⟩ hle ht
 dsimp only
 rw [kl2_same hjt hw]
 by_cases e : j = j0 ∧ t = t0
 · obtain ⟨rfl, rfl⟩ := e
   rw [Maps.atKey_del_same]; simp [hj]
 · rw [Maps.atKey_del_other (fun e' => e (kl2_inj hjt hw e')), q j t hjt]; simp [e]
end
theorem wp_map1 {P : Program} {c : Code} {Q : Exit → Act → World → Prop} {a : Act} {w : World} (h : ∀ w1, Onto w w1 → MapS w1 w.heap.size 0 (fun _ _ => false) → c.wp P Q a w1) : c.wp P Q a (w.alloc (.map #[] 0)) :=
 h _ ((Onto.rfl' w).new _) (MapS.made w)
theorem Onto.grow {w0 w w' : World} {b : Nat} (on : Onto w0 w) (h : w.grownBy w' (some b)) (hb : w0.heap.size ≤ b) : Onto w0 w' := below_grown on on.size h (fun g hg => by injection hg with hg; omega)
theorem Onto.grow0 {w0 w w' : World} (on : Onto w0 w) (h : w.grownBy w' none) : Onto w0 w' := below_grown on on.size h (fun g hg => by cases hg)
theorem wf2_of {x : Entry} (h : checkE x = 0) : wf2 x.job x.time := by
 have hb : ¬ (x.job < 0 ∨ 6 ≤ x.job ∨ x.every < 0 ∨ 100 < x.every ∨ x.time < 0 ∨ 100000 < x.time ∨ x.client < 0 ∨ 3 ≤ x.client) := fun hb => by
  unfold checkE at h
  split at h
  · cases h
  · cases h
 have e1 : IntKind.min .i64 = -9223372036854775808 := by decide
 have e2 : IntKind.max .i64 = 9223372036854775807 := by decide
 have key : ∀ n : Int, 0 ≤ n → n ≤ 100000 → (Lit.int .i64 n).wf = true := fun n h0 h1 => by
  show (decide (IntKind.min .i64 ≤ n) && decide (n ≤ IntKind.max .i64)) = true
  rw [e1, e2, Bool.and_eq_true, decide_eq_true_eq, decide_eq_true_eq]
  omega
 exact ⟨key _ (by omega) (by omega), key _ (by omega) (by omega)⟩
theorem grown_turned {w w' : World} {b : Nat} (h : w.mapTurned w' b) : w.grownBy w' (some b) := by
 obtain ⟨es, clock, es', clock', hb, rfl⟩ := h
 exact ⟨rfl, rfl, rfl, by simp [Go.ChangeMaps.setBlock], fun i _ hi => Go.ChangeMaps.heap_setBlock_other hb _ (fun e => hi (by rw [e]))⟩
end
section
set_option linter.unusedSimpArgs false
set_option linter.unusedVariables false
open Go.RowKit
attribute [local go_sem ↓] Go.wp_at_zero Go.wp_at_succ
def OnceQ (wb : World) (x : Wor) (w : World) : Prop := Onto wb w ∧ RingsI x
theorem logW_right {x : Wor} (h : GoodW x) : logW x = (logOf x, 0) := by
 unfold logW; rw [if_neg (by rw [checkW_iff.2 h]; simp)]
theorem bookW_right {x : Wor} (h : GoodW x) : bookW x = replay (logOf x) := by
 unfold bookW; rw [if_neg (by rw [checkW_iff.2 h]; simp)]
theorem replayB_good : ∀ {l : List Entry} {b : Book}, GoodB b → GoodB (replayB b l).1
 | [], b, h => h
 | e :: l, b, h => by
   rw [replayB]
   by_cases h1 : (applyB b e).2 = 0
   · rw [if_neg (by simp [h1])]; exact replayB_good (applyB_good h h1).2
   · rw [if_pos h1]; exact good_none
theorem replay_good {l : List Entry} : GoodB (replay l).1 := by
 unfold replay
 by_cases h : 60 < l.length
 · rw [if_pos h]; exact good_none
 · rw [if_neg h]; exact replayB_good good_none
theorem once_at {b : Book} {S : List (Int × Int)} {l : List Entry} {k : Nat} {x : Entry} (hx : l[k]? = some x) (h : onceB b S (l.drop k)) : applyB b x = (stepB b x, 0) ∧ checkE x = 0 ∧
    (if b.rung.length < (stepB b x).rung.length then (x.job, x.time) ∉ seenB b S x ∧ onceB (stepB b x) ((x.job, x.time) :: seenB b S x) (l.drop (k + 1)) else onceB (stepB b x) (seenB b S x) (l.drop (k + 1))) := by
 obtain ⟨hk, rfl⟩ := List.getElem?_eq_some_iff.1 hx
 rw [List.drop_eq_getElem_cons hk] at h
 obtain ⟨h1, h2⟩ := h
 unfold applyB at h1 ⊢
 by_cases c1 : checkB b ≠ 0
 · rw [if_pos c1] at h1; exact absurd h1 c1
 · rw [if_neg c1] at h1 ⊢
   by_cases c2 : checkE l[k] ≠ 0
   · rw [if_pos c2] at h1; exact absurd h1 c2
   · rw [if_neg c2]
     exact ⟨rfl, by simpa using c2, h2⟩
theorem Turn.two {w : World} {z : Nat} (a b : Value) : Turn w ((w.setCell ⟨z, 0, none⟩ a).setCell ⟨z, 1, none⟩ b) z := ((Turn.rfl' w z).put rfl a).put rfl b
theorem Bx.two {w : World} {z : Nat} {x0 x1 : Value} (h : Bx w z [x0, x1]) (a b : Value) : Bx ((w.setCell ⟨z, 0, none⟩ a).setCell ⟨z, 1, none⟩ b) z [a, b] := (h.put1 (j := 0) (by simp) a).put1 (j := 1) (by simp) b
def inS (S : List (Int × Int)) (j t : Int) : Bool := decide ((j, t) ∈ S)
theorem in_seen {b : Book} {S : List (Int × Int)} {x : Entry} (h : b.jobs.length < (stepB b x).jobs.length) (j t : Int) : (inS S j t && decide (j ≠ x.job)) = inS (seenB b S x) j t := by
 unfold seenB inS
 rw [if_pos h]
 simp [List.mem_filter]
theorem in_same {b : Book} {S : List (Int × Int)} {x : Entry} (h : ¬ b.jobs.length < (stepB b x).jobs.length) : seenB b S x = S := by
 unfold seenB
 rw [if_neg h]
theorem in_cons {S : List (Int × Int)} (j0 t0 j t : Int) : (decide (j = j0 ∧ t = t0) || inS S j t) = inS ((j0, t0) :: S) j t := by
 unfold inS
 simp [List.mem_cons]
set_option maxHeartbeats 8000000 in
set_option maxRecDepth 100000 in
theorem OnceF_calls (wb : World) (EW : Env wb) (x : Wor) (w : World) (A : Option Addr) (n c : Nat) (C : Option Addr) (m d : Nat) (ns : List NV) (cs : List CV) (h : Hap) (I : OnceQ wb x w) (hg : GoodW x) (hx : (happenW x h).2 = 0) (R : WR w A n C m ns cs) (hw : wor ns (happenW x h).1.tip cs (happenW x h).1.time = (happenW x h).1) :
    Calls Tryz.prog 29 #[.agg #[.slice A n c, .int .i64 (happenW x h).1.tip, .slice C m d, .int .i64 (happenW x h).1.time]] w fun e w' => e = .returned (.bool true) ∧ OnceQ wb (happenW x h).1 w' ∧ w.grownBy w' none := by
 have hri := I.2.happen hg hx
 have hg2 := hg.happen hx
 have on0 := I.1
 obtain ⟨v, hv⟩ : ∃ v, v = (happenW x h).1 := ⟨_, rfl⟩
 rw [← hv] at hri hg2 hw ⊢
 obtain ⟨r1, r2, r3⟩ := story_once hg2 hri
 have hlw := logW_right hg2
 have hbw := bookW_right hg2
 have HLW := Lib.hid hlw; have HBW := Lib.hid hbw; have HW := Lib.hid hw; have HRI := Lib.hid hri; have HG2 := Lib.hid hg2
 have R1 := Lib.hid r1; have R2 := Lib.hid r2; have R3 := Lib.hid r3
 clear hlw hbw hw hv hg hx I hg2 hri r1 r2 r3
 go_enter Tryz.func29, Tryz.ntmps29
 go_upto_region 1 with fail
 refine wp_box1 (v1 := [.slice A n c, .int .i64 v.tip, .slice C m d, .int .i64 v.time]) rfl fun w1 on BX => ?_
 replace R := R.onto on
 have on1 := on0.to on
 clear on0
 generalize w.heap.size = zx at BX ⊢
 have x0 := BX.at_ 0 rfl; have x1 := BX.at_ 1 rfl; have x2 := BX.at_ 2 rfl; have x3 := BX.at_ 3 rfl
 go_wp2_with fail
 refine Calls.mono (SBook_calls A n c v.tip C m d v.time ns cs _ (EW.onto on1) R) ?_
 rw [HW.out, HBW.out]
 rintro e w2 ⟨A4, n4, c4, A5, n5, c5, rfl, s4, s5, ob⟩
 rw [R1.out]
 replace R := R.onto ob; replace BX := BX.onto ob; replace on := on.to ob; replace on1 := on1.to ob
 clear x0 x1 x2 x3 ob
 go_upto_region 2 with fail
 refine wp_box1 (v1 := [.slice A4 n4 c4, .slice A5 n5 c5]) rfl fun w3 ob BB => ?_
 replace R := R.onto ob; replace BX := BX.onto ob; replace on := on.to ob; replace on1 := on1.to ob; replace s5 := S.onto s5 ob
 generalize w2.heap.size = zb at BB ⊢
 clear ob s4
 have x0 := BX.at_ 0 rfl; have x1 := BX.at_ 1 rfl; have x2 := BX.at_ 2 rfl; have x3 := BX.at_ 3 rfl
 go_wp2_with fail
 refine Calls.mono (SLog_calls A n c v.tip C m d v.time ns cs _ (EW.onto on1) R) ?_
 rw [HW.out, HLW.out]
 rintro e w4 ⟨B1, b1, y1, rfl, S1, _, _, ob, _⟩
 replace S1 : S w4 5 B1 b1 ((logOf v).map encE) := S1
 replace BX := BX.onto ob; replace BB := BB.onto ob; replace on := on.to ob; replace on1 := on1.to ob; replace s5 := s5.onto ob
 clear x0 x1 x2 x3 ob R
 have r1 := BB.at_ 1 rfl
 go_wp2_with fail
 clear r1
 have hl5 : (replay (logOf v)).1.rung.length = n5 := by have := s5.len; simpa using this
 have HL5 := Lib.hid hl5
 have h60 : n5 ≤ 60 := by have := (replay_good (l := logOf v)).nr; omega
 clear hl5
 go_loopg [8, 35] n5 (fun g s8 s35 wr => ∃ k : Nat, k ≤ n5 ∧ n5 - k ≤ g ∧ s35 = .int .i64 k ∧ Onto w4 wr)
 case atStart => exact ⟨0, by omega, by omega, rfl, Onto.rfl' _⟩
 case round =>
  obtain ⟨k, hk, hgk, rfl, bw⟩ := hrel
  by_cases hlt : k < n5
  · obtain ⟨ba, oa, u, hA5, _, hu, a0, a1, a2⟩ := (s5.onto bw).atR hlt
    have hut : u.time ≤ v.time := R2.out u (List.mem_of_getElem? hu)
    have hle : ¬ (v.time < u.time) := by omega
    have HA5 := Lib.hid hA5
    rw [hA5]
    clear hA5 hu hut
    go_upto_region 8 with fail
    refine wp_box1 (v1 := [.int .i64 u.job, .int .i64 u.time, .int .i64 u.client]) rfl fun w5 ox V => ?_
    generalize wr.heap.size = zv at V ⊢
    replace bw := bw.to ox
    clear a0 a1 a2 ox
    have BX5 := BX.onto bw
    have v1 := V.at_ 1 rfl; have x3 := BX5.at_ 3 rfl
    go_wp2_with fail
    rw [← HA5.out]
    go_roundg (n5 - (k + 1))
    case measure => omega
    case rel => exact ⟨k + 1, by omega, Nat.le_refl _, by go_num, bw⟩
  · obtain rfl : k = n5 := by omega
    replace BX := BX.onto bw; replace BB := BB.onto bw; replace on := on.to bw; replace on1 := on1.to bw; replace S1 := S1.onto bw
    clear s5 bw hk hgk hlt
    generalize wr = w5 at *
    have hb1 : (logOf v).length = b1 := by have := S1.len; simpa using this
    have hb60 : b1 ≤ 60 := by have := HG2.out.logLen; omega
    have HB60 := Lib.hid hb60
    clear BX BB hb1 R1 R2 HLW HBW HW
    have hmm := @run_makeMap Tryz.prog
    go_upto_region 12 with fail
    clear hmm
    refine wp_map1 fun w6 o6 MS => ?_
    have h5m : w5.heap.size ≤ w5.heap.size := Nat.le_refl _
    generalize hzm : w5.heap.size = zm at MS ⊢
    rw [hzm] at h5m
    have h5m : w5.heap.size ≤ zm := by omega
    clear hzm
    go_upto_region 13 with fail
    refine wp_box1 (v1 := [.slice none 0 0, .slice none 0 0]) rfl fun w7 o7 C => ?_
    have hmc := MS.lt
    have h5c := o6.size
    replace MS := MS.onto o7
    replace o6 := o6.to o7
    generalize w6.heap.size = zc at C hmc h5c ⊢
    have hne : zm ≠ zc := by omega
    clear o7
    go_wp2_with fail
    go_loopg [12, 13, 14, 15, 48] b1 (fun g s12 s13 s14 s15 s48 wr => ∃ (k : Nat) (b : Book) (Sx : List (Int × Int)) (P1 : Option Addr) (p1 q1 : Nat) (P2 : Option Addr) (p2 q2 : Nat), k ≤ b1 ∧ b1 - k ≤ g ∧ s48 = .int .i64 k ∧ Hid (onceB b Sx ((logOf v).drop k)) ∧ Bx wr zc [.slice P1 p1 q1, .slice P2 p2 q2] ∧ S wr 3 P1 p1 (b.jobs.map encJ) ∧ S wr 3 P2 p2 (b.rung.map encR) ∧ MapS wr zm k (inS Sx) ∧ Onto w5 wr)
    case atStart => exact ⟨0, Book.none, [], none, 0, 0, none, 0, 0, by omega, by omega, rfl, R3, C, Sl.nil, Sl.nil, MS, o6⟩
    case round =>
     clear MS C o6
     obtain ⟨k, b, Sx, P1, p1, q1, P2, p2, q2, hk, hgk, rfl, HO, C, sJ, sR, MS, bw⟩ := hrel
     by_cases hlt : k < b1
     · obtain ⟨bl, ol, x, hB1, _, hx, e0, e1, e2, e3, e4⟩ := (S1.onto bw).atE hlt
       obtain ⟨ea, he, ho⟩ := once_at hx HO.out
       have HEA := Lib.hid ea; have HOO := Lib.hid ho; have HW2 := Lib.hid (wf2_of he); have HB1 := Lib.hid hB1
       rw [hB1]
       clear hB1 hx ea he ho HO
       go_upto_region 16 with fail
       refine wp_box1 (v1 := [.int .i64 x.kind, .int .i64 x.job, .int .i64 x.every, .int .i64 x.time, .int .i64 x.client]) rfl fun w8 ob X => ?_
       have hmx := MS.lt
       generalize wr.heap.size = zx at X hmx ⊢
       replace C := C.onto ob; replace sJ := S.onto sJ ob; replace sR := S.onto sR ob; replace MS := MS.onto ob; replace bw := bw.to ob
       clear e0 e1 e2 e3 e4 ob
       have c0 := C.at_ 0 rfl; have c1 := C.at_ 1 rfl; have x0 := X.at_ 0 rfl; have x1 := X.at_ 1 rfl; have x2 := X.at_ 2 rfl; have x3 := X.at_ 3 rfl; have x4 := X.at_ 4 rfl
       go_wp2_with fail
       refine Calls.mono (Apply_calls P1 P2 p1 q1 p2 q2 _ b x.kind x.job x.every x.time x.client _ sJ sR (Nat.le_refl _)) ?_
       rw [show applyB b ⟨x.kind, x.job, x.every, x.time, x.client⟩ = (stepB b x, 0) from HEA.out]
       rintro e w9 ⟨D1, n1, y1, D2, n2, y2, rfl, tJ, tR, ob, f1, f2, g1, g2⟩
       replace ob : Onto w8 w9 := ob
       replace tJ : S w9 3 D1 n1 ((stepB b x).jobs.map encJ) := tJ
       replace tR : S w9 3 D2 n2 ((stepB b x).rung.map encR) := tR
       have j1 : b.jobs.length = p1 := by have := sJ.len; simpa using this
       have j2 : (stepB b x).jobs.length = n1 := by have := tJ.len; simpa using this
       have r1 : b.rung.length = p2 := by have := sR.len; simpa using this
       have r2 : (stepB b x).rung.length = n2 := by have := tR.len; simpa using this
       have o1 : OffN n1 zm D1 := f1.offN MS.lt
       have o2 : OffN n1 zc D1 := f1.offN C.lt
       have o3 : OffN n2 zm D2 := f2.offN MS.lt
       have o4 : OffN n2 zc D2 := f2.offN C.lt
       have J1 := Lib.hid j1; have J2 := Lib.hid j2; have U1 := Lib.hid r1; have U2 := Lib.hid r2
       replace C := C.onto ob; replace X := X.onto ob; replace MS := MS.onto ob; replace bw := bw.to ob
       clear x0 x1 x2 x3 x4 c0 c1 sJ sR ob f1 f2 j1 j2 r1 r2 HEA
       go_upto_region 17 with fail
       refine wp_box1 (v1 := [.slice D1 n1 y1, .slice D2 n2 y2]) rfl fun w10 ob D => ?_
       have hmd := MS.lt; have hcd := C.lt
       generalize w9.heap.size = zd at D hmd hcd ⊢
       replace C := C.onto ob; replace X := X.onto ob; replace MS := MS.onto ob; replace bw := bw.to ob; replace tJ := tJ.onto ob; replace tR := tR.onto ob
       clear ob
       have hm10 := MS.lt; have hc10 := C.lt; have hd10 := D.lt; have hx10 := X.lt
       by_cases hj : p1 < n1
       · have c0 := C.at_ 0 rfl; have d0 := D.at_ 0 rfl
         go_wp2_with (at_range; refine wpList_range2 _ rfl _ rfl x.job rfl MS ?_)
         intro w11 cnt hR hg hs
         have o5 : OffN n1 w10.heap.size D1 := tJ.offN (Nat.le_refl _)
         have o6 : OffN n2 w10.heap.size D2 := tR.offN (Nat.le_refl _)
         have h5r := bw.size
         have ob := (Onto.rfl' w10).grow0 hg
         replace C := C.onto ob; replace D := D.onto ob; replace X := X.onto ob; replace tJ := tJ.onto ob; replace tR := tR.onto ob; replace bw := bw.to ob
         clear MS hg hs ob c0 d0
         generalize w10.heap.size = zr at hR hm10 hc10 hd10 hx10 o5 o6 h5r ⊢
         go_wp2_with fail
         try go_frame
         go_loopg [15] cnt (fun g s15 wr => ∃ cn, cn ≤ g ∧ RangeS wr zm zr k cn x.job (inS Sx) ∧ Bx wr zc [.slice P1 p1 q1, .slice P2 p2 q2] ∧ Bx wr zd [.slice D1 n1 y1, .slice D2 n2 y2] ∧ Bx wr zx [.int .i64 x.kind, .int .i64 x.job, .int .i64 x.every, .int .i64 x.time, .int .i64 x.client] ∧ S wr 3 D1 n1 ((stepB b x).jobs.map encJ) ∧ S wr 3 D2 n2 ((stepB b x).rung.map encR) ∧ Onto w5 wr)
         case atStart => exact ⟨cnt, Nat.le_refl _, hR, C, D, X, tJ, tR, bw⟩
         case round =>
          clear hR C D X tJ tR bw
          obtain ⟨cn, hcn, hR, C, D, X, tJ, tR, bw⟩ := hrel
          go_wp2_with (at_next; refine wpList_next2 _ rfl _ rfl x.job rfl hR ?_ ?_)
          · intro _ MS
            replace MS : MapS wr zm k (inS (seenB b Sx x)) := MS.eq (fun j t _ => by rw [← in_seen (by rw [J1.out, J2.out]; exact hj)]; simp)
            clear hR
            have ho := HOO.out
            rw [U1.out, U2.out] at ho
            have c1 := C.at_ 1 rfl; have d1 := D.at_ 1 rfl
            have hb60 := HB60.out
            by_cases hr : p2 < n2
            · rw [if_pos hr] at ho
              obtain ⟨hn, ho⟩ := ho
              have hlk := MS.look HW2.out
              rw [show inS (seenB b Sx x) x.job x.time = false by unfold inS; simpa using hn] at hlk
              have HO2 := Lib.hid ho
              clear ho hn HOO
              have x1 := X.at_ 1 rfl; have x3 := X.at_ 3 rfl
              go_wp2_with (at_mapUpdate; refine wpList_put2 _ rfl _ _ _ rfl rfl rfl rfl MS (Nat.lt_of_lt_of_le (Nat.lt_of_lt_of_le hlt hb60) (show 60 ≤ maxLen by simp [maxLen])) HW2.out ?_)
              intro w15 MS2 hg
              replace MS2 : MapS w15 zm (k + 1) (inS ((x.job, x.time) :: seenB b Sx x)) := MS2.eq (fun j t _ => by rw [← in_cons]; simp)
              replace C := C.grown hg (by intro e; injection e with e; omega)
              replace D := D.grown hg (by intro e; injection e with e; omega)
              replace tJ := tJ.grown hg (fun g e => by injection e with e; subst e; exact o1)
              replace tR := tR.grown hg (fun g e => by injection e with e; subst e; exact o3)
              replace bw := bw.grow hg h5m
              clear c1 d1 x1 x3 hlk MS hg X
              have c0 := C.at_ 0 rfl; have c1 := C.at_ 1 rfl; have d0 := D.at_ 0 rfl; have d1 := D.at_ 1 rfl; have q0 := C.froz 0; have q1 := C.froz 1
              go_wp2_with fail
              rw [← HB1.out]
              go_roundg (b1 - (k + 1))
              case measure => omega
              case rel =>
               have t := Turn.two (w := w15) (z := zc) (.slice D1 n1 y1) (.slice D2 n2 y2)
               exact ⟨k + 1, stepB b x, _, D1, n1, y1, D2, n2, y2, by omega, Nat.le_refl _, by go_num, HO2, C.two _ _, tJ.grown t (fun g e => by injection e with e; subst e; exact o2), tR.grown t (fun g e => by injection e with e; subst e; exact o4), MS2.kept t (by intro e; injection e with e; omega), bw.grow t h5c⟩
            · rw [if_neg hr] at ho
              have hr' : decide (p2 < n2) = false := by simpa using hr
              have HO2 := Lib.hid ho
              clear ho HOO
              have d0 := D.at_ 0 rfl; have q0 := C.froz 0; have q1 := C.froz 1; have c0 := C.at_ 0 rfl
              have t := fun wt : World => Turn.two (w := wt) (z := zc) (.slice D1 n1 y1) (.slice D2 n2 y2)
              go_wp2_with fail
              rw [← HB1.out]
              go_roundg (b1 - (k + 1))
              case measure => omega
              case rel =>
               exact ⟨k + 1, stepB b x, _, D1, n1, y1, D2, n2, y2, by omega, Nat.le_refl _, by go_num, HO2, C.two _ _, tJ.grown (t _) (fun g e => by injection e with e; subst e; exact o2), tR.grown (t _) (fun g e => by injection e with e; subst e; exact o4), (MS.mono (Nat.le_succ k)).kept (t _) (by intro e; injection e with e; omega), bw.grow (t _) h5c⟩
          · intro j t uu w12 cn' hw hP hlt2 hg hs hen
            replace C := C.grown hg (by intro e; injection e with e; omega)
            replace D := D.grown hg (by intro e; injection e with e; omega)
            replace X := X.grown hg (by intro e; injection e with e; omega)
            replace tJ := tJ.grown hg (fun g e => by injection e with e; subst e; exact o5)
            replace tR := tR.grown hg (fun g e => by injection e with e; subst e; exact o6)
            replace bw := bw.grow hg h5r
            clear hR hg hs
            go_upto_region 23 with fail
            clear hen
            refine wp_box1 (v1 := [.int .i64 j, .int .i64 t]) rfl fun w13 ob K => ?_
            generalize w12.heap.size = zk at K ⊢
            replace C := C.onto ob; replace D := D.onto ob; replace X := X.onto ob; replace tJ := tJ.onto ob; replace tR := tR.onto ob; replace bw := bw.to ob; replace hP := hP.onto ob
            clear ob
            have k0 := K.at_ 0 rfl; have k1 := K.at_ 1 rfl; have x1 := X.at_ 1 rfl
            by_cases hjj : j = x.job
            · subst hjj
              go_wp2_with (at_delete; refine wpList_delete2 _ rfl _ _ rfl rfl rfl hP hw rfl ?_)
              intro w14 cn2 hR hle ht
              have hg := grown_turned ht
              replace C := C.grown hg (by intro e; injection e with e; omega)
              replace D := D.grown hg (by intro e; injection e with e; omega)
              replace X := X.grown hg (by intro e; injection e with e; omega)
              replace tJ := tJ.grown hg (fun g e => by injection e with e; subst e; exact o1)
              replace tR := tR.grown hg (fun g e => by injection e with e; subst e; exact o3)
              replace bw := bw.grow hg h5m
              clear k0 k1 x1 K hP hg ht
              go_wp2_with fail
              go_roundg cn2
              case measure => omega
              case rel => exact ⟨cn2, Nat.le_refl _, hR, C, D, X, tJ, tR, bw⟩
            · go_wp2_with fail
              go_roundg cn'
              case measure => omega
              case rel => exact ⟨cn', Nat.le_refl _, hP.skip hw hjj, C, D, X, tJ, tR, bw⟩
       · have hj' : decide (p1 < n1) = false := by simpa using hj
         have hs : seenB b Sx x = Sx := in_same (by rw [J1.out, J2.out]; exact hj)
         rw [← hs] at MS
         clear hs
         have c0 := C.at_ 0 rfl; have d0 := D.at_ 0 rfl
         have ho := HOO.out
         rw [U1.out, U2.out] at ho
         have c1 := C.at_ 1 rfl; have d1 := D.at_ 1 rfl
         have hb60 := HB60.out
         by_cases hr : p2 < n2
         · rw [if_pos hr] at ho
           obtain ⟨hn, ho⟩ := ho
           have hlk := MS.look HW2.out
           rw [show inS (seenB b Sx x) x.job x.time = false by unfold inS; simpa using hn] at hlk
           have HO2 := Lib.hid ho
           clear ho hn HOO
           have x1 := X.at_ 1 rfl; have x3 := X.at_ 3 rfl
           go_wp2_with (at_mapUpdate; refine wpList_put2 _ rfl _ _ _ rfl rfl rfl rfl MS (Nat.lt_of_lt_of_le (Nat.lt_of_lt_of_le hlt hb60) (show 60 ≤ maxLen by simp [maxLen])) HW2.out ?_)
           intro w15 MS2 hg
           replace MS2 : MapS w15 zm (k + 1) (inS ((x.job, x.time) :: seenB b Sx x)) := MS2.eq (fun j t _ => by rw [← in_cons]; simp)
           replace C := C.grown hg (by intro e; injection e with e; omega)
           replace D := D.grown hg (by intro e; injection e with e; omega)
           replace tJ := tJ.grown hg (fun g e => by injection e with e; subst e; exact o1)
           replace tR := tR.grown hg (fun g e => by injection e with e; subst e; exact o3)
           replace bw := bw.grow hg h5m
           clear c0 d0 c1 d1 x1 x3 hlk MS hg X
           have c0 := C.at_ 0 rfl; have c1 := C.at_ 1 rfl; have d0 := D.at_ 0 rfl; have d1 := D.at_ 1 rfl; have q0 := C.froz 0; have q1 := C.froz 1
           go_wp2_with fail
           rw [← HB1.out]
           go_roundg (b1 - (k + 1))
           case measure => omega
           case rel =>
            have t := Turn.two (w := w15) (z := zc) (.slice D1 n1 y1) (.slice D2 n2 y2)
            exact ⟨k + 1, stepB b x, _, D1, n1, y1, D2, n2, y2, by omega, Nat.le_refl _, by go_num, HO2, C.two _ _, tJ.grown t (fun g e => by injection e with e; subst e; exact o2), tR.grown t (fun g e => by injection e with e; subst e; exact o4), MS2.kept t (by intro e; injection e with e; omega), bw.grow t h5c⟩
         · rw [if_neg hr] at ho
           have hr' : decide (p2 < n2) = false := by simpa using hr
           have HO2 := Lib.hid ho
           clear ho HOO
           have d0 := D.at_ 0 rfl; have q0 := C.froz 0; have q1 := C.froz 1; have c0 := C.at_ 0 rfl
           have t := fun wt : World => Turn.two (w := wt) (z := zc) (.slice D1 n1 y1) (.slice D2 n2 y2)
           go_wp2_with fail
           rw [← HB1.out]
           go_roundg (b1 - (k + 1))
           case measure => omega
           case rel =>
            exact ⟨k + 1, stepB b x, _, D1, n1, y1, D2, n2, y2, by omega, Nat.le_refl _, by go_num, HO2, C.two _ _, tJ.grown (t _) (fun g e => by injection e with e; subst e; exact o2), tR.grown (t _) (fun g e => by injection e with e; subst e; exact o4), (MS.mono (Nat.le_succ k)).kept (t _) (by intro e; injection e with e; omega), bw.grow (t _) h5c⟩
     · obtain rfl : k = b1 := by omega
       replace on := on.to bw; replace on1 := on1.to bw
       clear C sJ sR MS bw HO S1
       go_wp2_with fail
       go_ret
       exact ⟨rfl, ⟨on1, HRI.out⟩, gb_of on none⟩
set_option maxHeartbeats 8000000 in
set_option maxRecDepth 100000 in
theorem StoryOnce_calls (A0 : Option Addr) (k i : Nat) (l : List Hap) (w : World) (E : Env w) (SL : S w 10 A0 k (l.map encH)) (hki : k ≤ i) (him : i ≤ maxLen) :
    Calls Tryz.prog 9 #[.slice A0 k i] w fun e w' => e = .returned (.bool true) ∧ Onto w w' := by
 have I : OnceQ w newW w := ⟨Onto.rfl' w, RingsI.new⟩
 have Y : Plays (OnceQ w) 29 #[] none A0 k l w :=
  ⟨I, fun x w1 w2 h b => ⟨h.1.to b, h.2⟩, fun x w2 w3 z hz2 h hw t => ⟨below_grown h.1 h.1.size t (fun g hg => by injection hg with hg; subst hg; exact hz2), h.2⟩, fun x w2 h => E.onto h.1, fun x w2 h => SL.onto h.1,
   fun x w2 w3 A n C m ns cs h R t => ⟨R.nr.grown t (fun g e => by cases e), R.cr.grown t (fun g e => by cases e), fun v hv => (R.ni v hv).gr t (fun g e => by cases e), fun v hv => (R.ci v hv).gr t (fun g e => by cases e)⟩, fun b e => (by cases e), fun _ _ => (by kernel_rfl),
   fun x w2 A n c C m d ns cs h hp hg hx R hw => OnceF_calls w E x w2 A n c C m d ns cs h hp hg hx R hw⟩
 have HY := Lib.hid Y
 clear Y I
 go_enter Tryz.func9, Tryz.ntmps9
 go_wp2_with fail
 refine Calls.mono (Played_calls (OnceQ w) 29 #[] none A0 k i l w hki HY.out) ?_
 rintro e w2 ⟨x, A, n, c, C, m, d, ns, cs, rfl, hP, hG, R, hw⟩
 have on2 : Onto w w2 := hP.1
 clear hP hG R hw HY
 go_upto_region 2 with fail
 refine wp_box1 (v1 := [.slice A n c, .int .i64 x.tip, .slice C m d, .int .i64 x.time]) rfl fun w3 b X => ?_
 replace on2 := on2.to b
 clear b X
 go_wp2_with fail
 refine Calls.mono (told_calls _ (E.onto on2)) ?_
 rintro e w4 ⟨rfl, b⟩
 replace on2 := on2.to b
 clear b
 go_wp2_with fail
 go_ret
 exact ⟨rfl, on2⟩
end
section
set_option linter.unusedSimpArgs false
set_option linter.unusedVariables false
open Go.RowKit Go.ChangeShapes Go.WideShapes Go.ChangeAt
set_option maxRecDepth 100000 in
theorem storyOnce_lifted (os : Os) (started : os.Started) (H : Type) (enc : TypeId × Value → H) :
    ReturnsInHanded {} Tryz.checked os 9 .any (fun w args => (Rows.storyOnceSpec.pre enc Tryz.prog Tryz.f9 Rows.storyOnceRow.domain false w args ∧ laidMetH Tryz.prog Rows.storyOnceRow.laid w) ∧ sizedMet enc Tryz.prog Tryz.f9 (OpenSpec.ofChange Rows.storyOnceSpec) false w args)
     (Rows.storyOnceSpec.post enc Tryz.prog Tryz.f9 false true false false) := by
 refine handed_shaped (C := Tryz.checked) (X := fun w _ => laidMetH Tryz.prog Rows.storyOnceRow.laid w) (fun _ _ _ hh h => h.of_heap hh) own started (by kernel_rfl) Tryz.func9
  (ChangeSpec.witness_shaped (enc := enc) (C := Tryz.checked) (os := os) (X := fun w _ => laidMetH Tryz.prog Rows.storyOnceRow.laid w) false (World.laidAll Tryz.prog os Rows.storyOnceRow.laid) #[.slice none 0 0] 8 (World.laidAll_os _ _ _)
   (World.shaped_of_ZipB (by kernel_rfl) (by kernel_rfl)) (by kernel_rfl) (by kernel_rfl) (by kernel_rfl)
   (by rw [MakeChecks.laidMetH_plain _ _ _ (by kernel_rfl)]; exact laidMet_laidAll _ (by kernel_rfl) (by kernel_rfl))) ?_
 intro W base args ds gs before hval0 hW hsz0 hL hS
 rw [MakeChecks.laidMetH_plain _ _ _ (by kernel_rfl)] at hL
 have E : Env W := env_of hL hS
 clear hL hS
 have hval : ∀ (j : Nat) t v, Tryz.f9.params[j]? = some t → args[j]? = some v → Value.okWide Tryz.prog W .any base t v := hval0
 have hW' := hW
 obtain ⟨p, q, hA0, hV, rfl, hfz, hnd⟩ := hW
 have hA : DataW.TrodAll enc Tryz.prog W 0 (fun _ => true) true Tryz.f9.params.toList args.toList ds p := hA0
 rw [Tryz.params9] at hA hval
 obtain ⟨v0, vs0, d0, ds0, p0, q0, hargs, rfl, rfl, h0, r0⟩ := trodAll_cons hA
 obtain ⟨rfl, rfl, rfl⟩ := trodAll_nil r0
 obtain rfl : args = #[v0] := by cases args; simp_all
 obtain ⟨rfl, rfl⟩ := trodVars_none hV
 have hall := hA
 obtain ⟨qa0, qb0, qc0, rfl⟩ := okWide_slice Tryz.underlying53 (hval 0 53 v0 rfl rfl)
 obtain ⟨A0, n0, c0, l0, e0, hnc0, hcm0, s0⟩ := reads_haps (reads_of h0)
 simp [Value.cells] at e0
 obtain ⟨rfl, rfl, rfl⟩ := e0
 clear hA0 hval0
 refine (StoryOnce_calls qa0 qb0 qc0 l0 W E s0 hnc0 hcm0).mono fun e W' ⟨he, bel⟩ => ?_
 subst he
 exact ⟨_, rfl, _, _, _, [], _, [], hW', trodAll_mk1 (shut_bool Tryz.underlying4 _), Below_trodAll (ts := [53]) laidOut bel (by intro t ht; simp only [List.mem_cons, List.not_mem_nil, or_false] at ht; rcases ht with rfl <;> exact ⟨by kernel_rfl, of_decide_eq_true (by kernel_rfl)⟩) hall, rfl, bel.frame _, fun h => by cases h⟩
theorem storyOnce_row : Rows.StoryOnceSaid :=
 OpenClaim.holds_of_wide 9 Tryz.f9 rfl rfl rfl rfl rfl rfl rfl ⟨rfl, rfl, rfl, rfl, rfl⟩ rfl rfl rfl rfl rfl (by kernel_rfl) Tryz.func9 (by kernel_rfl)
  (of_decide_eq_true (by kernel_rfl)) (by unfold Func.isWrapper; first | (rw [if_pos (by decide +kernel)]; kernel_rfl) | (rw [if_neg (by decide +kernel)]; exact ⟨rfl, rfl⟩))
  (fun os started H enc _ => storyOnce_lifted os started H enc)
theorem storyOnce_holds : Rows.StoryOnceCardSaid :=
 Claim7.holds_tied_plain_at .later [] [.data, .data, .data, .data, .sentinel, .sentinel, .pinned] true Rows.storyOnceCard.stood.harness true storyOnce_row (fun _ h => by cases h) (by kernel_rfl) (fun _ h => by cases h) storyOnce_row_tie rfl ⟨rfl, rfl⟩ (by kernel_rfl) rfl
  (fun f fn hf hfn => by
   obtain rfl : f = 9 := Option.some.inj ((show Tryz.prog.funcNamed "carillon/carillonlaw.StoryOnce" = some 9 by kernel_rfl).symm.trans hf) |>.symm
   obtain rfl : fn = Tryz.f9 := (Option.some.inj (Tryz.func9.symm.trans hfn)).symm
   exact ⟨by kernel_rfl, fun j t ht => by
    rw [Tryz.params9] at ht
    have hm : t ∈ [53] := by simpa using Array.mem_of_getElem? ht
    have hall : ([53].all fun u => !Tryz.prog.wantsStandIn u) = true := by kernel_rfl
    exact (show Tryz.prog.wantsStandIn t = false by simpa using List.all_eq_true.1 hall t hm)⟩)
  (by kernel_rfl)
end
end Go.Proofs.YtmppkaoonncddaaGreatDoor
