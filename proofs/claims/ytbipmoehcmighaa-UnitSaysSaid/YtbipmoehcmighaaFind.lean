/- slices.IndexFunc at jobs, book.Find, book.Copy, book.Same. -/
import Derived.Test.YtbipmoehcmighaaBook
namespace Go.Proofs.Ytbipmoehcmighaa
set_option linter.unusedSimpArgs false
set_option linter.unusedVariables false
open Go.RowKit
set_option maxHeartbeats 1000000 in
set_option maxRecDepth 100000 in
theorem IndexFuncJ_calls (A : Option Addr) (n c B : Nat) (l : List Job) (g : FuncId) (lb : Array Value) (p : Job → Bool) (w : World) (h : Sl w B 3 A n (l.map encJ)) (hB : B ≤ w.heap.size) (hn : n ≤ 9223372036854775807)
    (eg : ∀ args w, (callFunc g args).run Try.prog w = .ok (.enter g args) w)
    (hp : ∀ (x : Job) (w' : World), Below w.heap.size w w' → Calls Try.prog g (#[.agg #[.int .i64 x.id, .int .i64 x.every, .int .i64 x.next]] ++ lb) w' fun e w'' => e = .returned (.bool (p x)) ∧ Below w'.heap.size w' w'') :
    Calls Try.prog 55 #[.slice A n c, .func (.func g) #[] lb] w fun e w' => e = .returned (.int .i64 (idxI p l)) ∧ Below w.heap.size w w' := by
  have hp' := Lib.hid hp
  clear hp
  go_enter Try.func55, Try.ntmps55
  go_wp2
  go_loopw [8] (fun s wr => ∃ i : Nat, i ≤ n ∧ s = .int .i64 i ∧ Below w.heap.size w wr ∧ Hid (∀ j y, j < i → l[j]? = some y → p y = false)) (fun s _ => n - (intOf s).toNat)
  case atStart => exact ⟨0, Nat.zero_le _, rfl, Below.refl _ _, fun j y hj => absurd hj (Nat.not_lt_zero _)⟩
  case round =>
    obtain ⟨i, hi, rfl, hbel, H⟩ := hrel
    by_cases hlt : i < n
    · obtain ⟨b, off, x, rfl, hb, hx, c0, c1, c2⟩ := (h.below (hbel.mono hB)).atJ hlt
      have HX := Lib.hid hx
      have hl := h.len
      simp at hl
      have HL := Lib.hid hl
      clear h hx hl
      cases hpx : p x with
      | true =>
        have HPX := Lib.hid hpx
        clear hpx
        go_wp2_with fail
        refine Calls.mono (hp'.out x _ hbel) ?_
        rintro e w' ⟨rfl, hw'⟩
        rw [HPX.out]
        go_wp2
        go_ret
        refine ⟨ret_int ?_, hbel.trans (hw'.mono hbel.size)⟩
        exact (idxI_at HX.out HPX.out H.out).symm
      | false =>
        have HPX := Lib.hid hpx
        clear hpx
        go_wp2_with fail
        refine Calls.mono (hp'.out x _ hbel) ?_
        rintro e w' ⟨rfl, hw'⟩
        rw [HPX.out]
        go_wp2
        go_roundw
        case measure => simp [intOf]; omega
        case rel =>
          refine ⟨i + 1, by omega, by go_num, hbel.trans (hw'.mono hbel.size), fun j y hj hy => ?_⟩
          by_cases e : j = i
          · subst e
            have := HX.out.symm.trans hy
            injection this with this
            subst this
            exact HPX.out
          · exact H.out j y (by omega) hy
    · obtain rfl : i = n := by omega
      have hl := h.len
      simp at hl
      have hfin : idxI p l = -1 := idxI_none (fun j y hy => H.out j y (by have := (List.getElem?_eq_some_iff.1 hy).1; omega) hy)
      have HF := Lib.hid hfin
      clear h hl hfin
      go_wp2
      go_ret
      exact ⟨ret_int HF.out.symm, hbel⟩


theorem Find1_calls (a b c id : Int) (q : Nat) (w : World) (hq : w.cell? ⟨q, 0, none⟩ = some (.int .i64 id)) :
    Calls Try.prog 100 #[.agg #[.int .i64 a, .int .i64 b, .int .i64 c], .pointer (some ⟨q, 0, none⟩)] w fun e w' => e = .returned (.bool (decide (a = id))) ∧ Below w.heap.size w w' := by
  have hqb : q < w.heap.size := World.block_lt_of_cell? w _ hq
  go_enter Try.func100, Try.ntmps100
  go_wp2
  go_ret
  exact ⟨ret_bool (by first | rfl | simp), (Below.refl _ _).alloc (Nat.le_refl _) _⟩

theorem Find_calls (A A' : Option Addr) (n c m d B : Nat) (id : Int) (jobs : List Job) (rung : List Rung) (w : World) (h : Sl w B 3 A n (jobs.map encJ)) (hB : B ≤ w.heap.size) (hn : n ≤ 9223372036854775807) :
    Calls Try.prog 92 #[.agg #[.slice A n c, .slice A' m d], .int .i64 id] w fun e w' => e = .returned (.int .i64 (findB ⟨jobs, rung⟩ id)) ∧ Below w.heap.size w w' := by
  have HN := Lib.hid hn
  clear hn
  go_enter Try.func92, Try.ntmps92
  go_wp2_with fail
  refine Calls.mono (IndexFuncJ_calls A n c B jobs _ _ (fun j => decide (j.id = id)) _ ((h.alloc hB _).alloc (by simp; omega) _) (by simp; omega) HN.out (fun _ _ => by kernel_rfl) ?_) ?_
  · intro x w' hw'
    exact Find1_calls _ _ _ _ _ _ ((hw'.cell (p := ⟨w.heap.size + 1, 0, none⟩) (by simp)).trans (by simp))
  rintro e w' ⟨rfl, hw'⟩
  go_wp2
  go_ret
  exact ⟨rfl, (((Below.refl _ _).alloc (Nat.le_refl _) _).alloc (by simp) _).trans (hw'.mono (by simp; omega))⟩

theorem encJ_one (l : List Job) : ∀ r ∈ l.map encJ, ∀ u ∈ r, u.oneCell' = true := by simp [encJ, Value.oneCell']
theorem encR_one (l : List Rung) : ∀ r ∈ l.map encR, ∀ u ∈ r, u.oneCell' = true := by simp [encR, Value.oneCell']

set_option maxHeartbeats 2000000 in
set_option maxRecDepth 100000 in
theorem BCopy_calls (A A' : Option Addr) (n c m d B : Nat) (jobs : List Job) (rung : List Rung) (w : World) (h : Sl w B 3 A n (jobs.map encJ)) (h' : Sl w B 3 A' m (rung.map encR)) (hB : B ≤ w.heap.size) (hn : n ≤ 1000000) (hm : m ≤ 1000000) :
    Calls Try.prog 91 #[.agg #[.slice A n c, .slice A' m d]] w fun e w' => ∃ A1 c1 A2 c2, e = .returned (.agg #[.slice A1 n c1, .slice A2 m c2]) ∧
      Own w' w.heap.size 73 3 (.slice A1 n c1) n (jobs.map encJ) ∧ Own w' w.heap.size 95 3 (.slice A2 m c2) m (rung.map encR) ∧ Below w.heap.size w w' := by
  go_enter Try.func91, Try.ntmps91
  go_wp2_with fail
  go_region_held3 (fun w' => w'.cell? ⟨w.heap.size, 0, none⟩ = some (.slice A n c) ∧ w'.cell? ⟨w.heap.size, 1, none⟩ = some (.slice A' m d))
    (first | go_keep | (refine ⟨?_, ?_⟩ <;> (rw [hb2.cell (by simp <;> omega)]; simp [*])) | (refine ⟨?_, ?_⟩ <;> (rw [hb1.cell (by simp <;> omega)]; simp)))
    (first
      | (go_at_call 83; refine Calls.mono (CloneJ_calls _ A n c B (by simp; omega) (jobs.map encJ) (by refine h.under hB ?_; repeat (first | exact Below.refl _ _ | refine below_drewN ?_ _ | refine Below.drew ?_ | refine Below.alloc ?_ (by simp <;> omega) _)) (encJ_one _) (by omega)) ?_; rintro e w1 ⟨A1, c1, rfl, hown1, hb1⟩; have hz1 : w.heap.size + 2 ≤ w1.heap.size := (by have := hb1.size; simp at this; omega); have hb1' : Below w.heap.size w w1 := ((((Below.refl _ _).alloc (Nat.le_refl _) _).alloc (by simp) _).drew).trans (hb1.mono (by simp; omega)))
      | (go_at_call 99; refine Calls.mono (CloneR_calls _ A' m d B (by omega) (rung.map encR) (by refine h'.under hB ?_; repeat (first | exact Below.refl _ _ | exact hb1' | refine below_drewN ?_ _ | refine Below.drew ?_ | refine Below.alloc ?_ (by simp) _)) (encR_one _) (by omega)) ?_; rintro e w2 ⟨A2, c2, rfl, hown2, hb2⟩; have hz2 : w.heap.size + 2 ≤ w2.heap.size := (by have := hb2.size; omega); have r0 : w2.cell? ⟨w.heap.size + 1, 0, none⟩ = some (.slice none 0 0) := (by rw [hb2.cell (by simp only; omega)]; rw [hb1.cell (by simp <;> omega)]; simp); have r1 : w2.cell? ⟨w.heap.size + 1, 1, none⟩ = some (.slice none 0 0) := (by rw [hb2.cell (by simp only; omega)]; rw [hb1.cell (by simp <;> omega)]; simp); have f0 : w2.frozen? ⟨w.heap.size + 1, 0, none⟩ = false := (by rw [hb2.frozen (by simp only; omega)]; rw [hb1.frozen (by simp <;> omega)]; simp); have f1 : w2.frozen? ⟨w.heap.size + 1, 1, none⟩ = false := (by rw [hb2.frozen (by simp only; omega)]; rw [hb1.frozen (by simp <;> omega)]; simp)))
  go_wp2
  simp only [World.size_alloc, World.size_drew] at hown1 hb1
  refine bodyPost_ret (v := .agg #[.slice A1 n c1, .slice A2 m c2]) (by simp [results, Try.results91, go_sem, r0, r1]) rfl ⟨A1, c1, A2, c2, rfl, ?_, ?_, ?_⟩
  · exact (((hown1.below hb2).setCell (by simp) _).setCell (by simp) _).lower (by omega)
  · exact ((hown2.setCell (by simp; omega) _).setCell (by simp; omega) _).lower (by omega)
  · exact ((hb1'.trans (hb2.mono (by omega))).setCell (by simp) _).setCell (by simp) _

set_option maxHeartbeats 1000000 in
theorem BSame_calls (A A' D D' : Option Addr) (n c m d n' c' m' d' B : Nat) (jobs jobs' : List Job) (rung rung' : List Rung) (w : World) (h1 : Sl w B 3 A n (jobs.map encJ)) (h2 : Sl w B 3 A' m (rung.map encR))
    (h3 : Sl w B 3 D n' (jobs'.map encJ)) (h4 : Sl w B 3 D' m' (rung'.map encR)) (hB : B ≤ w.heap.size) (hn : n ≤ 9223372036854775807) (hm : m ≤ 9223372036854775807) :
    Calls Try.prog 39 #[.agg #[.slice A n c, .slice A' m d], .agg #[.slice D n' c', .slice D' m' d']] w fun e w' => e = .returned (.bool (decide ((⟨jobs, rung⟩ : Book) = ⟨jobs', rung'⟩))) ∧ Below w.heap.size w w' := by
  have HN := Lib.hid hn; have HM := Lib.hid hm
  clear hn hm
  have hdec : decide ((⟨jobs, rung⟩ : Book) = ⟨jobs', rung'⟩) = (decide (jobs = jobs') && decide (rung = rung')) := by simp
  have HD := Lib.hid hdec
  clear hdec
  go_enter Try.func39, Try.ntmps39
  go_wp2_with fail
  refine Calls.mono (EqualJ_calls A D n n' c c' B jobs jobs' _ ((h1.alloc hB _).alloc (by simp; omega) _) ((h3.alloc hB _).alloc (by simp; omega) _) HN.out) ?_
  rintro e w' ⟨rfl, q, rfl⟩
  cases hj : decide (jobs = jobs') with
  | true =>
    have HJ := Lib.hid hj
    clear hj
    go_wp2_with fail
    refine Calls.mono (EqualR_calls A' D' m m' d d' B rung rung' _ (((h2.alloc hB _).alloc (by simp; omega) _).drewN q) (((h4.alloc hB _).alloc (by simp; omega) _).drewN q) HM.out) ?_
    rintro e w' ⟨rfl, q', rfl⟩
    go_wp2
    go_ret
    refine ⟨ret_bool (by rw [HD.out, HJ.out]; simp), ?_⟩
    repeat (first | exact Below.refl _ _ | refine below_drewN ?_ _ | refine Below.alloc ?_ (by simp) _)
  | false =>
    have HJ := Lib.hid hj
    clear hj
    go_wp2
    go_ret
    refine ⟨ret_bool (by rw [HD.out, HJ.out]; simp), ?_⟩
    repeat (first | exact Below.refl _ _ | refine below_drewN ?_ _ | refine Below.alloc ?_ (by simp) _)
end Go.Proofs.Ytbipmoehcmighaa
