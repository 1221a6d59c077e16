/- due.Due, due.Count, due.When. -/
import Derived.Test.YtiphoihijalfkaaSort
import Derived.Test.YtiphoihijalfkaaDelF
import Derived.Test.YtiphoihijalfkaaSpecD
namespace Go.Proofs.Ytiphoihijalfkaa
set_option linter.unusedSimpArgs false
set_option linter.unusedVariables false
open Go.RowKit

set_option maxHeartbeats 1000000 in
set_option maxRecDepth 100000 in
theorem SortStable_calls (A : Option Addr) (n c base : Nat) (l : List Job) (g : FuncId) (lb : Array Value) (cf : Job → Job → Int) (w : World) (h : M w base 3 A n (l.map encJ)) (hn : n ≤ 12)
    (eg : ∀ args w, (callFunc g args).run Try.prog w = .ok (.enter g args) w)
    (hp : ∀ (x y : Job) (w' : World), x ∈ l → y ∈ l → Calls Try.prog g (#[.agg #[.int .i64 x.id, .int .i64 x.every, .int .i64 x.next], .agg #[.int .i64 y.id, .int .i64 y.every, .int .i64 y.next]] ++ lb) w' fun e w'' => e = .returned (.int .i64 (cf x y)) ∧ Onto w' w'') :
    Calls Try.prog 50 #[.slice A n c, .func (.func g) #[] lb] w fun e w' => e = .returned (.tuple #[]) ∧
      M w' base 3 A n ((isort (fun x y => decide (cf x y < 0)) l).map encJ) ∧ w.grownBy w' (A.map (·.block)) := by
  have hst : Calls Try.prog 62 #[.slice A n c, .int .i64 n, .func (.func g) #[] lb] w fun e w' => e = .returned (.tuple #[]) ∧
      M w' base 3 A n ((isort (fun x y => decide (cf x y < 0)) l).map encJ) ∧ w.grownBy w' (A.map (·.block)) := by
    have hp' := Lib.hid hp
    clear hp
    have hn' : (n : Int) < 20 := by omega
    go_enter Try.func62, Try.ntmps62
    go_wp2_with fail
    refine wp_loop_rounds 1 ?_
    rw [rounds_succ]
    go_wp2_with fail
    refine Calls.mono (isort_calls A n c base l g lb cf _ h hn eg hp'.out) ?_
    rintro e w1 ⟨rfl, h1, h2⟩
    go_wp2_with fail
    refine wp_loop_rounds 1 ?_
    rw [rounds_succ]
    go_wp2_with fail
    go_end0
    exact ⟨rfl, h1, h2⟩
  have HS := Lib.hid hst
  clear hst hp
  go_enter Try.func50, Try.ntmps50
  go_wp2_with fail
  refine Calls.mono HS.out ?_
  rintro e w' ⟨rfl, h1, h2⟩
  go_wp2
  go_end0
  exact ⟨rfl, h1, h2⟩

/-- What a call leaves that answers rows and an error. -/
def RowsPost {α : Type} (k : Nat) (en : α → List Value) (w : World) (l : List α) (err : Int) (e : Ending) (w' : World) : Prop :=
  ∃ A n c, e = .returned (.tuple #[.slice A n c, .int .i64 err]) ∧ S w' k A n (l.map en) ∧ Onto w w' ∧ Fresh w.heap.size A ∧ n ≤ c ∧ c ≤ maxLen

set_option maxHeartbeats 1000000 in
theorem dcheck_calls (A A' : Option Addr) (n c m d : Nat) (b : Book) (t : Int) (w : World) (h : S w 3 A n (b.jobs.map encJ)) (h' : S w 3 A' m (b.rung.map encR)) :
    Calls Try.prog 46 #[.agg #[.slice A n c, .slice A' m d], .int .i64 t] w fun e w' => e = .returned (.int .i64 (checkD b t)) ∧ Onto w w' := by
  by_cases h0 : checkB b = 0
  · have hs : checkD b t = if t < 0 ∨ 100000 < t then 3 else 0 := by unfold checkD; rw [if_neg (by simp [h0])]
    have HS := Lib.hid hs; have H0 := Lib.hid h0
    clear hs h0
    go_enter Try.func46, Try.ntmps46
    go_wp2_with fail
    refine Calls.mono (BCheck_calls A A' n c m d _ b.jobs b.rung _ (h.new _) (h'.new _) (Nat.le_refl _)) ?_
    rintro e w1 ⟨rfl, hb1⟩
    rw [show checkB ⟨b.jobs, b.rung⟩ = 0 from H0.out]
    have h01 : Onto w w1 := ((Below.refl _ _).alloc (Nat.le_refl _) _).trans (hb1.mono (by simp))
    clear h h' hb1
    go_wp2
    all_goals
      go_ret
      refine ⟨ret_int ?_, h01⟩
      rw [HS.out]
      split <;> omega
  · have hs : checkD b t = checkB b := by unfold checkD; rw [if_pos h0]
    have HS := Lib.hid hs
    obtain ⟨r, hr⟩ : ∃ r, r = checkB b := ⟨_, rfl⟩
    rw [← hr] at h0
    have hr0 : (r != 0) = true := by simpa using h0
    have HR := Lib.hid hr
    clear hs h0 hr
    go_enter Try.func46, Try.ntmps46
    go_wp2_with fail
    refine Calls.mono (BCheck_calls A A' n c m d _ b.jobs b.rung _ (h.new _) (h'.new _) (Nat.le_refl _)) ?_
    rintro e w1 ⟨rfl, hb1⟩
    rw [show checkB ⟨b.jobs, b.rung⟩ = r from HR.out.symm]
    have h01 : Onto w w1 := ((Below.refl _ _).alloc (Nat.le_refl _) _).trans (hb1.mono (by simp))
    clear h h' hb1
    go_wp2
    go_ret
    exact ⟨ret_int (by rw [HS.out, HR.out]), h01⟩

theorem Due1_calls (x : Job) (t : Int) (q : Nat) (w : World) (hq : w.cell? ⟨q, 0, none⟩ = some (.int .i64 t)) :
    Calls Try.prog 49 #[.agg #[.int .i64 x.id, .int .i64 x.every, .int .i64 x.next], .pointer (some ⟨q, 0, none⟩)] w fun e w' => e = .returned (.bool (decide (t < x.next))) ∧ Below w.heap.size w w' := by
  have hqb : q < w.heap.size := World.block_lt_of_cell? w _ hq
  go_enter Try.func49, Try.ntmps49
  go_wp2
  all_goals
    go_ret
    refine ⟨ret_bool (by first | rfl | (simp; done) | (simp; omega)), ?_⟩
    repeat (first | exact Below.refl _ _ | refine below_drewN ?_ _ | refine Below.alloc ?_ (by simp) _)
theorem Due2_calls (x y : Job) (w : World) (h1 : 0 ≤ x.next ∧ x.next ≤ 100100) (h2 : 0 ≤ y.next ∧ y.next ≤ 100100) :
    Calls Try.prog 51 #[.agg #[.int .i64 x.id, .int .i64 x.every, .int .i64 x.next], .agg #[.int .i64 y.id, .int .i64 y.every, .int .i64 y.next]] w fun e w' => e = .returned (.int .i64 (x.next - y.next)) ∧ Onto w w' := by
  obtain ⟨h1a, h1b⟩ := h1; obtain ⟨h2a, h2b⟩ := h2
  go_enter Try.func51, Try.ntmps51
  go_wp2
  go_ret
  refine ⟨ret_int (by first | rfl | omega), ?_⟩
  repeat (first | exact Below.refl _ _ | refine below_drewN ?_ _ | refine Below.alloc ?_ (by simp <;> omega) _)

set_option maxHeartbeats 4000000 in
set_option maxRecDepth 100000 in
theorem Due_calls (A A' : Option Addr) (n c m d : Nat) (b : Book) (t : Int) (w : World) (h : S w 3 A n (b.jobs.map encJ)) (h' : S w 3 A' m (b.rung.map encR)) :
    Calls Try.prog 20 #[.agg #[.slice A n c, .slice A' m d], .int .i64 t] w (RowsPost 3 encJ w (if checkD b t = 0 then dueL b.jobs t else []) (checkD b t)) := by
  obtain ⟨r, hr⟩ : ∃ r, r = checkD b t := ⟨_, rfl⟩
  rw [← hr]
  have HR := Lib.hid hr
  by_cases h0 : r = 0
  · obtain ⟨hg, ht0, ht1⟩ := checkD_good (h0 ▸ hr.symm)
    have hl : b.jobs.length = n := by have := h.len; simpa using this
    have hn6 : n ≤ 6 := by have := hg.nj; omega
    subst h0
    rw [if_pos rfl]
    have HL := Lib.hid hl
    clear hr hl
    go_enter Try.func20, Try.ntmps20
    go_wp2_with fail
    refine Calls.mono (dcheck_calls A A' n c m d b t _ ((h.new _).new _) ((h'.new _).new _)) ?_
    rintro e w1 ⟨rfl, hb1⟩
    rw [← HR.out]
    have q0 : w1.cell? ⟨w.heap.size, 0, none⟩ = some (.slice A n c) := cellB hb1 (by simp [go_sem])
    have q1 : w1.cell? ⟨w.heap.size + 1, 0, none⟩ = some (.int .i64 t) := cellB hb1 (by simp [go_sem])
    have h01 : Onto w w1 := (((Below.refl _ _).alloc (Nat.le_refl _) _).alloc (by simp) _).trans (hb1.mono (by simp; omega))
    have z1 : w.heap.size + 1 < w1.heap.size := World.block_lt_of_cell? _ _ q1
    clear hb1
    go_wp2_with fail
    refine Calls.mono (CloneJ_calls _ A n c _ (Nat.le_refl _) (b.jobs.map encJ) (h.onto h01) (encJ_one _) (by omega)) ?_
    rintro e w2 ⟨A2, c2, rfl, own2, hb2⟩
    have q1' := cellB hb2 q1
    have h02 := Onto.to h01 hb2
    have hM2 : M w2 w1.heap.size 3 A2 n (b.jobs.map encJ) := own2.m
    have hnc2 := own2.le_cap
    have hcm2' : c2 ≤ maxLen := own2.cap_max
    have hlt1 : ∀ bb, A2.map (·.block) = some bb → w1.heap.size ≤ bb := fun bb e => by
      cases A2 with
      | none => cases e
      | some a => exact own2.fresh (Nat.le_refl _) a rfl |> fun h => by simp at e; omega
    have HM := Lib.hid hcm2'
    have HLT := Lib.hid hlt1
    clear hb2 own2 q0 hcm2' hlt1
    go_wp2_with fail
    refine Calls.mono (DeleteFunc_calls A2 n c2 _ b.jobs _ _ (fun j => decide (t < j.next)) _ hM2 (by omega) hnc2 HM.out (fun _ _ => by kernel_rfl) ?_) ?_
    · intro x w' hw'
      refine Due1_calls x t _ w' (grow_cell hw' q1' ?_)
      intro e
      have this : w1.heap.size ≤ w.heap.size + 1 := HLT.out _ e.symm
      omega
    rintro e w3 ⟨k, rfl, hk, hM3, hg3⟩
    have h03 : Onto w w3 := below_grown h02 h02.size hg3 (fun g e => by have := HLT.out g e; have := h01.size; omega)
    clear hM2 hg3 q1 q1'
    go_wp2_with fail
    refine Calls.mono (SortStable_calls A2 k c2 _ (b.jobs.filter fun j => !decide (t < j.next)) _ _ (fun x y => x.next - y.next) _ hM3 (by omega) (fun _ _ => by kernel_rfl) ?_) ?_
    · intro x y w' hx hy
      have h1 := hg.ok x ((List.mem_filter.1 hx).1)
      have h2 := hg.ok y ((List.mem_filter.1 hy).1)
      unfold badJ at h1 h2
      exact Due2_calls x y w' (by omega) (by omega)
    rintro e w4 ⟨rfl, hM4, hg4⟩
    have h04 : Onto w w4 := below_grown h03 h03.size hg4 (fun g e => by have := HLT.out g e; have := h01.size; omega)
    clear hM3 hg4
    go_wp2_with fail
    refine bodyPost_ret (v := .tuple #[.slice A2 k c2, .int .i64 0]) (by simp [results, Try.results20, go_sem]) rfl ?_
    exact ⟨A2, k, c2, rfl, hM4.1, h04, fun a e => by have := HLT.out a.block (by rw [e]; rfl); have := h01.size; omega, by omega, HM.out⟩
  · rw [if_neg h0]
    have hr0 : (r != 0) = true := by simpa using h0
    clear h0 hr
    go_enter Try.func20, Try.ntmps20
    go_wp2_with fail
    refine Calls.mono (dcheck_calls A A' n c m d b t _ ((h.new _).new _) ((h'.new _).new _)) ?_
    rintro e w1 ⟨rfl, hb1⟩
    rw [← HR.out]
    have h01 : Onto w w1 := (((Below.refl _ _).alloc (Nat.le_refl _) _).alloc (by simp) _).trans (hb1.mono (by simp; omega))
    clear h h' hb1
    go_wp2_with fail
    refine bodyPost_ret (v := .tuple #[.slice none 0 0, .int .i64 r]) (by simp [results, Try.results20, go_sem]) rfl ?_
    exact ⟨none, 0, 0, rfl, Sl.nil, h01, Fresh.none_ _, Nat.le_refl _, by unfold maxLen; omega⟩

end Go.Proofs.Ytiphoihijalfkaa
