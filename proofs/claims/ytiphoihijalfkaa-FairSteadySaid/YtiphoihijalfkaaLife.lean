/- Lives: the closure, slices.IndexFunc at lives, what fair.Lives comes to as a plain function. -/
import Derived.Test.YtiphoihijalfkaaFind
import Derived.Test.YtiphoihijalfkaaSee
import Derived.Test.YtiphoihijalfkaaLawT
namespace Go.Proofs.Ytiphoihijalfkaa
set_option linter.unusedSimpArgs false
set_option linter.unusedVariables false
open Go.RowKit

set_option maxHeartbeats 1000000 in
set_option maxRecDepth 100000 in
theorem IndexFuncL_calls (A : Option Addr) (n c B : Nat) (l : List Life) (g : FuncId) (lb : Array Value) (p : Life → Bool) (w : World) (h : Sl w B 5 A n (l.map encL)) (hB : B ≤ w.heap.size) (hn : n ≤ 9223372036854775807)
    (eg : ∀ args w, (callFunc g args).run Try.prog w = .ok (.enter g args) w)
    (hp : ∀ (x : Life) (w' : World), Below w.heap.size w w' → Calls Try.prog g (#[.agg #[.int .i64 x.job, .int .i64 x.every, .int .i64 x.frm, .int .i64 x.rung, .bool x.over]] ++ lb) w' fun e w'' => e = .returned (.bool (p x)) ∧ Below w'.heap.size w' w'') :
    Calls Try.prog 41 #[.slice A n c, .func (.func g) #[] lb] w fun e w' => e = .returned (.int .i64 (idxI p l)) ∧ Below w.heap.size w w' := by
  have hp' := Lib.hid hp
  clear hp
  go_enter Try.func41, Try.ntmps41
  go_wp2
  go_loopw [8] (fun s wr => ∃ i : Nat, i ≤ n ∧ s = .int .i64 i ∧ Below w.heap.size w wr ∧ Hid (∀ j y, j < i → l[j]? = some y → p y = false)) (fun s _ => n - (intOf s).toNat)
  case atStart => exact ⟨0, Nat.zero_le _, rfl, Below.refl _ _, fun j y hj => absurd hj (Nat.not_lt_zero _)⟩
  case round =>
    obtain ⟨i, hi, rfl, hbel, H⟩ := hrel
    by_cases hlt : i < n
    · obtain ⟨b, off, x, rfl, hb, hx, c0, c1, c2, c3, c4⟩ := (h.below (hbel.mono hB)).atL hlt
      have HX := Lib.hid hx
      have hl := h.len
      simp at hl
      have HL := Lib.hid hl
      clear h hx hl
      cases hpx : p x with
      | true =>
        have HPX := Lib.hid hpx
        clear hpx
        go_wp2_with fail
        refine Calls.mono (hp'.out x _ hbel) ?_
        rintro e w' ⟨rfl, hw'⟩
        rw [HPX.out]
        go_wp2
        go_ret
        refine ⟨ret_int ?_, hbel.trans (hw'.mono hbel.size)⟩
        exact (idxI_at HX.out HPX.out H.out).symm
      | false =>
        have HPX := Lib.hid hpx
        clear hpx
        go_wp2_with fail
        refine Calls.mono (hp'.out x _ hbel) ?_
        rintro e w' ⟨rfl, hw'⟩
        rw [HPX.out]
        go_wp2
        go_roundw
        case measure => simp [intOf]; omega
        case rel =>
          refine ⟨i + 1, by omega, by go_num, hbel.trans (hw'.mono hbel.size), fun j y hj hy => ?_⟩
          by_cases e : j = i
          · subst e
            have := HX.out.symm.trans hy
            injection this with this
            subst this
            exact HPX.out
          · exact H.out j y (by omega) hy
    · obtain rfl : i = n := by omega
      have hl := h.len
      simp at hl
      have hfin : idxI p l = -1 := idxI_none (fun j y hy => H.out j y (by have := (List.getElem?_eq_some_iff.1 hy).1; omega) hy)
      have HF := Lib.hid hfin
      clear h hl hfin
      go_wp2
      go_ret
      exact ⟨ret_int HF.out.symm, hbel⟩

def openL (j : Int) (y : Life) : Bool := decide (y.job = j) && !y.over
/-- What an entry makes of the lives; how often was rung. -/
def stepL (s : List Life × Int) (x : Entry) : List Life × Int :=
  if x.kind = 1 ∧ idxI (openL x.job) s.1 < 0 then (s.1 ++ [⟨x.job, x.every, x.time, 0, false⟩], s.2)
  else match s.1[(idxI (openL x.job) s.1).toNat]? with
    | some y =>
      if 0 ≤ idxI (openL x.job) s.1 then
        if x.kind = 2 then (s.1.set (idxI (openL x.job) s.1).toNat ⟨y.job, y.every, y.frm, y.rung, true⟩, s.2)
        else if x.kind = 3 ∧ x.time = y.frm + y.every * y.rung ∧ s.2 < 60 then (s.1.set (idxI (openL x.job) s.1).toNat ⟨y.job, y.every, y.frm, y.rung + 1, y.over⟩, s.2 + 1)
        else s
      else s
    | none => s
def livesGo : List Life × Int → List Entry → List Life × Int
  | s, [] => (s.1, 0)
  | s, x :: l => if checkE x ≠ 0 then ([], checkE x) else livesGo (stepL s x) l
/-- fair.Lives. -/
def livesL (l : List Entry) : List Life × Int := if 60 < l.length then ([], 2) else livesGo ([], 0) l
theorem livesGo_at {s : List Life × Int} {l : List Entry} {k : Nat} {x : Entry} (hx : l[k]? = some x) : livesGo s (l.drop k) = if checkE x ≠ 0 then ([], checkE x) else livesGo (stepL s x) (l.drop (k + 1)) := by
  obtain ⟨hk, rfl⟩ := List.getElem?_eq_some_iff.1 hx
  rw [List.drop_eq_getElem_cons hk]
  rfl
theorem LivesF_calls (y : Life) (x : Entry) (B : Nat) (w : World) (h : w.cell? ⟨B, 1, none⟩ = some (.int .i64 x.job)) :
    Calls Try.prog 42 #[.agg #[.int .i64 y.job, .int .i64 y.every, .int .i64 y.frm, .int .i64 y.rung, .bool y.over], .pointer (some ⟨B, 0, none⟩)] w fun e w' => e = .returned (.bool (openL x.job y)) ∧ Onto w w' := by
  have hz := World.block_lt_of_cell? _ _ h
  simp only at hz
  have hal : Onto w (w.alloc (Obj.cells #[.int .i64 y.job, .int .i64 y.every, .int .i64 y.frm, .int .i64 y.rung, .bool y.over] 33)) := (Below.refl _ _).alloc (Nat.le_refl _) _
  by_cases hj : y.job = x.job
  · have hd : (y.job == x.job) = true := by simpa using hj
    have HJ := Lib.hid hj
    clear hj
    go_enter Try.func42, Try.ntmps42
    go_wp2
    go_ret
    exact ⟨ret_bool (by simp [openL, HJ.out]), hal⟩
  · have hd : (y.job == x.job) = false := by simpa using hj
    have HJ := Lib.hid hj
    clear hj
    go_enter Try.func42, Try.ntmps42
    go_wp2
    go_ret
    exact ⟨ret_bool (by simp [openL, HJ.out]), hal⟩
end Go.Proofs.Ytiphoihijalfkaa
