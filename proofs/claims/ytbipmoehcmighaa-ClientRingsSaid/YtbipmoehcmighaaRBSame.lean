/- The document's SameBook, JobAt (for seat B; in seat A these stand in XRBookOf). -/
import Derived.Test.YtbipmoehcmighaaRBook
import Derived.Test.YtbipmoehcmighaaLawB
import Derived.Test.YtbipmoehcmighaaFind
import Derived.Test.YtbipmoehcmighaaSee
namespace Go.Proofs.Ytbipmoehcmighaa
set_option linter.unusedSimpArgs false
set_option linter.unusedVariables false
open Go.RowKit


set_option maxHeartbeats 1000000 in
theorem RBSame_calls (A A' D D' : Option Addr) (n c m d n' c' m' d' B : Nat) (jobs jobs' : List Job) (rung rung' : List Rung) (w : World) (h1 : Sl w B 3 A n (jobs.map encJ)) (h2 : Sl w B 3 A' m (rung.map encR))
    (h3 : Sl w B 3 D n' (jobs'.map encJ)) (h4 : Sl w B 3 D' m' (rung'.map encR)) (hB : B ≤ w.heap.size) (hn : n ≤ 9223372036854775807) (hm : m ≤ 9223372036854775807) :
    Calls Try.prog 78 #[.agg #[.slice A n c, .slice A' m d], .agg #[.slice D n' c', .slice D' m' d']] w fun e w' => e = .returned (.bool (decide ((⟨jobs, rung⟩ : Book) = ⟨jobs', rung'⟩))) ∧ Below w.heap.size w w' := by
  have HN := Lib.hid hn; have HM := Lib.hid hm
  clear hn hm
  have hdec : decide ((⟨jobs, rung⟩ : Book) = ⟨jobs', rung'⟩) = (decide (jobs = jobs') && decide (rung = rung')) := by simp
  have HD := Lib.hid hdec
  clear hdec
  go_enter Try.func78, Try.ntmps78
  go_wp2_with fail
  refine Calls.mono (EqualJ_calls A D n n' c c' B jobs jobs' _ ((h1.alloc hB _).alloc (by simp; omega) _) ((h3.alloc hB _).alloc (by simp; omega) _) HN.out) ?_
  rintro e w' ⟨rfl, q, rfl⟩
  cases hj : decide (jobs = jobs') with
  | true =>
    have HJ := Lib.hid hj
    clear hj
    go_wp2_with fail
    refine Calls.mono (EqualR_calls A' D' m m' d d' B rung rung' _ (((h2.alloc hB _).alloc (by simp; omega) _).drewN q) (((h4.alloc hB _).alloc (by simp; omega) _).drewN q) HM.out) ?_
    rintro e w' ⟨rfl, q', rfl⟩
    go_wp2
    go_ret
    refine ⟨ret_bool (by rw [HD.out, HJ.out]; simp), ?_⟩
    repeat (first | exact Below.refl _ _ | refine below_drewN ?_ _ | refine Below.alloc ?_ (by simp) _)
  | false =>
    have HJ := Lib.hid hj
    clear hj
    go_wp2
    go_ret
    refine ⟨ret_bool (by rw [HD.out, HJ.out]; simp), ?_⟩
    repeat (first | exact Below.refl _ _ | refine below_drewN ?_ _ | refine Below.alloc ?_ (by simp) _)

theorem findB_go {b : Book} {id : Int} {k : Nat} {x : Job} (hx : b.jobs[k]? = some x) (h : ∀ j y, j < k → b.jobs[j]? = some y → y.id ≠ id) (he : x.id = id) : findB b id = k :=
  idxI_at hx (by simpa using he) fun j y hj hy => by simpa using h j y hj hy
set_option maxHeartbeats 4000000 in
set_option maxRecDepth 100000 in
theorem RJobAt_calls (A A' : Option Addr) (n c m d : Nat) (b : Book) (id : Int) (w : World) (h : S w 3 A n (b.jobs.map encJ)) (hnm : n ≤ 9223372036854775807) :
    Calls Try.prog 79 #[.agg #[.slice A n c, .slice A' m d], .int .i64 id] w fun e w' => e = .returned (.int .i64 (findB b id)) ∧ Onto w w' := by
  have hl : b.jobs.length = n := by have := h.len; simpa using this
  have HL := Lib.hid hl
  have h01 : Onto w (w.alloc (Obj.cells #[.slice A n c, .slice A' m d] 54)) := (Below.refl _ _).alloc (Nat.le_refl _) _
  clear hl
  go_enter Try.func79, Try.ntmps79
  go_wp2_with fail
  go_loopw [10] (fun s wr => ∃ k : Nat, k ≤ n ∧ s = .int .i64 k ∧ Hid (∀ j y, j < k → b.jobs[j]? = some y → y.id ≠ id) ∧ Onto w wr) (fun s _ => n - (intOf s).toNat)
  case atStart => exact ⟨0, Nat.zero_le _, rfl, (fun j y hj => by omega : ∀ j y, j < 0 → b.jobs[j]? = some y → y.id ≠ id), h01⟩
  case round =>
    obtain ⟨k, hk, rfl, HN, hbr⟩ := hrel
    by_cases hlt : k < n
    · obtain ⟨bb, off, x, rfl, hb, hx, d0, d1, d2⟩ := (h.onto hbr).atJ hlt
      have HX := Lib.hid hx
      have hal : Onto wr (wr.alloc (Obj.cells #[.int .i64 x.id, .int .i64 x.every, .int .i64 x.next] 73)) := (Below.refl _ _).alloc (Nat.le_refl _) _
      clear hx
      by_cases he : x.id = id
      · have hd : (x.id == id) = true := by simpa using he
        have hres := findB_go HX.out HN.out he
        have HR := Lib.hid hres
        clear he hres
        go_wp2_with fail
        go_ret
        exact ⟨ret_int HR.out.symm, Onto.to hbr hal⟩
      · have hd : (x.id == id) = false := by simpa using he
        have HE := Lib.hid he
        clear he
        go_wp2_with fail
        go_roundw
        case measure => simp [intOf] <;> omega
        case rel =>
          refine ⟨k + 1, by omega, by go_num, Lib.hid fun j y hj hy => ?_, Onto.to hbr hal⟩
          by_cases hjk : j = k
          · subst hjk; rw [HX.out] at hy; cases hy; exact HE.out
          · exact HN.out j y (by omega) hy
    · have hres : findB b id = -1 := findB_none fun y hy => by
        obtain ⟨j, hj, rfl⟩ := List.getElem_of_mem hy
        exact HN.out j _ (by have := HL.out; omega) (List.getElem?_eq_getElem hj)
      have hkn : k = n := by omega
      subst hkn
      have HR := Lib.hid hres
      clear hres
      go_wp2_with fail
      go_ret
      exact ⟨ret_int HR.out.symm, hbr⟩
end Go.Proofs.Ytbipmoehcmighaa
