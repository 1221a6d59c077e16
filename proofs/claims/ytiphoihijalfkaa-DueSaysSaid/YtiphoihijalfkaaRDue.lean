/- The document's DueAt. -/
import Derived.Test.YtiphoihijalfkaaRSort
import Derived.Test.YtiphoihijalfkaaLawD
import Derived.Test.YtiphoihijalfkaaDue
namespace Go.Proofs.Ytiphoihijalfkaa
set_option linter.unusedSimpArgs false
set_option linter.unusedVariables false
open Go.RowKit

def cfD (x y : Job) : Int := (x.next - y.next) * 10 + x.id - y.id
theorem DA1_calls (x y : Job) (w : World) (h1 : ¬ badJ x) (h2 : ¬ badJ y) :
    Calls Try.prog 59 #[.agg #[.int .i64 x.id, .int .i64 x.every, .int .i64 x.next], .agg #[.int .i64 y.id, .int .i64 y.every, .int .i64 y.next]] w fun e w' => e = .returned (.int .i64 (cfD x y)) ∧ Onto w w' := by
  have e : wrap64 (wrap64 (wrap64 (wrap64 (x.next - y.next) * 10) + x.id) - y.id) = cfD x y := by
    unfold badJ at h1 h2
    unfold cfD wrap64
    omega
  have HE := Lib.hid e
  clear e h1 h2
  go_enter Try.func59, Try.ntmps59
  go_wp2
  go_ret
  refine ⟨ret_int ?_, ?_⟩
  · exact HE.out
  repeat (first | exact Below.refl _ _ | refine Below.alloc ?_ (by simp <;> omega) _)
/-- Sorted by the document's comparison it is sorted by when it is due: the jobs come in order of their IDs. -/
theorem cfD_sort {l : List Job} (hok : ∀ x ∈ l, ¬ badJ x) (hord : l.Pairwise (fun a c => a.id < c.id)) : isort (fun x y => decide (cfD x y < 0)) l = isort ltN l := by
  refine isort_congr ?_
  have h : l.Pairwise (fun y x => y.id < x.id ∧ ¬ badJ y ∧ ¬ badJ x) := by
    induction l with
    | nil => simp
    | cons a l ih =>
      obtain ⟨h1, h2⟩ := List.pairwise_cons.1 hord
      refine List.pairwise_cons.2 ⟨fun x hx => ⟨h1 x hx, hok a (by simp), hok x (by simp [hx])⟩, ih (fun x hx => hok x (by simp [hx])) h2⟩
  refine h.imp ?_
  rintro y x ⟨h1, h2, h3⟩
  unfold badJ at h2 h3
  show decide (cfD x y < 0) = decide (x.next - y.next < 0)
  unfold cfD
  rw [decide_eq_decide]
  omega
theorem Sl.oneJ {w : World} {t : TypeId} (x : Job) : Sl (w.alloc (Obj.cells #[.int .i64 x.id, .int .i64 x.every, .int .i64 x.next] t)) (w.heap.size + 1) 3 (some ⟨w.heap.size, 0, none⟩) 1 [encJ x] := by
  have := Sl.block (k := 3) (w := w.alloc (Obj.cells #[.int .i64 x.id, .int .i64 x.every, .int .i64 x.next] t)) [encJ x] (hNew rfl) (by simp [encJ]) (by rfl)
  simpa using this
def dueP (t : Int) (j : Job) : Bool := !decide (t < j.next)

set_option maxHeartbeats 4000000 in
set_option maxRecDepth 100000 in
theorem RDue_calls (A A' : Option Addr) (n c m d : Nat) (b : Book) (t : Int) (w : World) (h : S w 3 A n (b.jobs.map encJ)) (hn : n ≤ 6) (hok : ∀ x ∈ b.jobs, ¬ badJ x) (hord : b.jobs.Pairwise (fun a c => a.id < c.id)) :
    Calls Try.prog 38 #[.agg #[.slice A n c, .slice A' m d], .int .i64 t] w fun e w' => ∃ A1 n1 c1, e = .returned (.slice A1 n1 c1) ∧ S w' 3 A1 n1 ((dueL b.jobs t).map encJ) ∧ Onto w w' ∧ n1 ≤ c1 := by
  have hl : b.jobs.length = n := by have := h.len; simpa using this
  have HL := Lib.hid hl; have HOK := Lib.hid hok; have HORD := Lib.hid hord
  have h01 : Onto w (w.alloc (Obj.cells #[.slice A n c, .slice A' m d] 38)) := (Below.refl _ _).alloc (Nat.le_refl _) _
  clear hl hok hord
  go_enter Try.func38, Try.ntmps38
  go_wp2_with fail
  go_loopw [5, 11] (fun s5 s wr => ∃ (k : Nat) (A1 : Option Addr) (n1 c1 : Nat), k ≤ n ∧ s = .int .i64 k ∧ s5 = .slice A1 n1 c1 ∧ n1 ≤ k ∧ Hid (Own wr w.heap.size 46 3 (.slice A1 n1 c1) n1 (((b.jobs.take k).filter (dueP t)).map encJ)) ∧ Onto w wr) (fun _ s _ => n - (intOf s).toNat)
  case atStart => exact ⟨0, none, 0, 0, Nat.zero_le _, rfl, rfl, Nat.le_refl _, Own.nil _ _ _ _, h01⟩
  case round =>
    obtain ⟨k, A1, n1, c1, hk, rfl, rfl, hnk, HO, hbr⟩ := hrel
    by_cases hlt : k < n
    · obtain ⟨bb, off, x, rfl, hb, hx, d0, d1, d2⟩ := (h.onto hbr).atJ hlt
      have hft := filter_take_succ (p := dueP t) hx
      have hal : Onto wr (wr.alloc (Obj.cells #[.int .i64 x.id, .int .i64 x.every, .int .i64 x.next] 46)) := (Below.refl _ _).alloc (Nat.le_refl _) _
      have HX := Lib.hid hx; have HFT := Lib.hid hft
      clear hx hft
      by_cases hle : x.next ≤ t
      · have hd : decide (x.next ≤ t) = true := by simpa using hle
        have hp : dueP t x = true := by unfold dueP; simp; omega
        have HPP := Lib.hid hp
        clear hp
        obtain ⟨i0, hi0, hzz0, hzz1, hzz2⟩ := info_parts infoJ
        have HI0 := Lib.hid hi0; have HZ0 := Lib.hid hzz0; have HZ1 := Lib.hid hzz1; have HZ2 := Lib.hid hzz2
        clear hi0 hzz0 hzz1 hzz2
        have HNEW := Lib.hid (Sl.oneJ (w := wr.alloc (Obj.cells #[.int .i64 x.id, .int .i64 x.every, .int .i64 x.next] 46)) (t := 46) x)
        have hwr : w.heap.size ≤ wr.heap.size := hbr.size
        go_wp2_with (at_builtin; refine wpList_append_sl _ rfl (.tmp 19) (.tmp 21) 35 rfl w.heap.size 46 i0 _ 3 24 Try.underlying35 HI0.out HZ0.out HZ1.out HZ2.out rfl (by decide) (.slice A1 n1 c1) n1 (((b.jobs.take k).filter (dueP t)).map encJ) rfl ((HO.out.alloc _).alloc _) _ (some ⟨wr.heap.size + 1, 0, none⟩) 1 1 [encJ x] rfl (by have := HNEW.out; simpa using this) (by simp [encJ, Value.oneCell']) (by unfold maxLen; omega) (by omega) (by simp; omega) ?_)
        intro v8 w8 own8 grow8 hv8
        obtain ⟨A8, c8, rfl, _, _⟩ := own8.slice
        have hB8 : Below w.heap.size w w8 := below_grown ((hbr.alloc hwr _).alloc (by simp; omega) _) (by simp; omega) grow8 (fun g hg => by have := (HO.out.1.lt g hg).1; omega)
        have HO8 := Lib.hid own8
        clear grow8 hv8 own8 HO HI0 HZ0 HZ1 HZ2 HNEW d0 d1 d2
        go_wp2_with fail
        go_roundw
        case measure => simp [intOf] <;> omega
        case rel =>
          refine ⟨k + 1, A8, n1 + 1, c8, by omega, by go_num, rfl, by omega, ?_, hB8⟩
          refine Lib.hid ?_
          have e : ((b.jobs.take (k + 1)).filter (dueP t)).map encJ = ((b.jobs.take k).filter (dueP t)).map encJ ++ [encJ x] := by rw [HFT.out, if_pos HPP.out, List.map_append]; rfl
          rw [e]
          exact HO8.out
      · have hd : decide (x.next ≤ t) = false := by simpa using hle
        have hp : dueP t x = false := by unfold dueP; simp; omega
        have HPP := Lib.hid hp
        clear hp
        go_wp2_with fail
        go_roundw
        case measure => simp [intOf] <;> omega
        case rel =>
          refine ⟨k + 1, A1, n1, c1, by omega, by go_num, rfl, by omega, ?_, Onto.to hbr hal⟩
          refine Lib.hid ?_
          have e : ((b.jobs.take (k + 1)).filter (dueP t)).map encJ = ((b.jobs.take k).filter (dueP t)).map encJ := by rw [HFT.out, if_neg (by rw [HPP.out]; simp), List.append_nil]
          rw [e]
          exact HO.out.alloc _
    · obtain rfl : k = n := by omega
      have ho := HO.out
      rw [List.take_of_length_le (by rw [HL.out]; omega)] at ho
      have hm := ho.m
      have hc := ho.le_cap
      have HM := Lib.hid hm; have HOW := Lib.hid ho
      clear ho hm
      go_wp2_with fail
      refine Calls.mono (SortF_calls A1 n1 c1 w.heap.size (b.jobs.filter (dueP t)) 59 #[] cfD _ HM.out (by omega) (fun _ _ => by kernel_rfl) (fun x y w' hx hy => DA1_calls x y w' (HOK.out x (List.mem_filter.1 hx).1) (HOK.out y (List.mem_filter.1 hy).1))) ?_
      rintro e w2 ⟨rfl, h2, hg⟩
      have hfin : isort (fun x y => decide (cfD x y < 0)) (b.jobs.filter (dueP t)) = dueL b.jobs t := by
        rw [cfD_sort (fun x hx => HOK.out x (List.mem_filter.1 hx).1) (List.Pairwise.sublist List.filter_sublist HORD.out)]
        rfl
      rw [hfin] at h2
      have hB : Below w.heap.size w w2 := below_grown hbr hbr.size hg (fun g hg => by
        have h1 : Value.ownBlock (.slice A1 n1 c1) = some g := by cases A1 <;> simp_all [Value.ownBlock]
        have := (HOW.out.1.lt g h1).1
        omega)
      clear hg hfin
      go_wp2_with fail
      go_ret
      exact ⟨A1, n1, c1, rfl, h2.sl, hB, hc⟩
end Go.Proofs.Ytiphoihijalfkaa
