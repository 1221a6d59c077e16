/- unit.Replay and the document's UnitOf. -/
import Derived.Test.YtdcegdonppfbkaaDoorRec
import Derived.Test.YtdcegdonppfbkaaDoorNew2
namespace Go.Proofs.YtdcegdonppfbkaaDoor
set_option linter.unusedSimpArgs false
set_option linter.unusedVariables false
open Go.RowKit

/-- What a call leaves that answers (Unit, Errno): the cells are new. -/
def URPost (w : World) (u : Uni) (err : Int) (e : Ending) (w' : World) : Prop :=
  ∃ A n c, e = .returned (.tuple #[.agg #[.int .i64 u.ep, .slice A n c], .int .i64 err]) ∧ S w' 5 A n (u.cells.map encE) ∧ Onto w w' ∧ Fresh w.heap.size A
/-- A row that holds nothing of block z. -/
def Offs (z : Nat) (A : Option Addr) : Prop := ∀ a, A = some a → a.block ≠ z
theorem Offs.n {z n : Nat} {A : Option Addr} (h : Offs z A) : OffN n z A := fun _ => h
theorem Fresh.offs {lo z : Nat} {A : Option Addr} (h : Fresh lo A) (hz : z < lo) : Offs z A := fun a e => by have := h a e; omega
theorem nextU_len {u : Uni} {r : Rec} : (nextU u r).1.cells.length ≤ 60 := by
  unfold nextU
  split
  · simp
  · next hc =>
    have hl := (checkU_iff.1 (Decidable.not_not.1 hc)).len
    repeat' split
    all_goals (simp only [List.length_nil, List.length_set]; omega)
theorem unitGo_len : ∀ {l : List Rec} {u : Uni}, u.cells.length ≤ 60 → (unitGo u l).1.cells.length ≤ 60
  | [], u, h => h
  | r :: l, u, h => by
    unfold unitGo
    split
    · simp
    · exact unitGo_len nextU_len
theorem unitL_len (l : List Rec) : (unitL l).1.cells.length ≤ 60 := by
  unfold unitL
  split
  · simp
  · exact unitGo_len (by simp [newU])


set_option maxHeartbeats 4000000 in
set_option maxRecDepth 100000 in
theorem UReplay_calls (A : Option Addr) (n c : Nat) (l : List Rec) (w : World) (h : S w 8 A n (l.map encQ)) :
    Calls Tryd.prog 52 #[.slice A n c] w (URPost w (unitL l).1 (unitL l).2) := by
  have hl : l.length = n := by have := h.len; simpa using this
  by_cases hbig : 160 < n
  · have hs : unitL l = (⟨0, []⟩, 2) := by unfold unitL; rw [if_pos (by omega)]
    have HS := Lib.hid hs
    have hd : decide ((160 : Int) < (n : Int)) = true := by simp; omega
    have hd' : (160 : Int) < (n : Int) := by omega
    clear h hs hl
    go_enter Tryd.func52, Tryd.ntmps52
    go_wp2
    refine bodyPost_ret (v := .tuple #[.agg #[.int .i64 0, .slice none 0 0], .int .i64 2]) (by simp [results, Tryd.results52, go_sem]) rfl ?_
    rw [HS.out]
    refine ⟨none, 0, 0, rfl, Sl.nil, ?_, Fresh.none_ _⟩
    repeat (first | exact Onto.rfl' _ | refine Onto.put ?_ (by simp <;> omega) _ | refine Onto.new ?_ _)
  · have hs : unitL l = unitGo newU l := by unfold unitL; rw [if_neg (by omega)]
    have hn60 : n ≤ 160 := by omega
    have hd : decide ((160 : Int) < (n : Int)) = false := by simp; omega
    have hd' : ¬ (160 : Int) < (n : Int) := by omega
    have HS := Lib.hid hs; have HL := Lib.hid hl
    clear hs hl hbig
    have h0 := h
    go_enter Tryd.func52, Tryd.ntmps52
    go_wp2_with fail
    refine Calls.mono (UNew2_calls _) ?_
    rintro e w1 ⟨A1, c1, rfl, s1, o1, _, _, hfr⟩
    have r0 : w1.cell? ⟨w.heap.size, 0, none⟩ = some (.int .i64 0) := cellB o1 (by simp [go_sem])
    have r1 : w1.cell? ⟨w.heap.size, 1, none⟩ = some (.slice none 0 0) := cellB o1 (by simp [go_sem])
    have g0 : w1.frozen? ⟨w.heap.size, 0, none⟩ = false := frozB (v := .int .i64 0) o1 (by simp [go_sem]) (by simp [go_sem])
    have g1 : w1.frozen? ⟨w.heap.size, 1, none⟩ = false := frozB (v := .slice none 0 0) o1 (by simp [go_sem]) (by simp [go_sem])
    have hzr : w.heap.size < w1.heap.size := World.block_lt_of_cell? _ _ r0
    have hf1 : Fresh (w.heap.size + 1) A1 := by simpa using hfr
    have hof1 : Offs w1.heap.size A1 := Sl.offN s1 (Nat.le_refl _) (by omega)
    replace o1 : Onto w w1 := Onto.to ((Onto.rfl' w).new _) o1
    replace h := S.onto h o1
    go_upto_region 4 with fail
    have hO : Onto w1 (w1.alloc (Obj.cells #[.int .i64 1, .slice A1 60 c1] 71)) := (Onto.rfl' w1).new _
    have p0 : (w1.alloc (Obj.cells #[.int .i64 1, .slice A1 60 c1] 71)).cell? ⟨w1.heap.size, 0, none⟩ = some (.int .i64 1) := by simp [go_sem]
    have p1 : (w1.alloc (Obj.cells #[.int .i64 1, .slice A1 60 c1] 71)).cell? ⟨w1.heap.size, 1, none⟩ = some (.slice A1 60 c1) := by simp [go_sem]
    have f0 : (w1.alloc (Obj.cells #[.int .i64 1, .slice A1 60 c1] 71)).frozen? ⟨w1.heap.size, 0, none⟩ = false := by simp [go_sem]
    have f1 : (w1.alloc (Obj.cells #[.int .i64 1, .slice A1 60 c1] 71)).frozen? ⟨w1.heap.size, 1, none⟩ = false := by simp [go_sem]
    replace g0 := frozB hO r0 g0; replace g1 := frozB hO r1 g1; replace r0 := cellB hO r0; replace r1 := cellB hO r1
    replace s1 := S.onto s1 hO; replace h := S.onto h hO; replace o1 := Onto.to o1 hO
    have hzz : w1.heap.size < (w1.alloc (Obj.cells #[.int .i64 1, .slice A1 60 c1] 71)).heap.size := by simp
    have ofb : Offs w1.heap.size A1 := hof1
    have ofr : Offs w.heap.size A1 := hf1.offs (by omega)
    have ohb : OffN n w1.heap.size A := h0.offN (by omega)
    have ohr : OffN n w.heap.size A := h0.offN (Nat.le_refl _)
    have hfw : Fresh w.heap.size A1 := fun a e => by have := hf1 a e; omega
    clear hO hf1 hfr hof1
    change Code.wp _ _ _ _ (w1.alloc (Obj.cells #[.int .i64 1, .slice A1 60 c1] 71))
    generalize (w1.alloc (Obj.cells #[.int .i64 1, .slice A1 60 c1] 71)) = w2 at *
    generalize w1.heap.size = zb at *
    have hne : zb ≠ w.heap.size := by omega
    go_wp2_with fail
    go_loopw [15] (fun s wr => ∃ (k : Nat) (u : Uni) (A1 : Option Addr) (n1 c1 : Nat), k ≤ n ∧ s = .int .i64 k ∧ wr.cell? ⟨zb, 0, none⟩ = some (.int .i64 u.ep) ∧ wr.cell? ⟨zb, 1, none⟩ = some (.slice A1 n1 c1) ∧ wr.frozen? ⟨zb, 0, none⟩ = false ∧ wr.frozen? ⟨zb, 1, none⟩ = false ∧
        wr.cell? ⟨w.heap.size, 0, none⟩ = some (.int .i64 0) ∧ wr.cell? ⟨w.heap.size, 1, none⟩ = some (.slice none 0 0) ∧ wr.frozen? ⟨w.heap.size, 0, none⟩ = false ∧ wr.frozen? ⟨w.heap.size, 1, none⟩ = false ∧
        S wr 5 A1 n1 (u.cells.map encE) ∧ Offs zb A1 ∧ Offs w.heap.size A1 ∧ Fresh w.heap.size A1 ∧ S wr 8 A n (l.map encQ) ∧ zb < wr.heap.size ∧ Onto w wr ∧ Hid (unitGo newU l = unitGo u (l.drop k))) (fun s _ => n - (intOf s).toNat)
    case atStart => exact ⟨0, newU, A1, 60, c1, Nat.zero_le _, rfl, p0, p1, f0, f1, r0, r1, g0, g1, s1, ofb, ofr, hfw, h, hzz, o1, rfl⟩
    case round =>
      obtain ⟨k, u, A1, n1, c1, hk, rfl, p0, p1, f0, f1, r0, r1, g0, g1, s1, ofb, ofr, hfw, h, hzz, o1, HG⟩ := hrel
      by_cases hlt : k < n
      · obtain ⟨bb, off, x, rfl, hbb, hx, d0, d1, d2, d3, d4, d5, d6, d7⟩ := h.atQ hlt
        have hat := unitGo_at (u := u) hx
        have HAT := Lib.hid hat
        clear hat hx
        go_upto_region 7 with fail
        have hO : Onto wr (wr.alloc (Obj.cells #[.int .i64 x.kind, .int .i64 x.at_, .int .i64 x.epoch, .int .i64 x.e.kind, .int .i64 x.e.job, .int .i64 x.e.every, .int .i64 x.e.time, .int .i64 x.e.client] 35)) := (Onto.rfl' wr).new _
        have e0 : (wr.alloc (Obj.cells #[.int .i64 x.kind, .int .i64 x.at_, .int .i64 x.epoch, .int .i64 x.e.kind, .int .i64 x.e.job, .int .i64 x.e.every, .int .i64 x.e.time, .int .i64 x.e.client] 35)).cell? ⟨wr.heap.size, 0, none⟩ = some (.int .i64 x.kind) := by simp [go_sem]
        have e1 : (wr.alloc (Obj.cells #[.int .i64 x.kind, .int .i64 x.at_, .int .i64 x.epoch, .int .i64 x.e.kind, .int .i64 x.e.job, .int .i64 x.e.every, .int .i64 x.e.time, .int .i64 x.e.client] 35)).cell? ⟨wr.heap.size, 1, none⟩ = some (.int .i64 x.at_) := by simp [go_sem]
        have e2 : (wr.alloc (Obj.cells #[.int .i64 x.kind, .int .i64 x.at_, .int .i64 x.epoch, .int .i64 x.e.kind, .int .i64 x.e.job, .int .i64 x.e.every, .int .i64 x.e.time, .int .i64 x.e.client] 35)).cell? ⟨wr.heap.size, 2, none⟩ = some (.int .i64 x.epoch) := by simp [go_sem]
        have e3 : (wr.alloc (Obj.cells #[.int .i64 x.kind, .int .i64 x.at_, .int .i64 x.epoch, .int .i64 x.e.kind, .int .i64 x.e.job, .int .i64 x.e.every, .int .i64 x.e.time, .int .i64 x.e.client] 35)).cell? ⟨wr.heap.size, 3, none⟩ = some (.int .i64 x.e.kind) := by simp [go_sem]
        have e4 : (wr.alloc (Obj.cells #[.int .i64 x.kind, .int .i64 x.at_, .int .i64 x.epoch, .int .i64 x.e.kind, .int .i64 x.e.job, .int .i64 x.e.every, .int .i64 x.e.time, .int .i64 x.e.client] 35)).cell? ⟨wr.heap.size, 4, none⟩ = some (.int .i64 x.e.job) := by simp [go_sem]
        have e5 : (wr.alloc (Obj.cells #[.int .i64 x.kind, .int .i64 x.at_, .int .i64 x.epoch, .int .i64 x.e.kind, .int .i64 x.e.job, .int .i64 x.e.every, .int .i64 x.e.time, .int .i64 x.e.client] 35)).cell? ⟨wr.heap.size, 5, none⟩ = some (.int .i64 x.e.every) := by simp [go_sem]
        have e6 : (wr.alloc (Obj.cells #[.int .i64 x.kind, .int .i64 x.at_, .int .i64 x.epoch, .int .i64 x.e.kind, .int .i64 x.e.job, .int .i64 x.e.every, .int .i64 x.e.time, .int .i64 x.e.client] 35)).cell? ⟨wr.heap.size, 6, none⟩ = some (.int .i64 x.e.time) := by simp [go_sem]
        have e7 : (wr.alloc (Obj.cells #[.int .i64 x.kind, .int .i64 x.at_, .int .i64 x.epoch, .int .i64 x.e.kind, .int .i64 x.e.job, .int .i64 x.e.every, .int .i64 x.e.time, .int .i64 x.e.client] 35)).cell? ⟨wr.heap.size, 7, none⟩ = some (.int .i64 x.e.client) := by simp [go_sem]
        clear d0 d1 d2 d3 d4 d5 d6 d7 hbb
        replace g0 := frozB hO r0 g0; replace g1 := frozB hO r1 g1; replace r0 := cellB hO r0; replace r1 := cellB hO r1
        replace f0 := frozB hO p0 f0; replace f1 := frozB hO p1 f1; replace p0 := cellB hO p0; replace p1 := cellB hO p1
        replace s1 := S.onto s1 hO; replace h := S.onto h hO; replace o1 := Onto.to o1 hO
        have hz3 : zb < (wr.alloc (Obj.cells #[.int .i64 x.kind, .int .i64 x.at_, .int .i64 x.epoch, .int .i64 x.e.kind, .int .i64 x.e.job, .int .i64 x.e.every, .int .i64 x.e.time, .int .i64 x.e.client] 35)).heap.size := by simp; omega
        clear hO hzz
        change Code.wp _ _ _ _ (wr.alloc (Obj.cells #[.int .i64 x.kind, .int .i64 x.at_, .int .i64 x.epoch, .int .i64 x.e.kind, .int .i64 x.e.job, .int .i64 x.e.every, .int .i64 x.e.time, .int .i64 x.e.client] 35))
        generalize (wr.alloc (Obj.cells #[.int .i64 x.kind, .int .i64 x.at_, .int .i64 x.epoch, .int .i64 x.e.kind, .int .i64 x.e.job, .int .i64 x.e.every, .int .i64 x.e.time, .int .i64 x.e.client] 35)) = w3 at *
        generalize wr.heap.size = be at *
        obtain ⟨r, hr⟩ : ∃ r, r = nextU u x := ⟨_, rfl⟩
        have HR := Lib.hid hr
        clear hr
        go_wp2_with fail
        refine Calls.mono (UNext_calls u.ep A1 n1 c1 u.cells x.kind x.at_ x.epoch x.e _ s1) ?_
        rw [show nextU ⟨u.ep, u.cells⟩ ⟨x.kind, x.at_, x.epoch, x.e⟩ = r from HR.out.symm]
        rintro e w4 ⟨A2, n2, c2, rfl, s2, hO, _, _, fr2⟩
        have of2b : Offs zb A2 := fr2.offs hz3
        have of2r : Offs w.heap.size A2 := fr2.offs (by omega)
        have fw2 : Fresh w.heap.size A2 := fun a e => by have := fr2 a e; omega
        clear fr2
        replace g0 := frozB hO r0 g0; replace g1 := frozB hO r1 g1; replace r0 := cellB hO r0; replace r1 := cellB hO r1
        replace f0 := frozB hO p0 f0; replace f1 := frozB hO p1 f1; replace p0 := cellB hO p0; replace p1 := cellB hO p1
        replace s1 := S.onto s1 hO; replace h := S.onto h hO; replace o1 := Onto.to o1 hO
        have hz4 : zb < w4.heap.size := World.block_lt_of_cell? _ _ p0
        clear hO e0 e1 e2 e3 e4 e5 e6 e7 s1 ofb ofr hfw hz3
        obtain ⟨q, hq⟩ : ∃ q, q = r.2 := ⟨_, rfl⟩
        rw [← hq]
        have HQ := Lib.hid hq
        clear hq
        by_cases hq0 : q = 0
        · subst hq0
          have HG2 : Hid (unitGo newU l = unitGo r.1 (l.drop (k + 1))) := Lib.hid (by rw [HG.out, HAT.out, ← HR.out, if_neg (by simp [← HQ.out])])
          go_wp2_with fail
          go_roundw
          case measure => simp [intOf] <;> omega
          case rel =>
            refine ⟨k + 1, r.1, A2, n2, c2, by omega, by go_num, ?_, ?_, ?_, ?_, ?_, ?_, ?_, ?_, ?_, of2b, of2r, fw2, ?_, ?_, ?_, HG2⟩
            · simp [go_sem, p0, p1]
            · simp [go_sem, p0, p1]
            · simp [go_sem, f0]
            · simp [go_sem, f1]
            · simp [go_sem, r0, hne]
            · simp [go_sem, r1, hne]
            · simp [go_sem, g0]
            · simp [go_sem, g1]
            · exact S.off (S.off s2 of2b.n _) of2b.n _
            · exact S.off (S.off h ohb _) ohb _
            · simp; omega
            · exact Onto.put (Onto.put o1 (by simp only; omega) _) (by simp only; omega) _
        · have hqd : (q != 0) = true := by simpa using hq0
          have hres : unitL l = (⟨0, []⟩, q) := by rw [HS.out, HG.out, HAT.out, ← HR.out, if_pos (by rw [← HQ.out]; exact hq0), HQ.out]
          have HRES := Lib.hid hres
          clear hres
          go_wp2_with fail
          refine bodyPost_ret (v := .tuple #[.agg #[.int .i64 0, .slice none 0 0], .int .i64 q]) (by simp [results, Tryd.results52, go_sem, r0, r1, hne]) rfl ?_
          rw [HRES.out]
          refine ⟨none, 0, 0, rfl, Sl.nil, ?_, Fresh.none_ _⟩
          repeat (first | exact o1 | refine Onto.put ?_ (by simp <;> omega) _ | refine Onto.new ?_ _)
      · have hkn : k = n := by omega
        subst hkn
        have hres : unitL l = (u, 0) := by
          rw [HS.out, HG.out, List.drop_eq_nil_of_le (by have := HL.out; omega)]
          rfl
        have HRES := Lib.hid hres
        clear hres h
        go_wp2_with fail
        refine bodyPost_ret (v := .tuple #[.agg #[.int .i64 u.ep, .slice A1 n1 c1], .int .i64 0]) (by simp [results, Tryd.results52, go_sem, r0, r1, g0, g1]) rfl ?_
        rw [HRES.out]
        exact ⟨A1, n1, c1, rfl, S.off (S.off s1 ofr.n _) ofr.n _, Onto.put (Onto.put o1 (by simp only; omega) _) (by simp only; omega) _, hfw⟩
end Go.Proofs.YtdcegdonppfbkaaDoor
