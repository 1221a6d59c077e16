/- The document's functions on records and disks. -/
import Derived.Test.YtdcegdonppfbkaaDoorDocA
import Derived.Test.YtdcegdonppfbkaaDoorNote
import Derived.Test.YtdcegdonppfbkaaDoorLines
import Derived.Test.YtdcegdonppfbkaaDoorDRec
import Derived.Test.YtdcegdonppfbkaaDoorRowsQ
import Derived.Test.YtdcegdonppfbkaaDoorRead
import Derived.Test.YtdcegdonppfbkaaDoorDCheck
namespace Go.Proofs.YtdcegdonppfbkaaDoor
section
set_option linter.unusedSimpArgs false
set_option linter.unusedVariables false
open Go.RowKit

theorem HasPrefix_on (s p : List UInt8) (w : World) : Calls Tryd.prog 69 #[str s, str p] w fun e w' => e = .returned (.bool (p.isPrefixOf s)) ∧ Onto w w' :=
  (HasPrefix_calls s p w).mono fun e w' ⟨he, hw⟩ => ⟨he, hw ▸ Onto.rfl' w⟩
theorem Index_on (s p : List UInt8) (hs : s.length ≤ 4000000000) (w : World) (E : Env w) : Calls Tryd.prog 70 #[str s, str p] w fun e w' => e = .returned (.int .i64 (Lib.index s p)) ∧ Onto w w' :=
  (Index_calls s p hs w E).mono fun e w' ⟨he, hw⟩ => ⟨he, hw ▸ Onto.rfl' w⟩
theorem cutFrom (l : List UInt8) (k : Nat) (h : k ≤ l.length) (w : World) : (Instr.slice 9 (str l) (some (.int .i64 (k : Int))) none none).run Tryd.prog w = .ok (str (l.drop k)) w := by
  rw [run_slice_string_l w _ _ Tryd.underlying9 .i64 (k : Int) (by omega) (by rw [str_size]; omega), ByteArray.extract_mk, str_size, Int.toNat_natCast, List.take_of_length_le (by rw [List.length_drop]; omega)]
theorem cutTo (l : List UInt8) (k : Nat) (h : k ≤ l.length) (w : World) : (Instr.slice 9 (str l) none (some (.int .i64 (k : Int))) none).run Tryd.prog w = .ok (str (l.take k)) w := by
  rw [run_slice_string_h w _ _ Tryd.underlying9 .i64 (k : Int) (by omega) (by rw [str_size]; omega), ByteArray.extract_mk, Int.toNat_natCast, List.drop_zero, Nat.sub_zero]
theorem cut_index (s sep : List UInt8) : (Lib.index s sep < 0 → (Lib.cut s sep).2.2 = false) ∧ (∀ k : Nat, Lib.index s sep = k → k + sep.length ≤ s.length ∧ Lib.cut s sep = (s.take k, s.drop (k + sep.length), true)) := by
  refine ⟨fun h => ?_, fun k h => ?_⟩
  · unfold Lib.cut
    rw [if_neg (by omega)]
  · refine ⟨?_, ?_⟩
    · rcases Lib.index_spec s sep with ⟨h1, _⟩ | ⟨i, h1, h2, h3, _⟩
      · omega
      · have : i = k := by omega
        subst this
        unfold Lib.occAt at h3
        obtain ⟨r, hr⟩ := List.isPrefixOf_iff_prefix.1 h3
        have := congrArg List.length hr
        rw [List.length_append, List.length_drop] at this
        omega
    · unfold Lib.cut
      rw [h, if_pos (by omega), Int.toNat_natCast]
set_option maxHeartbeats 4000000 in
set_option maxRecDepth 100000 in
theorem RRText_calls (k a ep : Int) (x : Entry) (w : World) (E : Env w) :
    Calls Tryd.prog 28 #[.agg #[.int .i64 k, .int .i64 a, .int .i64 ep, .int .i64 x.kind, .int .i64 x.job, .int .i64 x.every, .int .i64 x.time, .int .i64 x.client]] w fun e w' => e = .returned (.tuple #[str (printR ⟨k, a, ep, x⟩).1, .int .i64 (printR ⟨k, a, ep, x⟩).2]) ∧ Onto w w' := by
  obtain ⟨q, hq⟩ : ∃ q, q = checkR ⟨k, a, ep, x⟩ := ⟨_, rfl⟩
  obtain ⟨r, hr⟩ : ∃ r, r = printR ⟨k, a, ep, x⟩ := ⟨_, rfl⟩
  rw [← hr]
  unfold printR at hr
  rw [← hq] at hr
  have HQ := Lib.hid hq
  have HR := Lib.hid hr
  clear hq hr
  go_enter Tryd.func28, Tryd.ntmps28
  go_upto_region 1 with fail
  have ob := (Onto.rfl' w).new (Obj.cells #[.int .i64 k, .int .i64 a, .int .i64 ep, .int .i64 x.kind, .int .i64 x.job, .int .i64 x.every, .int .i64 x.time, .int .i64 x.client] 35)
  have B : Bx (w.alloc (Obj.cells #[.int .i64 k, .int .i64 a, .int .i64 ep, .int .i64 x.kind, .int .i64 x.job, .int .i64 x.every, .int .i64 x.time, .int .i64 x.client] 35)) w.heap.size [.int .i64 k, .int .i64 a, .int .i64 ep, .int .i64 x.kind, .int .i64 x.job, .int .i64 x.every, .int .i64 x.time, .int .i64 x.client] := Bx.made _ _ _
  have on := ob
  clear ob
  try change Code.wp _ _ _ _ (w.alloc (Obj.cells #[.int .i64 k, .int .i64 a, .int .i64 ep, .int .i64 x.kind, .int .i64 x.job, .int .i64 x.every, .int .i64 x.time, .int .i64 x.client] 35))
  generalize (w.alloc (Obj.cells #[.int .i64 k, .int .i64 a, .int .i64 ep, .int .i64 x.kind, .int .i64 x.job, .int .i64 x.every, .int .i64 x.time, .int .i64 x.client] 35)) = v1 at *
  generalize w.heap.size = z at *
  have b0 := B.at_ 0 rfl; have b1 := B.at_ 1 rfl; have b2 := B.at_ 2 rfl; have b3 := B.at_ 3 rfl; have b4 := B.at_ 4 rfl; have b5 := B.at_ 5 rfl; have b6 := B.at_ 6 rfl; have b7 := B.at_ 7 rfl
  go_wp2_with fail
  refine Calls.mono (RCR_calls k a ep x _) ?_
  rw [show checkR ⟨k, a, ep, x⟩ = q from HQ.out.symm]
  rintro e v2 ⟨rfl, b⟩
  replace on := on.to b
  replace B := B.onto b
  clear b
  clear b0 b1 b2 b3 b4 b5 b6 b7
  by_cases hq0 : q = 0
  · have hr := HR.out
    rw [if_neg (by simp [hq0])] at hr
    subst hr
    have hc : checkR ⟨k, a, ep, x⟩ = 0 := by rw [← HQ.out, hq0]
    have HC := Lib.hid hc
    subst hq0
    clear hc HQ
    by_cases hk : k = 2
    · subst hk
      obtain ⟨h1, h2, _⟩ := cR_seal HC.out rfl
      try dsimp only at h1 h2
      obtain ⟨I, hI⟩ : ∃ I, I = Lib.itoa ep := ⟨_, rfl⟩
      have hl : I.length ≤ 100 := by rw [hI]; have := Lib.itoa_length_le ep (by omega) (by omega); omega
      have s1 : ∀ w, (Op.stringOp .add ⟨#[115, 101, 97, 108, 32]⟩ ⟨I.toArray⟩).run Tryd.prog w = .ok (str (sealW ++ I)) w := fun w => run_string_add_lists w [115, 101, 97, 108, 32] I (by simp) (by omega)
      have HI := Lib.hid hI
      clear hI
      have b0 := B.at_ 0 rfl; have b1 := B.at_ 1 rfl; have b2 := B.at_ 2 rfl; have b3 := B.at_ 3 rfl; have b4 := B.at_ 4 rfl; have b5 := B.at_ 5 rfl; have b6 := B.at_ 6 rfl; have b7 := B.at_ 7 rfl
      go_wp2_with fail
      refine Calls.mono (Itoa_calls ep (by omega) (by omega) _ (E.onto on)) ?_
      rw [show Lib.itoa ep = I from HI.out.symm]
      rintro e v3 ⟨rfl, b⟩
      replace on := on.to b
      replace B := B.onto b
      clear b
      clear hl b0 b1 b2 b3 b4 b5 b6 b7
      go_wp2_with fail
      refine bodyPost_ret (v := .tuple #[str (sealW ++ I), .int .i64 0]) (by simp [results, Tryd.results28, go_sem]) rfl ⟨?_, on⟩
      try dsimp only
      unfold textR
      rw [if_pos rfl, HI.out]
    · have hkb : (k == 2) = false := by simp [hk]
      obtain ⟨h0, h1, h2, h3, h4⟩ := cR_write HC.out hk
      try dsimp only at h0 h1 h2 h3 h4
      subst h0
      have htx : textR ⟨1, a, ep, x⟩ = Lib.itoa a ++ colonW ++ textE x := by unfold textR; exact if_neg (by simp)
      obtain ⟨I, hI⟩ : ∃ I, I = Lib.itoa a := ⟨_, rfl⟩
      obtain ⟨T, hT⟩ : ∃ I, I = textE x := ⟨_, rfl⟩
      rw [← hI, ← hT] at htx
      have hl : I.length ≤ 100 := by rw [hI]; have := Lib.itoa_length_le a (by omega) (by omega); omega
      have hlT : T.length ≤ 100 := by rw [hT]; have := textE_len h4; omega
      obtain ⟨U, hU⟩ : ∃ U, U = I ++ [58, 32] := ⟨_, rfl⟩
      obtain ⟨V, hV⟩ : ∃ V, V = U ++ T := ⟨_, rfl⟩
      have hlU : U.length ≤ 200 := by rw [hU, List.length_append]; simp only [List.length_cons, List.length_nil]; omega
      have s1 : ∀ w, (Op.stringOp .add ⟨I.toArray⟩ ⟨#[58, 32]⟩).run Tryd.prog w = .ok (str U) w := fun w => by rw [hU]; exact run_string_add_lists w I [58, 32] (by omega) (by simp)
      have s2 : ∀ w, (Op.stringOp .add ⟨U.toArray⟩ ⟨T.toArray⟩).run Tryd.prog w = .ok (str V) w := fun w => by rw [hV]; exact run_string_add_lists w U T (by omega) (by omega)
      have i1 := fun (x w : World) (hx : Env (ontoW w x)) => Itoa_calls a (by omega) (by omega) (ontoW w x) hx
      have i2 := fun (y w : World) (hx : Env (ontoW w y)) => EText_calls x.kind x.job x.every x.time x.client (ontoW w y) hx h4
      have I1 := Lib.hid i1; have I2 := Lib.hid i2
      have HI := Lib.hid hI; have HT := Lib.hid hT; have HTX := Lib.hid htx; have HU := Lib.hid hU; have HV := Lib.hid hV
      clear i1 i2 hI hT htx hU hV hl hlT hlU h1 h2 h3 h4 hk
      have E1 := E.onto on
      have b0 := B.at_ 0 rfl
      go_upto_region 6 with fail
      have c1 := onto_cell (B.at_ 1 rfl); have c3 := onto_cell (B.at_ 3 rfl); have c4 := onto_cell (B.at_ 4 rfl); have c5 := onto_cell (B.at_ 5 rfl); have c6 := onto_cell (B.at_ 6 rfl); have c7 := onto_cell (B.at_ 7 rfl)
      refine wp_region_onto (by kernel_rfl) (by kernel_rfl) ?_
      repeat (go_big_quiet_step (first | (go_at_call 54; exact calls_onto' (u := str I) (by with_reducible exact I1.out _ v2 (E1.onto (onto_on v2 _))) (by rw [HI.out])) | (go_at_call 16; exact calls_onto' (u := str T) (by with_reducible exact I2.out _ v2 (E1.onto (onto_on v2 _))) (by rw [HT.out]))))
      refine wpQuiet_nil ?_
      intro w2 b2
      replace on := on.to b2
      clear b2 c1 c3 c4 c5 c6 c7 b0 B
      go_wp2_with fail
      refine bodyPost_ret (v := .tuple #[str V, .int .i64 0]) (by simp [results, Tryd.results28, go_sem]) rfl ⟨?_, on⟩
      rw [HTX.out, HV.out, HU.out]
      rfl
  · have hr := HR.out
    rw [if_pos hq0] at hr
    subst hr
    have hq1 : (q == 0) = false := by simp [hq0]
    have hq2 : (q != 0) = true := by simp [hq0]
    clear hq0
    go_wp2_with fail
    refine bodyPost_ret (v := .tuple #[str [], .int .i64 q]) (by simp [results, Tryd.results28, go_sem]) rfl ⟨rfl, on⟩

set_option maxRecDepth 100000 in
set_option maxHeartbeats 8000000 in
theorem RRRead_calls (s : List UInt8) (w : World) (E : Env w) (hs : s.length ≤ 30000) :
    Calls Tryd.prog 30 #[str s] w (RnPost w (readR s)) := by
  have HS := Lib.hid hs
  obtain ⟨r, hr⟩ : ∃ r, r = readR s := ⟨_, rfl⟩
  rw [← hr]
  have HR := Lib.hid hr
  clear hs hr
  go_enter Tryd.func30, Tryd.ntmps30
  go_upto_region 2 with fail
  have BZ : Bx ((w.alloc (Obj.cells #[.int .i64 0, .int .i64 0, .int .i64 0, .int .i64 0, .int .i64 0, .int .i64 0, .int .i64 0, .int .i64 0] 35)).alloc (Obj.cells #[.int .i64 2, .int .i64 0, .int .i64 0, .int .i64 0, .int .i64 0, .int .i64 0, .int .i64 0, .int .i64 0] 35)) w.heap.size [.int .i64 0, .int .i64 0, .int .i64 0, .int .i64 0, .int .i64 0, .int .i64 0, .int .i64 0, .int .i64 0] := (Bx.made w #[.int .i64 0, .int .i64 0, .int .i64 0, .int .i64 0, .int .i64 0, .int .i64 0, .int .i64 0, .int .i64 0] 35).new _
  have BR : Bx ((w.alloc (Obj.cells #[.int .i64 0, .int .i64 0, .int .i64 0, .int .i64 0, .int .i64 0, .int .i64 0, .int .i64 0, .int .i64 0] 35)).alloc (Obj.cells #[.int .i64 2, .int .i64 0, .int .i64 0, .int .i64 0, .int .i64 0, .int .i64 0, .int .i64 0, .int .i64 0] 35)) (w.heap.size + 1) [.int .i64 2, .int .i64 0, .int .i64 0, .int .i64 0, .int .i64 0, .int .i64 0, .int .i64 0, .int .i64 0] := by
    have := Bx.made (w.alloc (Obj.cells #[.int .i64 0, .int .i64 0, .int .i64 0, .int .i64 0, .int .i64 0, .int .i64 0, .int .i64 0, .int .i64 0] 35)) #[.int .i64 2, .int .i64 0, .int .i64 0, .int .i64 0, .int .i64 0, .int .i64 0, .int .i64 0, .int .i64 0] 35
    simpa using this
  have on : Onto w ((w.alloc (Obj.cells #[.int .i64 0, .int .i64 0, .int .i64 0, .int .i64 0, .int .i64 0, .int .i64 0, .int .i64 0, .int .i64 0] 35)).alloc (Obj.cells #[.int .i64 2, .int .i64 0, .int .i64 0, .int .i64 0, .int .i64 0, .int .i64 0, .int .i64 0, .int .i64 0] 35)) := ((Onto.rfl' w).new _).new _
  try change Code.wp _ _ _ _ ((w.alloc (Obj.cells #[.int .i64 0, .int .i64 0, .int .i64 0, .int .i64 0, .int .i64 0, .int .i64 0, .int .i64 0, .int .i64 0] 35)).alloc (Obj.cells #[.int .i64 2, .int .i64 0, .int .i64 0, .int .i64 0, .int .i64 0, .int .i64 0, .int .i64 0, .int .i64 0] 35))
  generalize ((w.alloc (Obj.cells #[.int .i64 0, .int .i64 0, .int .i64 0, .int .i64 0, .int .i64 0, .int .i64 0, .int .i64 0, .int .i64 0] 35)).alloc (Obj.cells #[.int .i64 2, .int .i64 0, .int .i64 0, .int .i64 0, .int .i64 0, .int .i64 0, .int .i64 0, .int .i64 0] 35)) = w1 at *
  have hz' : w.heap.size ≤ w.heap.size := Nat.le_refl _
  have hzr : w.heap.size ≤ w.heap.size + 1 := by omega
  have hzz : w.heap.size ≠ w.heap.size + 1 := by omega
  generalize w.heap.size + 1 = zr at BR hzr hzz ⊢
  generalize hz0 : w.heap.size = z at BZ hzz ⊢
  replace hz' : w.heap.size ≤ z := by omega
  clear hz0
  obtain ⟨pf, hpf⟩ : ∃ pf, pf = sealW.isPrefixOf s := ⟨_, rfl⟩
  go_wp2_with fail
  refine Calls.mono (HasPrefix_on s [115, 101, 97, 108, 32] _) ?_
  rw [show ([115, 101, 97, 108, 32] : List UInt8).isPrefixOf s = pf from hpf.symm]
  rintro e v1 ⟨rfl, b⟩
  replace on := on.to b
  replace BZ := BZ.onto b
  replace BR := BR.onto b
  clear b
  cases pf with
  | true =>
    have hp : sealW.isPrefixOf s = true := hpf.symm
    have hl5 : 5 ≤ s.length := by
      obtain ⟨t, ht⟩ := List.isPrefixOf_iff_prefix.1 hp
      rw [← ht, List.length_append]; simp [sealW]
    obtain ⟨t, ht⟩ : ∃ t, t = s.drop 5 := ⟨_, rfl⟩
    have htl : t.length ≤ 30000 := by rw [ht]; have := HS.out; simp; omega
    have sl : ∀ w, (Instr.slice 9 (str s) (some (.int .i64 5)) none none).run Tryd.prog w = .ok (str t) w := fun w => by rw [ht]; exact cutFrom s 5 hl5 w
    have HP := Lib.hid hp; have HT := Lib.hid ht
    clear hp ht hpf
    obtain ⟨ok, hok⟩ : ∃ ok, ok = (num t).isSome := ⟨_, rfl⟩
    go_wp2_with fail
    refine Calls.mono (Whole_calls t (by omega) _ (E.onto on)) ?_
    rw [← hok]
    rintro e v2 ⟨n, rfl, b, hn⟩
    replace on := on.to b
    replace BZ := BZ.onto b
    replace BR := BR.onto b
    clear b
    clear sl
    have fz := fun o => BR.froz o
    have HN0 := Lib.hid hn; have HOK := Lib.hid hok
    clear hn hok
    have b0 := BR.at_ 0 rfl; have b1 := BR.at_ 1 rfl; have b2 := BR.at_ 2 rfl; have b3 := BR.at_ 3 rfl; have b4 := BR.at_ 4 rfl; have b5 := BR.at_ 5 rfl; have b6 := BR.at_ 6 rfl; have b7 := BR.at_ 7 rfl
    go_upto_region 5 with fail
    clear b0 b1 b2 b3 b4 b5 b6 b7
    have BR' := BR.put1 (j := 2) (by simp) (.int .i64 n)
    simp only [List.set_cons_zero, List.set_cons_succ] at BR'
    replace BZ := BZ.off1 (p := ⟨zr, 2, none⟩) hzz (.int .i64 n)
    replace on := on.put (p := ⟨zr, 2, none⟩) hzr (.int .i64 n)
    clear BR fz
    have BR := BR'
    clear BR'
    try change Code.wp _ _ _ _ (v2.setCell ⟨zr, 2, none⟩ (.int .i64 n))
    generalize (v2.setCell ⟨zr, 2, none⟩ (.int .i64 n)) = v3 at *
    cases ok with
    | false =>
      have hnt : num t = none := by
        have := HOK.out
        cases hx : num t with
        | none => rfl
        | some u => rw [hx] at this; cases this
      have hr : r = (zeroR, 1) := by rw [HR.out]; unfold readR; rw [if_pos HP.out, show s.drop 5 = t from HT.out.symm, hnt]
      subst hr
      clear hnt HR HN0 HOK BR
      go_wp2_with (refine wpList_put BZ [.int .i64 0, .int .i64 0, .int .i64 0, .int .i64 0, .int .i64 0, .int .i64 0, .int .i64 0, .int .i64 0] 35 _ _ (by rfl) (by rfl) (by rfl) (by rfl) (by rfl) sizeR (by rfl) ?_)
      have hF := BZ.put (us := [.int .i64 0, .int .i64 0, .int .i64 0, .int .i64 0, .int .i64 0, .int .i64 0, .int .i64 0, .int .i64 0]) rfl
      have oF := Onto.puts (b := z) (o := 0) (us := [.int .i64 0, .int .i64 0, .int .i64 0, .int .i64 0, .int .i64 0, .int .i64 0, .int .i64 0, .int .i64 0]) hz' on
      generalize World.setCells _ z 0 [.int .i64 0, .int .i64 0, .int .i64 0, .int .i64 0, .int .i64 0, .int .i64 0, .int .i64 0, .int .i64 0] = wF at hF oF ⊢
      go_wp2_with fail
      have p0 := hF.at_ 0 rfl; have p1 := hF.at_ 1 rfl; have p2 := hF.at_ 2 rfl; have p3 := hF.at_ 3 rfl; have p4 := hF.at_ 4 rfl; have p5 := hF.at_ 5 rfl; have p6 := hF.at_ 6 rfl; have p7 := hF.at_ 7 rfl
      refine bodyPost_ret (v := .tuple #[.agg #[.int .i64 0, .int .i64 0, .int .i64 0, .int .i64 0, .int .i64 0, .int .i64 0, .int .i64 0, .int .i64 0], .int .i64 1]) (by simp [results, Tryd.results30, go_sem, p0, p1, p2, p3, p4, p5, p6, p7]) rfl ⟨rfl, oF⟩
    | true =>
      have hnt : num t = some n := HN0.out rfl
      have hr : r = finR ⟨2, 0, n, ⟨0, 0, 0, 0, 0⟩⟩ := by rw [HR.out]; unfold readR; rw [if_pos HP.out, show s.drop 5 = t from HT.out.symm, hnt]; rfl
      clear hnt HR HN0 HOK
      go_upto_region 18 with fail
      obtain ⟨q, hqq⟩ : ∃ q, q = checkR ⟨2, 0, n, ⟨0, 0, 0, 0, 0⟩⟩ := ⟨_, rfl⟩
      unfold finR at hr
      rw [← hqq] at hr
      have HQ := Lib.hid hqq; have HRQ := Lib.hid hr
      clear hqq hr
      have b0 := BR.at_ 0 rfl; have b1 := BR.at_ 1 rfl; have b2 := BR.at_ 2 rfl; have b3 := BR.at_ 3 rfl; have b4 := BR.at_ 4 rfl; have b5 := BR.at_ 5 rfl; have b6 := BR.at_ 6 rfl; have b7 := BR.at_ 7 rfl
      go_wp2_with fail
      refine Calls.mono (RCR_calls 2 0 n ⟨0, 0, 0, 0, 0⟩ _) ?_
      rw [show checkR ⟨2, 0, n, ⟨0, 0, 0, 0, 0⟩⟩ = q from HQ.out.symm]
      rintro e v4 ⟨rfl, b⟩
      replace on := on.to b
      replace BZ := BZ.onto b
      replace BR := BR.onto b
      clear b
      clear b0 b1 b2 b3 b4 b5 b6 b7
      by_cases hq0 : q = 0
      · have hr := HRQ.out
        rw [if_neg (by simp [hq0])] at hr
        subst hr
        have hq1 : (q == 0) = true := by simp [hq0]
        have hq2 : (q != 0) = false := by simp [hq0]
        have b0 := BR.at_ 0 rfl; have b1 := BR.at_ 1 rfl; have b2 := BR.at_ 2 rfl; have b3 := BR.at_ 3 rfl; have b4 := BR.at_ 4 rfl; have b5 := BR.at_ 5 rfl; have b6 := BR.at_ 6 rfl; have b7 := BR.at_ 7 rfl
        clear hq0 HRQ
        go_wp2_with (refine wpList_put BZ [.int .i64 2, .int .i64 0, .int .i64 n, .int .i64 0, .int .i64 0, .int .i64 0, .int .i64 0, .int .i64 0] 35 _ _ (by rfl) (by rfl) (by rfl) (by rfl) (by rfl) sizeR (by rfl) ?_)
        have hF := BZ.put (us := [.int .i64 2, .int .i64 0, .int .i64 n, .int .i64 0, .int .i64 0, .int .i64 0, .int .i64 0, .int .i64 0]) rfl
        have oF := Onto.puts (b := z) (o := 0) (us := [.int .i64 2, .int .i64 0, .int .i64 n, .int .i64 0, .int .i64 0, .int .i64 0, .int .i64 0, .int .i64 0]) hz' on
        generalize World.setCells _ z 0 [.int .i64 2, .int .i64 0, .int .i64 n, .int .i64 0, .int .i64 0, .int .i64 0, .int .i64 0, .int .i64 0] = wF at hF oF ⊢
        go_wp2_with fail
        have p0 := hF.at_ 0 rfl; have p1 := hF.at_ 1 rfl; have p2 := hF.at_ 2 rfl; have p3 := hF.at_ 3 rfl; have p4 := hF.at_ 4 rfl; have p5 := hF.at_ 5 rfl; have p6 := hF.at_ 6 rfl; have p7 := hF.at_ 7 rfl
        refine bodyPost_ret (v := .tuple #[.agg #[.int .i64 2, .int .i64 0, .int .i64 n, .int .i64 0, .int .i64 0, .int .i64 0, .int .i64 0, .int .i64 0], .int .i64 0]) (by simp [results, Tryd.results30, go_sem, p0, p1, p2, p3, p4, p5, p6, p7]) rfl ⟨rfl, oF⟩
      · have hr := HRQ.out
        rw [if_pos hq0] at hr
        subst hr
        have hq1 : (q == 0) = false := by simp [hq0]
        have hq2 : (q != 0) = true := by simp [hq0]
        clear hq0 BR HRQ
        go_wp2_with (refine wpList_put BZ [.int .i64 0, .int .i64 0, .int .i64 0, .int .i64 0, .int .i64 0, .int .i64 0, .int .i64 0, .int .i64 0] 35 _ _ (by rfl) (by rfl) (by rfl) (by rfl) (by rfl) sizeR (by rfl) ?_)
        have hF := BZ.put (us := [.int .i64 0, .int .i64 0, .int .i64 0, .int .i64 0, .int .i64 0, .int .i64 0, .int .i64 0, .int .i64 0]) rfl
        have oF := Onto.puts (b := z) (o := 0) (us := [.int .i64 0, .int .i64 0, .int .i64 0, .int .i64 0, .int .i64 0, .int .i64 0, .int .i64 0, .int .i64 0]) hz' on
        generalize World.setCells _ z 0 [.int .i64 0, .int .i64 0, .int .i64 0, .int .i64 0, .int .i64 0, .int .i64 0, .int .i64 0, .int .i64 0] = wF at hF oF ⊢
        go_wp2_with fail
        have p0 := hF.at_ 0 rfl; have p1 := hF.at_ 1 rfl; have p2 := hF.at_ 2 rfl; have p3 := hF.at_ 3 rfl; have p4 := hF.at_ 4 rfl; have p5 := hF.at_ 5 rfl; have p6 := hF.at_ 6 rfl; have p7 := hF.at_ 7 rfl
        refine bodyPost_ret (v := .tuple #[.agg #[.int .i64 0, .int .i64 0, .int .i64 0, .int .i64 0, .int .i64 0, .int .i64 0, .int .i64 0, .int .i64 0], .int .i64 q]) (by simp [results, Tryd.results30, go_sem, p0, p1, p2, p3, p4, p5, p6, p7]) rfl ⟨rfl, oF⟩
  | false =>
    have hp : ¬ sealW.isPrefixOf s = true := by rw [← hpf]; simp
    have HP := Lib.hid hp
    clear hp hpf
    have fz := fun o => BR.froz o
    have b0 := BR.at_ 0 rfl; have b1 := BR.at_ 1 rfl; have b2 := BR.at_ 2 rfl; have b3 := BR.at_ 3 rfl; have b4 := BR.at_ 4 rfl; have b5 := BR.at_ 5 rfl; have b6 := BR.at_ 6 rfl; have b7 := BR.at_ 7 rfl
    go_upto_region 8 with fail
    clear b0 b1 b2 b3 b4 b5 b6 b7
    have BR' := BR.put1 (j := 0) (by simp) (.int .i64 1)
    simp only [List.set_cons_zero, List.set_cons_succ] at BR'
    replace BZ := BZ.off1 (p := ⟨zr, 0, none⟩) hzz (.int .i64 1)
    replace on := on.put (p := ⟨zr, 0, none⟩) hzr (.int .i64 1)
    clear BR fz
    have BR := BR'
    clear BR'
    try change Code.wp _ _ _ _ (v1.setCell ⟨zr, 0, none⟩ (.int .i64 1))
    generalize (v1.setCell ⟨zr, 0, none⟩ (.int .i64 1)) = v2 at *
    obtain ⟨ix, hix⟩ : ∃ ix, ix = Lib.index s colonW := ⟨_, rfl⟩
    go_wp2_with fail
    refine Calls.mono (Index_on s [58, 32] (by have := HS.out; omega) _ (E.onto on)) ?_
    rw [show Lib.index s [58, 32] = ix from hix.symm]
    rintro e v3 ⟨rfl, b⟩
    replace on := on.to b
    replace BZ := BZ.onto b
    replace BR := BR.onto b
    clear b
    by_cases hneg : ix < 0
    · have hr : r = (zeroR, 1) := by rw [HR.out]; unfold readR; rw [if_neg HP.out, if_pos ((cut_index s colonW).1 (by omega))]
      subst hr
      clear HR BR hix
      go_wp2_with (refine wpList_put BZ [.int .i64 0, .int .i64 0, .int .i64 0, .int .i64 0, .int .i64 0, .int .i64 0, .int .i64 0, .int .i64 0] 35 _ _ (by rfl) (by rfl) (by rfl) (by rfl) (by rfl) sizeR (by rfl) ?_)
      have hF := BZ.put (us := [.int .i64 0, .int .i64 0, .int .i64 0, .int .i64 0, .int .i64 0, .int .i64 0, .int .i64 0, .int .i64 0]) rfl
      have oF := Onto.puts (b := z) (o := 0) (us := [.int .i64 0, .int .i64 0, .int .i64 0, .int .i64 0, .int .i64 0, .int .i64 0, .int .i64 0, .int .i64 0]) hz' on
      generalize World.setCells _ z 0 [.int .i64 0, .int .i64 0, .int .i64 0, .int .i64 0, .int .i64 0, .int .i64 0, .int .i64 0, .int .i64 0] = wF at hF oF ⊢
      go_wp2_with fail
      have p0 := hF.at_ 0 rfl; have p1 := hF.at_ 1 rfl; have p2 := hF.at_ 2 rfl; have p3 := hF.at_ 3 rfl; have p4 := hF.at_ 4 rfl; have p5 := hF.at_ 5 rfl; have p6 := hF.at_ 6 rfl; have p7 := hF.at_ 7 rfl
      refine bodyPost_ret (v := .tuple #[.agg #[.int .i64 0, .int .i64 0, .int .i64 0, .int .i64 0, .int .i64 0, .int .i64 0, .int .i64 0, .int .i64 0], .int .i64 1]) (by simp [results, Tryd.results30, go_sem, p0, p1, p2, p3, p4, p5, p6, p7]) rfl ⟨rfl, oF⟩
    · obtain ⟨k, hk⟩ : ∃ k : Nat, ix = k := ⟨ix.toNat, by omega⟩
      subst hk
      obtain ⟨hkl, hcut⟩ := (cut_index s colonW).2 k hix.symm
      rw [show colonW.length = 2 from rfl] at hkl hcut
      obtain ⟨a, ha⟩ : ∃ a, a = s.take k := ⟨_, rfl⟩
      obtain ⟨c, hc⟩ : ∃ c, c = s.drop (k + 2) := ⟨_, rfl⟩
      have hsl := HS.out
      have hal : a.length ≤ 30000 := by rw [ha, List.length_take]; omega
      have hcl : c.length ≤ 30000 := by rw [hc, List.length_drop]; omega
      have sa : ∀ w, (Instr.slice 9 (str s) none (some (.int .i64 (k : Int))) none).run Tryd.prog w = .ok (str a) w := fun w => by rw [ha]; exact cutTo s k (by omega) w
      have sc : ∀ w, (Instr.slice 9 (str s) (some (.int .i64 ((k : Int) + 2))) none none).run Tryd.prog w = .ok (str c) w := fun w => by rw [hc, show ((k : Int) + 2) = ((k + 2 : Nat) : Int) by omega]; exact cutFrom s (k + 2) (by omega) w
      have hr0 : r = (match num a with | none => (zeroR, 1) | some n => if (readWs (cutc 32 c)).2 ≠ 0 then (zeroR, (readWs (cutc 32 c)).2) else finR ⟨1, n, 0, (readWs (cutc 32 c)).1⟩) := by
        rw [HR.out]; unfold readR
        rw [if_neg HP.out, hcut, ha, hc]
        rfl
      have HR0 := Lib.hid hr0
      have hk3 : k ≤ 30000 := by omega
      clear hr0 ha hc hcut hix HR hsl hkl
      obtain ⟨ok, hok⟩ : ∃ ok, ok = (num a).isSome := ⟨_, rfl⟩
      go_wp2_with fail
      refine Calls.mono (Whole_calls a (by omega) _ (E.onto on)) ?_
      rw [← hok]
      rintro e v4 ⟨n, rfl, b, hn⟩
      replace on := on.to b
      replace BZ := BZ.onto b
      replace BR := BR.onto b
      clear b
      clear sa
      have fz := fun o => BR.froz o
      have HN0 := Lib.hid hn; have HOK := Lib.hid hok
      clear hn hok
      have b0 := BR.at_ 0 rfl; have b1 := BR.at_ 1 rfl; have b2 := BR.at_ 2 rfl; have b3 := BR.at_ 3 rfl; have b4 := BR.at_ 4 rfl; have b5 := BR.at_ 5 rfl; have b6 := BR.at_ 6 rfl; have b7 := BR.at_ 7 rfl
      go_upto_region 12 with fail
      clear b0 b1 b2 b3 b4 b5 b6 b7
      have BR' := BR.put1 (j := 1) (by simp) (.int .i64 n)
      simp only [List.set_cons_zero, List.set_cons_succ] at BR'
      replace BZ := BZ.off1 (p := ⟨zr, 1, none⟩) hzz (.int .i64 n)
      replace on := on.put (p := ⟨zr, 1, none⟩) hzr (.int .i64 n)
      clear BR fz
      have BR := BR'
      clear BR'
      try change Code.wp _ _ _ _ (v4.setCell ⟨zr, 1, none⟩ (.int .i64 n))
      generalize (v4.setCell ⟨zr, 1, none⟩ (.int .i64 n)) = v5 at *
      cases ok with
      | false =>
        have hnt : num a = none := by
          have := HOK.out
          cases hx : num a with
          | none => rfl
          | some u => rw [hx] at this; cases this
        have hr : r = (zeroR, 1) := by rw [HR0.out, hnt]
        subst hr
        clear hnt HR0 HN0 HOK BR
        go_wp2_with (refine wpList_put BZ [.int .i64 0, .int .i64 0, .int .i64 0, .int .i64 0, .int .i64 0, .int .i64 0, .int .i64 0, .int .i64 0] 35 _ _ (by rfl) (by rfl) (by rfl) (by rfl) (by rfl) sizeR (by rfl) ?_)
        have hF := BZ.put (us := [.int .i64 0, .int .i64 0, .int .i64 0, .int .i64 0, .int .i64 0, .int .i64 0, .int .i64 0, .int .i64 0]) rfl
        have oF := Onto.puts (b := z) (o := 0) (us := [.int .i64 0, .int .i64 0, .int .i64 0, .int .i64 0, .int .i64 0, .int .i64 0, .int .i64 0, .int .i64 0]) hz' on
        generalize World.setCells _ z 0 [.int .i64 0, .int .i64 0, .int .i64 0, .int .i64 0, .int .i64 0, .int .i64 0, .int .i64 0, .int .i64 0] = wF at hF oF ⊢
        go_wp2_with fail
        have p0 := hF.at_ 0 rfl; have p1 := hF.at_ 1 rfl; have p2 := hF.at_ 2 rfl; have p3 := hF.at_ 3 rfl; have p4 := hF.at_ 4 rfl; have p5 := hF.at_ 5 rfl; have p6 := hF.at_ 6 rfl; have p7 := hF.at_ 7 rfl
        refine bodyPost_ret (v := .tuple #[.agg #[.int .i64 0, .int .i64 0, .int .i64 0, .int .i64 0, .int .i64 0, .int .i64 0, .int .i64 0, .int .i64 0], .int .i64 1]) (by simp [results, Tryd.results30, go_sem, p0, p1, p2, p3, p4, p5, p6, p7]) rfl ⟨rfl, oF⟩
      | true =>
        have hnt : num a = some n := HN0.out rfl
        obtain ⟨x, hx⟩ : ∃ x, x = (readWs (cutc 32 c)).1 := ⟨_, rfl⟩
        obtain ⟨g, hg⟩ : ∃ g, g = (readWs (cutc 32 c)).2 := ⟨_, rfl⟩
        have hr1 : r = if g ≠ 0 then (zeroR, g) else finR ⟨1, n, 0, x⟩ := by rw [HR0.out, hnt, hx, hg]
        have HR1 := Lib.hid hr1; have HX := Lib.hid hx; have HG := Lib.hid hg
        clear hnt HR0 HN0 HOK hx hg hr1
        go_wp2_with fail
        refine Calls.mono (ERead_calls c _ (E.onto on) hcl) ?_
        unfold EnPost
        rw [show (readWs (cutc 32 c)).1 = x from HX.out.symm, show (readWs (cutc 32 c)).2 = g from HG.out.symm]
        rintro e v6 ⟨rfl, b⟩
        replace on := on.to b
        replace BZ := BZ.onto b
        replace BR := BR.onto b
        clear b
        clear sc
        go_upto_region 16 with (refine wpList_putM BR 3 [.int .i64 x.kind, .int .i64 x.job, .int .i64 x.every, .int .i64 x.time, .int .i64 x.client] 23 _ _ (by rfl) (by rfl) (by rfl) (by rfl) (by simp) sizeE (by rfl) ?_)
        have BR' := BR.putM (o := 3) (us := [.int .i64 x.kind, .int .i64 x.job, .int .i64 x.every, .int .i64 x.time, .int .i64 x.client]) (by simp)
        simp only [setMany, List.set_cons_zero, List.set_cons_succ] at BR'
        replace BZ := BZ.off (b := zr) (o := 3) (us := [.int .i64 x.kind, .int .i64 x.job, .int .i64 x.every, .int .i64 x.time, .int .i64 x.client]) hzz
        replace on := Onto.puts (b := zr) (o := 3) (us := [.int .i64 x.kind, .int .i64 x.job, .int .i64 x.every, .int .i64 x.time, .int .i64 x.client]) hzr on
        clear BR
        have BR := BR'
        clear BR'
        generalize World.setCells _ zr 3 [.int .i64 x.kind, .int .i64 x.job, .int .i64 x.every, .int .i64 x.time, .int .i64 x.client] = wy at BR BZ on ⊢
        by_cases hg0 : g = 0
        · have hr := HR1.out
          rw [if_neg (by simp [hg0])] at hr
          subst hg0
          go_upto_region 18 with fail
          obtain ⟨q, hqq⟩ : ∃ q, q = checkR ⟨1, n, 0, x⟩ := ⟨_, rfl⟩
          unfold finR at hr
          rw [← hqq] at hr
          have HQ := Lib.hid hqq; have HRQ := Lib.hid hr
          clear hqq hr
          have b0 := BR.at_ 0 rfl; have b1 := BR.at_ 1 rfl; have b2 := BR.at_ 2 rfl; have b3 := BR.at_ 3 rfl; have b4 := BR.at_ 4 rfl; have b5 := BR.at_ 5 rfl; have b6 := BR.at_ 6 rfl; have b7 := BR.at_ 7 rfl
          go_wp2_with fail
          refine Calls.mono (RCR_calls 1 n 0 x _) ?_
          rw [show checkR ⟨1, n, 0, x⟩ = q from HQ.out.symm]
          rintro e v7 ⟨rfl, b⟩
          replace on := on.to b
          replace BZ := BZ.onto b
          replace BR := BR.onto b
          clear b
          clear b0 b1 b2 b3 b4 b5 b6 b7
          by_cases hq0 : q = 0
          · have hr := HRQ.out
            rw [if_neg (by simp [hq0])] at hr
            subst hr
            have hq1 : (q == 0) = true := by simp [hq0]
            have hq2 : (q != 0) = false := by simp [hq0]
            have b0 := BR.at_ 0 rfl; have b1 := BR.at_ 1 rfl; have b2 := BR.at_ 2 rfl; have b3 := BR.at_ 3 rfl; have b4 := BR.at_ 4 rfl; have b5 := BR.at_ 5 rfl; have b6 := BR.at_ 6 rfl; have b7 := BR.at_ 7 rfl
            clear hq0 HRQ
            go_wp2_with (refine wpList_put BZ [.int .i64 1, .int .i64 n, .int .i64 0, .int .i64 x.kind, .int .i64 x.job, .int .i64 x.every, .int .i64 x.time, .int .i64 x.client] 35 _ _ (by rfl) (by rfl) (by rfl) (by rfl) (by rfl) sizeR (by rfl) ?_)
            have hF := BZ.put (us := [.int .i64 1, .int .i64 n, .int .i64 0, .int .i64 x.kind, .int .i64 x.job, .int .i64 x.every, .int .i64 x.time, .int .i64 x.client]) rfl
            have oF := Onto.puts (b := z) (o := 0) (us := [.int .i64 1, .int .i64 n, .int .i64 0, .int .i64 x.kind, .int .i64 x.job, .int .i64 x.every, .int .i64 x.time, .int .i64 x.client]) hz' on
            generalize World.setCells _ z 0 [.int .i64 1, .int .i64 n, .int .i64 0, .int .i64 x.kind, .int .i64 x.job, .int .i64 x.every, .int .i64 x.time, .int .i64 x.client] = wF at hF oF ⊢
            go_wp2_with fail
            have p0 := hF.at_ 0 rfl; have p1 := hF.at_ 1 rfl; have p2 := hF.at_ 2 rfl; have p3 := hF.at_ 3 rfl; have p4 := hF.at_ 4 rfl; have p5 := hF.at_ 5 rfl; have p6 := hF.at_ 6 rfl; have p7 := hF.at_ 7 rfl
            refine bodyPost_ret (v := .tuple #[.agg #[.int .i64 1, .int .i64 n, .int .i64 0, .int .i64 x.kind, .int .i64 x.job, .int .i64 x.every, .int .i64 x.time, .int .i64 x.client], .int .i64 0]) (by simp [results, Tryd.results30, go_sem, p0, p1, p2, p3, p4, p5, p6, p7]) rfl ⟨rfl, oF⟩
          · have hr := HRQ.out
            rw [if_pos hq0] at hr
            subst hr
            have hq1 : (q == 0) = false := by simp [hq0]
            have hq2 : (q != 0) = true := by simp [hq0]
            clear hq0 BR HRQ
            go_wp2_with (refine wpList_put BZ [.int .i64 0, .int .i64 0, .int .i64 0, .int .i64 0, .int .i64 0, .int .i64 0, .int .i64 0, .int .i64 0] 35 _ _ (by rfl) (by rfl) (by rfl) (by rfl) (by rfl) sizeR (by rfl) ?_)
            have hF := BZ.put (us := [.int .i64 0, .int .i64 0, .int .i64 0, .int .i64 0, .int .i64 0, .int .i64 0, .int .i64 0, .int .i64 0]) rfl
            have oF := Onto.puts (b := z) (o := 0) (us := [.int .i64 0, .int .i64 0, .int .i64 0, .int .i64 0, .int .i64 0, .int .i64 0, .int .i64 0, .int .i64 0]) hz' on
            generalize World.setCells _ z 0 [.int .i64 0, .int .i64 0, .int .i64 0, .int .i64 0, .int .i64 0, .int .i64 0, .int .i64 0, .int .i64 0] = wF at hF oF ⊢
            go_wp2_with fail
            have p0 := hF.at_ 0 rfl; have p1 := hF.at_ 1 rfl; have p2 := hF.at_ 2 rfl; have p3 := hF.at_ 3 rfl; have p4 := hF.at_ 4 rfl; have p5 := hF.at_ 5 rfl; have p6 := hF.at_ 6 rfl; have p7 := hF.at_ 7 rfl
            refine bodyPost_ret (v := .tuple #[.agg #[.int .i64 0, .int .i64 0, .int .i64 0, .int .i64 0, .int .i64 0, .int .i64 0, .int .i64 0, .int .i64 0], .int .i64 q]) (by simp [results, Tryd.results30, go_sem, p0, p1, p2, p3, p4, p5, p6, p7]) rfl ⟨rfl, oF⟩
        · have hr := HR1.out
          rw [if_pos hg0] at hr
          subst hr
          have hg1 : (g == 0) = false := by simp [hg0]
          have hg2 : (g != 0) = true := by simp [hg0]
          clear hg0 HR1 BR
          go_wp2_with (refine wpList_put BZ [.int .i64 0, .int .i64 0, .int .i64 0, .int .i64 0, .int .i64 0, .int .i64 0, .int .i64 0, .int .i64 0] 35 _ _ (by rfl) (by rfl) (by rfl) (by rfl) (by rfl) sizeR (by rfl) ?_)
          have hF := BZ.put (us := [.int .i64 0, .int .i64 0, .int .i64 0, .int .i64 0, .int .i64 0, .int .i64 0, .int .i64 0, .int .i64 0]) rfl
          have oF := Onto.puts (b := z) (o := 0) (us := [.int .i64 0, .int .i64 0, .int .i64 0, .int .i64 0, .int .i64 0, .int .i64 0, .int .i64 0, .int .i64 0]) hz' on
          generalize World.setCells _ z 0 [.int .i64 0, .int .i64 0, .int .i64 0, .int .i64 0, .int .i64 0, .int .i64 0, .int .i64 0, .int .i64 0] = wF at hF oF ⊢
          go_wp2_with fail
          have p0 := hF.at_ 0 rfl; have p1 := hF.at_ 1 rfl; have p2 := hF.at_ 2 rfl; have p3 := hF.at_ 3 rfl; have p4 := hF.at_ 4 rfl; have p5 := hF.at_ 5 rfl; have p6 := hF.at_ 6 rfl; have p7 := hF.at_ 7 rfl
          refine bodyPost_ret (v := .tuple #[.agg #[.int .i64 0, .int .i64 0, .int .i64 0, .int .i64 0, .int .i64 0, .int .i64 0, .int .i64 0, .int .i64 0], .int .i64 g]) (by simp [results, Tryd.results30, go_sem, p0, p1, p2, p3, p4, p5, p6, p7]) rfl ⟨rfl, oF⟩
end
section
set_option linter.unusedSimpArgs false
set_option linter.unusedVariables false
open Go.RowKit

theorem withc_at {c : UInt8} : ∀ {l : List (List UInt8)} {k : Nat} {p : List UInt8}, l[k]? = some p → (withc c l)[k]? = some (if k + 1 = l.length then p else p ++ [c])
  | [], k, p, h => by simp at h
  | [t], 0, p, h => by simp at h; subst h; simp [withc]
  | [t], k + 1, p, h => by simp at h
  | t :: u :: r, 0, p, h => by simp at h; subst h; simp [withc]
  | t :: u :: r, k + 1, p, h => by
    have h' : (u :: r)[k]? = some p := by simpa using h
    have := withc_at (c := c) h'
    rw [withc, List.getElem?_cons_succ, this]
    simp only [List.length_cons, Nat.add_right_cancel_iff]
theorem S.atP {w : World} {A : Option Addr} {n : Nat} {l : List (List UInt8)} (h : S w 1 A n ((withc 10 l).map encS)) {i : Nat} (hi : i < l.length) (hn : n = l.length) : ∃ b off p, A = some ⟨b, off, none⟩ ∧ b < w.heap.size ∧ l[i]? = some p ∧ w.cell? ⟨b, off + i, none⟩ = some (str (if i + 1 = l.length then p else p ++ [10])) := by
  obtain ⟨b, off, x, e, hb, hx, hc⟩ := S.atS h (i := i) (by omega)
  have hp : l[i]? = some l[i] := List.getElem?_eq_getElem hi
  rw [withc_at hp] at hx
  injection hx with hx
  exact ⟨b, off, l[i], e, hb, hp, hx ▸ hc⟩
theorem suffix_yes (p : List UInt8) : Lib.hasSuffix (p ++ [10]) [10] = true := by
  unfold Lib.hasSuffix
  rw [List.isSuffixOf_iff_suffix]
  exact ⟨p, rfl⟩
theorem suffix_no {p : List UInt8} (h : (10 : UInt8) ∉ p) : Lib.hasSuffix p [10] = false := by
  cases hs : Lib.hasSuffix p [10] with
  | false => rfl
  | true =>
    unfold Lib.hasSuffix at hs
    rw [List.isSuffixOf_iff_suffix] at hs
    obtain ⟨t, ht⟩ := hs
    exact absurd (by rw [← ht]; simp) h
theorem HasSuffix_on (s p : List UInt8) (hs : s.length ≤ 9223372036854775807) (w : World) : Calls Tryd.prog 93 #[str s, str p] w fun e w' => e = .returned (.bool (Lib.hasSuffix s p)) ∧ Onto w w' :=
  (HasSuffix_calls s p hs w).mono fun e w' ⟨he, hw⟩ => ⟨he, hw ▸ Onto.rfl' w⟩
set_option maxHeartbeats 8000000 in
set_option maxRecDepth 100000 in
theorem RLines_calls (s : List UInt8) (most : Nat) (hs : s.length ≤ 30000) (hm : most ≤ 200) (w : World) (E : Env w) :
    Calls Tryd.prog 77 #[str s, .int .i64 most] w fun e w' => ∃ A n c, e = .returned (.tuple #[.slice A n c, .int .i64 (linesK s most).2.1, .int .i64 (linesK s most).2.2]) ∧ Own w' w.heap.size 35 8 (.slice A n c) n ((linesK s most).1.map encQ) ∧ Onto w w' := by
  obtain ⟨L, hL⟩ : ∃ L, L = linesK s most := ⟨_, rfl⟩
  rw [← hL]
  have hL0 : L = linesP parseR most [] 0 (cutc 10 s) := hL
  have HL0 := Lib.hid hL0
  clear hL hL0
  have hne := cutc_ne 10 s
  have hmem : ∀ p ∈ cutc 10 s, (10 : UInt8) ∉ p ∧ p.length ≤ 30000 := fun p hp => ⟨cutc_mem hp, Nat.le_trans (cutc_le hp) hs⟩
  have hN : (cutc 10 s).length ≤ 30001 := by rw [cutc_len]; have := List.count_le_length (a := (10 : UInt8)) (l := s); omega
  have hN0 : 0 < (cutc 10 s).length := List.length_pos_iff.2 hne
  obtain ⟨ts, hts⟩ : ∃ ts, ts = cutc 10 s := ⟨_, rfl⟩
  go_enter Tryd.func77, Tryd.ntmps77
  go_wp2_with fail
  refine Calls.mono (SplitAfter_calls 10 s (by omega) _ E) ?_
  rw [← hts] at HL0 hmem hN hN0 ⊢
  rintro e w1 ⟨T, rfl, sT, on⟩
  have HMEM := Lib.hid hmem
  have E1 := E.onto on
  have HSZ := Lib.hid on.size
  have HS := Lib.hid hs
  clear hmem hne hts hs
  generalize hNN : ts.length = N at *
  have hT : ∀ {wr : World}, Onto w1 wr → S wr 1 T N ((withc 10 ts).map encS) := fun b => sT.onto b
  go_wp2_with fail
  go_loopg [7, 8, 16] N (fun g sl s8 si wr => ∃ (kk : Nat) (acc : List Rec) (k c : Nat) (A : Option Addr), kk < N ∧ N - kk ≤ g ∧ si = .int .i64 kk ∧ sl = .slice A acc.length c ∧ s8 = .int .i64 (k : Int) ∧ k ≤ 30001 * (kk + 1) ∧ acc.length ≤ most ∧ acc.length ≤ c ∧ Hid (L = linesP parseR most acc k (ts.drop kk)) ∧ Hid (Own wr w1.heap.size 35 8 (.slice A acc.length c) acc.length (acc.map encQ)) ∧ Onto w1 wr)
  case atStart => exact ⟨0, [], 0, 0, none, hN0, by omega, rfl, rfl, rfl, by omega, by simp, by simp, by rw [List.drop_zero]; exact HL0, Own.nil _ _ _ _, Onto.rfl' _⟩
  case round =>
    obtain ⟨kk, acc, k, c, A, hkk, hg, rfl, rfl, rfl, hk3, ham, hac, HL, HO, on1⟩ := hrel
    obtain ⟨bb, off, p, rfl, hb, hp, e0⟩ := S.atP (hT on1) (i := kk) (by omega) hNN.symm
    have hdr : ts.drop kk = p :: ts.drop (kk + 1) := by
      obtain ⟨h2, rfl⟩ := List.getElem?_eq_some_iff.1 hp
      exact List.drop_eq_getElem_cons h2
    obtain ⟨hno, hpl⟩ := HMEM.out p (List.mem_of_getElem? hp)
    have hl := HL.out
    rw [hdr] at hl
    rw [hNN] at e0
    by_cases hlast : kk + 1 = N
    · rw [if_pos hlast] at e0
      have hnil : ts.drop (kk + 1) = [] := List.drop_eq_nil_of_le (by omega)
      rw [hnil, linesP_one] at hl
      have hon := Lib.hid (on.to on1)
      clear hp hdr hnil hT HL HMEM
      by_cases hp0 : p = []
      · rw [if_pos hp0] at hl
        subst hp0
        have HF := Lib.hid hl

        clear hl hno hpl
        go_wp2_with fail
        refine bodyPost_ret (v := .tuple #[.slice A acc.length c, .int .i64 (k : Int), .int .i64 0]) (by simp [results, Tryd.results77, go_sem]) rfl ⟨A, acc.length, c, by rw [HF.out], by rw [HF.out]; exact HO.out.lower HSZ.out, hon.out⟩
      · rw [if_neg hp0] at hl
        have hq1 : (p == []) = false := by simp [hp0]
        have HF := Lib.hid hl

        have hpos : 1 ≤ p.length := by
          have : p.length ≠ 0 := fun h => hp0 (List.eq_nil_of_length_eq_zero h)
          omega
        have hsf := suffix_no hno
        clear hl hno hp0
        go_wp2_with fail
        refine Calls.mono (HasSuffix_on p [10] (by omega) _) ?_
        rw [hsf]
        rintro e w2 ⟨rfl, b⟩
        have hon2 := Lib.hid (hon.out.to b)
        have HO2 := Lib.hid (HO.out.below b)
        clear b e0 hsf
        go_wp2_with fail
        refine bodyPost_ret (v := .tuple #[.slice A acc.length c, .int .i64 (k : Int), .int .i64 9]) (by simp [results, Tryd.results77, go_sem]) rfl ⟨A, acc.length, c, by rw [HF.out], by rw [HF.out]; exact HO2.out.lower HSZ.out, hon2.out⟩
    · rw [if_neg hlast] at e0
      have hrest : ts.drop (kk + 1) ≠ [] := fun h => by have := congrArg List.length h; rw [List.length_drop] at this; simp at this; omega
      rw [linesP_cons hrest] at hl
      have hpar : parseR p = readR p := by unfold parseR; rw [if_neg (by omega)]
      obtain ⟨x, hx⟩ : ∃ x, x = (parseR p).1 := ⟨_, rfl⟩
      obtain ⟨g2, hg2⟩ : ∃ g, g = (parseR p).2 := ⟨_, rfl⟩
      rw [← hx, ← hg2] at hl
      obtain ⟨t, ht⟩ : ∃ t, t = p ++ [10] := ⟨_, rfl⟩
      rw [← ht] at e0
      have htl : t.length = p.length + 1 := by rw [ht]; simp
      have hq1 : (t == []) = false := by rw [beq_eq_false_iff_ne]; intro h; rw [h] at htl; simp at htl
      have sl : ∀ w, (Instr.slice 9 (str t) none (some (.int .i64 ((t.length : Int) - 1))) none).run Tryd.prog w = .ok (str p) w := fun w => by
        rw [show ((t.length : Int) - 1) = ((p.length : Nat) : Int) by omega]
        have := cutTo t p.length (by omega) w
        rw [this, ht, List.take_left]
      have ht1 : (1 : Int) ≤ (t.length : Int) := by omega
      have ht2 : t.length ≤ 30001 := by omega
      have HX := Lib.hid hx; have HG := Lib.hid hg2; have HPAR := Lib.hid hpar; have HLL := Lib.hid hl; have HT := Lib.hid ht
      have HTL := Lib.hid htl
      clear hx hg2 hpar hl ht hp hdr hrest HL hno htl
      have hsf : Lib.hasSuffix t [10] = true := by rw [HT.out]; exact suffix_yes p
      go_wp2_with fail
      refine Calls.mono (HasSuffix_on t [10] (by omega) _) ?_
      rw [hsf]
      rintro e w2 ⟨rfl, b⟩
      replace on1 := on1.to b
      have HO2 := Lib.hid (HO.out.below b)
      clear b e0 hsf
      go_wp2_with fail
      refine Calls.mono (RRRead_calls p _ (E1.onto on1) hpl) ?_
      rw [show readR p = parseR p from HPAR.out.symm]
      unfold RnPost
      rw [show (parseR p).1 = x from HX.out.symm, show (parseR p).2 = g2 from HG.out.symm]
      rintro e w3 ⟨rfl, b⟩
      replace on1 := on1.to b
      have HO3 := Lib.hid (HO2.out.below b)
      clear b sl HO2 
      go_upto_region 10 with fail
      have ob := (Onto.rfl' w3).new (Obj.cells #[.int .i64 x.kind, .int .i64 x.at_, .int .i64 x.epoch, .int .i64 x.e.kind, .int .i64 x.e.job, .int .i64 x.e.every, .int .i64 x.e.time, .int .i64 x.e.client] 35)
      have BE : Bx (w3.alloc (Obj.cells #[.int .i64 x.kind, .int .i64 x.at_, .int .i64 x.epoch, .int .i64 x.e.kind, .int .i64 x.e.job, .int .i64 x.e.every, .int .i64 x.e.time, .int .i64 x.e.client] 35)) w3.heap.size [.int .i64 x.kind, .int .i64 x.at_, .int .i64 x.epoch, .int .i64 x.e.kind, .int .i64 x.e.job, .int .i64 x.e.every, .int .i64 x.e.time, .int .i64 x.e.client] := Bx.made _ _ _
      replace on1 := on1.to ob
      have HO4 := Lib.hid (HO3.out.below ob)
      clear HO3 ob
      try change Code.wp _ _ _ _ (w3.alloc (Obj.cells #[.int .i64 x.kind, .int .i64 x.at_, .int .i64 x.epoch, .int .i64 x.e.kind, .int .i64 x.e.job, .int .i64 x.e.every, .int .i64 x.e.time, .int .i64 x.e.client] 35))
      generalize (w3.alloc (Obj.cells #[.int .i64 x.kind, .int .i64 x.at_, .int .i64 x.epoch, .int .i64 x.e.kind, .int .i64 x.e.job, .int .i64 x.e.every, .int .i64 x.e.time, .int .i64 x.e.client] 35)) = w4 at *
      generalize w3.heap.size = z3 at *
      have x0 := BE.at_ 0 rfl; have x1 := BE.at_ 1 rfl; have x2 := BE.at_ 2 rfl; have x3 := BE.at_ 3 rfl; have x4 := BE.at_ 4 rfl; have x5 := BE.at_ 5 rfl; have x6 := BE.at_ 6 rfl; have x7 := BE.at_ 7 rfl
      by_cases hg0 : g2 = 0
      · by_cases hmn : most ≤ acc.length
        · have hmm : (most : Int) ≤ (acc.length : Int) := by omega
          have hl : L = (acc, k, 2) := by rw [HLL.out, if_neg (by simp [hg0]), if_pos hmn]
          have HF := Lib.hid hl

          have hon := Lib.hid (on.to on1)
          subst hg0
          clear hl HLL on1
          go_wp2_with fail
          refine bodyPost_ret (v := .tuple #[.slice A acc.length c, .int .i64 (k : Int), .int .i64 2]) (by simp [results, Tryd.results77, go_sem]) rfl ⟨A, acc.length, c, by rw [HF.out], by rw [HF.out]; exact HO4.out.lower HSZ.out, hon.out⟩
        · have hmm : ¬ (most : Int) ≤ (acc.length : Int) := by omega
          have hl : L = linesP parseR most (acc ++ [x]) (k + p.length + 1) (ts.drop (kk + 1)) := by rw [HLL.out, if_neg (by simp [hg0]), if_neg hmn]
          have HF := Lib.hid hl
          clear hl HLL
          subst hg0
          obtain ⟨i0, hi0, hzz0, hzz1, hzz2⟩ := info_parts infoQ
          have HI0 := Lib.hid hi0; have HZ0 := Lib.hid hzz0; have HZ1 := Lib.hid hzz1; have HZ2 := Lib.hid hzz2
          clear hi0 hzz0 hzz1 hzz2
          have HNEW := Lib.hid (Sl.oneQ (w := w4) (t := 35) x)
          have HAL := Lib.hid ((Onto.rfl' w4).new (Obj.cells #[.int .i64 x.kind, .int .i64 x.at_, .int .i64 x.epoch, .int .i64 x.e.kind, .int .i64 x.e.job, .int .i64 x.e.every, .int .i64 x.e.time, .int .i64 x.e.client] 35))
          have ON := Lib.hid on1
          have hs4 : w1.heap.size ≤ w4.heap.size := on1.size
          clear on1
          go_wp2_with (at_builtin; refine wpList_append_sl _ rfl (.tmp 49) (.tmp 51) 50 rfl w1.heap.size 35 i0 _ 8 64 Tryd.underlying50 HI0.out HZ0.out HZ1.out HZ2.out rfl (by decide) (.slice A acc.length c) acc.length (acc.map encQ) rfl (HO4.out.below HAL.out) (w4.heap.size + 1) (some ⟨w4.heap.size, 0, none⟩) 1 1 [encQ x] rfl HNEW.out (by simp [encQ, Value.oneCell']) (by unfold maxLen; omega) (by omega) (by simp; omega) ?_)
          intro v8 w8 own8 grow8 hv8
          obtain ⟨A8, c8, rfl, hc8, _⟩ := own8.slice
          have hB8 : Onto w1 w8 := below_grown (ON.out.to HAL.out) (ON.out.to HAL.out).size grow8 (fun g hg => by have := (HO4.out.1.lt g hg).1; omega)
          have HO8 := Lib.hid own8
          clear grow8 hv8 own8 HO4 HNEW HAL x0 x1 x2 x3 x4 x5 x6 x7
          go_wp2_with fail
          go_roundg (N - (kk + 1))
          case measure => omega
          case rel =>
            refine ⟨kk + 1, acc ++ [x], k + p.length + 1, c8, A8, by omega, Nat.le_refl _, by go_num, by simp, by rw [HTL.out]; go_num, by omega, by simp; omega, ?_, HF, ?_, hB8⟩
            · have := HO8.out.le_cap; simp; omega
            · refine Lib.hid ?_
              rw [List.map_append, List.length_append]
              exact HO8.out
      · have hgb : (g2 == 0) = false := by simp [hg0]
        have hgn : (g2 != 0) = true := by simp [hg0]
        have hl : L = (acc, k, g2) := by rw [HLL.out, if_pos hg0]
        have HF := Lib.hid hl

        have hon := Lib.hid (on.to on1)
        clear hl HLL hg0 on1
        go_wp2_with fail
        refine bodyPost_ret (v := .tuple #[.slice A acc.length c, .int .i64 (k : Int), .int .i64 g2]) (by simp [results, Tryd.results77, go_sem]) rfl ⟨A, acc.length, c, by rw [HF.out], by rw [HF.out]; exact HO4.out.lower HSZ.out, hon.out⟩
end
section
set_option linter.unusedSimpArgs false
set_option linter.unusedVariables false
open Go.RowKit
attribute [local go_sem ↓] Go.wp_at_zero Go.wp_at_succ

set_option maxHeartbeats 4000000 in
set_option maxRecDepth 100000 in
theorem RDCheck_calls (A A' : Option Addr) (n c m d : Nat) (x : Dsk) (w : World) (E : Env w) (K : DK w A n c A' m d x) :
    Calls Tryd.prog 42 #[.agg #[.slice A n c, .slice A' m d]] w fun e w' => e = .returned (.int .i64 (checkK x)) ∧ Onto w w' := by
  obtain ⟨q, hq⟩ : ∃ q, q = checkK x := ⟨_, rfl⟩
  rw [← hq]
  have hn := K.n_eq; have hm := K.m_eq
  have hq0 : q = if 30000 < n ∨ 30000 < n + m then 2 else (linesK x.safe 160).2.2 := by rw [hq, hn, hm]; rfl
  have hnb : n ≤ 9223372036854775807 := by have := K.n_le; have := K.c_le; unfold maxLen at *; omega
  have hmb : m ≤ 9223372036854775807 := by have := K.m_le; have := K.d_le; unfold maxLen at *; omega
  have HN := Lib.hid hn; have HM := Lib.hid hm; have HQ := Lib.hid hq0
  clear hn hm hq hq0
  go_enter Tryd.func42, Tryd.ntmps42
  go_upto_region 1 with fail
  have on : Onto w (w.alloc (Obj.cells #[.slice A n c, .slice A' m d] 53)) := (Onto.rfl' w).new _
  have B : Bx (w.alloc (Obj.cells #[.slice A n c, .slice A' m d] 53)) w.heap.size [.slice A n c, .slice A' m d] := Bx.made _ _ _
  generalize (w.alloc (Obj.cells #[.slice A n c, .slice A' m d] 53)) = w1 at *
  generalize w.heap.size = z at B ⊢
  have b0 := B.at_ 0 rfl; have b1 := B.at_ 1 rfl
  by_cases h1 : 30000 < n
  · have hd : decide ((30000 : Int) < (n : Int)) = true := by simp; omega
    have h1' : (30000 : Int) < (n : Int) := by omega
    have hqq : q = 2 := by rw [HQ.out, if_pos (.inl h1)]
    subst hqq
    clear h1
    go_wp2_with fail
    go_ret
    exact ⟨ret_int rfl, on⟩
  · have h1' : ¬ (30000 : Int) < (n : Int) := by omega
    have hw : wrap64 ((30000 : Int) - (n : Int)) = 30000 - (n : Int) := by unfold wrap64; omega
    by_cases h2 : 30000 < n + m
    · have h2' : (30000 : Int) - (n : Int) < (m : Int) := by omega
      have hqq : q = 2 := by rw [HQ.out, if_pos (.inr h2)]
      subst hqq
      clear h1 h2
      go_wp2_with fail
      go_ret
      exact ⟨ret_int rfl, on⟩
    · have h2' : ¬ (30000 : Int) - (n : Int) < (m : Int) := by omega
      have hqq : q = (linesK x.safe 160).2.2 := by rw [HQ.out, if_neg (by omega)]
      have cv := conv_bytes (c := c) (K.safe.onto on)
      have E1 := E.onto on
      have hsl : x.safe.length ≤ 30000 := by rw [← HN.out]; omega
      have HQQ := Lib.hid hqq; have ON := Lib.hid on
      clear h1 h2 hqq on
      go_wp2_with fail
      refine Calls.mono (RLines_calls x.safe 160 hsl (by omega) _ E1) ?_
      rintro e w2 ⟨A1, n1, c1, rfl, _, b⟩
      have ON2 := Lib.hid (ON.out.to b)
      clear b b0 b1 B
      rw [show (linesK x.safe 160).2.2 = q from HQQ.out.symm]
      go_wp2_with fail
      go_ret
      exact ⟨ret_int rfl, ON2.out⟩

set_option maxHeartbeats 4000000 in
theorem RDSame_calls (A A' : Option Addr) (n c m d : Nat) (x : Dsk) (F F' : Option Addr) (k i l j : Nat) (y : Dsk) (w : World) (K : DK w A n c A' m d x) (K' : DK w F k i F' l j y) :
    Calls Tryd.prog 44 #[.agg #[.slice A n c, .slice A' m d], .agg #[.slice F k i, .slice F' l j]] w fun e w' => e = .returned (.bool (decide (x = y))) ∧ Onto w w' := by
  obtain ⟨q, hq⟩ : ∃ q, q = decide (x = y) := ⟨_, rfl⟩
  rw [← hq]
  have hq0 : q = (decide (x.safe = y.safe) && decide (x.wait = y.wait)) := by
    rw [hq, Bool.eq_iff_iff]
    cases x; cases y
    simp
  have hnb : n ≤ 9223372036854775807 := by have := K.n_le; have := K.c_le; unfold maxLen at *; omega
  have hmb : m ≤ 9223372036854775807 := by have := K.m_le; have := K.d_le; unfold maxLen at *; omega
  have HQ := Lib.hid hq0
  clear hq hq0
  go_enter Tryd.func44, Tryd.ntmps44
  go_upto_region 1 with fail
  have on : Onto w ((w.alloc (Obj.cells #[.slice A n c, .slice A' m d] 53)).alloc (Obj.cells #[.slice F k i, .slice F' l j] 53)) := ((Onto.rfl' w).new _).new _
  have B : Bx ((w.alloc (Obj.cells #[.slice A n c, .slice A' m d] 53)).alloc (Obj.cells #[.slice F k i, .slice F' l j] 53)) w.heap.size [.slice A n c, .slice A' m d] := (Bx.made _ _ _).new _
  have B' : Bx ((w.alloc (Obj.cells #[.slice A n c, .slice A' m d] 53)).alloc (Obj.cells #[.slice F k i, .slice F' l j] 53)) (w.heap.size + 1) [.slice F k i, .slice F' l j] := by
    have := Bx.made (w.alloc (Obj.cells #[.slice A n c, .slice A' m d] 53)) #[.slice F k i, .slice F' l j] 53
    simpa using this
  generalize ((w.alloc (Obj.cells #[.slice A n c, .slice A' m d] 53)).alloc (Obj.cells #[.slice F k i, .slice F' l j] 53)) = w1 at *
  generalize w.heap.size + 1 = z' at *
  generalize w.heap.size = z at B ⊢
  have b0 := B.at_ 0 rfl; have b1 := B.at_ 1 rfl; have f0 := B'.at_ 0 rfl; have f1 := B'.at_ 1 rfl
  have K1 := K.onto on; have K1' := K'.onto on
  have ON := Lib.hid on
  clear on K K'
  go_wp2_with fail
  refine Calls.mono (EqualB_calls A F n k c i _ x.safe y.safe _ K1.safe K1'.safe hnb) ?_
  rintro e w2 ⟨rfl, q2, rfl⟩
  by_cases h1 : x.safe = y.safe
  · have hd : decide (x.safe = y.safe) = true := by simp [h1]
    have hqq : q = decide (x.wait = y.wait) := by rw [HQ.out, hd, Bool.true_and]
    rw [hd]
    have HQQ := Lib.hid hqq
    clear hd hqq h1
    have d1 := b1; have g1 := f1
    go_wp2_with fail
    refine Calls.mono (EqualB_calls A' F' m l d j _ x.wait y.wait _ (K1.wait.onto ((Onto.rfl' _).draws _)) (K1'.wait.onto ((Onto.rfl' _).draws _)) hmb) ?_
    rintro e w2 ⟨rfl, q3, rfl⟩
    rw [show decide (x.wait = y.wait) = q from HQQ.out.symm]
    go_wp2_with fail
    go_ret
    exact ⟨rfl, ON.out.draws _⟩
  · have hd : decide (x.safe = y.safe) = false := by simp [h1]
    have hqq : q = false := by rw [HQ.out, hd, Bool.false_and]
    subst hqq
    rw [hd]
    clear hd h1
    go_wp2_with fail
    go_ret
    exact ⟨rfl, ON.out.draws _⟩

/-! ### Bytes of a text -/
theorem bytesRow_at (s : List UInt8) (cap i : Nat) (hi : i < s.length) : (bytesRow ⟨s.toArray⟩ cap)[i]? = some (.int .u8 (s[i].toNat : Int)) := by
  unfold bytesRow
  rw [Array.getElem?_append_left (by simp; exact hi)]
  simp [hi]
theorem run_conv_str (s : List UInt8) (w : World) : ∃ c w', (convert 9 51 (str s)).run Tryd.prog w = .ok (.slice (some ⟨w.heap.size, 0, none⟩) s.length c) w' ∧ S w' 1 (some ⟨w.heap.size, 0, none⟩) s.length (s.map encB) ∧ Onto w w' := by
  have h := run_bytes_of_string w 9 51 5 ⟨s.toArray⟩ Tryd.underlying9 Tryd.underlying51 Tryd.underlying5
  refine ⟨_, _, h, ?_, ((Onto.rfl' w).draw).new _⟩
  refine ⟨by simp, by simp [encB], fun hn => ⟨w.heap.size, 0, rfl, by simp, fun i j r u hr hu => ?_⟩⟩
  rw [List.getElem?_map] at hr
  cases hx : s[i]? with
  | none => rw [hx] at hr; cases hr
  | some b =>
    rw [hx] at hr
    simp only [Option.map_some, Option.some.injEq] at hr
    subst hr
    obtain ⟨hi, rfl⟩ := List.getElem?_eq_some_iff.1 hx
    match j, hu with
    | 0, hu =>
      simp only [encB, List.getElem?_cons_zero, Option.some.injEq] at hu
      subst hu
      have := bytesRow_at s (grownCap w (⟨s.toArray⟩ : ByteArray).size 0 5) i hi
      rw [cell_of_row _ _ _ _ _ _ (hNew (w := w.drew) (k := w.heap.size) rfl), Nat.zero_add, Nat.mul_one, Nat.add_zero]
      exact this
    | j + 1, hu => simp [encB] at hu
/-- The world behind '[]byte(s)'. -/
noncomputable def convW (s : List UInt8) (w : World) : World := w.drew.alloc (.cells (bytesRow ⟨s.toArray⟩ (grownCap w (⟨s.toArray⟩ : ByteArray).size 0 5)) 5 ((bytesRow ⟨s.toArray⟩ (grownCap w (⟨s.toArray⟩ : ByteArray).size 0 5)).size, (bytesRow ⟨s.toArray⟩ (grownCap w (⟨s.toArray⟩ : ByteArray).size 0 5)).size + 1))
noncomputable def convC (s : List UInt8) (w : World) : Nat := grownCap w (⟨s.toArray⟩ : ByteArray).size 0 5
theorem run_conv (s : List UInt8) (w : World) : (convert 9 51 (str s)).run Tryd.prog w = .ok (.slice (some ⟨w.heap.size, 0, none⟩) s.length (convC s w)) (convW s w) :=
  run_bytes_of_string w 9 51 5 ⟨s.toArray⟩ Tryd.underlying9 Tryd.underlying51 Tryd.underlying5
theorem conv_on {w0 w : World} (h : Onto w0 w) (s : List UInt8) : Onto w0 (convW s w) := (h.draw).new _
theorem conv_S (s : List UInt8) {Y X : World} (on : Onto (convW s Y) X) {k : Nat} (hk : Y.heap.size = k) : S X 1 (some ⟨k, 0, none⟩) s.length (s.map encB) := by
  obtain ⟨c, w', h1, h2, _⟩ := run_conv_str s Y
  rw [run_conv] at h1
  injection h1 with _ h1
  subst h1; subst hk
  exact h2.onto on

/-! ### Put, Sync, Recover, as the document has them -/
/-- A disk and an error. -/
def RnK (w : World) (q : Dsk × Int) (e : Ending) (w' : World) : Prop := ∃ F k i F' l j, e = .returned (.tuple #[.agg #[.slice F k i, .slice F' l j], .int .i64 q.2]) ∧ DK w' F k i F' l j q.1 ∧ Onto w w'
theorem RnK.bad {w w' : World} {q : Int} {v : Value} (h : v = .tuple #[.agg #[.slice none 0 0, .slice none 0 0], .int .i64 q]) (on : Onto w w') : RnK w (noK, q) (.returned v) w' := ⟨none, 0, 0, none, 0, 0, by rw [h], DK.none_ _, on⟩
set_option maxHeartbeats 8000000 in
set_option maxRecDepth 100000 in
theorem RDPut_calls (A A' : Option Addr) (n c m d : Nat) (x : Dsk) (r : Rec) (w : World) (E : Env w) (K : DK w A n c A' m d x) (hok : checkK x = 0) :
    Calls Tryd.prog 45 #[.agg #[.slice A n c, .slice A' m d], .agg #[.int .i64 r.kind, .int .i64 r.at_, .int .i64 r.epoch, .int .i64 r.e.kind, .int .i64 r.e.job, .int .i64 r.e.every, .int .i64 r.e.time, .int .i64 r.e.client]] w (RnK w (putK x r)) := by
  obtain ⟨T, hT⟩ : ∃ T, T = (printR r).1 := ⟨_, rfl⟩
  obtain ⟨h, hh⟩ : ∃ h, h = (printR r).2 := ⟨_, rfl⟩
  obtain ⟨q, hq⟩ : ∃ q, q = putK x r := ⟨_, rfl⟩
  rw [← hq]
  unfold putK at hq
  rw [if_neg (by simp [hok]), ← hT, ← hh, ← K.n_eq, ← K.m_eq] at hq
  have hbd := decB x hok
  rw [← K.n_eq, ← K.m_eq] at hbd
  have hTl : T.length ≤ 100 := hT ▸ printR_len r
  have HT := Lib.hid hT; have HH := Lib.hid hh; have HQ := Lib.hid hq
  clear hT hh hq hok
  go_enter Tryd.func45, Tryd.ntmps45
  go_upto_region 1 with fail
  have B2 : Bx (((w.alloc (Obj.cells #[.slice A n c, .slice A' m d] 53)).alloc (Obj.cells #[.int .i64 r.kind, .int .i64 r.at_, .int .i64 r.epoch, .int .i64 r.e.kind, .int .i64 r.e.job, .int .i64 r.e.every, .int .i64 r.e.time, .int .i64 r.e.client] 35)).alloc (Obj.cells #[.slice none 0 0, .slice none 0 0] 53)) w.heap.size [.slice A n c, .slice A' m d] := by
    have := (((Bx.made w #[.slice A n c, .slice A' m d] 53).new (Obj.cells #[.int .i64 r.kind, .int .i64 r.at_, .int .i64 r.epoch, .int .i64 r.e.kind, .int .i64 r.e.job, .int .i64 r.e.every, .int .i64 r.e.time, .int .i64 r.e.client] 35)).new (Obj.cells #[.slice none 0 0, .slice none 0 0] 53))
    simpa using this
  have B3 : Bx (((w.alloc (Obj.cells #[.slice A n c, .slice A' m d] 53)).alloc (Obj.cells #[.int .i64 r.kind, .int .i64 r.at_, .int .i64 r.epoch, .int .i64 r.e.kind, .int .i64 r.e.job, .int .i64 r.e.every, .int .i64 r.e.time, .int .i64 r.e.client] 35)).alloc (Obj.cells #[.slice none 0 0, .slice none 0 0] 53)) (w.heap.size + 1) [.int .i64 r.kind, .int .i64 r.at_, .int .i64 r.epoch, .int .i64 r.e.kind, .int .i64 r.e.job, .int .i64 r.e.every, .int .i64 r.e.time, .int .i64 r.e.client] := by
    have := ((Bx.made (w.alloc (Obj.cells #[.slice A n c, .slice A' m d] 53)) #[.int .i64 r.kind, .int .i64 r.at_, .int .i64 r.epoch, .int .i64 r.e.kind, .int .i64 r.e.job, .int .i64 r.e.every, .int .i64 r.e.time, .int .i64 r.e.client] 35).new (Obj.cells #[.slice none 0 0, .slice none 0 0] 53))
    simpa using this
  have Bz : Bx (((w.alloc (Obj.cells #[.slice A n c, .slice A' m d] 53)).alloc (Obj.cells #[.int .i64 r.kind, .int .i64 r.at_, .int .i64 r.epoch, .int .i64 r.e.kind, .int .i64 r.e.job, .int .i64 r.e.every, .int .i64 r.e.time, .int .i64 r.e.client] 35)).alloc (Obj.cells #[.slice none 0 0, .slice none 0 0] 53)) (w.heap.size + 2) [.slice none 0 0, .slice none 0 0] := by
    have := (Bx.made ((w.alloc (Obj.cells #[.slice A n c, .slice A' m d] 53)).alloc (Obj.cells #[.int .i64 r.kind, .int .i64 r.at_, .int .i64 r.epoch, .int .i64 r.e.kind, .int .i64 r.e.job, .int .i64 r.e.every, .int .i64 r.e.time, .int .i64 r.e.client] 35)) #[.slice none 0 0, .slice none 0 0] 53)
    simpa using this
  have on : Onto w (((w.alloc (Obj.cells #[.slice A n c, .slice A' m d] 53)).alloc (Obj.cells #[.int .i64 r.kind, .int .i64 r.at_, .int .i64 r.epoch, .int .i64 r.e.kind, .int .i64 r.e.job, .int .i64 r.e.every, .int .i64 r.e.time, .int .i64 r.e.client] 35)).alloc (Obj.cells #[.slice none 0 0, .slice none 0 0] 53)) := (((Onto.rfl' w).new _).new _).new _
  generalize (((w.alloc (Obj.cells #[.slice A n c, .slice A' m d] 53)).alloc (Obj.cells #[.int .i64 r.kind, .int .i64 r.at_, .int .i64 r.epoch, .int .i64 r.e.kind, .int .i64 r.e.job, .int .i64 r.e.every, .int .i64 r.e.time, .int .i64 r.e.client] 35)).alloc (Obj.cells #[.slice none 0 0, .slice none 0 0] 53)) = w1 at *
  have hz' : w.heap.size ≤ w.heap.size + 2 := by omega
  have hzz : w.heap.size ≠ w.heap.size + 2 := by omega
  have hoA : OffN n (w.heap.size + 2) A := K.safe.offN (by omega)
  generalize w.heap.size + 2 = z at Bz hz' hzz hoA ⊢
  generalize w.heap.size + 1 = z3 at B3 ⊢
  generalize hz2 : w.heap.size = z2 at B2 hzz ⊢
  clear hz2
  have r0 := B3.at_ 0 rfl; have r1 := B3.at_ 1 rfl; have r2 := B3.at_ 2 rfl; have r3 := B3.at_ 3 rfl; have r4 := B3.at_ 4 rfl; have r5 := B3.at_ 5 rfl; have r6 := B3.at_ 6 rfl; have r7 := B3.at_ 7 rfl
  go_wp2_with fail
  refine Calls.mono (RRText_calls r.kind r.at_ r.epoch r.e _ (E.onto on)) ?_
  rw [show (printR ⟨r.kind, r.at_, r.epoch, r.e⟩).1 = T from HT.out.symm, show (printR ⟨r.kind, r.at_, r.epoch, r.e⟩).2 = h from HH.out.symm]
  rintro e w3 ⟨rfl, b⟩
  replace on := on.to b; replace B2 := B2.onto b; replace Bz := Bz.onto b
  clear b r0 r1 r2 r3 r4 r5 r6 r7 B3
  by_cases hh0 : h = 0
  · have hq := HQ.out
    rw [if_neg (by simp [hh0])] at hq
    replace HQ := Lib.hid hq
    subst hh0
    clear hq
    have b0 := B2.at_ 0 rfl; have b1 := B2.at_ 1 rfl
    by_cases hf : 30000 < n + m + (T.length + 1)
    · have hd : (30000 : Int) < (n : Int) + (m : Int) + (T.length : Int) + 1 := by omega
      have hq := HQ.out
      rw [if_pos hf] at hq
      subst hq
      clear hf
      go_wp2_with (refine wpList_put Bz [.slice none 0 0, .slice none 0 0] 53 _ _ (by rfl) (by rfl) (by rfl) (by rfl) (by rfl) sizeD (by rfl) ?_)
      have hF := Bz.put (us := [.slice none 0 0, .slice none 0 0]) rfl
      have oF := Onto.puts (b := z) (o := 0) (us := [.slice none 0 0, .slice none 0 0]) hz' on
      generalize World.setCells _ z 0 [.slice none 0 0, .slice none 0 0] = wF at hF oF ⊢
      go_wp2_with fail
      have p0 := hF.at_ 0 rfl; have p1 := hF.at_ 1 rfl
      refine bodyPost_ret (v := .tuple #[.agg #[.slice none 0 0, .slice none 0 0], .int .i64 2]) (by simp [results, Tryd.results45, go_sem, p0, p1]) rfl (RnK.bad rfl oF)
    · have hd : ¬ (30000 : Int) ≤ (n : Int) + (m : Int) + (T.length : Int) := by omega
      have hq := HQ.out
      rw [if_neg hf] at hq
      subst hq
      have HF2 := Lib.hid (show n + m + T.length + 1 ≤ 30000 by omega)
      obtain ⟨N2, hN2⟩ : ∃ N2 : Int, (n : Int) + (m : Int) + (T.length : Int) = N2 := ⟨_, rfl⟩
      have hN0 : 0 ≤ N2 := by omega
      have hN1 : N2 < 30000 := by omega
      clear hf hd
      go_upto_region 6 with fail
      have hf2 := HF2.out
      clear hN2
      have K3 := K.onto on
      have zb0 := Bz.at_ 0 rfl; have zb1 := Bz.at_ 1 rfl
      have fz0 := Bz.froz 0; have fz1 := Bz.froz 1
      have hz3 : z < w3.heap.size := Bz.lt
      obtain ⟨T1, hT1⟩ : ∃ T1, T1 = T ++ [10] := ⟨_, rfl⟩
      have s1 : ∀ w, (Op.stringOp .add ⟨T.toArray⟩ ⟨#[10]⟩).run Tryd.prog w = .ok (str T1) w := fun w => by rw [hT1]; exact run_string_add_lists w T [10] (by omega) (by simp)
      have hl1 : T1.length = T.length + 1 := by rw [hT1]; simp
      have HT1 := Lib.hid hT1; have HL1 := Lib.hid hl1
      have hl2 : m + T1.length ≤ 30000 := by omega
      clear hT1 hl1
      have hcv := run_conv T1
      have hz2w : z2 < w3.heap.size := B2.lt
      have g0 := cellB (conv_on (Onto.rfl' w3).draw T1) b0; have g1 := cellB (conv_on (Onto.rfl' w3).draw T1) b1
      have gs : z2 < (convW T1 w3.drew).heap.size := sizeB (conv_on (Onto.rfl' w3).draw T1) hz2w
      go_region_law (first
          | (go_simp; go_at_call 73; refine Calls.mono (ConcatB_calls _ A' (some ⟨w3.heap.size, 0, none⟩) m d T1.length (convC T1 w3.drew) _ 2 (x.wait.map encB) (T1.map encB) (by simp [go_sem]; done) (by simp [go_sem]; done) (K3.wait.onto (by with_reducible (repeat (first | exact Onto.rfl' _ | refine Onto.new ?_ _ | refine Onto.draw ?_ | refine conv_on ?_ _)))) (conv_S T1 (by with_reducible (repeat (first | exact Onto.rfl' _ | refine Onto.new ?_ _ | refine Onto.draw ?_ | refine conv_on ?_ _))) (by simp)) (encB_one _) (encB_one _) (by omega)) ?_; rintro e wD ⟨A5, c5, rfl, own5, bD⟩; replace own5 : Own wD w3.heap.size 5 1 (.slice A5 (m + T1.length) c5) (m + T1.length) (x.wait.map encB ++ T1.map encB) := own5.lower (Below.size (show Onto w3 _ from (by with_reducible (repeat (first | exact Onto.rfl' _ | refine Onto.new ?_ _ | refine Onto.draw ?_ | refine conv_on ?_ _))))); replace bD : Onto w3 wD := Onto.to (by with_reducible (repeat (first | exact Onto.rfl' _ | refine Onto.new ?_ _ | refine Onto.draw ?_ | refine conv_on ?_ _))) bD; have BD := B2.onto bD; have q0 := BD.at_ 0 rfl; have q1 := BD.at_ 1 rfl; have Z := Bz.onto bD; have p0 := Z.at_ 0 rfl; have p1 := Z.at_ 1 rfl; have f0 := Z.froz 0; have f1 := Z.froz 1; clear Z)
          | (go_simp; go_at_call 73; refine Calls.mono (ConcatB_calls _ A' (some ⟨w3.heap.size, 0, none⟩) m d T1.length (convC T1 w3) _ 2 (x.wait.map encB) (T1.map encB) (by simp [go_sem]; done) (by simp [go_sem]; done) (K3.wait.onto (by with_reducible (repeat (first | exact Onto.rfl' _ | refine Onto.new ?_ _ | refine Onto.draw ?_ | refine conv_on ?_ _)))) (conv_S T1 (by with_reducible (repeat (first | exact Onto.rfl' _ | refine Onto.new ?_ _ | refine Onto.draw ?_ | refine conv_on ?_ _))) (by simp)) (encB_one _) (encB_one _) (by omega)) ?_; rintro e wD ⟨A5, c5, rfl, own5, bD⟩; replace own5 : Own wD w3.heap.size 5 1 (.slice A5 (m + T1.length) c5) (m + T1.length) (x.wait.map encB ++ T1.map encB) := own5.lower (Below.size (show Onto w3 _ from (by with_reducible (repeat (first | exact Onto.rfl' _ | refine Onto.new ?_ _ | refine Onto.draw ?_ | refine conv_on ?_ _))))); replace bD : Onto w3 wD := Onto.to (by with_reducible (repeat (first | exact Onto.rfl' _ | refine Onto.new ?_ _ | refine Onto.draw ?_ | refine conv_on ?_ _))) bD; have BD := B2.onto bD; have q0 := BD.at_ 0 rfl; have q1 := BD.at_ 1 rfl; have Z := Bz.onto bD; have p0 := Z.at_ 0 rfl; have p1 := Z.at_ 1 rfl; have f0 := Z.froz 0; have f1 := Z.froz 1; clear Z)
          | fail)
      all_goals
        have on9 := on.to bD
        have KS := (K3.safe.onto bD)
        have HO2 := Lib.hid own5; have HON := Lib.hid on9; have HKS := Lib.hid KS
        clear own5 on9 KS
        go_wp2_with fail
        refine bodyPost_ret (v := .tuple #[.agg #[.slice A n c, .slice A5 (m + T1.length) c5], .int .i64 0]) (by simp [results, Tryd.results45, go_sem, p0, p1]) rfl ⟨A, n, c, A5, m + T1.length, c5, rfl, ⟨S.off (S.off HKS.out (p := ⟨z, 0, none⟩) hoA _) (p := ⟨z, 1, none⟩) hoA _, ?_, K.n_le, K.c_le, HO2.out.le_cap, HO2.out.cap_max⟩, (HON.out.put hz' _).put hz' _⟩
        rw [show (⟨x.safe, x.wait ++ T ++ [10]⟩ : Dsk).wait.map encB = x.wait.map encB ++ T1.map encB by rw [HT1.out]; simp]
        exact ((HO2.out.setCell (p := ⟨z, 0, none⟩) hz3 _).setCell (p := ⟨z, 1, none⟩) hz3 _).sl
  · have hq := HQ.out
    rw [if_pos hh0] at hq
    subst hq
    have hh1 : (h == 0) = false := by simp [hh0]
    have hh2 : (h != 0) = true := by simp [hh0]
    clear hh0
    go_wp2_with (refine wpList_put Bz [.slice none 0 0, .slice none 0 0] 53 _ _ (by rfl) (by rfl) (by rfl) (by rfl) (by rfl) sizeD (by rfl) ?_)
    have hF := Bz.put (us := [.slice none 0 0, .slice none 0 0]) rfl
    have oF := Onto.puts (b := z) (o := 0) (us := [.slice none 0 0, .slice none 0 0]) hz' on
    generalize World.setCells _ z 0 [.slice none 0 0, .slice none 0 0] = wF at hF oF ⊢
    go_wp2_with fail
    have p0 := hF.at_ 0 rfl; have p1 := hF.at_ 1 rfl
    refine bodyPost_ret (v := .tuple #[.agg #[.slice none 0 0, .slice none 0 0], .int .i64 h]) (by simp [results, Tryd.results45, go_sem, p0, p1]) rfl (RnK.bad rfl oF)
set_option maxHeartbeats 8000000 in
set_option maxRecDepth 100000 in
theorem RDSync_calls (A A' : Option Addr) (n c m d : Nat) (x : Dsk) (w : World) (E : Env w) (K : DK w A n c A' m d x) (hok : checkK x = 0) :
    Calls Tryd.prog 46 #[.agg #[.slice A n c, .slice A' m d]] w (RnK w (syncK x)) := by
  obtain ⟨h, hh⟩ : ∃ h, h = checkK ⟨x.safe ++ x.wait, []⟩ := ⟨_, rfl⟩
  obtain ⟨q, hq⟩ : ∃ q, q = syncK x := ⟨_, rfl⟩
  rw [← hq]
  unfold syncK at hq
  rw [if_neg (by simp [hok]), ← hh] at hq
  have hbd := decB x hok
  rw [← K.n_eq, ← K.m_eq] at hbd
  have HH := Lib.hid hh; have HQ := Lib.hid hq
  clear hh hq hok
  go_enter Tryd.func46, Tryd.ntmps46
  go_upto_region 1 with fail
  have B2 : Bx ((w.alloc (Obj.cells #[.slice A n c, .slice A' m d] 53)).alloc (Obj.cells #[.slice none 0 0, .slice none 0 0] 53)) w.heap.size [.slice A n c, .slice A' m d] := by
    have := ((Bx.made w #[.slice A n c, .slice A' m d] 53).new (Obj.cells #[.slice none 0 0, .slice none 0 0] 53))
    simpa using this
  have Bz : Bx ((w.alloc (Obj.cells #[.slice A n c, .slice A' m d] 53)).alloc (Obj.cells #[.slice none 0 0, .slice none 0 0] 53)) (w.heap.size + 1) [.slice none 0 0, .slice none 0 0] := by
    have := (Bx.made (w.alloc (Obj.cells #[.slice A n c, .slice A' m d] 53)) #[.slice none 0 0, .slice none 0 0] 53)
    simpa using this
  have on : Onto w ((w.alloc (Obj.cells #[.slice A n c, .slice A' m d] 53)).alloc (Obj.cells #[.slice none 0 0, .slice none 0 0] 53)) := ((Onto.rfl' w).new _).new _
  generalize ((w.alloc (Obj.cells #[.slice A n c, .slice A' m d] 53)).alloc (Obj.cells #[.slice none 0 0, .slice none 0 0] 53)) = w1 at *
  have hz' : w.heap.size ≤ w.heap.size + 1 := by omega
  have hzz : w.heap.size ≠ w.heap.size + 1 := by omega
  have hwz2 : w.heap.size ≤ w.heap.size := Nat.le_refl _
  generalize w.heap.size + 1 = z at Bz hz' hzz ⊢
  generalize hz2 : w.heap.size = z2 at B2 hzz ⊢
  replace hwz2 : w.heap.size ≤ z2 := by omega
  clear hz2
  have b0 := B2.at_ 0 rfl; have b1 := B2.at_ 1 rfl
  go_wp2_with fail
  refine Calls.mono (ConcatB_calls _ A A' n c m d _ 2 (x.safe.map encB) (x.wait.map encB) (by simp [go_sem]) (by simp [go_sem]) ((K.onto on).safe.new _) ((K.onto on).wait.new _) (encB_one _) (encB_one _) (by omega)) ?_
  rintro e w3 ⟨A1, c1, rfl, own1, b⟩
  have b3 : Onto w1 w3 := Onto.to ((Onto.rfl' w1).new _) b
  have hz1 : z2 < w1.heap.size := B2.lt
  have hzw1 : z < w1.heap.size := Bz.lt
  have o1 : Own w3 w1.heap.size 5 1 (.slice A1 (n + m) c1) (n + m) (x.safe.map encB ++ x.wait.map encB) := own1.lower (by simp)
  replace on := on.to b3; replace B2 := B2.onto b3; replace Bz := Bz.onto b3
  clear b b3 own1 b0 b1
  go_upto_region 2 with (refine wpList_put B2 [.slice A1 (n + m) c1, .slice none 0 0] 53 _ _ (by rfl) (by rfl) (by rfl) (by rfl) (by rfl) sizeD (by rfl) ?_)
  have B2' := B2.put (us := [.slice A1 (n + m) c1, .slice none 0 0]) rfl
  have Bz' := Bz.off (b := z2) (o := 0) (us := [.slice A1 (n + m) c1, .slice none 0 0]) (Ne.symm hzz)
  have on' := Onto.puts (b := z2) (o := 0) (us := [.slice A1 (n + m) c1, .slice none 0 0]) hwz2 on
  have o1' := Own.puts (us := [.slice A1 (n + m) c1, .slice none 0 0]) (o := 0) hz1 o1
  clear B2 Bz on o1
  have B2 := B2'; have Bz := Bz'; have on := on'; have o1 := o1'
  clear B2' Bz' on' o1'
  generalize World.setCells _ z2 0 [.slice A1 (n + m) c1, .slice none 0 0] = w4 at *
  have hz4 : z < w4.heap.size := Bz.lt
  have b0 := B2.at_ 0 rfl; have b1 := B2.at_ 1 rfl
  have KK : DK w4 A1 (n + m) c1 none 0 0 ⟨x.safe ++ x.wait, []⟩ := DK.one o1
  go_wp2_with fail
  refine Calls.mono (RDCheck_calls A1 none (n + m) c1 0 0 ⟨x.safe ++ x.wait, []⟩ _ (E.onto on) KK) ?_
  rintro e w6 ⟨rfl, b⟩
  rw [show checkK ⟨x.safe ++ x.wait, []⟩ = h from HH.out.symm]
  replace on := on.to b; replace B2 := B2.onto b; replace Bz := Bz.onto b; replace KK := KK.onto b
  have HO := Lib.hid (o1.below b)
  clear b b0 b1 KK o1
  by_cases hh0 : h = 0
  · have hq := HQ.out
    rw [if_neg (by simp [hh0])] at hq
    subst hq
    subst hh0
    have b0 := B2.at_ 0 rfl; have b1 := B2.at_ 1 rfl
    have HOF := Lib.hid (DK.one (Own.puts (us := [.slice A1 (n + m) c1, .slice none 0 0]) (o := 0) hzw1 HO.out))
    go_wp2_with (refine wpList_put Bz [.slice A1 (n + m) c1, .slice none 0 0] 53 _ _ (by rfl) (by rfl) (by rfl) (by rfl) (by rfl) sizeD (by rfl) ?_)
    have hF := Bz.put (us := [.slice A1 (n + m) c1, .slice none 0 0]) rfl
    have oF := Onto.puts (b := z) (o := 0) (us := [.slice A1 (n + m) c1, .slice none 0 0]) hz' on
    generalize World.setCells _ z 0 [.slice A1 (n + m) c1, .slice none 0 0] = wF at hF oF HOF ⊢
    go_wp2_with fail
    have p0 := hF.at_ 0 rfl; have p1 := hF.at_ 1 rfl
    refine bodyPost_ret (v := .tuple #[.agg #[.slice A1 (n + m) c1, .slice none 0 0], .int .i64 0]) (by simp [results, Tryd.results46, go_sem, p0, p1]) rfl ⟨A1, n + m, c1, none, 0, 0, rfl, HOF.out, oF⟩
  · have hq := HQ.out
    rw [if_pos hh0] at hq
    subst hq
    have hg1 : (h == 0) = false := by simp [hh0]
    have hg2 : (h != 0) = true := by simp [hh0]
    clear hh0
    go_wp2_with (refine wpList_put Bz [.slice none 0 0, .slice none 0 0] 53 _ _ (by rfl) (by rfl) (by rfl) (by rfl) (by rfl) sizeD (by rfl) ?_)
    have hF := Bz.put (us := [.slice none 0 0, .slice none 0 0]) rfl
    have oF := Onto.puts (b := z) (o := 0) (us := [.slice none 0 0, .slice none 0 0]) hz' on
    generalize World.setCells _ z 0 [.slice none 0 0, .slice none 0 0] = wF at hF oF ⊢
    go_wp2_with fail
    have p0 := hF.at_ 0 rfl; have p1 := hF.at_ 1 rfl
    refine bodyPost_ret (v := .tuple #[.agg #[.slice none 0 0, .slice none 0 0], .int .i64 h]) (by simp [results, Tryd.results46, go_sem, p0, p1]) rfl (RnK.bad rfl oF)
end
section
set_option linter.unusedSimpArgs false
set_option linter.unusedVariables false
open Go.RowKit
attribute [local go_sem ↓] Go.wp_at_zero Go.wp_at_succ

theorem Live.litQ {w0 w : World} {L : List (Option Ent)} (h : Live w0 w L) {i : Nat} (hi : i < L.length) {A A' : Option Addr} {n c m d : Nat} : Live w0 (w.alloc (.cells #[.slice A n c, .slice A' m d] 50)) (L.set i (some ⟨.slice (some ⟨w.heap.size, 0, none⟩) 2 2, 50, 1, 2, [[.slice A n c], [.slice A' m d]]⟩)) :=
  h.lit hi _ _ _ _ _ (by simp) rfl (by simp) (by simp [maxLen])
theorem ConcatQ_live {w0 w : World} {L : List (Option Ent)} (LV : Live w0 w L) (i p s t : Nat) (hi : i < L.length) (A A' : Option Addr) (n c m d : Nat) (Z E : Nat) (l l' : List Rec) (hs : L[s]? = some (some ⟨.slice A n c, 35, 8, n, l.map encQ⟩)) (ht : L[t]? = some (some ⟨.slice A' m d, 35, 8, m, l'.map encQ⟩)) (hn : n + m ≤ 1000000)
    (hp : L[p]? = some (some ⟨.slice (some ⟨Z, 0, none⟩) 2 2, E, 1, 2, [[.slice A n c], [.slice A' m d]]⟩)) :
    Calls Tryd.prog 40 #[.slice (some ⟨Z, 0, none⟩) 2 2] w fun e w' => ∃ A1 c1, e = .returned (.slice A1 (n + m) c1) ∧ Live w0 w' (L.set i (some ⟨.slice A1 (n + m) c1, 35, 8, n + m, l.map encQ ++ l'.map encQ⟩)) := by
  obtain ⟨b, off, e, _, hc⟩ := (Live.sl LV hp).2.2 (by omega)
  injection e with e
  injection e with e1 e2 _
  subst e1; subst e2
  refine Calls.mono (ConcatQ_calls w A A' n c m d Z 2 (l.map encQ) (l'.map encQ) (by simpa using hc 0 0 _ _ rfl rfl) (by simpa using hc 1 0 _ _ rfl rfl) (Live.sl LV hs) (Live.sl LV ht) (encQ_one _) (encQ_one _) (by omega)) ?_
  rintro e w' ⟨A1, c1, rfl, ho, hb⟩
  exact ⟨A1, c1, rfl, LV.add hi ho hb⟩
/-- What the document's Recovered returns. -/
def RrPost (w : World) (q : Dsk × List Rec) (e : Ending) (w' : World) : Prop := ∃ F k i F' l j B b y, e = .returned (.tuple #[.agg #[.slice F k i, .slice F' l j], .slice B b y]) ∧ DK w' F k i F' l j q.1 ∧ S w' 8 B b (q.2.map encQ) ∧ b ≤ 1000 ∧ Onto w w'
set_option maxHeartbeats 8000000 in
set_option maxRecDepth 100000 in
theorem RDRec_calls (A A' : Option Addr) (n c m d : Nat) (x : Dsk) (w : World) (E : Env w) (K : DK w A n c A' m d x) (hok : checkK x = 0) :
    Calls Tryd.prog 47 #[.agg #[.slice A n c, .slice A' m d]] w (RrPost w (backK x, recsK x)) := by
  obtain ⟨q, hq⟩ : ∃ q, q = (backK x, recsK x) := ⟨_, rfl⟩
  rw [← hq]
  have hbd := decB x hok
  rw [← K.n_eq, ← K.m_eq] at hbd
  have hn : n ≤ 30000 := by omega
  have hm : m ≤ 30000 := by omega
  have hmd : m ≤ d := K.m_le
  have hdm : d ≤ 9223372036854775807 := by have := K.d_le; unfold maxLen at this; omega
  have hsl : x.safe.length ≤ 30000 := by rw [← K.n_eq]; omega
  have hwl : x.wait.length ≤ 30000 := by rw [← K.m_eq]; omega
  obtain ⟨l, hl⟩ : ∃ l, l = (linesK x.safe 160).1 := ⟨_, rfl⟩
  have hl1 : l.length ≤ 160 := by rw [hl]; exact (linesK_read x.safe 160).2.1
  have HL := Lib.hid hl
  unfold backK recsK at hq
  rw [← hl] at hq
  obtain ⟨most, hmost⟩ : ∃ most : Nat, most = 160 - l.length := ⟨_, rfl⟩
  have hmi : (160 : Int) - (l.length : Int) = (most : Int) := by omega
  rw [← hmost] at hq
  obtain ⟨k, hk⟩ : ∃ k, k = (linesK x.wait most).1 := ⟨_, rfl⟩
  obtain ⟨j, hj⟩ : ∃ j, j = (linesK x.wait most).2.1 := ⟨_, rfl⟩
  have hj1 : j ≤ m := by
    obtain ⟨_, _, h3, h4, _⟩ := linesK_read x.wait most
    have h5 := congrArg List.length h4
    rw [← h3, ← hj, List.length_take] at h5
    rw [K.m_eq]; omega
  have hk1 : l.length + k.length ≤ 160 := by have := (linesK_read x.wait most).2.1; rw [← hk] at this; omega
  rw [← hk, ← hj] at hq
  have HQ2 := Lib.hid hq; have HK := Lib.hid hk; have HJ := Lib.hid hj
  have hm160 : most ≤ 160 := by omega
  clear hq hk hj hl hok hmost
  go_enter Tryd.func47, Tryd.ntmps47
  go_upto_region 1 with fail
  have B2 : Bx ((w.alloc (Obj.cells #[.slice A n c, .slice A' m d] 53)).alloc (Obj.cells #[.slice none 0 0, .slice none 0 0] 53)) w.heap.size [.slice A n c, .slice A' m d] := by
    have := ((Bx.made w #[.slice A n c, .slice A' m d] 53).new (Obj.cells #[.slice none 0 0, .slice none 0 0] 53))
    simpa using this
  have Bz : Bx ((w.alloc (Obj.cells #[.slice A n c, .slice A' m d] 53)).alloc (Obj.cells #[.slice none 0 0, .slice none 0 0] 53)) (w.heap.size + 1) [.slice none 0 0, .slice none 0 0] := by
    have := (Bx.made (w.alloc (Obj.cells #[.slice A n c, .slice A' m d] 53)) #[.slice none 0 0, .slice none 0 0] 53)
    simpa using this
  have on : Onto w ((w.alloc (Obj.cells #[.slice A n c, .slice A' m d] 53)).alloc (Obj.cells #[.slice none 0 0, .slice none 0 0] 53)) := ((Onto.rfl' w).new _).new _
  generalize ((w.alloc (Obj.cells #[.slice A n c, .slice A' m d] 53)).alloc (Obj.cells #[.slice none 0 0, .slice none 0 0] 53)) = w1 at *
  have hz' : w.heap.size ≤ w.heap.size + 1 := by omega
  have hzz : w.heap.size ≠ w.heap.size + 1 := by omega
  have hwz2 : w.heap.size ≤ w.heap.size := Nat.le_refl _
  generalize w.heap.size + 1 = z at Bz hz' hzz ⊢
  generalize hz2 : w.heap.size = z2 at B2 hzz ⊢
  replace hwz2 : w.heap.size ≤ z2 := by omega
  clear hz2
  have b0 := B2.at_ 0 rfl; have b1 := B2.at_ 1 rfl
  have hs2 := on.size
  have E2 := E.onto on; have K2 := K.onto on
  have cv := conv_bytes (c := c) K2.safe
  go_wp2_with fail
  refine Calls.mono (RLines_calls x.safe 160 hsl (by omega) _ E2) ?_
  rintro e w3 ⟨A1, n1, c1, rfl, own1, b⟩
  rw [show (linesK x.safe 160).1 = l from HL.out.symm] at own1
  have hn1 : n1 = l.length := by have := own1.2.1; simpa using this.symm
  subst hn1
  have LV0 := (Live.start w1 6).add (i := 0) (by simp) own1 b
  have LVH := Lib.hid LV0
  clear own1 b0 b1 cv LV0
  have b0 := cellB b (B2.at_ 0 rfl); have b1 := cellB b (B2.at_ 1 rfl)
  have cv := conv_bytes (c := d) (K2.wait.onto b)
  have E3 := E2.onto b
  clear b
  go_wp2_with fail
  refine Calls.mono (RLines_calls x.wait most hwl (by omega) _ E3) ?_
  rintro e w4 ⟨A2, n2, c2, rfl, own2, b⟩
  rw [show (linesK x.wait most).1 = k from HK.out.symm] at own2
  rw [show (linesK x.wait most).2.1 = j from HJ.out.symm]
  have hn2 : n2 = k.length := by have := own2.2.1; simpa using this.symm
  subst hn2
  have LV := LVH.out.add (i := 3) (by simp) own2 b
  clear b0 b1 cv E3 own2 b LVH
  have i0 : (0 : Int) ≤ (j : Int) := by omega
  have i1 : (j : Int) ≤ (d : Int) := by omega
  go_upto_region 3 with fail
  have hsj : S w1 1 A' j ((x.wait.take j).map encB) := by rw [List.map_take]; exact Sl.take K2.wait hj1
  have b0 := B2.at_ 0 rfl; have b1 := B2.at_ 1 rfl
  have B4 := Bz.onto LV.on
  have zb0 := B4.at_ 0 rfl; have zb1 := B4.at_ 1 rfl
  have zf0 := B4.froz 0; have zf1 := B4.froz 1
  clear B4
  go_region_held3 (fun w' => w'.cell? ⟨z2, 0, none⟩ = some (.slice A n c) ∧ w'.cell? ⟨z2, 1, none⟩ = some (.slice A' m d))
    (first | exact ⟨cellB (Live.on (by with_reducible (first | exact LV | exact LV.draw | exact (LV.litP (i := 1) (by simp)) | exact (LV.litQ (i := 4) (by simp)) | exact (LV.draw.litP (i := 1) (by simp)) | exact (LV.draw.litQ (i := 4) (by simp)) | exact (LV.litP (i := 1) (by simp)).draw | exact ((LV.litP (i := 1) (by simp)).litQ (i := 4) (by simp)) | exact (LV.litQ (i := 4) (by simp)).draw | exact ((LV.litQ (i := 4) (by simp)).litP (i := 1) (by simp)) | exact ((LV.draw.litP (i := 1) (by simp)).litQ (i := 4) (by simp)) | exact ((LV.draw.litQ (i := 4) (by simp)).litP (i := 1) (by simp)) | exact ((LV.litP (i := 1) (by simp)).draw.litQ (i := 4) (by simp)) | exact ((LV.litP (i := 1) (by simp)).litQ (i := 4) (by simp)).draw | exact ((LV.litQ (i := 4) (by simp)).draw.litP (i := 1) (by simp)) | exact ((LV.litQ (i := 4) (by simp)).litP (i := 1) (by simp)).draw))) b0, cellB (Live.on (by with_reducible (first | exact LV | exact LV.draw | exact (LV.litP (i := 1) (by simp)) | exact (LV.litQ (i := 4) (by simp)) | exact (LV.draw.litP (i := 1) (by simp)) | exact (LV.draw.litQ (i := 4) (by simp)) | exact (LV.litP (i := 1) (by simp)).draw | exact ((LV.litP (i := 1) (by simp)).litQ (i := 4) (by simp)) | exact (LV.litQ (i := 4) (by simp)).draw | exact ((LV.litQ (i := 4) (by simp)).litP (i := 1) (by simp)) | exact ((LV.draw.litP (i := 1) (by simp)).litQ (i := 4) (by simp)) | exact ((LV.draw.litQ (i := 4) (by simp)).litP (i := 1) (by simp)) | exact ((LV.litP (i := 1) (by simp)).draw.litQ (i := 4) (by simp)) | exact ((LV.litP (i := 1) (by simp)).litQ (i := 4) (by simp)).draw | exact ((LV.litQ (i := 4) (by simp)).draw.litP (i := 1) (by simp)) | exact ((LV.litQ (i := 4) (by simp)).litP (i := 1) (by simp)).draw))) b1⟩ | exact ⟨(((B2.onto (Live.on (by with_reducible (first | exact LV | exact LV.draw | exact (LV.litP (i := 1) (by simp)) | exact (LV.litQ (i := 4) (by simp)) | exact (LV.draw.litP (i := 1) (by simp)) | exact (LV.draw.litQ (i := 4) (by simp)) | exact (LV.litP (i := 1) (by simp)).draw | exact ((LV.litP (i := 1) (by simp)).litQ (i := 4) (by simp)) | exact (LV.litQ (i := 4) (by simp)).draw | exact ((LV.litQ (i := 4) (by simp)).litP (i := 1) (by simp)) | exact ((LV.draw.litP (i := 1) (by simp)).litQ (i := 4) (by simp)) | exact ((LV.draw.litQ (i := 4) (by simp)).litP (i := 1) (by simp)) | exact ((LV.litP (i := 1) (by simp)).draw.litQ (i := 4) (by simp)) | exact ((LV.litP (i := 1) (by simp)).litQ (i := 4) (by simp)).draw | exact ((LV.litQ (i := 4) (by simp)).draw.litP (i := 1) (by simp)) | exact ((LV.litQ (i := 4) (by simp)).litP (i := 1) (by simp)).draw)))).off1 (p := ⟨z, 0, none⟩) hzz _).off1 (p := ⟨z, 1, none⟩) hzz _).at_ 0 rfl, (((B2.onto (Live.on (by with_reducible (first | exact LV | exact LV.draw | exact (LV.litP (i := 1) (by simp)) | exact (LV.litQ (i := 4) (by simp)) | exact (LV.draw.litP (i := 1) (by simp)) | exact (LV.draw.litQ (i := 4) (by simp)) | exact (LV.litP (i := 1) (by simp)).draw | exact ((LV.litP (i := 1) (by simp)).litQ (i := 4) (by simp)) | exact (LV.litQ (i := 4) (by simp)).draw | exact ((LV.litQ (i := 4) (by simp)).litP (i := 1) (by simp)) | exact ((LV.draw.litP (i := 1) (by simp)).litQ (i := 4) (by simp)) | exact ((LV.draw.litQ (i := 4) (by simp)).litP (i := 1) (by simp)) | exact ((LV.litP (i := 1) (by simp)).draw.litQ (i := 4) (by simp)) | exact ((LV.litP (i := 1) (by simp)).litQ (i := 4) (by simp)).draw | exact ((LV.litQ (i := 4) (by simp)).draw.litP (i := 1) (by simp)) | exact ((LV.litQ (i := 4) (by simp)).litP (i := 1) (by simp)).draw)))).off1 (p := ⟨z, 0, none⟩) hzz _).off1 (p := ⟨z, 1, none⟩) hzz _).at_ 1 rfl⟩ | fail)
    (first
      | (go_at_call 73; refine Calls.mono (ConcatB_live (by with_reducible (first | exact LV | exact LV.draw | exact (LV.litP (i := 1) (by simp)) | exact (LV.litQ (i := 4) (by simp)) | exact (LV.draw.litP (i := 1) (by simp)) | exact (LV.draw.litQ (i := 4) (by simp)) | exact (LV.litP (i := 1) (by simp)).draw | exact ((LV.litP (i := 1) (by simp)).litQ (i := 4) (by simp)) | exact (LV.litQ (i := 4) (by simp)).draw | exact ((LV.litQ (i := 4) (by simp)).litP (i := 1) (by simp)) | exact ((LV.draw.litP (i := 1) (by simp)).litQ (i := 4) (by simp)) | exact ((LV.draw.litQ (i := 4) (by simp)).litP (i := 1) (by simp)) | exact ((LV.litP (i := 1) (by simp)).draw.litQ (i := 4) (by simp)) | exact ((LV.litP (i := 1) (by simp)).litQ (i := 4) (by simp)).draw | exact ((LV.litQ (i := 4) (by simp)).draw.litP (i := 1) (by simp)) | exact ((LV.litQ (i := 4) (by simp)).litP (i := 1) (by simp)).draw)) 2 1 (by simp) A A' n c j d _ 51 x.safe (x.wait.take j) K2.safe hsj (by omega) (by first | rfl | (simp; done))) ?_; rintro e w6 ⟨A3, c3, rfl, LV⟩; have Z := Bz.onto LV.on; have p0 := Z.at_ 0 rfl; have p1 := Z.at_ 1 rfl; have f0 := Z.froz 0; have f1 := Z.froz 1; clear Z)
      | (go_at_call 40; refine Calls.mono (ConcatQ_live (by with_reducible (first | exact LV | exact LV.draw | exact (LV.litP (i := 1) (by simp)) | exact (LV.litQ (i := 4) (by simp)) | exact (LV.draw.litP (i := 1) (by simp)) | exact (LV.draw.litQ (i := 4) (by simp)) | exact (LV.litP (i := 1) (by simp)).draw | exact ((LV.litP (i := 1) (by simp)).litQ (i := 4) (by simp)) | exact (LV.litQ (i := 4) (by simp)).draw | exact ((LV.litQ (i := 4) (by simp)).litP (i := 1) (by simp)) | exact ((LV.draw.litP (i := 1) (by simp)).litQ (i := 4) (by simp)) | exact ((LV.draw.litQ (i := 4) (by simp)).litP (i := 1) (by simp)) | exact ((LV.litP (i := 1) (by simp)).draw.litQ (i := 4) (by simp)) | exact ((LV.litP (i := 1) (by simp)).litQ (i := 4) (by simp)).draw | exact ((LV.litQ (i := 4) (by simp)).draw.litP (i := 1) (by simp)) | exact ((LV.litQ (i := 4) (by simp)).litP (i := 1) (by simp)).draw)) 5 4 0 3 (by simp) A1 A2 l.length c1 k.length c2 _ 50 l k (by rfl) (by rfl) (by omega) (by first | rfl | (simp; done))) ?_; rintro e w7 ⟨A5, c5, rfl, LV⟩; have Z := Bz.onto LV.on; have p0 := Z.at_ 0 rfl; have p1 := Z.at_ 1 rfl; have f0 := Z.froz 0; have f1 := Z.froz 1; clear Z)
      | fail)
  all_goals
    have hz3 : z < w1.heap.size := Bz.lt
    have o1 : Own _ w1.heap.size 5 1 (.slice A3 (n + j) c3) (n + j) (x.safe.map encB ++ (x.wait.take j).map encB) := LV.own 2 _ rfl
    have o2 : Own _ w1.heap.size 35 8 (.slice A5 (l.length + k.length) c5) (l.length + k.length) (l.map encQ ++ k.map encQ) := LV.own 5 _ rfl
    have on9 := on.to LV.on
    have HO1 := Lib.hid o1; have HO2 := Lib.hid o2; have HON := Lib.hid on9
    have hq := HQ2.out
    subst hq
    clear o1 o2 on9 LV
    trace "GOAL"
    go_wp2_with fail
    refine bodyPost_ret (v := .tuple #[.agg #[.slice A3 (n + j) c3, .slice none 0 0], .slice A5 (l.length + k.length) c5]) (by simp [results, Tryd.results47, go_sem, p0, p1]) rfl ⟨A3, n + j, c3, none, 0, 0, A5, l.length + k.length, c5, rfl, DK.one ((HO1.out.setCell (p := ⟨z, 0, none⟩) hz3 _).setCell (p := ⟨z, 1, none⟩) hz3 _), ?_, by omega, (HON.out.put hz' _).put hz' _⟩
    rw [List.map_append]
    exact ((HO2.out.setCell (p := ⟨z, 0, none⟩) hz3 _).setCell (p := ⟨z, 1, none⟩) hz3 _).sl
end
section
set_option linter.unusedSimpArgs false
set_option linter.unusedVariables false
open Go.ChangeShapes Go.WideShapes Go.ChangeAt Go.RowKit Go.Deep Go.Joins

theorem cells_byte : Tryd.prog.cellsOf 5 = 1 := by kernel_rfl
theorem cells_bytes : Tryd.prog.cellsOf 51 = 1 := by kernel_rfl
theorem cells_disk : Tryd.prog.cellsOf 53 = 2 := by kernel_rfl
theorem reads_byte {w : World} {cs : List Value} (h : Reads w 5 cs) : ∃ b : UInt8, cs = encB b ∧ True := by
  obtain ⟨H, enc, spare, held, fuel, y, h⟩ := h
  obtain ⟨k, e, _, hw⟩ := DataW.trod_int Tryd.underlying5 h
  simp [Lit.wf, IntKind.min, IntKind.max, IntKind.signed, IntKind.bits] at hw
  obtain ⟨h0, h1⟩ := hw
  refine ⟨UInt8.ofNat k.toNat, ?_, trivial⟩
  rw [e]
  have : (UInt8.ofNat k.toNat).toNat = k.toNat := by rw [UInt8.toNat_ofNat']; omega
  simp [encB, this]
  omega
theorem reads_bytes {w : World} {cs : List Value} (h : Reads w 51 cs) : ∃ (A : Option Addr) (n c : Nat) (l : List UInt8), cs = [.slice A n c] ∧ n ≤ c ∧ c ≤ maxLen ∧ S w 1 A n (l.map encB) := by
  obtain ⟨A, n, c, l, e, hnc, hcm, _, hs⟩ := reads_rows encB (fun _ => True) Tryd.underlying51 cells_byte (by omega) (fun _ => rfl) (fun _ _ h => reads_byte h) h
  exact ⟨A, n, c, l, e, hnc, hcm, hs⟩
/-- A disk's two slices, and its bytes. -/
structure DV where
  A : Option Addr
  n : Nat
  c : Nat
  A' : Option Addr
  m : Nat
  d : Nat
  x : Dsk
def encD (v : DV) : List Value := [.slice v.A v.n v.c, .slice v.A' v.m v.d]
set_option maxRecDepth 100000 in
theorem reads_disk {w : World} {cs : List Value} (h : Reads w 53 cs) : ∃ v : DV, cs = encD v ∧ DK w v.A v.n v.c v.A' v.m v.d v.x := by
  obtain ⟨hl, hf⟩ := reads_struct Tryd.underlying53 h
  rw [cells_disk] at hl
  match cs, hl with
  | [c0, c1], _ =>
    simp only [allF, cells_bytes] at hf
    obtain ⟨h0, h1, _⟩ := hf
    obtain ⟨A, n, c, l, e0, hnc, hcm, hs⟩ := reads_bytes h0
    obtain ⟨A', m, d, l', e1, hmd, hdm, hs'⟩ := reads_bytes h1
    simp at e0 e1
    exact ⟨⟨A, n, c, A', m, d, ⟨l, l'⟩⟩, by simp [encD, e0, e1], hs, hs', hnc, hcm, hmd, hdm⟩
end
end Go.Proofs.YtdcegdonppfbkaaDoor
