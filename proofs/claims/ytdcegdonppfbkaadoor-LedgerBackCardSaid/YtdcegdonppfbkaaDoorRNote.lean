/- The document's RecText, RecRead. -/
import Derived.Test.YtdcegdonppfbkaaDoorREText
import Derived.Test.YtdcegdonppfbkaaDoorRERead
import Derived.Test.YtdcegdonppfbkaaDoorRCheckR
import Derived.Test.YtdcegdonppfbkaaDoorNote
import Derived.Test.YtdcegdonppfbkaaDoorBoxM
namespace Go.Proofs.YtdcegdonppfbkaaDoor
set_option linter.unusedSimpArgs false
set_option linter.unusedVariables false
open Go.RowKit

theorem HasPrefix_on (s p : List UInt8) (w : World) : Calls Tryd.prog 69 #[str s, str p] w fun e w' => e = .returned (.bool (p.isPrefixOf s)) ∧ Onto w w' :=
  (HasPrefix_calls s p w).mono fun e w' ⟨he, hw⟩ => ⟨he, hw ▸ Onto.rfl' w⟩
theorem Index_on (s p : List UInt8) (hs : s.length ≤ 4000000000) (w : World) (E : Env w) : Calls Tryd.prog 70 #[str s, str p] w fun e w' => e = .returned (.int .i64 (Lib.index s p)) ∧ Onto w w' :=
  (Index_calls s p hs w E).mono fun e w' ⟨he, hw⟩ => ⟨he, hw ▸ Onto.rfl' w⟩
theorem cutFrom (l : List UInt8) (k : Nat) (h : k ≤ l.length) (w : World) : (Instr.slice 9 (str l) (some (.int .i64 (k : Int))) none none).run Tryd.prog w = .ok (str (l.drop k)) w := by
  rw [run_slice_string_l w _ _ Tryd.underlying9 .i64 (k : Int) (by omega) (by rw [str_size]; omega), ByteArray.extract_mk, str_size, Int.toNat_natCast, List.take_of_length_le (by rw [List.length_drop]; omega)]
theorem cutTo (l : List UInt8) (k : Nat) (h : k ≤ l.length) (w : World) : (Instr.slice 9 (str l) none (some (.int .i64 (k : Int))) none).run Tryd.prog w = .ok (str (l.take k)) w := by
  rw [run_slice_string_h w _ _ Tryd.underlying9 .i64 (k : Int) (by omega) (by rw [str_size]; omega), ByteArray.extract_mk, Int.toNat_natCast, List.drop_zero, Nat.sub_zero]
theorem cut_index (s sep : List UInt8) : (Lib.index s sep < 0 → (Lib.cut s sep).2.2 = false) ∧ (∀ k : Nat, Lib.index s sep = k → k + sep.length ≤ s.length ∧ Lib.cut s sep = (s.take k, s.drop (k + sep.length), true)) := by
  refine ⟨fun h => ?_, fun k h => ?_⟩
  · unfold Lib.cut
    rw [if_neg (by omega)]
  · refine ⟨?_, ?_⟩
    · rcases Lib.index_spec s sep with ⟨h1, _⟩ | ⟨i, h1, h2, h3, _⟩
      · omega
      · have : i = k := by omega
        subst this
        unfold Lib.occAt at h3
        obtain ⟨r, hr⟩ := List.isPrefixOf_iff_prefix.1 h3
        have := congrArg List.length hr
        rw [List.length_append, List.length_drop] at this
        omega
    · unfold Lib.cut
      rw [h, if_pos (by omega), Int.toNat_natCast]
set_option maxHeartbeats 4000000 in
set_option maxRecDepth 100000 in
theorem RRText_calls (k a ep : Int) (x : Entry) (w : World) (E : Env w) :
    Calls Tryd.prog 28 #[.agg #[.int .i64 k, .int .i64 a, .int .i64 ep, .int .i64 x.kind, .int .i64 x.job, .int .i64 x.every, .int .i64 x.time, .int .i64 x.client]] w fun e w' => e = .returned (.tuple #[str (printR ⟨k, a, ep, x⟩).1, .int .i64 (printR ⟨k, a, ep, x⟩).2]) ∧ Onto w w' := by
  obtain ⟨q, hq⟩ : ∃ q, q = checkR ⟨k, a, ep, x⟩ := ⟨_, rfl⟩
  obtain ⟨r, hr⟩ : ∃ r, r = printR ⟨k, a, ep, x⟩ := ⟨_, rfl⟩
  rw [← hr]
  unfold printR at hr
  rw [← hq] at hr
  have HQ := Lib.hid hq
  have HR := Lib.hid hr
  clear hq hr
  go_enter Tryd.func28, Tryd.ntmps28
  go_upto_region 1 with fail
  have ob := (Onto.rfl' w).new (Obj.cells #[.int .i64 k, .int .i64 a, .int .i64 ep, .int .i64 x.kind, .int .i64 x.job, .int .i64 x.every, .int .i64 x.time, .int .i64 x.client] 35)
  have B : Bx (w.alloc (Obj.cells #[.int .i64 k, .int .i64 a, .int .i64 ep, .int .i64 x.kind, .int .i64 x.job, .int .i64 x.every, .int .i64 x.time, .int .i64 x.client] 35)) w.heap.size [.int .i64 k, .int .i64 a, .int .i64 ep, .int .i64 x.kind, .int .i64 x.job, .int .i64 x.every, .int .i64 x.time, .int .i64 x.client] := Bx.made _ _ _
  have on := ob
  clear ob
  try change Code.wp _ _ _ _ (w.alloc (Obj.cells #[.int .i64 k, .int .i64 a, .int .i64 ep, .int .i64 x.kind, .int .i64 x.job, .int .i64 x.every, .int .i64 x.time, .int .i64 x.client] 35))
  generalize (w.alloc (Obj.cells #[.int .i64 k, .int .i64 a, .int .i64 ep, .int .i64 x.kind, .int .i64 x.job, .int .i64 x.every, .int .i64 x.time, .int .i64 x.client] 35)) = v1 at *
  generalize w.heap.size = z at *
  have b0 := B.at_ 0 rfl; have b1 := B.at_ 1 rfl; have b2 := B.at_ 2 rfl; have b3 := B.at_ 3 rfl; have b4 := B.at_ 4 rfl; have b5 := B.at_ 5 rfl; have b6 := B.at_ 6 rfl; have b7 := B.at_ 7 rfl
  go_wp2_with fail
  refine Calls.mono (RCR_calls k a ep x _) ?_
  rw [show checkR ⟨k, a, ep, x⟩ = q from HQ.out.symm]
  rintro e v2 ⟨rfl, b⟩
  replace on := on.to b
  replace B := B.onto b
  clear b
  clear b0 b1 b2 b3 b4 b5 b6 b7
  by_cases hq0 : q = 0
  · have hr := HR.out
    rw [if_neg (by simp [hq0])] at hr
    subst hr
    have hc : checkR ⟨k, a, ep, x⟩ = 0 := by rw [← HQ.out, hq0]
    have HC := Lib.hid hc
    subst hq0
    clear hc HQ
    by_cases hk : k = 2
    · subst hk
      obtain ⟨h1, h2, _⟩ := cR_seal HC.out rfl
      try dsimp only at h1 h2
      obtain ⟨I, hI⟩ : ∃ I, I = Lib.itoa ep := ⟨_, rfl⟩
      have hl : I.length ≤ 100 := by rw [hI]; have := Lib.itoa_length_le ep (by omega) (by omega); omega
      have s1 : ∀ w, (Op.stringOp .add ⟨#[115, 101, 97, 108, 32]⟩ ⟨I.toArray⟩).run Tryd.prog w = .ok (str (sealW ++ I)) w := fun w => run_string_add_lists w [115, 101, 97, 108, 32] I (by simp) (by omega)
      have HI := Lib.hid hI
      clear hI
      have b0 := B.at_ 0 rfl; have b1 := B.at_ 1 rfl; have b2 := B.at_ 2 rfl; have b3 := B.at_ 3 rfl; have b4 := B.at_ 4 rfl; have b5 := B.at_ 5 rfl; have b6 := B.at_ 6 rfl; have b7 := B.at_ 7 rfl
      go_wp2_with fail
      refine Calls.mono (Itoa_calls ep (by omega) (by omega) _ (E.onto on)) ?_
      rw [show Lib.itoa ep = I from HI.out.symm]
      rintro e v3 ⟨rfl, b⟩
      replace on := on.to b
      replace B := B.onto b
      clear b
      clear hl b0 b1 b2 b3 b4 b5 b6 b7
      go_wp2_with fail
      refine bodyPost_ret (v := .tuple #[str (sealW ++ I), .int .i64 0]) (by simp [results, Tryd.results28, go_sem]) rfl ⟨?_, on⟩
      try dsimp only
      unfold textR
      rw [if_pos rfl, HI.out]
    · have hkb : (k == 2) = false := by simp [hk]
      obtain ⟨h0, h1, h2, h3, h4⟩ := cR_write HC.out hk
      try dsimp only at h0 h1 h2 h3 h4
      subst h0
      have htx : textR ⟨1, a, ep, x⟩ = Lib.itoa a ++ colonW ++ textE x := by unfold textR; exact if_neg (by simp)
      obtain ⟨I, hI⟩ : ∃ I, I = Lib.itoa a := ⟨_, rfl⟩
      obtain ⟨T, hT⟩ : ∃ I, I = textE x := ⟨_, rfl⟩
      rw [← hI, ← hT] at htx
      have hl : I.length ≤ 100 := by rw [hI]; have := Lib.itoa_length_le a (by omega) (by omega); omega
      have hlT : T.length ≤ 100 := by rw [hT]; have := textE_len h4; omega
      obtain ⟨U, hU⟩ : ∃ U, U = I ++ [58, 32] := ⟨_, rfl⟩
      obtain ⟨V, hV⟩ : ∃ V, V = U ++ T := ⟨_, rfl⟩
      have hlU : U.length ≤ 200 := by rw [hU, List.length_append]; simp only [List.length_cons, List.length_nil]; omega
      have s1 : ∀ w, (Op.stringOp .add ⟨I.toArray⟩ ⟨#[58, 32]⟩).run Tryd.prog w = .ok (str U) w := fun w => by rw [hU]; exact run_string_add_lists w I [58, 32] (by omega) (by simp)
      have s2 : ∀ w, (Op.stringOp .add ⟨U.toArray⟩ ⟨T.toArray⟩).run Tryd.prog w = .ok (str V) w := fun w => by rw [hV]; exact run_string_add_lists w U T (by omega) (by omega)
      have i1 := fun (x w : World) (hx : Env (ontoW w x)) => Itoa_calls a (by omega) (by omega) (ontoW w x) hx
      have i2 := fun (y w : World) (hx : Env (ontoW w y)) => EText_calls x.kind x.job x.every x.time x.client (ontoW w y) hx h4
      have I1 := Lib.hid i1; have I2 := Lib.hid i2
      have HI := Lib.hid hI; have HT := Lib.hid hT; have HTX := Lib.hid htx; have HU := Lib.hid hU; have HV := Lib.hid hV
      clear i1 i2 hI hT htx hU hV hl hlT hlU h1 h2 h3 h4 hk
      have E1 := E.onto on
      have b0 := B.at_ 0 rfl
      go_upto_region 6 with fail
      have c1 := onto_cell (B.at_ 1 rfl); have c3 := onto_cell (B.at_ 3 rfl); have c4 := onto_cell (B.at_ 4 rfl); have c5 := onto_cell (B.at_ 5 rfl); have c6 := onto_cell (B.at_ 6 rfl); have c7 := onto_cell (B.at_ 7 rfl)
      refine wp_region_onto (by kernel_rfl) (by kernel_rfl) ?_
      repeat (go_big_quiet_step (first | (go_at_call 54; exact calls_onto' (u := str I) (by with_reducible exact I1.out _ v2 (E1.onto (onto_on v2 _))) (by rw [HI.out])) | (go_at_call 16; exact calls_onto' (u := str T) (by with_reducible exact I2.out _ v2 (E1.onto (onto_on v2 _))) (by rw [HT.out]))))
      refine wpQuiet_nil ?_
      intro w2 b2
      replace on := on.to b2
      clear b2 c1 c3 c4 c5 c6 c7 b0 B
      go_wp2_with fail
      refine bodyPost_ret (v := .tuple #[str V, .int .i64 0]) (by simp [results, Tryd.results28, go_sem]) rfl ⟨?_, on⟩
      rw [HTX.out, HV.out, HU.out]
      rfl
  · have hr := HR.out
    rw [if_pos hq0] at hr
    subst hr
    have hq1 : (q == 0) = false := by simp [hq0]
    have hq2 : (q != 0) = true := by simp [hq0]
    clear hq0
    go_wp2_with fail
    refine bodyPost_ret (v := .tuple #[str [], .int .i64 q]) (by simp [results, Tryd.results28, go_sem]) rfl ⟨rfl, on⟩

set_option maxRecDepth 100000 in
set_option maxHeartbeats 8000000 in
theorem RRRead_calls (s : List UInt8) (w : World) (E : Env w) (hs : s.length ≤ 30000) :
    Calls Tryd.prog 30 #[str s] w (RnPost w (readR s)) := by
  have HS := Lib.hid hs
  obtain ⟨r, hr⟩ : ∃ r, r = readR s := ⟨_, rfl⟩
  rw [← hr]
  have HR := Lib.hid hr
  clear hs hr
  go_enter Tryd.func30, Tryd.ntmps30
  go_upto_region 2 with fail
  have BZ : Bx ((w.alloc (Obj.cells #[.int .i64 0, .int .i64 0, .int .i64 0, .int .i64 0, .int .i64 0, .int .i64 0, .int .i64 0, .int .i64 0] 35)).alloc (Obj.cells #[.int .i64 2, .int .i64 0, .int .i64 0, .int .i64 0, .int .i64 0, .int .i64 0, .int .i64 0, .int .i64 0] 35)) w.heap.size [.int .i64 0, .int .i64 0, .int .i64 0, .int .i64 0, .int .i64 0, .int .i64 0, .int .i64 0, .int .i64 0] := (Bx.made w #[.int .i64 0, .int .i64 0, .int .i64 0, .int .i64 0, .int .i64 0, .int .i64 0, .int .i64 0, .int .i64 0] 35).new _
  have BR : Bx ((w.alloc (Obj.cells #[.int .i64 0, .int .i64 0, .int .i64 0, .int .i64 0, .int .i64 0, .int .i64 0, .int .i64 0, .int .i64 0] 35)).alloc (Obj.cells #[.int .i64 2, .int .i64 0, .int .i64 0, .int .i64 0, .int .i64 0, .int .i64 0, .int .i64 0, .int .i64 0] 35)) (w.heap.size + 1) [.int .i64 2, .int .i64 0, .int .i64 0, .int .i64 0, .int .i64 0, .int .i64 0, .int .i64 0, .int .i64 0] := by
    have := Bx.made (w.alloc (Obj.cells #[.int .i64 0, .int .i64 0, .int .i64 0, .int .i64 0, .int .i64 0, .int .i64 0, .int .i64 0, .int .i64 0] 35)) #[.int .i64 2, .int .i64 0, .int .i64 0, .int .i64 0, .int .i64 0, .int .i64 0, .int .i64 0, .int .i64 0] 35
    simpa using this
  have on : Onto w ((w.alloc (Obj.cells #[.int .i64 0, .int .i64 0, .int .i64 0, .int .i64 0, .int .i64 0, .int .i64 0, .int .i64 0, .int .i64 0] 35)).alloc (Obj.cells #[.int .i64 2, .int .i64 0, .int .i64 0, .int .i64 0, .int .i64 0, .int .i64 0, .int .i64 0, .int .i64 0] 35)) := ((Onto.rfl' w).new _).new _
  try change Code.wp _ _ _ _ ((w.alloc (Obj.cells #[.int .i64 0, .int .i64 0, .int .i64 0, .int .i64 0, .int .i64 0, .int .i64 0, .int .i64 0, .int .i64 0] 35)).alloc (Obj.cells #[.int .i64 2, .int .i64 0, .int .i64 0, .int .i64 0, .int .i64 0, .int .i64 0, .int .i64 0, .int .i64 0] 35))
  generalize ((w.alloc (Obj.cells #[.int .i64 0, .int .i64 0, .int .i64 0, .int .i64 0, .int .i64 0, .int .i64 0, .int .i64 0, .int .i64 0] 35)).alloc (Obj.cells #[.int .i64 2, .int .i64 0, .int .i64 0, .int .i64 0, .int .i64 0, .int .i64 0, .int .i64 0, .int .i64 0] 35)) = w1 at *
  have hz' : w.heap.size ≤ w.heap.size := Nat.le_refl _
  have hzr : w.heap.size ≤ w.heap.size + 1 := by omega
  have hzz : w.heap.size ≠ w.heap.size + 1 := by omega
  generalize w.heap.size + 1 = zr at BR hzr hzz ⊢
  generalize hz0 : w.heap.size = z at BZ hzz ⊢
  replace hz' : w.heap.size ≤ z := by omega
  clear hz0
  obtain ⟨pf, hpf⟩ : ∃ pf, pf = sealW.isPrefixOf s := ⟨_, rfl⟩
  go_wp2_with fail
  refine Calls.mono (HasPrefix_on s [115, 101, 97, 108, 32] _) ?_
  rw [show ([115, 101, 97, 108, 32] : List UInt8).isPrefixOf s = pf from hpf.symm]
  rintro e v1 ⟨rfl, b⟩
  replace on := on.to b
  replace BZ := BZ.onto b
  replace BR := BR.onto b
  clear b
  cases pf with
  | true =>
    have hp : sealW.isPrefixOf s = true := hpf.symm
    have hl5 : 5 ≤ s.length := by
      obtain ⟨t, ht⟩ := List.isPrefixOf_iff_prefix.1 hp
      rw [← ht, List.length_append]; simp [sealW]
    obtain ⟨t, ht⟩ : ∃ t, t = s.drop 5 := ⟨_, rfl⟩
    have htl : t.length ≤ 30000 := by rw [ht]; have := HS.out; simp; omega
    have sl : ∀ w, (Instr.slice 9 (str s) (some (.int .i64 5)) none none).run Tryd.prog w = .ok (str t) w := fun w => by rw [ht]; exact cutFrom s 5 hl5 w
    have HP := Lib.hid hp; have HT := Lib.hid ht
    clear hp ht hpf
    obtain ⟨ok, hok⟩ : ∃ ok, ok = (num t).isSome := ⟨_, rfl⟩
    go_wp2_with fail
    refine Calls.mono (Whole_calls t (by omega) _ (E.onto on)) ?_
    rw [← hok]
    rintro e v2 ⟨n, rfl, b, hn⟩
    replace on := on.to b
    replace BZ := BZ.onto b
    replace BR := BR.onto b
    clear b
    clear sl
    have fz := fun o => BR.froz o
    have HN0 := Lib.hid hn; have HOK := Lib.hid hok
    clear hn hok
    have b0 := BR.at_ 0 rfl; have b1 := BR.at_ 1 rfl; have b2 := BR.at_ 2 rfl; have b3 := BR.at_ 3 rfl; have b4 := BR.at_ 4 rfl; have b5 := BR.at_ 5 rfl; have b6 := BR.at_ 6 rfl; have b7 := BR.at_ 7 rfl
    go_upto_region 5 with fail
    clear b0 b1 b2 b3 b4 b5 b6 b7
    have BR' := BR.put1 (j := 2) (by simp) (.int .i64 n)
    simp only [List.set_cons_zero, List.set_cons_succ] at BR'
    replace BZ := BZ.off1 (p := ⟨zr, 2, none⟩) hzz (.int .i64 n)
    replace on := on.put (p := ⟨zr, 2, none⟩) hzr (.int .i64 n)
    clear BR fz
    have BR := BR'
    clear BR'
    try change Code.wp _ _ _ _ (v2.setCell ⟨zr, 2, none⟩ (.int .i64 n))
    generalize (v2.setCell ⟨zr, 2, none⟩ (.int .i64 n)) = v3 at *
    cases ok with
    | false =>
      have hnt : num t = none := by
        have := HOK.out
        cases hx : num t with
        | none => rfl
        | some u => rw [hx] at this; cases this
      have hr : r = (zeroR, 1) := by rw [HR.out]; unfold readR; rw [if_pos HP.out, show s.drop 5 = t from HT.out.symm, hnt]
      subst hr
      clear hnt HR HN0 HOK BR
      go_wp2_with (refine wpList_put BZ [.int .i64 0, .int .i64 0, .int .i64 0, .int .i64 0, .int .i64 0, .int .i64 0, .int .i64 0, .int .i64 0] 35 _ _ (by rfl) (by rfl) (by rfl) (by rfl) (by rfl) sizeR (by rfl) ?_)
      have hF := BZ.put (us := [.int .i64 0, .int .i64 0, .int .i64 0, .int .i64 0, .int .i64 0, .int .i64 0, .int .i64 0, .int .i64 0]) rfl
      have oF := Onto.puts (b := z) (o := 0) (us := [.int .i64 0, .int .i64 0, .int .i64 0, .int .i64 0, .int .i64 0, .int .i64 0, .int .i64 0, .int .i64 0]) hz' on
      generalize World.setCells _ z 0 [.int .i64 0, .int .i64 0, .int .i64 0, .int .i64 0, .int .i64 0, .int .i64 0, .int .i64 0, .int .i64 0] = wF at hF oF ⊢
      go_wp2_with fail
      have p0 := hF.at_ 0 rfl; have p1 := hF.at_ 1 rfl; have p2 := hF.at_ 2 rfl; have p3 := hF.at_ 3 rfl; have p4 := hF.at_ 4 rfl; have p5 := hF.at_ 5 rfl; have p6 := hF.at_ 6 rfl; have p7 := hF.at_ 7 rfl
      refine bodyPost_ret (v := .tuple #[.agg #[.int .i64 0, .int .i64 0, .int .i64 0, .int .i64 0, .int .i64 0, .int .i64 0, .int .i64 0, .int .i64 0], .int .i64 1]) (by simp [results, Tryd.results30, go_sem, p0, p1, p2, p3, p4, p5, p6, p7]) rfl ⟨rfl, oF⟩
    | true =>
      have hnt : num t = some n := HN0.out rfl
      have hr : r = finR ⟨2, 0, n, ⟨0, 0, 0, 0, 0⟩⟩ := by rw [HR.out]; unfold readR; rw [if_pos HP.out, show s.drop 5 = t from HT.out.symm, hnt]; rfl
      clear hnt HR HN0 HOK
      go_upto_region 18 with fail
      obtain ⟨q, hqq⟩ : ∃ q, q = checkR ⟨2, 0, n, ⟨0, 0, 0, 0, 0⟩⟩ := ⟨_, rfl⟩
      unfold finR at hr
      rw [← hqq] at hr
      have HQ := Lib.hid hqq; have HRQ := Lib.hid hr
      clear hqq hr
      have b0 := BR.at_ 0 rfl; have b1 := BR.at_ 1 rfl; have b2 := BR.at_ 2 rfl; have b3 := BR.at_ 3 rfl; have b4 := BR.at_ 4 rfl; have b5 := BR.at_ 5 rfl; have b6 := BR.at_ 6 rfl; have b7 := BR.at_ 7 rfl
      go_wp2_with fail
      refine Calls.mono (RCR_calls 2 0 n ⟨0, 0, 0, 0, 0⟩ _) ?_
      rw [show checkR ⟨2, 0, n, ⟨0, 0, 0, 0, 0⟩⟩ = q from HQ.out.symm]
      rintro e v4 ⟨rfl, b⟩
      replace on := on.to b
      replace BZ := BZ.onto b
      replace BR := BR.onto b
      clear b
      clear b0 b1 b2 b3 b4 b5 b6 b7
      by_cases hq0 : q = 0
      · have hr := HRQ.out
        rw [if_neg (by simp [hq0])] at hr
        subst hr
        have hq1 : (q == 0) = true := by simp [hq0]
        have hq2 : (q != 0) = false := by simp [hq0]
        have b0 := BR.at_ 0 rfl; have b1 := BR.at_ 1 rfl; have b2 := BR.at_ 2 rfl; have b3 := BR.at_ 3 rfl; have b4 := BR.at_ 4 rfl; have b5 := BR.at_ 5 rfl; have b6 := BR.at_ 6 rfl; have b7 := BR.at_ 7 rfl
        clear hq0 HRQ
        go_wp2_with (refine wpList_put BZ [.int .i64 2, .int .i64 0, .int .i64 n, .int .i64 0, .int .i64 0, .int .i64 0, .int .i64 0, .int .i64 0] 35 _ _ (by rfl) (by rfl) (by rfl) (by rfl) (by rfl) sizeR (by rfl) ?_)
        have hF := BZ.put (us := [.int .i64 2, .int .i64 0, .int .i64 n, .int .i64 0, .int .i64 0, .int .i64 0, .int .i64 0, .int .i64 0]) rfl
        have oF := Onto.puts (b := z) (o := 0) (us := [.int .i64 2, .int .i64 0, .int .i64 n, .int .i64 0, .int .i64 0, .int .i64 0, .int .i64 0, .int .i64 0]) hz' on
        generalize World.setCells _ z 0 [.int .i64 2, .int .i64 0, .int .i64 n, .int .i64 0, .int .i64 0, .int .i64 0, .int .i64 0, .int .i64 0] = wF at hF oF ⊢
        go_wp2_with fail
        have p0 := hF.at_ 0 rfl; have p1 := hF.at_ 1 rfl; have p2 := hF.at_ 2 rfl; have p3 := hF.at_ 3 rfl; have p4 := hF.at_ 4 rfl; have p5 := hF.at_ 5 rfl; have p6 := hF.at_ 6 rfl; have p7 := hF.at_ 7 rfl
        refine bodyPost_ret (v := .tuple #[.agg #[.int .i64 2, .int .i64 0, .int .i64 n, .int .i64 0, .int .i64 0, .int .i64 0, .int .i64 0, .int .i64 0], .int .i64 0]) (by simp [results, Tryd.results30, go_sem, p0, p1, p2, p3, p4, p5, p6, p7]) rfl ⟨rfl, oF⟩
      · have hr := HRQ.out
        rw [if_pos hq0] at hr
        subst hr
        have hq1 : (q == 0) = false := by simp [hq0]
        have hq2 : (q != 0) = true := by simp [hq0]
        clear hq0 BR HRQ
        go_wp2_with (refine wpList_put BZ [.int .i64 0, .int .i64 0, .int .i64 0, .int .i64 0, .int .i64 0, .int .i64 0, .int .i64 0, .int .i64 0] 35 _ _ (by rfl) (by rfl) (by rfl) (by rfl) (by rfl) sizeR (by rfl) ?_)
        have hF := BZ.put (us := [.int .i64 0, .int .i64 0, .int .i64 0, .int .i64 0, .int .i64 0, .int .i64 0, .int .i64 0, .int .i64 0]) rfl
        have oF := Onto.puts (b := z) (o := 0) (us := [.int .i64 0, .int .i64 0, .int .i64 0, .int .i64 0, .int .i64 0, .int .i64 0, .int .i64 0, .int .i64 0]) hz' on
        generalize World.setCells _ z 0 [.int .i64 0, .int .i64 0, .int .i64 0, .int .i64 0, .int .i64 0, .int .i64 0, .int .i64 0, .int .i64 0] = wF at hF oF ⊢
        go_wp2_with fail
        have p0 := hF.at_ 0 rfl; have p1 := hF.at_ 1 rfl; have p2 := hF.at_ 2 rfl; have p3 := hF.at_ 3 rfl; have p4 := hF.at_ 4 rfl; have p5 := hF.at_ 5 rfl; have p6 := hF.at_ 6 rfl; have p7 := hF.at_ 7 rfl
        refine bodyPost_ret (v := .tuple #[.agg #[.int .i64 0, .int .i64 0, .int .i64 0, .int .i64 0, .int .i64 0, .int .i64 0, .int .i64 0, .int .i64 0], .int .i64 q]) (by simp [results, Tryd.results30, go_sem, p0, p1, p2, p3, p4, p5, p6, p7]) rfl ⟨rfl, oF⟩
  | false =>
    have hp : ¬ sealW.isPrefixOf s = true := by rw [← hpf]; simp
    have HP := Lib.hid hp
    clear hp hpf
    have fz := fun o => BR.froz o
    have b0 := BR.at_ 0 rfl; have b1 := BR.at_ 1 rfl; have b2 := BR.at_ 2 rfl; have b3 := BR.at_ 3 rfl; have b4 := BR.at_ 4 rfl; have b5 := BR.at_ 5 rfl; have b6 := BR.at_ 6 rfl; have b7 := BR.at_ 7 rfl
    go_upto_region 8 with fail
    clear b0 b1 b2 b3 b4 b5 b6 b7
    have BR' := BR.put1 (j := 0) (by simp) (.int .i64 1)
    simp only [List.set_cons_zero, List.set_cons_succ] at BR'
    replace BZ := BZ.off1 (p := ⟨zr, 0, none⟩) hzz (.int .i64 1)
    replace on := on.put (p := ⟨zr, 0, none⟩) hzr (.int .i64 1)
    clear BR fz
    have BR := BR'
    clear BR'
    try change Code.wp _ _ _ _ (v1.setCell ⟨zr, 0, none⟩ (.int .i64 1))
    generalize (v1.setCell ⟨zr, 0, none⟩ (.int .i64 1)) = v2 at *
    obtain ⟨ix, hix⟩ : ∃ ix, ix = Lib.index s colonW := ⟨_, rfl⟩
    go_wp2_with fail
    refine Calls.mono (Index_on s [58, 32] (by have := HS.out; omega) _ (E.onto on)) ?_
    rw [show Lib.index s [58, 32] = ix from hix.symm]
    rintro e v3 ⟨rfl, b⟩
    replace on := on.to b
    replace BZ := BZ.onto b
    replace BR := BR.onto b
    clear b
    by_cases hneg : ix < 0
    · have hr : r = (zeroR, 1) := by rw [HR.out]; unfold readR; rw [if_neg HP.out, if_pos ((cut_index s colonW).1 (by omega))]
      subst hr
      clear HR BR hix
      go_wp2_with (refine wpList_put BZ [.int .i64 0, .int .i64 0, .int .i64 0, .int .i64 0, .int .i64 0, .int .i64 0, .int .i64 0, .int .i64 0] 35 _ _ (by rfl) (by rfl) (by rfl) (by rfl) (by rfl) sizeR (by rfl) ?_)
      have hF := BZ.put (us := [.int .i64 0, .int .i64 0, .int .i64 0, .int .i64 0, .int .i64 0, .int .i64 0, .int .i64 0, .int .i64 0]) rfl
      have oF := Onto.puts (b := z) (o := 0) (us := [.int .i64 0, .int .i64 0, .int .i64 0, .int .i64 0, .int .i64 0, .int .i64 0, .int .i64 0, .int .i64 0]) hz' on
      generalize World.setCells _ z 0 [.int .i64 0, .int .i64 0, .int .i64 0, .int .i64 0, .int .i64 0, .int .i64 0, .int .i64 0, .int .i64 0] = wF at hF oF ⊢
      go_wp2_with fail
      have p0 := hF.at_ 0 rfl; have p1 := hF.at_ 1 rfl; have p2 := hF.at_ 2 rfl; have p3 := hF.at_ 3 rfl; have p4 := hF.at_ 4 rfl; have p5 := hF.at_ 5 rfl; have p6 := hF.at_ 6 rfl; have p7 := hF.at_ 7 rfl
      refine bodyPost_ret (v := .tuple #[.agg #[.int .i64 0, .int .i64 0, .int .i64 0, .int .i64 0, .int .i64 0, .int .i64 0, .int .i64 0, .int .i64 0], .int .i64 1]) (by simp [results, Tryd.results30, go_sem, p0, p1, p2, p3, p4, p5, p6, p7]) rfl ⟨rfl, oF⟩
    · obtain ⟨k, hk⟩ : ∃ k : Nat, ix = k := ⟨ix.toNat, by omega⟩
      subst hk
      obtain ⟨hkl, hcut⟩ := (cut_index s colonW).2 k hix.symm
      rw [show colonW.length = 2 from rfl] at hkl hcut
      obtain ⟨a, ha⟩ : ∃ a, a = s.take k := ⟨_, rfl⟩
      obtain ⟨c, hc⟩ : ∃ c, c = s.drop (k + 2) := ⟨_, rfl⟩
      have hsl := HS.out
      have hal : a.length ≤ 30000 := by rw [ha, List.length_take]; omega
      have hcl : c.length ≤ 30000 := by rw [hc, List.length_drop]; omega
      have sa : ∀ w, (Instr.slice 9 (str s) none (some (.int .i64 (k : Int))) none).run Tryd.prog w = .ok (str a) w := fun w => by rw [ha]; exact cutTo s k (by omega) w
      have sc : ∀ w, (Instr.slice 9 (str s) (some (.int .i64 ((k : Int) + 2))) none none).run Tryd.prog w = .ok (str c) w := fun w => by rw [hc, show ((k : Int) + 2) = ((k + 2 : Nat) : Int) by omega]; exact cutFrom s (k + 2) (by omega) w
      have hr0 : r = (match num a with | none => (zeroR, 1) | some n => if (readWs (cutc 32 c)).2 ≠ 0 then (zeroR, (readWs (cutc 32 c)).2) else finR ⟨1, n, 0, (readWs (cutc 32 c)).1⟩) := by
        rw [HR.out]; unfold readR
        rw [if_neg HP.out, hcut, ha, hc]
        rfl
      have HR0 := Lib.hid hr0
      have hk3 : k ≤ 30000 := by omega
      clear hr0 ha hc hcut hix HR hsl hkl
      obtain ⟨ok, hok⟩ : ∃ ok, ok = (num a).isSome := ⟨_, rfl⟩
      go_wp2_with fail
      refine Calls.mono (Whole_calls a (by omega) _ (E.onto on)) ?_
      rw [← hok]
      rintro e v4 ⟨n, rfl, b, hn⟩
      replace on := on.to b
      replace BZ := BZ.onto b
      replace BR := BR.onto b
      clear b
      clear sa
      have fz := fun o => BR.froz o
      have HN0 := Lib.hid hn; have HOK := Lib.hid hok
      clear hn hok
      have b0 := BR.at_ 0 rfl; have b1 := BR.at_ 1 rfl; have b2 := BR.at_ 2 rfl; have b3 := BR.at_ 3 rfl; have b4 := BR.at_ 4 rfl; have b5 := BR.at_ 5 rfl; have b6 := BR.at_ 6 rfl; have b7 := BR.at_ 7 rfl
      go_upto_region 12 with fail
      clear b0 b1 b2 b3 b4 b5 b6 b7
      have BR' := BR.put1 (j := 1) (by simp) (.int .i64 n)
      simp only [List.set_cons_zero, List.set_cons_succ] at BR'
      replace BZ := BZ.off1 (p := ⟨zr, 1, none⟩) hzz (.int .i64 n)
      replace on := on.put (p := ⟨zr, 1, none⟩) hzr (.int .i64 n)
      clear BR fz
      have BR := BR'
      clear BR'
      try change Code.wp _ _ _ _ (v4.setCell ⟨zr, 1, none⟩ (.int .i64 n))
      generalize (v4.setCell ⟨zr, 1, none⟩ (.int .i64 n)) = v5 at *
      cases ok with
      | false =>
        have hnt : num a = none := by
          have := HOK.out
          cases hx : num a with
          | none => rfl
          | some u => rw [hx] at this; cases this
        have hr : r = (zeroR, 1) := by rw [HR0.out, hnt]
        subst hr
        clear hnt HR0 HN0 HOK BR
        go_wp2_with (refine wpList_put BZ [.int .i64 0, .int .i64 0, .int .i64 0, .int .i64 0, .int .i64 0, .int .i64 0, .int .i64 0, .int .i64 0] 35 _ _ (by rfl) (by rfl) (by rfl) (by rfl) (by rfl) sizeR (by rfl) ?_)
        have hF := BZ.put (us := [.int .i64 0, .int .i64 0, .int .i64 0, .int .i64 0, .int .i64 0, .int .i64 0, .int .i64 0, .int .i64 0]) rfl
        have oF := Onto.puts (b := z) (o := 0) (us := [.int .i64 0, .int .i64 0, .int .i64 0, .int .i64 0, .int .i64 0, .int .i64 0, .int .i64 0, .int .i64 0]) hz' on
        generalize World.setCells _ z 0 [.int .i64 0, .int .i64 0, .int .i64 0, .int .i64 0, .int .i64 0, .int .i64 0, .int .i64 0, .int .i64 0] = wF at hF oF ⊢
        go_wp2_with fail
        have p0 := hF.at_ 0 rfl; have p1 := hF.at_ 1 rfl; have p2 := hF.at_ 2 rfl; have p3 := hF.at_ 3 rfl; have p4 := hF.at_ 4 rfl; have p5 := hF.at_ 5 rfl; have p6 := hF.at_ 6 rfl; have p7 := hF.at_ 7 rfl
        refine bodyPost_ret (v := .tuple #[.agg #[.int .i64 0, .int .i64 0, .int .i64 0, .int .i64 0, .int .i64 0, .int .i64 0, .int .i64 0, .int .i64 0], .int .i64 1]) (by simp [results, Tryd.results30, go_sem, p0, p1, p2, p3, p4, p5, p6, p7]) rfl ⟨rfl, oF⟩
      | true =>
        have hnt : num a = some n := HN0.out rfl
        obtain ⟨x, hx⟩ : ∃ x, x = (readWs (cutc 32 c)).1 := ⟨_, rfl⟩
        obtain ⟨g, hg⟩ : ∃ g, g = (readWs (cutc 32 c)).2 := ⟨_, rfl⟩
        have hr1 : r = if g ≠ 0 then (zeroR, g) else finR ⟨1, n, 0, x⟩ := by rw [HR0.out, hnt, hx, hg]
        have HR1 := Lib.hid hr1; have HX := Lib.hid hx; have HG := Lib.hid hg
        clear hnt HR0 HN0 HOK hx hg hr1
        go_wp2_with fail
        refine Calls.mono (ERead_calls c _ (E.onto on) hcl) ?_
        unfold EnPost
        rw [show (readWs (cutc 32 c)).1 = x from HX.out.symm, show (readWs (cutc 32 c)).2 = g from HG.out.symm]
        rintro e v6 ⟨rfl, b⟩
        replace on := on.to b
        replace BZ := BZ.onto b
        replace BR := BR.onto b
        clear b
        clear sc
        go_upto_region 16 with (refine wpList_putM BR 3 [.int .i64 x.kind, .int .i64 x.job, .int .i64 x.every, .int .i64 x.time, .int .i64 x.client] 23 _ _ (by rfl) (by rfl) (by rfl) (by rfl) (by simp) sizeE (by rfl) ?_)
        have BR' := BR.putM (o := 3) (us := [.int .i64 x.kind, .int .i64 x.job, .int .i64 x.every, .int .i64 x.time, .int .i64 x.client]) (by simp)
        simp only [setMany, List.set_cons_zero, List.set_cons_succ] at BR'
        replace BZ := BZ.off (b := zr) (o := 3) (us := [.int .i64 x.kind, .int .i64 x.job, .int .i64 x.every, .int .i64 x.time, .int .i64 x.client]) hzz
        replace on := Onto.puts (b := zr) (o := 3) (us := [.int .i64 x.kind, .int .i64 x.job, .int .i64 x.every, .int .i64 x.time, .int .i64 x.client]) hzr on
        clear BR
        have BR := BR'
        clear BR'
        generalize World.setCells _ zr 3 [.int .i64 x.kind, .int .i64 x.job, .int .i64 x.every, .int .i64 x.time, .int .i64 x.client] = wy at BR BZ on ⊢
        by_cases hg0 : g = 0
        · have hr := HR1.out
          rw [if_neg (by simp [hg0])] at hr
          subst hg0
          go_upto_region 18 with fail
          obtain ⟨q, hqq⟩ : ∃ q, q = checkR ⟨1, n, 0, x⟩ := ⟨_, rfl⟩
          unfold finR at hr
          rw [← hqq] at hr
          have HQ := Lib.hid hqq; have HRQ := Lib.hid hr
          clear hqq hr
          have b0 := BR.at_ 0 rfl; have b1 := BR.at_ 1 rfl; have b2 := BR.at_ 2 rfl; have b3 := BR.at_ 3 rfl; have b4 := BR.at_ 4 rfl; have b5 := BR.at_ 5 rfl; have b6 := BR.at_ 6 rfl; have b7 := BR.at_ 7 rfl
          go_wp2_with fail
          refine Calls.mono (RCR_calls 1 n 0 x _) ?_
          rw [show checkR ⟨1, n, 0, x⟩ = q from HQ.out.symm]
          rintro e v7 ⟨rfl, b⟩
          replace on := on.to b
          replace BZ := BZ.onto b
          replace BR := BR.onto b
          clear b
          clear b0 b1 b2 b3 b4 b5 b6 b7
          by_cases hq0 : q = 0
          · have hr := HRQ.out
            rw [if_neg (by simp [hq0])] at hr
            subst hr
            have hq1 : (q == 0) = true := by simp [hq0]
            have hq2 : (q != 0) = false := by simp [hq0]
            have b0 := BR.at_ 0 rfl; have b1 := BR.at_ 1 rfl; have b2 := BR.at_ 2 rfl; have b3 := BR.at_ 3 rfl; have b4 := BR.at_ 4 rfl; have b5 := BR.at_ 5 rfl; have b6 := BR.at_ 6 rfl; have b7 := BR.at_ 7 rfl
            clear hq0 HRQ
            go_wp2_with (refine wpList_put BZ [.int .i64 1, .int .i64 n, .int .i64 0, .int .i64 x.kind, .int .i64 x.job, .int .i64 x.every, .int .i64 x.time, .int .i64 x.client] 35 _ _ (by rfl) (by rfl) (by rfl) (by rfl) (by rfl) sizeR (by rfl) ?_)
            have hF := BZ.put (us := [.int .i64 1, .int .i64 n, .int .i64 0, .int .i64 x.kind, .int .i64 x.job, .int .i64 x.every, .int .i64 x.time, .int .i64 x.client]) rfl
            have oF := Onto.puts (b := z) (o := 0) (us := [.int .i64 1, .int .i64 n, .int .i64 0, .int .i64 x.kind, .int .i64 x.job, .int .i64 x.every, .int .i64 x.time, .int .i64 x.client]) hz' on
            generalize World.setCells _ z 0 [.int .i64 1, .int .i64 n, .int .i64 0, .int .i64 x.kind, .int .i64 x.job, .int .i64 x.every, .int .i64 x.time, .int .i64 x.client] = wF at hF oF ⊢
            go_wp2_with fail
            have p0 := hF.at_ 0 rfl; have p1 := hF.at_ 1 rfl; have p2 := hF.at_ 2 rfl; have p3 := hF.at_ 3 rfl; have p4 := hF.at_ 4 rfl; have p5 := hF.at_ 5 rfl; have p6 := hF.at_ 6 rfl; have p7 := hF.at_ 7 rfl
            refine bodyPost_ret (v := .tuple #[.agg #[.int .i64 1, .int .i64 n, .int .i64 0, .int .i64 x.kind, .int .i64 x.job, .int .i64 x.every, .int .i64 x.time, .int .i64 x.client], .int .i64 0]) (by simp [results, Tryd.results30, go_sem, p0, p1, p2, p3, p4, p5, p6, p7]) rfl ⟨rfl, oF⟩
          · have hr := HRQ.out
            rw [if_pos hq0] at hr
            subst hr
            have hq1 : (q == 0) = false := by simp [hq0]
            have hq2 : (q != 0) = true := by simp [hq0]
            clear hq0 BR HRQ
            go_wp2_with (refine wpList_put BZ [.int .i64 0, .int .i64 0, .int .i64 0, .int .i64 0, .int .i64 0, .int .i64 0, .int .i64 0, .int .i64 0] 35 _ _ (by rfl) (by rfl) (by rfl) (by rfl) (by rfl) sizeR (by rfl) ?_)
            have hF := BZ.put (us := [.int .i64 0, .int .i64 0, .int .i64 0, .int .i64 0, .int .i64 0, .int .i64 0, .int .i64 0, .int .i64 0]) rfl
            have oF := Onto.puts (b := z) (o := 0) (us := [.int .i64 0, .int .i64 0, .int .i64 0, .int .i64 0, .int .i64 0, .int .i64 0, .int .i64 0, .int .i64 0]) hz' on
            generalize World.setCells _ z 0 [.int .i64 0, .int .i64 0, .int .i64 0, .int .i64 0, .int .i64 0, .int .i64 0, .int .i64 0, .int .i64 0] = wF at hF oF ⊢
            go_wp2_with fail
            have p0 := hF.at_ 0 rfl; have p1 := hF.at_ 1 rfl; have p2 := hF.at_ 2 rfl; have p3 := hF.at_ 3 rfl; have p4 := hF.at_ 4 rfl; have p5 := hF.at_ 5 rfl; have p6 := hF.at_ 6 rfl; have p7 := hF.at_ 7 rfl
            refine bodyPost_ret (v := .tuple #[.agg #[.int .i64 0, .int .i64 0, .int .i64 0, .int .i64 0, .int .i64 0, .int .i64 0, .int .i64 0, .int .i64 0], .int .i64 q]) (by simp [results, Tryd.results30, go_sem, p0, p1, p2, p3, p4, p5, p6, p7]) rfl ⟨rfl, oF⟩
        · have hr := HR1.out
          rw [if_pos hg0] at hr
          subst hr
          have hg1 : (g == 0) = false := by simp [hg0]
          have hg2 : (g != 0) = true := by simp [hg0]
          clear hg0 HR1 BR
          go_wp2_with (refine wpList_put BZ [.int .i64 0, .int .i64 0, .int .i64 0, .int .i64 0, .int .i64 0, .int .i64 0, .int .i64 0, .int .i64 0] 35 _ _ (by rfl) (by rfl) (by rfl) (by rfl) (by rfl) sizeR (by rfl) ?_)
          have hF := BZ.put (us := [.int .i64 0, .int .i64 0, .int .i64 0, .int .i64 0, .int .i64 0, .int .i64 0, .int .i64 0, .int .i64 0]) rfl
          have oF := Onto.puts (b := z) (o := 0) (us := [.int .i64 0, .int .i64 0, .int .i64 0, .int .i64 0, .int .i64 0, .int .i64 0, .int .i64 0, .int .i64 0]) hz' on
          generalize World.setCells _ z 0 [.int .i64 0, .int .i64 0, .int .i64 0, .int .i64 0, .int .i64 0, .int .i64 0, .int .i64 0, .int .i64 0] = wF at hF oF ⊢
          go_wp2_with fail
          have p0 := hF.at_ 0 rfl; have p1 := hF.at_ 1 rfl; have p2 := hF.at_ 2 rfl; have p3 := hF.at_ 3 rfl; have p4 := hF.at_ 4 rfl; have p5 := hF.at_ 5 rfl; have p6 := hF.at_ 6 rfl; have p7 := hF.at_ 7 rfl
          refine bodyPost_ret (v := .tuple #[.agg #[.int .i64 0, .int .i64 0, .int .i64 0, .int .i64 0, .int .i64 0, .int .i64 0, .int .i64 0, .int .i64 0], .int .i64 g]) (by simp [results, Tryd.results30, go_sem, p0, p1, p2, p3, p4, p5, p6, p7]) rfl ⟨rfl, oF⟩
end Go.Proofs.YtdcegdonppfbkaaDoor
