/- The law StoryGrows. No condition beyond the listed variables, which the card ties. -/
/- Part 17 of the proof: WGrows, WGrowsW, WGrowsL. -/
import Derived.Test.YtmppkaoonncddaaGreatDoorBaSt
import Derived.Test.YtmppkaoonncddaaGreatDoorBa02
import Derived.Test.YtmppkaoonncddaaGreatDoorBa09
import Derived.Test.YtmppkaoonncddaaGreatDoorBa04
import Derived.Test.YtmppkaoonncddaaGreatDoorCards
import Derived.Test.YtmppkaoonncddaaGreatDoorTie
import Derived.SevenTiedAt
namespace Go.Proofs.YtmppkaoonncddaaGreatDoor
section
set_option linter.unusedSimpArgs false
set_option linter.unusedVariables false
open Go.RowKit
attribute [local go_sem ↓] Go.wp_at_zero Go.wp_at_succ
def SBox (w : World) (e : Nat) : Prop := ∃ A n c T fr, w.heap[e]? = some (.cells #[.slice A n c] T fr)
section
variable {w w' : World} {e k n : Nat} {A : Option Addr} {rows : List (List Value)}
theorem SBox.onto (h : SBox w e) (b : Onto w w') : SBox w' e := by
 obtain ⟨A, n, c, T, fr, h⟩ := h
 exact ⟨A, n, c, T, fr, (b.block e (Array.getElem?_eq_some_iff.1 h).1).trans h⟩
theorem SBox.turn {z : Nat} (h : SBox w e) (t : Turn w w' z) (hne : e ≠ z) : SBox w' e := by
 obtain ⟨A, n, c, T, fr, h⟩ := h
 exact ⟨A, n, c, T, fr, (t.block e (Array.getElem?_eq_some_iff.1 h).1 (by intro e'; injection e' with e'; exact hne e')).trans h⟩
theorem SBox.made (w : World) (A : Option Addr) (n c : Nat) (T : TypeId) : SBox (w.alloc (.cells #[.slice A n c] T)) w.heap.size := ⟨A, n, c, T, _, heap_alloc_new w _⟩
theorem SBox.store (h : SBox w e) (A : Option Addr) (n c : Nat) : SBox (w.setCell ⟨e, 0, none⟩ (.slice A n c)) e := by
 obtain ⟨A', n', c', T, fr, h⟩ := h
 refine ⟨A, n, c, T, fr, ?_⟩
 simp [World.setCell, Array.getElem?_modify, h]
theorem SBox.int (h : SBox w e) {o : Nat} {K : IntKind} {a : Int} (h1 : w.cell? ⟨e, o, none⟩ = some (.int K a)) : False := by
 obtain ⟨A, n, c, T, fr, h⟩ := h
 rw [cell_of_row w e _ _ _ _ h] at h1
 match o with
 | 0 => simp at h1
 | o + 1 => simp at h1
theorem SBox.ne (h : SBox w e) {z : Nat} (hz : WBox w z) : e ≠ z := by
 rintro rfl
 obtain ⟨A, n, c, T, fr, h⟩ := h
 obtain ⟨A', n', c', t, C, m, d, s, T', fr', h'⟩ := hz
 rw [h] at h'
 simp at h'
theorem SBox.off (h : SBox w e) (hs : S w k A n rows) (hr : ∀ r ∈ rows, ∃ K a, r[0]? = some (.int K a)) : OffN n e A := fun hn a ea hb => by
 obtain ⟨b, off, e', _, hc⟩ := hs.2.2 hn
 rw [ea] at e'; injection e' with e'; subst e'
 simp only at hb; subst hb
 have h0 : 0 < rows.length := by rw [hs.1]; exact hn
 obtain ⟨K, x, h1⟩ := hr rows[0] (List.getElem_mem h0)
 have g1 := hc 0 0 _ _ (List.getElem?_eq_getElem h0) h1
 simp only [Nat.zero_mul, Nat.add_zero] at g1
 exact h.int g1
theorem SBox.map {α : Type} (h : SBox w e) {l : List α} {f : α → List Value} (hs : S w k A n (l.map f)) (hf : ∀ x, ∃ K a, (f x)[0]? = some (.int K a)) : OffN n e A :=
 h.off hs (fun r hr => by obtain ⟨x, _, rfl⟩ := List.mem_map.1 hr; exact hf x)
theorem SBox.far {n m : Nat} {A C : Option Addr} {ns : List NV} {cs : List CV} (h : SBox w e) (R : WR w A n C m ns cs) (t : Turn w w' e) : WR w' A n C m ns cs :=
 ⟨R.nr.grown t (fun g e' => by injection e' with e'; subst e'; exact h.map R.nr (fun x => ⟨_, _, rfl⟩)), R.cr.grown t (fun g e' => by injection e' with e'; subst e'; exact h.map R.cr (fun x => ⟨_, _, rfl⟩)),
  fun v hv => (R.ni v hv).grown t ⟨h.map (R.ni v hv).cells (fun x => ⟨_, _, rfl⟩), h.map (R.ni v hv).disk.safe (fun x => ⟨_, _, rfl⟩), h.map (R.ni v hv).disk.wait (fun x => ⟨_, _, rfl⟩)⟩,
  fun v hv => (R.ci v hv).grown t ⟨h.map (R.ci v hv).jobs (fun x => ⟨_, _, rfl⟩), h.map (R.ci v hv).rung (fun x => ⟨_, _, rfl⟩)⟩⟩
end
def GrowsI (wb : World) (zs : Nat) (x : Wor) (w : World) : Prop :=
 Onto wb w ∧ ∃ B b y, Bx w zs [.slice B b y] ∧ SBox w zs ∧ S w 5 B b ((logOf x).map encE) ∧ b ≤ y ∧ y ≤ maxLen
theorem GrowsI.onto {wb w w' : World} {zs : Nat} {x : Wor} (h : GrowsI wb zs x w) (b : Onto w w') : GrowsI wb zs x w' := by
 obtain ⟨on, B, bb, y, h1, h2, h3, h4, h5⟩ := h
 exact ⟨on.to b, B, bb, y, h1.onto b, h2.onto b, h3.onto b, h4, h5⟩
theorem GrowsI.turn {wb w w' : World} {zs z : Nat} {x : Wor} (hz : wb.heap.size ≤ z) (h : GrowsI wb zs x w) (hw : WBox w z) (t : Turn w w' z) : GrowsI wb zs x w' := by
 obtain ⟨on, B, bb, y, h1, h2, h3, h4, h5⟩ := h
 have hne := h2.ne hw
 exact ⟨below_grown on on.size t (fun g hg => by injection hg with hg; subst hg; exact hz), B, bb, y, h1.grown t (by intro e; injection e with e; exact hne e), h2.turn t hne, h3.grown t (fun g e => by injection e with e; subst e; exact hw.off2 h3 (fun r hr => by obtain ⟨v, _, rfl⟩ := List.mem_map.1 hr; exact ⟨_, _, rfl, rfl⟩)), h4, h5⟩
theorem logW_good {x : Wor} (h : GoodW x) : logW x = (logOf x, 0) := by
 unfold logW; rw [if_neg (by rw [checkW_iff.2 h]; simp)]
set_option maxHeartbeats 8000000 in
set_option maxRecDepth 100000 in
theorem GrowsF_calls (wb : World) (zs : Nat) (hzs : wb.heap.size ≤ zs) (EW : Env wb) (x : Wor) (w : World) (A : Option Addr) (n c : Nat) (C : Option Addr) (m d : Nat) (ns : List NV) (cs : List CV) (h : Hap) (I : GrowsI wb zs x w) (hg : GoodW x) (hx : (happenW x h).2 = 0) (R : WR w A n C m ns cs) (hw : wor ns (happenW x h).1.tip cs (happenW x h).1.time = (happenW x h).1) :
    Calls Tryz.prog 25 #[.agg #[.slice A n c, .int .i64 (happenW x h).1.tip, .slice C m d, .int .i64 (happenW x h).1.time], .pointer (some ⟨zs, 0, none⟩)] w fun e w' => e = .returned (.bool true) ∧ GrowsI wb zs (happenW x h).1 w' ∧ Turn w w' zs := by
 have hgl := grows_law hg hx
 have hlw := logW_good (hg.happen hx)
 obtain ⟨on0, B, b, y, BZ, SZ, S0, hby, hym⟩ := I
 rw [← hw] at hlw
 obtain ⟨v, hv⟩ : ∃ v, v = (happenW x h).1 := ⟨_, rfl⟩
 rw [← hv] at hlw hgl hw ⊢
 rw [hw] at hlw
 have HLW := Lib.hid hlw; have HGL := Lib.hid hgl; have HW := Lib.hid hw
 clear hlw hgl hw hv hg hx
 go_enter Tryz.func25, Tryz.ntmps25
 go_upto_region 1 with fail
 refine wp_box1 (v1 := [.slice A n c, .int .i64 v.tip, .slice C m d, .int .i64 v.time]) rfl fun w1 on BX => ?_
 replace R := R.onto on; replace BZ := BZ.onto on; replace SZ := SZ.onto on; replace S0 := S0.onto on
 have on1 := on0.to on
 generalize w.heap.size = zx at BX ⊢
 have x0 := BX.at_ 0 rfl; have x1 := BX.at_ 1 rfl; have x2 := BX.at_ 2 rfl; have x3 := BX.at_ 3 rfl
 go_wp2_with fail
 refine Calls.mono (SLog_calls A n c v.tip C m d v.time ns cs _ (EW.onto on1) R) ?_
 rw [HW.out, HLW.out]
 rintro e w2 ⟨B1, b1, y1, rfl, S1, hb1, hy1, ob, hf1⟩
 replace BZ := BZ.onto ob; replace SZ := SZ.onto ob; replace S0 := S0.onto ob; replace on := on.to ob; replace on1 := on1.to ob
 clear x0 x1 x2 x3 BX R ob hf1
 replace S1 : S w2 5 B1 b1 ((logOf v).map encE) := S1
 have hl0 : (logOf x).length = b := by have := S0.len; simpa using this
 have hl1 : (logOf v).length = b1 := by have := S1.len; simpa using this
 have hbb : b ≤ b1 := by have := HGL.out.1; omega
 have hnl : ¬ (b1 : Int) < (b : Int) := by omega
 have i0 : (0 : Int) ≤ (b : Int) := by omega
 have i1 : (b : Int) ≤ (y1 : Int) := by omega
 have s1 : S w2 5 B1 b ((logOf x).map encE) := by
  have h9 := Sl.take S1 hbb
  have h8 : (List.map encE (logOf v)).take b = (logOf x).map encE := by
   have h7 := HGL.out.2
   rw [hl0] at h7
   rw [← List.map_take, h7]
  rwa [h8] at h9
 have q1 : ∀ yy : World, Calls Tryz.prog 27 #[.slice B1 b y1, .slice B b y] (ontoW w2 yy) fun e w' => e = .returned (.bool true) ∧ Onto (ontoW w2 yy) w' := fun yy =>
  (EqualE_calls B1 B b b y1 y _ (logOf x) (logOf x) (ontoW w2 yy) (s1.onto (onto_on w2 yy)) (S0.onto (onto_on w2 yy)) (by unfold maxLen at hym; omega)).mono fun e w' h => ⟨by rw [h.1]; simp, by obtain ⟨q, hq⟩ := h.2; rw [hq]; exact (Onto.rfl' _).draws q⟩
 have Q1 := Lib.hid q1
 have z0 := onto_cell (BZ.at_ 0 rfl)
 have HN := Lib.hid hnl
 clear q1 hl0 hl1 HGL hnl
 have hnl : decide (b1 < b) = false := by have := HN.out; simp; omega
 go_upto_region 2 with fail
 refine wp_region_onto (by kernel_rfl) (by kernel_rfl) ?_
 repeat (go_big_quiet_step ((go_at_call 27; exact calls_onto' (u := .bool true) (by with_reducible exact Q1.out _) (by rfl))))
 refine wpQuiet_nil ?_
 intro w3 bz
 replace BZ := BZ.onto bz; replace SZ := SZ.onto bz; replace S1 := S1.onto bz; replace on := on.to bz; replace on1 := on1.to bz
 have hoff : OffN b1 zs B1 := SZ.map S1 (fun x => ⟨_, _, rfl⟩)
 clear bz z0 Q1 s1 S0
 have z0 := BZ.at_ 0 rfl; have f0 := BZ.froz 0
 go_wp2_with fail
 go_ret
 have t : Turn w3 (w3.setCell ⟨zs, 0, none⟩ (.slice B1 b1 y1)) zs := (Turn.rfl' w3 zs).put (p := ⟨zs, 0, none⟩) rfl _
 exact ⟨rfl, ⟨on1.put (p := ⟨zs, 0, none⟩) hzs _, B1, b1, y1, BZ.put1 (j := 0) (by simp) _, SZ.store _ _ _, S1.grown t (fun g e => by injection e with e; subst e; exact hoff), hb1, hy1⟩, ((Turn.rfl' w zs).onto on).put (p := ⟨zs, 0, none⟩) rfl _⟩
end
section
set_option linter.unusedSimpArgs false
set_option linter.unusedVariables false
open Go.RowKit
attribute [local go_sem ↓] Go.wp_at_zero Go.wp_at_succ
theorem log_new : logOf newW = [] := by decide +kernel
set_option maxHeartbeats 8000000 in
set_option maxRecDepth 100000 in
theorem StoryGrows_calls (A0 : Option Addr) (k i : Nat) (l : List Hap) (w : World) (E : Env w) (SL : S w 10 A0 k (l.map encH)) (hki : k ≤ i) (him : i ≤ maxLen) :
    Calls Tryz.prog 8 #[.slice A0 k i] w fun e w' => e = .returned (.bool true) ∧ Onto w w' := by
 go_enter Tryz.func8, Tryz.ntmps8
 go_upto_region 2 with fail
 have SZ := SBox.made w none 0 0 42
 have BZ : Bx (w.alloc (Obj.cells #[.slice none 0 0] 42)) w.heap.size [.slice none 0 0] := Bx.made _ _ _
 have on := (Onto.rfl' w).new (Obj.cells #[.slice none 0 0] 42)
 try change Code.wp _ _ _ _ (w.alloc (Obj.cells #[.slice none 0 0] 42))
 have hz : w.heap.size ≤ w.heap.size := Nat.le_refl _
 generalize (w.alloc (Obj.cells #[.slice none 0 0] 42)) = w1 at *
 generalize hzs : w.heap.size = zs at SZ BZ ⊢
 rw [hzs] at hz
 have hz : w.heap.size ≤ zs := by omega
 have I : GrowsI w zs newW w1 := ⟨on, none, 0, 0, BZ, SZ, by rw [log_new]; exact Sl.nil, Nat.le_refl _, by simp [maxLen]⟩
 have Y : Plays (GrowsI w zs) 25 #[.pointer (some ⟨zs, 0, none⟩)] (some zs) A0 k l w1 :=
  ⟨I, fun x w1 w2 h b => h.onto b, fun x w2 w3 z hz2 h hw t => h.turn (Nat.le_trans on.size hz2) hw t, fun x w2 h => E.onto h.1, fun x w2 h => SL.onto h.1,
   fun x w2 w3 A n C m ns cs h R t => by obtain ⟨_, _, _, _, _, hs, _⟩ := h; exact hs.far R t, fun b e => by injection e with e; subst e; exact BZ.lt, fun _ _ => by kernel_rfl,
   fun x w2 A n c C m d ns cs h hp hg hx R hw => GrowsF_calls w zs hz E x w2 A n c C m d ns cs h hp hg hx R hw⟩
 have HY := Lib.hid Y
 clear Y I SZ BZ hzs
 go_wp2_with fail
 refine Calls.mono (Played_calls (GrowsI w zs) 25 #[.pointer (some ⟨zs, 0, none⟩)] (some zs) A0 k i l w1 hki HY.out) ?_
 rintro e w2 ⟨x, A, n, c, C, m, d, ns, cs, rfl, hP, hG, R, hw⟩
 have on2 : Onto w w2 := hP.1
 clear hP hG R hw HY on
 go_upto_region 3 with fail
 refine wp_box1 (v1 := [.slice A n c, .int .i64 x.tip, .slice C m d, .int .i64 x.time]) rfl fun w3 b X => ?_
 replace on2 := on2.to b
 clear b X
 go_wp2_with fail
 refine Calls.mono (told_calls _ (E.onto on2)) ?_
 rintro e w4 ⟨rfl, b⟩
 replace on2 := on2.to b
 clear b
 go_wp2_with fail
 go_ret
 exact ⟨rfl, on2⟩
end
section
set_option linter.unusedSimpArgs false
set_option linter.unusedVariables false
open Go.RowKit Go.ChangeShapes Go.WideShapes Go.ChangeAt
set_option maxRecDepth 100000 in
theorem storyGrows_lifted (os : Os) (started : os.Started) (H : Type) (enc : TypeId × Value → H) :
    ReturnsInHanded {} Tryz.checked os 8 .any (fun w args => (Rows.storyGrowsSpec.pre enc Tryz.prog Tryz.f8 Rows.storyGrowsRow.domain false w args ∧ laidMetH Tryz.prog Rows.storyGrowsRow.laid w) ∧ sizedMet enc Tryz.prog Tryz.f8 (OpenSpec.ofChange Rows.storyGrowsSpec) false w args)
     (Rows.storyGrowsSpec.post enc Tryz.prog Tryz.f8 false true false false) := by
 refine handed_shaped (C := Tryz.checked) (X := fun w _ => laidMetH Tryz.prog Rows.storyGrowsRow.laid w) (fun _ _ _ hh h => h.of_heap hh) own started (by kernel_rfl) Tryz.func8
  (ChangeSpec.witness_shaped (enc := enc) (C := Tryz.checked) (os := os) (X := fun w _ => laidMetH Tryz.prog Rows.storyGrowsRow.laid w) false (World.laidAll Tryz.prog os Rows.storyGrowsRow.laid) #[.slice none 0 0] 8 (World.laidAll_os _ _ _)
   (World.shaped_of_ZipB (by kernel_rfl) (by kernel_rfl)) (by kernel_rfl) (by kernel_rfl) (by kernel_rfl)
   (by rw [MakeChecks.laidMetH_plain _ _ _ (by kernel_rfl)]; exact laidMet_laidAll _ (by kernel_rfl) (by kernel_rfl))) ?_
 intro W base args ds gs before hval0 hW hsz0 hL hS
 rw [MakeChecks.laidMetH_plain _ _ _ (by kernel_rfl)] at hL
 have E : Env W := env_of hL hS
 clear hL hS
 have hval : ∀ (j : Nat) t v, Tryz.f8.params[j]? = some t → args[j]? = some v → Value.okWide Tryz.prog W .any base t v := hval0
 have hW' := hW
 obtain ⟨p, q, hA0, hV, rfl, hfz, hnd⟩ := hW
 have hA : DataW.TrodAll enc Tryz.prog W 0 (fun _ => true) true Tryz.f8.params.toList args.toList ds p := hA0
 rw [Tryz.params8] at hA hval
 obtain ⟨v0, vs0, d0, ds0, p0, q0, hargs, rfl, rfl, h0, r0⟩ := trodAll_cons hA
 obtain ⟨rfl, rfl, rfl⟩ := trodAll_nil r0
 obtain rfl : args = #[v0] := by cases args; simp_all
 obtain ⟨rfl, rfl⟩ := trodVars_none hV
 have hall := hA
 obtain ⟨qa0, qb0, qc0, rfl⟩ := okWide_slice Tryz.underlying53 (hval 0 53 v0 rfl rfl)
 obtain ⟨A0, n0, c0, l0, e0, hnc0, hcm0, s0⟩ := reads_haps (reads_of h0)
 simp [Value.cells] at e0
 obtain ⟨rfl, rfl, rfl⟩ := e0
 clear hA0 hval0
 refine (StoryGrows_calls qa0 qb0 qc0 l0 W E s0 hnc0 hcm0).mono fun e W' ⟨he, bel⟩ => ?_
 subst he
 exact ⟨_, rfl, _, _, _, [], _, [], hW', trodAll_mk1 (shut_bool Tryz.underlying4 _), Below_trodAll (ts := [53]) laidOut bel (by intro t ht; simp only [List.mem_cons, List.not_mem_nil, or_false] at ht; rcases ht with rfl <;> exact ⟨by kernel_rfl, of_decide_eq_true (by kernel_rfl)⟩) hall, rfl, bel.frame _, fun h => by cases h⟩
theorem storyGrows_row : Rows.StoryGrowsSaid :=
 OpenClaim.holds_of_wide 8 Tryz.f8 rfl rfl rfl rfl rfl rfl rfl ⟨rfl, rfl, rfl, rfl, rfl⟩ rfl rfl rfl rfl rfl (by kernel_rfl) Tryz.func8 (by kernel_rfl)
  (of_decide_eq_true (by kernel_rfl)) (by unfold Func.isWrapper; first | (rw [if_pos (by decide +kernel)]; kernel_rfl) | (rw [if_neg (by decide +kernel)]; exact ⟨rfl, rfl⟩))
  (fun os started H enc _ => storyGrows_lifted os started H enc)
theorem storyGrows_holds : Rows.StoryGrowsCardSaid :=
 Claim7.holds_tied_plain_at .later [] [.data, .data, .data, .data, .sentinel, .sentinel, .pinned] true Rows.storyGrowsCard.stood.harness true storyGrows_row (fun _ h => by cases h) (by kernel_rfl) (fun _ h => by cases h) storyGrows_row_tie rfl ⟨rfl, rfl⟩ (by kernel_rfl) rfl
  (fun f fn hf hfn => by
   obtain rfl : f = 8 := Option.some.inj ((show Tryz.prog.funcNamed "carillon/carillonlaw.StoryGrows" = some 8 by kernel_rfl).symm.trans hf) |>.symm
   obtain rfl : fn = Tryz.f8 := (Option.some.inj (Tryz.func8.symm.trans hfn)).symm
   exact ⟨by kernel_rfl, fun j t ht => by
    rw [Tryz.params8] at ht
    have hm : t ∈ [53] := by simpa using Array.mem_of_getElem? ht
    have hall : ([53].all fun u => !Tryz.prog.wantsStandIn u) = true := by kernel_rfl
    exact (show Tryz.prog.wantsStandIn t = false by simpa using List.all_eq_true.1 hall t hm)⟩)
  (by kernel_rfl)
end
end Go.Proofs.YtmppkaoonncddaaGreatDoor
