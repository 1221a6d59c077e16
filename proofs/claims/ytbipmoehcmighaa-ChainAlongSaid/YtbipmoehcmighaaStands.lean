/- The law ChainStands. No condition. -/
import Derived.Test.YtbipmoehcmighaaLinked
import Derived.Test.YtbipmoehcmighaaLawC
import Derived.Test.YtbipmoehcmighaaReadU
import Derived.Test.YtbipmoehcmighaaFrame
import Derived.Test.YtbipmoehcmighaaCloneU
namespace Go.Proofs.Ytbipmoehcmighaa
set_option linter.unusedSimpArgs false
set_option linter.unusedVariables false
open Go.RowKit Go.ChangeShapes Go.WideShapes Go.ChangeAt

theorem encU_one (l : List UV) : ∀ r ∈ l.map encU, ∀ u ∈ r, u.oneCell' = true := by
  intro r hr u hu
  obtain ⟨x, _, rfl⟩ := List.mem_map.1 hr
  simp [encU] at hu
  rcases hu with rfl | rfl <;> rfl
theorem M.putU {w : World} {base n b off i : Nat} {l : List UV} (h : M w base 2 (some ⟨b, off, none⟩) n (l.map encU)) (hi : i < n) (v : UV) :
    M ((w.setCell ⟨b, off + i * 2, none⟩ (.int .i64 v.ep)).setCell ⟨b, off + i * 2 + 1, none⟩ (.slice v.A v.n v.c)) base 2 (some ⟨b, off, none⟩) n ((l.set i v).map encU) := by
  have hl : l.length = n := by have := h.1.len; simpa using this
  have hli : (l.map encU)[i]? = some (encU l[i]) := by simp [List.getElem?_eq_getElem (show i < l.length by omega)]
  have h1 := h.put (j := 0) hli (by simp [encU]) (.int .i64 v.ep)
  have h2 := h1.put (i := i) (j := 1) (r := (encU l[i]).set 0 (.int .i64 v.ep)) (by rw [List.getElem?_set]; simp; omega) (by simp [encU]) (.slice v.A v.n v.c)
  simpa [encU, List.map_set] using h2
theorem Us.off {w : World} {A : Option Addr} {n : Nat} {l : List UV} (h : Us w A n l) {b : Nat} (ho : OffN n b A) (hc : ∀ v ∈ l, OffN v.n b v.A) (o : Nat) (u : Value) : Us (w.setCell ⟨b, o, none⟩ u) A n l :=
  ⟨h.rows.off ho u, fun v hv => (h.cells v hv).off (hc v hv) u, h.caps⟩
theorem Fresh.offB {n z lo : Nat} {A : Option Addr} (h : Fresh lo A) (hz : z < lo) : OffN n z A := fun _ a e => by have := h a e; omega
theorem Sl.at2 {w : World} {B n : Nat} {A : Option Addr} {l : List UV} (h : Sl w B 2 A n (l.map encU)) {i : Nat} (hi : i < n) : ∃ b off v, A = some ⟨b, off, none⟩ ∧ b < B ∧ l[i]? = some v ∧
    w.cell? ⟨b, off + i * 2, none⟩ = some (.int .i64 v.ep) ∧ w.cell? ⟨b, off + i * 2 + 1, none⟩ = some (.slice v.A v.n v.c) := by
  obtain ⟨b, off, x, e, hb, hx, hc⟩ := h.at_ hi
  exact ⟨b, off, x, e, hb, hx, hc 0 _ rfl, hc 1 _ rfl⟩
theorem cellS {w : World} {z o : Nat} {u v : Value} {p : Addr} (h : w.cell? p = some v) (hz : p.block ≠ z) : (w.setCell ⟨z, o, none⟩ u).cell? p = some v :=
  (World.cell?_setCell_other w _ _ _ (fun e => hz (by rw [← e]))).trans h
theorem uniAt_unis {l : List UV} {i : Nat} {v : UV} (h : l[i]? = some v) : uniAt (unis l) i = v.u := uniAt_eq (unis_at h)

set_option maxHeartbeats 8000000 in
set_option maxRecDepth 100000 in
theorem Stands_good (A : Option Addr) (n c : Nat) (l : List UV) (k a : Int) (x : Entry) (ep : Int) (r : Rec) (s : Entry) (w : World) (h : Us w A n l) (hlink : linkC (unis l) k a x ep = (r, s, 0)) :
    Calls Try.prog 3 #[.slice A n c, .int .i64 k, .int .i64 a, .agg #[.int .i64 x.kind, .int .i64 x.job, .int .i64 x.every, .int .i64 x.time, .int .i64 x.client], .int .i64 ep] w fun e w' => e = .returned (.bool true) ∧ Below w.heap.size w w' := by
  obtain ⟨hg, hk0, hk3, ha0, ha60, hx, hep, hfront, hcases⟩ := link_ok hlink
  obtain ⟨i, rfl⟩ : ∃ i : Nat, k = i := ⟨k.toNat, by omega⟩
  obtain ⟨j, rfl⟩ : ∃ j : Nat, a = j := ⟨a.toNat, by omega⟩
  simp only [Int.toNat_natCast] at hcases hfront hep
  have hn : n = 3 := by rw [← h.len, ← List.length_map (f := UV.u)]; exact hg.len
  subst hn
  have hi3 : i < 3 := by omega
  have hj60 : j < 60 := by omega
  have HLK := Lib.hid hlink; have HGl := Lib.hid hg; have HX := Lib.hid hx; have HF := Lib.hid hfront
  clear hlink hg hx hep hfront hk0 hk3 ha0 ha60
  go_enter Try.func3, Try.ntmps3
  go_wp2_with fail
  refine Calls.mono (Link_calls A 3 c l i j x ep _ (h.new _)) ?_
  rw [HLK.out]
  rintro e w1 ⟨rfl, hb1⟩
  have x0 : w1.cell? ⟨w.heap.size, 0, none⟩ = some (.int .i64 x.kind) := cellB hb1 (by simp [go_sem])
  have x1 : w1.cell? ⟨w.heap.size, 1, none⟩ = some (.int .i64 x.job) := cellB hb1 (by simp [go_sem])
  have x2 : w1.cell? ⟨w.heap.size, 2, none⟩ = some (.int .i64 x.every) := cellB hb1 (by simp [go_sem])
  have x3 : w1.cell? ⟨w.heap.size, 3, none⟩ = some (.int .i64 x.time) := cellB hb1 (by simp [go_sem])
  have x4 : w1.cell? ⟨w.heap.size, 4, none⟩ = some (.int .i64 x.client) := cellB hb1 (by simp [go_sem])
  have h01 : Onto w w1 := ((Below.refl _ _).alloc (Nat.le_refl _) _).trans (hb1.mono (by simp))
  have hz1 : w.heap.size < w1.heap.size := World.block_lt_of_cell? _ _ x0
  clear hb1
  go_wp2_with fail
  refine Calls.mono (linked_calls _) ?_
  rintro e w2 ⟨rfl, hb2⟩
  have r0 : w2.cell? ⟨w1.heap.size, 0, none⟩ = some (.int .i64 r.kind) := cellB hb2 (by simp [go_sem])
  have r1 : w2.cell? ⟨w1.heap.size, 1, none⟩ = some (.int .i64 r.at_) := cellB hb2 (by simp [go_sem])
  have r2 : w2.cell? ⟨w1.heap.size, 2, none⟩ = some (.int .i64 r.epoch) := cellB hb2 (by simp [go_sem])
  have r3 : w2.cell? ⟨w1.heap.size, 3, none⟩ = some (.int .i64 r.e.kind) := cellB hb2 (by simp [go_sem])
  have r4 : w2.cell? ⟨w1.heap.size, 4, none⟩ = some (.int .i64 r.e.job) := cellB hb2 (by simp [go_sem])
  have r5 : w2.cell? ⟨w1.heap.size, 5, none⟩ = some (.int .i64 r.e.every) := cellB hb2 (by simp [go_sem])
  have r6 : w2.cell? ⟨w1.heap.size, 6, none⟩ = some (.int .i64 r.e.time) := cellB hb2 (by simp [go_sem])
  have r7 : w2.cell? ⟨w1.heap.size, 7, none⟩ = some (.int .i64 r.e.client) := cellB hb2 (by simp [go_sem])
  have s0 : w2.cell? ⟨w1.heap.size + 1, 0, none⟩ = some (.int .i64 s.kind) := cellB hb2 (by simp [go_sem])
  have s1 : w2.cell? ⟨w1.heap.size + 1, 1, none⟩ = some (.int .i64 s.job) := cellB hb2 (by simp [go_sem])
  have s2 : w2.cell? ⟨w1.heap.size + 1, 2, none⟩ = some (.int .i64 s.every) := cellB hb2 (by simp [go_sem])
  have s3 : w2.cell? ⟨w1.heap.size + 1, 3, none⟩ = some (.int .i64 s.time) := cellB hb2 (by simp [go_sem])
  have s4 : w2.cell? ⟨w1.heap.size + 1, 4, none⟩ = some (.int .i64 s.client) := cellB hb2 (by simp [go_sem])
  have h12 : Onto w1 w2 := (((Below.refl _ _).alloc (Nat.le_refl _) _).alloc (by simp) _).trans (hb2.mono (by simp; omega))
  have x0b := cellB h12 x0; have x1b := cellB h12 x1; have x2b := cellB h12 x2; have x3b := cellB h12 x3; have x4b := cellB h12 x4
  have h02 := Onto.to h01 h12
  have hz2 : w1.heap.size + 1 < w2.heap.size := World.block_lt_of_cell? _ _ s0
  clear hb2 h12 h01 x0 x1 x2 x3 x4
  go_wp2_with fail
  have hl2 := Us.onto h h02
  refine Calls.mono (CloneU_calls _ A 3 c _ (Nat.le_refl _) (l.map encU) hl2.rows (encU_one l) (by omega)) ?_
  rintro e w3 ⟨Am, cm, rfl, hown, hb3⟩
  have hmm := hown.m
  have x0 := cellB hb3 x0b; have x1 := cellB hb3 x1b; have x2 := cellB hb3 x2b; have x3 := cellB hb3 x3b; have x4 := cellB hb3 x4b
  have s0b := cellB hb3 s0; have s1b := cellB hb3 s1; have s2b := cellB hb3 s2; have s3b := cellB hb3 s3; have s4b := cellB hb3 s4
  have r0b := cellB hb3 r0; have r1b := cellB hb3 r1; have r2b := cellB hb3 r2; have r3b := cellB hb3 r3; have r4b := cellB hb3 r4; have r5b := cellB hb3 r5; have r6b := cellB hb3 r6; have r7b := cellB hb3 r7
  have hW := Onto.to h02 hb3
  have hl := Us.onto hl2 hb3
  have hz3 : w1.heap.size + 1 < w3.heap.size := World.block_lt_of_cell? _ _ s0b
  have hww2 : w.heap.size ≤ w2.heap.size := h02.size
  clear x0b x1b x2b x3b x4b s0 s1 s2 s3 s4 r0 r1 r2 r3 r4 r5 r6 r7 hl2 h02 hown
  have s0 := s0b; have s1 := s1b; have s2 := s2b; have s3 := s3b; have s4 := s4b
  have r0 := r0b; have r1 := r1b; have r2 := r2b; have r3 := r3b; have r4 := r4b; have r5 := r5b; have r6 := r6b; have r7 := r7b
  clear s0b s1b s2b s3b s4b r0b r1b r2b r3b r4b r5b r6b r7b
  rcases hcases with ⟨hr0, hsc, hs4⟩ | ⟨hr0, hsx, hb4⟩
  · have hm : Us w3 Am 3 l := ⟨hmm.sl, hl.cells, hl.caps⟩
    have HGm := HGl
    have HS : Hid (cellAt (uniAt (unis l) i).cells j = s) := hsc.symm
    have HRD : Hid (∀ (p : Nat) a, p < 60 → readC (unis l) (p : Int) = (a, 0) → readC (unis l) (p : Int) = (a, 0)) := fun _ _ _ h => h
    have hrk : (r.kind != 0) = false := by rw [hr0]; rfl
    clear hsc hs4 hmm hb3 hr0
    obtain ⟨lm, hlm⟩ : ∃ lm, lm = l := ⟨_, rfl⟩
    rw [← hlm] at hm HGm HS
    replace HRD : Hid (∀ (p : Nat) a, p < 60 → readC (unis l) (p : Int) = (a, 0) → readC (unis lm) (p : Int) = (a, 0)) := by rw [hlm]; exact HRD
    clear hlm
    go_upto_region 10 with fail
    obtain ⟨bm, offm, um, hAm, hzm, hum, f0, f1, hsm, huml⟩ := hm.atU (i := i) (by omega)
    have hgm := HGm.out.ok um.u (List.mem_map.2 ⟨um, List.mem_of_getElem? hum, rfl⟩)
    have humn : um.n = 60 := by rw [← huml]; exact hgm.len
    rw [humn] at hsm f1
    obtain ⟨bc, offc, y, hAc, hzc, hy, d0, d1, d2, d3, d4⟩ := hsm.atE hj60
    have hys : y = s := by
      rw [← HS.out, uniAt_unis hum]
      exact (cellAt_eq hy).symm
    subst hys
    rw [hAc] at f1
    have hd : (!(y.kind == y.kind && y.job == y.job && y.every == y.every && y.time == y.time && y.client == y.client)) = false := by simp
    have hne := neqE
    have hi3' : (i : Int) < 3 := by omega
    have hj60' : (j : Int) < 60 := by omega
    have hAm' := hAm
    rw [hAm]
    have k0 := onto_cell f0; have k1 := onto_cell f1; have k2 := onto_cell d0; have k3 := onto_cell d1; have k4 := onto_cell d2; have k5 := onto_cell d3; have k6 := onto_cell d4; have k7 := onto_cell s0; have k8 := onto_cell s1; have k9 := onto_cell s2; have k10 := onto_cell s3; have k11 := onto_cell s4
    have k20 := onto_size hzm; have k21 := onto_size hzc
    rw [hAm] at hm
    refine wp_region_onto (by kernel_rfl) (by kernel_rfl) ?_
    repeat (go_big_quiet_step ((first
      | (go_at_call 16; exact calls_onto' (u := .int .i64 0) (CCheck_calls _ 3 cm lm _ (Us.onto hm (onto_on _ _))) (by rw [checkC_iff.2 HGm.out])))))
    refine wpQuiet_nil ?_
    intro w9 hb9
    have h9 := Onto.to hW hb9
    have hl9 := Us.onto hl hb9
    have hm9 := Us.onto hm hb9
    clear k0 k1 k2 k3 k4 k5 k6 k7 k8 k9 k10 k11 k20 k21 f0 f1 d0 d1 d2 d3 d4 s0 s1 s2 s3 s4 hb9 hl hm hW hsm hzm hzc hAc hum huml humn hgm hd HS
    go_wp2_with fail
    go_loopw [87] (fun q wr => ∃ p : Nat, p ≤ 60 ∧ q = .int .i64 p ∧ Onto w9 wr) (fun q _ => 60 - (intOf q).toNat)
    case atStart => exact ⟨0, by omega, rfl, Below.refl _ _⟩
    case round =>
      obtain ⟨p, hp, rfl, hbr⟩ := hrel
      by_cases hlt : p < 60
      · have hl10 := Us.onto hl9 hbr
        have hm10 := Us.onto hm9 hbr
        have hlt' : (p : Int) < 60 := by omega
        obtain ⟨ra, hra⟩ : ∃ ra, ra = readC (unis l) p := ⟨_, rfl⟩
        obtain ⟨rb, hrb⟩ : ∃ rb, rb = readC (unis lm) p := ⟨_, rfl⟩
        have HRA := Lib.hid hra; have HRB := Lib.hid hrb
        clear hra hrb
        go_wp2_with fail
        refine Calls.mono (Read_calls _ 3 c l p _ hl10) ?_
        rw [← HRA.out]
        rintro e w11 ⟨rfl, hb11⟩
        have hm11 := Us.onto hm10 hb11
        have h11 := Onto.to hbr hb11
        clear hl10 hm10 hb11
        go_wp2_with fail
        refine Calls.mono (Read_calls _ 3 cm lm p _ (hm11.new _)) ?_
        rw [← HRB.out]
        rintro e w12 ⟨rfl, hb12⟩
        have g0 : w12.cell? ⟨w11.heap.size, 0, none⟩ = some (.int .i64 ra.1.kind) := cellB hb12 (by simp [go_sem])
        have g1 : w12.cell? ⟨w11.heap.size, 1, none⟩ = some (.int .i64 ra.1.job) := cellB hb12 (by simp [go_sem])
        have g2 : w12.cell? ⟨w11.heap.size, 2, none⟩ = some (.int .i64 ra.1.every) := cellB hb12 (by simp [go_sem])
        have g3 : w12.cell? ⟨w11.heap.size, 3, none⟩ = some (.int .i64 ra.1.time) := cellB hb12 (by simp [go_sem])
        have g4 : w12.cell? ⟨w11.heap.size, 4, none⟩ = some (.int .i64 ra.1.client) := cellB hb12 (by simp [go_sem])
        have hm12 := Us.onto (hm11.new _) hb12
        have h12 : Onto w9 w12 := Onto.to (Onto.new h11 _) hb12
        have hz12 : w11.heap.size < w12.heap.size := World.block_lt_of_cell? _ _ g0
        clear hm11 h11 hb12
        rcases ra with ⟨a1, ea⟩
        rcases rb with ⟨a2, eb⟩
        dsimp only at g0 g1 g2 g3 g4 ⊢
        by_cases hea : ea = 0
        · subst hea
          have hrb := HRD.out p a1 hlt HRA.out.symm
          rw [← HRB.out] at hrb
          injection hrb with hr1 hr2
          subst hr1; subst hr2
          have hall := (read_all HGm.out hlt HRB.out.symm).2
          have HALL := Lib.hid hall
          have hd : (!(a2.kind == a2.kind && a2.job == a2.job && a2.every == a2.every && a2.time == a2.time && a2.client == a2.client)) = false := by simp
          clear hall
          go_upto_region 17 with fail
          have hbA : Onto w12 (w12.alloc (Obj.cells #[.int .i64 a2.kind, .int .i64 a2.job, .int .i64 a2.every, .int .i64 a2.time, .int .i64 a2.client] 24)) := (Below.refl _ _).alloc (Nat.le_refl _) _
          have h13 := Onto.to h12 hbA
          have hm13 := Us.onto hm12 hbA
          have g0b := cellB hbA g0; have g1b := cellB hbA g1; have g2b := cellB hbA g2; have g3b := cellB hbA g3; have g4b := cellB hbA g4
          have v0 : (w12.alloc (Obj.cells #[.int .i64 a2.kind, .int .i64 a2.job, .int .i64 a2.every, .int .i64 a2.time, .int .i64 a2.client] 24)).cell? ⟨w12.heap.size, 0, none⟩ = some (.int .i64 a2.kind) := by simp [go_sem]
          have v1 : (w12.alloc (Obj.cells #[.int .i64 a2.kind, .int .i64 a2.job, .int .i64 a2.every, .int .i64 a2.time, .int .i64 a2.client] 24)).cell? ⟨w12.heap.size, 1, none⟩ = some (.int .i64 a2.job) := by simp [go_sem]
          have v2 : (w12.alloc (Obj.cells #[.int .i64 a2.kind, .int .i64 a2.job, .int .i64 a2.every, .int .i64 a2.time, .int .i64 a2.client] 24)).cell? ⟨w12.heap.size, 2, none⟩ = some (.int .i64 a2.every) := by simp [go_sem]
          have v3 : (w12.alloc (Obj.cells #[.int .i64 a2.kind, .int .i64 a2.job, .int .i64 a2.every, .int .i64 a2.time, .int .i64 a2.client] 24)).cell? ⟨w12.heap.size, 3, none⟩ = some (.int .i64 a2.time) := by simp [go_sem]
          have v4 : (w12.alloc (Obj.cells #[.int .i64 a2.kind, .int .i64 a2.job, .int .i64 a2.every, .int .i64 a2.time, .int .i64 a2.client] 24)).cell? ⟨w12.heap.size, 4, none⟩ = some (.int .i64 a2.client) := by simp [go_sem]
          have hz13 : w12.heap.size < (w12.alloc (Obj.cells #[.int .i64 a2.kind, .int .i64 a2.job, .int .i64 a2.every, .int .i64 a2.time, .int .i64 a2.client] 24)).heap.size := by simp
          clear hbA h12 hm12 g0 g1 g2 g3 g4
          generalize (w12.alloc (Obj.cells #[.int .i64 a2.kind, .int .i64 a2.job, .int .i64 a2.every, .int .i64 a2.time, .int .i64 a2.client] 24)) = w13 at *
          go_wp2_with fail
          go_loopw [117] (fun q ws => ∃ q' : Nat, q' ≤ 3 ∧ q = .int .i64 q' ∧ Onto w13 ws) (fun q _ => 3 - (intOf q).toNat)
          case atStart => exact ⟨0, by omega, rfl, Below.refl _ _⟩
          case round =>
            obtain ⟨q, hq, rfl, hbs⟩ := hrel
            by_cases hq3 : q < 3
            · obtain ⟨b4, off4, v, hA4, hz4, hv, e0, e1, hsv, hvl⟩ := (Us.onto hm13 hbs).atU hq3
              injection hA4 with hA4
              injection hA4 with e2 e3 _
              subst e2; subst e3
              have hgv := HGm.out.ok v.u (List.mem_map.2 ⟨v, List.mem_of_getElem? hv, rfl⟩)
              have hvn : v.n = 60 := by rw [← hvl]; exact hgv.len
              rw [hvn] at hsv e1
              obtain ⟨b5, off5, z, hA5, hz5, hz, d0, d1, d2, d3, d4⟩ := hsv.atE hlt
              have hza : z = a2 := by
                rw [← HALL.out q hq3, uniAt_unis hv]
                exact (cellAt_eq hz).symm
              subst hza
              rw [hA5] at e1
              have g0 := cellB hbs g0b; have g1 := cellB hbs g1b; have g2 := cellB hbs g2b; have g3 := cellB hbs g3b; have g4 := cellB hbs g4b
              have hzg := World.block_lt_of_cell? _ _ g0
              simp only at hzg
              have hal : ∀ o, Onto wr (wr.alloc o) := fun o => (Below.refl _ _).alloc (Nat.le_refl _) _
              clear hsv hvl hvn hgv hv hz hA5
              go_wp2_with fail
              go_quiet (fail)
              go_wp2_with fail
              go_roundw
              case measure => simp [intOf] <;> omega
              case rel => exact ⟨q + 1, by omega, by go_num, Onto.to hbs (Onto.draws (hal _) _)⟩
            · obtain rfl : q = 3 := by omega
              go_wp2_with fail
              go_roundw
              case measure => simp [intOf] <;> omega
              case rel => exact ⟨p + 1, by omega, by go_num, Onto.to h13 hbs⟩
        · have hea' : (ea == 0) = false := by simpa using hea
          have hea2 : (ea != 0) = true := by simpa using hea
          clear hea
          go_wp2_with fail
          go_roundw
          case measure => simp [intOf] <;> omega
          case rel => exact ⟨p + 1, by omega, by go_num, Onto.new h12 _⟩
      · obtain rfl : p = 60 := by omega
        go_wp2_with fail
        go_ret
        exact ⟨rfl, Onto.to h9 hbr⟩
  · have hrk : (r.kind != 0) = true := by rw [hr0]; rfl
    have hd1 : (!(s.kind == x.kind && s.job == x.job && s.every == x.every && s.time == x.time && s.client == x.client)) = false := by simp [hsx]
    have hd2 : (r.at_ != (j : Int)) = false := by simp [hr0]
    obtain ⟨b, off, u, rfl, hzu, hu, e0, e1, hsu, hul⟩ := hl.atU hi3
    have hgu := HGl.out.ok u.u (List.mem_map.2 ⟨u, List.mem_of_getElem? hu, rfl⟩)
    have hun : u.n = 60 := by rw [← hul]; exact hgu.len
    rw [hun] at hsu e1
    have huu := uniAt_unis hu
    have hnx : nextU ⟨u.ep, u.cells⟩ ⟨r.kind, r.at_, r.epoch, r.e⟩ = (putU u.u j x, 0) := by
      rw [hr0]
      exact next_put (u := u.u) hgu hj60 HX.out (by rw [← huu]; exact hb4)
    have HNX := Lib.hid hnx; have HU := Lib.hid huu; have HU0 := Lib.hid hu; have HSX := Lib.hid hsx; have HB4 := Lib.hid hb4
    have hne := neqE
    have hi3' : (i : Int) < 3 := by omega
    have HPL := Lib.hid (putU_good (j := j) hgu HX.out).len
    clear hnx huu hgu hr0 hul hun hu hsx hb4
    go_wp2_with fail
    go_region_held3 (fun w' => w'.cell? ⟨b, off + i * 2, none⟩ = some (.int .i64 u.ep) ∧ w'.cell? ⟨b, off + i * 2 + 1, none⟩ = some (.slice u.A 60 u.c) ∧ w'.cell? ⟨w1.heap.size, 0, none⟩ = some (.int .i64 r.kind) ∧ w'.cell? ⟨w1.heap.size, 1, none⟩ = some (.int .i64 r.at_) ∧ w'.cell? ⟨w1.heap.size, 2, none⟩ = some (.int .i64 r.epoch) ∧ w'.cell? ⟨w1.heap.size, 3, none⟩ = some (.int .i64 r.e.kind) ∧ w'.cell? ⟨w1.heap.size, 4, none⟩ = some (.int .i64 r.e.job) ∧ w'.cell? ⟨w1.heap.size, 5, none⟩ = some (.int .i64 r.e.every) ∧ w'.cell? ⟨w1.heap.size, 6, none⟩ = some (.int .i64 r.e.time) ∧ w'.cell? ⟨w1.heap.size, 7, none⟩ = some (.int .i64 r.e.client))
      (first | exact ⟨cellB hbN (cellA e0 _), cellB hbN (cellA e1 _), cellB hbN (cellA r0 _), cellB hbN (cellA r1 _), cellB hbN (cellA r2 _), cellB hbN (cellA r3 _), cellB hbN (cellA r4 _), cellB hbN (cellA r5 _), cellB hbN (cellA r6 _), cellB hbN (cellA r7 _)⟩ | exact ⟨cellS (cellS (cellB hbN (cellA e0 _)) (by simp only; omega)) (by simp only; omega), cellS (cellS (cellB hbN (cellA e1 _)) (by simp only; omega)) (by simp only; omega), cellS (cellS (cellB hbN (cellA r0 _)) (by simp only; omega)) (by simp only; omega), cellS (cellS (cellB hbN (cellA r1 _)) (by simp only; omega)) (by simp only; omega), cellS (cellS (cellB hbN (cellA r2 _)) (by simp only; omega)) (by simp only; omega), cellS (cellS (cellB hbN (cellA r3 _)) (by simp only; omega)) (by simp only; omega), cellS (cellS (cellB hbN (cellA r4 _)) (by simp only; omega)) (by simp only; omega), cellS (cellS (cellB hbN (cellA r5 _)) (by simp only; omega)) (by simp only; omega), cellS (cellS (cellB hbN (cellA r6 _)) (by simp only; omega)) (by simp only; omega), cellS (cellS (cellB hbN (cellA r7 _)) (by simp only; omega)) (by simp only; omega)⟩ | exact ⟨cellS (cellB hbN (cellA e0 _)) (by simp only; omega), cellS (cellB hbN (cellA e1 _)) (by simp only; omega), cellS (cellB hbN (cellA r0 _)) (by simp only; omega), cellS (cellB hbN (cellA r1 _)) (by simp only; omega), cellS (cellB hbN (cellA r2 _)) (by simp only; omega), cellS (cellB hbN (cellA r3 _)) (by simp only; omega), cellS (cellB hbN (cellA r4 _)) (by simp only; omega), cellS (cellB hbN (cellA r5 _)) (by simp only; omega), cellS (cellB hbN (cellA r6 _)) (by simp only; omega), cellS (cellB hbN (cellA r7 _)) (by simp only; omega)⟩ | exact ⟨cellA e0 _, cellA e1 _, cellA r0 _, cellA r1 _, cellA r2 _, cellA r3 _, cellA r4 _, cellA r5 _, cellA r6 _, cellA r7 _⟩ | exact ⟨cellA (cellB hbN e0) _, cellA (cellB hbN e1) _, cellA (cellB hbN r0) _, cellA (cellB hbN r1) _, cellA (cellB hbN r2) _, cellA (cellB hbN r3) _, cellA (cellB hbN r4) _, cellA (cellB hbN r5) _, cellA (cellB hbN r6) _, cellA (cellB hbN r7) _⟩ | exact ⟨e0, e1, r0, r1, r2, r3, r4, r5, r6, r7⟩ | exact ⟨cellB hbN e0, cellB hbN e1, cellB hbN r0, cellB hbN r1, cellB hbN r2, cellB hbN r3, cellB hbN r4, cellB hbN r5, cellB hbN r6, cellB hbN r7⟩ | go_keep)
      (first
        | (go_at_call 15; refine Calls.mono (UNext_calls u.ep u.A 60 u.c u.cells r.kind r.at_ r.epoch r.e _ (by first | exact hsu.draw | exact (hsu.new _).draw)) ?_; rw [HNX.out]; rintro e w4 ⟨A', n', c', rfl, hsN, hbN, hnc', hcm', hfr⟩; first | (have hbT : Onto ((w3.alloc (Obj.cells #[.int .i64 0, .slice none 0 0] 34)).drew) w4 := hbN; have tz0 : w4.cell? ⟨w3.heap.size, 0, none⟩ = some (.int .i64 0) := cellB hbT (by simp [go_sem]); have tz1 : w4.cell? ⟨w3.heap.size, 1, none⟩ = some (.slice none 0 0) := cellB hbT (by simp [go_sem]); have tf0 : w4.frozen? ⟨w3.heap.size, 0, none⟩ = false := frozB hbT (v := .int .i64 0) (by simp [go_sem]) (by simp [go_sem]); have tf1 : w4.frozen? ⟨w3.heap.size, 1, none⟩ = false := frozB hbT (v := .slice none 0 0) (by simp [go_sem]) (by simp [go_sem])) | skip))
    all_goals first
      | (have hbT := hbT; have hb4 := Onto.to ((Onto.new (Onto.rfl' w3) (Obj.cells #[.int .i64 0, .slice none 0 0] 34)).draw) hbT; have hb5 : Onto w3 ((w4.setCell ⟨w3.heap.size, 0, none⟩ (.int .i64 (putU u.u j x).ep)).setCell ⟨w3.heap.size, 1, none⟩ (.slice A' n' c')) := (hb4.put (by simp) _).put (by simp) _; have t0 : ((w4.setCell ⟨w3.heap.size, 0, none⟩ (.int .i64 (putU u.u j x).ep)).setCell ⟨w3.heap.size, 1, none⟩ (.slice A' n' c')).cell? ⟨w3.heap.size, 0, none⟩ = some (.int .i64 (putU u.u j x).ep) := (by simp [go_sem, tz0, tz1]); have t1 : ((w4.setCell ⟨w3.heap.size, 0, none⟩ (.int .i64 (putU u.u j x).ep)).setCell ⟨w3.heap.size, 1, none⟩ (.slice A' n' c')).cell? ⟨w3.heap.size, 1, none⟩ = some (.slice A' n' c') := (by simp [go_sem, tz0, tz1]); have x0' : ((w4.setCell ⟨w3.heap.size, 0, none⟩ (.int .i64 (putU u.u j x).ep)).setCell ⟨w3.heap.size, 1, none⟩ (.slice A' n' c')).cell? ⟨w.heap.size, 0, none⟩ = some (.int .i64 x.kind) := cellS (cellS (cellB hbN (cellA x0 _)) (by simp only; omega)) (by simp only; omega); have x1' : ((w4.setCell ⟨w3.heap.size, 0, none⟩ (.int .i64 (putU u.u j x).ep)).setCell ⟨w3.heap.size, 1, none⟩ (.slice A' n' c')).cell? ⟨w.heap.size, 1, none⟩ = some (.int .i64 x.job) := cellS (cellS (cellB hbN (cellA x1 _)) (by simp only; omega)) (by simp only; omega); have x2' : ((w4.setCell ⟨w3.heap.size, 0, none⟩ (.int .i64 (putU u.u j x).ep)).setCell ⟨w3.heap.size, 1, none⟩ (.slice A' n' c')).cell? ⟨w.heap.size, 2, none⟩ = some (.int .i64 x.every) := cellS (cellS (cellB hbN (cellA x2 _)) (by simp only; omega)) (by simp only; omega); have x3' : ((w4.setCell ⟨w3.heap.size, 0, none⟩ (.int .i64 (putU u.u j x).ep)).setCell ⟨w3.heap.size, 1, none⟩ (.slice A' n' c')).cell? ⟨w.heap.size, 3, none⟩ = some (.int .i64 x.time) := cellS (cellS (cellB hbN (cellA x3 _)) (by simp only; omega)) (by simp only; omega); have x4' : ((w4.setCell ⟨w3.heap.size, 0, none⟩ (.int .i64 (putU u.u j x).ep)).setCell ⟨w3.heap.size, 1, none⟩ (.slice A' n' c')).cell? ⟨w.heap.size, 4, none⟩ = some (.int .i64 x.client) := cellS (cellS (cellB hbN (cellA x4 _)) (by simp only; omega)) (by simp only; omega); have s0' : ((w4.setCell ⟨w3.heap.size, 0, none⟩ (.int .i64 (putU u.u j x).ep)).setCell ⟨w3.heap.size, 1, none⟩ (.slice A' n' c')).cell? ⟨w1.heap.size + 1, 0, none⟩ = some (.int .i64 s.kind) := cellS (cellS (cellB hbN (cellA s0 _)) (by simp only; omega)) (by simp only; omega); have s1' : ((w4.setCell ⟨w3.heap.size, 0, none⟩ (.int .i64 (putU u.u j x).ep)).setCell ⟨w3.heap.size, 1, none⟩ (.slice A' n' c')).cell? ⟨w1.heap.size + 1, 1, none⟩ = some (.int .i64 s.job) := cellS (cellS (cellB hbN (cellA s1 _)) (by simp only; omega)) (by simp only; omega); have s2' : ((w4.setCell ⟨w3.heap.size, 0, none⟩ (.int .i64 (putU u.u j x).ep)).setCell ⟨w3.heap.size, 1, none⟩ (.slice A' n' c')).cell? ⟨w1.heap.size + 1, 2, none⟩ = some (.int .i64 s.every) := cellS (cellS (cellB hbN (cellA s2 _)) (by simp only; omega)) (by simp only; omega); have s3' : ((w4.setCell ⟨w3.heap.size, 0, none⟩ (.int .i64 (putU u.u j x).ep)).setCell ⟨w3.heap.size, 1, none⟩ (.slice A' n' c')).cell? ⟨w1.heap.size + 1, 3, none⟩ = some (.int .i64 s.time) := cellS (cellS (cellB hbN (cellA s3 _)) (by simp only; omega)) (by simp only; omega); have s4' : ((w4.setCell ⟨w3.heap.size, 0, none⟩ (.int .i64 (putU u.u j x).ep)).setCell ⟨w3.heap.size, 1, none⟩ (.slice A' n' c')).cell? ⟨w1.heap.size + 1, 4, none⟩ = some (.int .i64 s.client) := cellS (cellS (cellB hbN (cellA s4 _)) (by simp only; omega)) (by simp only; omega); have r1' : ((w4.setCell ⟨w3.heap.size, 0, none⟩ (.int .i64 (putU u.u j x).ep)).setCell ⟨w3.heap.size, 1, none⟩ (.slice A' n' c')).cell? ⟨w1.heap.size, 1, none⟩ = some (.int .i64 r.at_) := cellS (cellS (cellB hbN (cellA r1 _)) (by simp only; omega)) (by simp only; omega); have hsN5 := S.off (S.off hsN (p := ⟨w3.heap.size, 0, none⟩) (Fresh.offB hfr (by simp)) (.int .i64 (putU u.u j x).ep)) (p := ⟨w3.heap.size, 1, none⟩) (Fresh.offB hfr (by simp)) (.slice A' n' c'); have hfr' : Fresh w3.heap.size A' := fun a e => Nat.le_trans (by simp) (hfr a e); generalize ((w4.setCell ⟨w3.heap.size, 0, none⟩ (.int .i64 (putU u.u j x).ep)).setCell ⟨w3.heap.size, 1, none⟩ (.slice A' n' c')) = w5 at t0 t1 x0' x1' x2' x3' x4' s0' s1' s2' s3' s4' r1' hb5 hsN5 ⊢)
      | (have hb4 := Onto.to ((Onto.rfl' w3).draw) hbN; have hb5 : Onto w3 (w4.alloc (Obj.cells #[.int .i64 (putU u.u j x).ep, .slice A' n' c'] 34)) := hb4.new _; have t0 : (w4.alloc (Obj.cells #[.int .i64 (putU u.u j x).ep, .slice A' n' c'] 34)).cell? ⟨w4.heap.size, 0, none⟩ = some (.int .i64 (putU u.u j x).ep) := (by simp [go_sem]); have t1 : (w4.alloc (Obj.cells #[.int .i64 (putU u.u j x).ep, .slice A' n' c'] 34)).cell? ⟨w4.heap.size, 1, none⟩ = some (.slice A' n' c') := (by simp [go_sem]); have x0' : (w4.alloc (Obj.cells #[.int .i64 (putU u.u j x).ep, .slice A' n' c'] 34)).cell? ⟨w.heap.size, 0, none⟩ = some (.int .i64 x.kind) := cellA (cellB hbN x0) _; have x1' : (w4.alloc (Obj.cells #[.int .i64 (putU u.u j x).ep, .slice A' n' c'] 34)).cell? ⟨w.heap.size, 1, none⟩ = some (.int .i64 x.job) := cellA (cellB hbN x1) _; have x2' : (w4.alloc (Obj.cells #[.int .i64 (putU u.u j x).ep, .slice A' n' c'] 34)).cell? ⟨w.heap.size, 2, none⟩ = some (.int .i64 x.every) := cellA (cellB hbN x2) _; have x3' : (w4.alloc (Obj.cells #[.int .i64 (putU u.u j x).ep, .slice A' n' c'] 34)).cell? ⟨w.heap.size, 3, none⟩ = some (.int .i64 x.time) := cellA (cellB hbN x3) _; have x4' : (w4.alloc (Obj.cells #[.int .i64 (putU u.u j x).ep, .slice A' n' c'] 34)).cell? ⟨w.heap.size, 4, none⟩ = some (.int .i64 x.client) := cellA (cellB hbN x4) _; have s0' : (w4.alloc (Obj.cells #[.int .i64 (putU u.u j x).ep, .slice A' n' c'] 34)).cell? ⟨w1.heap.size + 1, 0, none⟩ = some (.int .i64 s.kind) := cellA (cellB hbN s0) _; have s1' : (w4.alloc (Obj.cells #[.int .i64 (putU u.u j x).ep, .slice A' n' c'] 34)).cell? ⟨w1.heap.size + 1, 1, none⟩ = some (.int .i64 s.job) := cellA (cellB hbN s1) _; have s2' : (w4.alloc (Obj.cells #[.int .i64 (putU u.u j x).ep, .slice A' n' c'] 34)).cell? ⟨w1.heap.size + 1, 2, none⟩ = some (.int .i64 s.every) := cellA (cellB hbN s2) _; have s3' : (w4.alloc (Obj.cells #[.int .i64 (putU u.u j x).ep, .slice A' n' c'] 34)).cell? ⟨w1.heap.size + 1, 3, none⟩ = some (.int .i64 s.time) := cellA (cellB hbN s3) _; have s4' : (w4.alloc (Obj.cells #[.int .i64 (putU u.u j x).ep, .slice A' n' c'] 34)).cell? ⟨w1.heap.size + 1, 4, none⟩ = some (.int .i64 s.client) := cellA (cellB hbN s4) _; have r1' : (w4.alloc (Obj.cells #[.int .i64 (putU u.u j x).ep, .slice A' n' c'] 34)).cell? ⟨w1.heap.size, 1, none⟩ = some (.int .i64 r.at_) := cellA (cellB hbN r1) _; have hsN5 := S.new hsN (Obj.cells #[.int .i64 (putU u.u j x).ep, .slice A' n' c'] 34); have hfr' : Fresh w3.heap.size A' := hfr; generalize (w4.alloc (Obj.cells #[.int .i64 (putU u.u j x).ep, .slice A' n' c'] 34)) = w5 at t0 t1 x0' x1' x2' x3' x4' s0' s1' s2' s3' s4' r1' hb5 hsN5 ⊢)
    all_goals
      have hn60 : 60 = n' := by have h1 := hsN5.len; have h2 := HPL.out; simp only [List.length_map] at h1; omega
      subst hn60
      have hl5 := Us.onto hl hb5
      have hm5 := hmm.onto hb5
      have hW5 := Onto.to hW hb5
      obtain ⟨bm, offm, hAm, hbm, hunf⟩ := hm5.2 (by omega)
      subst hAm
      obtain ⟨bm', offm', um, hAm', hzm, hum, m0, m1⟩ := hm5.1.at2 hi3
      injection hAm' with hAm'
      injection hAm' with e2 e3 _
      subst e2; subst e3
      have u0 := hunf.frozen (offm + i * 2); have u1 := hunf.frozen (offm + i * 2 + 1)
      have HMM := Lib.hid hm5
      have HLB := Lib.hid h
      have hbz : bm < w3.heap.size := by
        obtain ⟨b', off', e', h1, _⟩ := hmm.1.2.2 (by omega)
        injection e' with e'; injection e' with e4 _ _; omega
      have hbw : w.heap.size ≤ bm := by omega
      have HUN := Lib.hid hunf
      clear x0 x1 x2 x3 x4 s0 s1 s2 s3 s4 r1 r0 r2 r3 r4 r5 r6 r7 e0 e1 hm5 hunf hmm hl hW hb5 hsu hb3
      go_upto_region 10 with fail
      obtain ⟨v', hv'⟩ : ∃ v', v' = (⟨(putU u.u j x).ep, A', 60, c', (putU u.u j x).cells⟩ : UV) := ⟨_, rfl⟩
      obtain ⟨lm, hlm⟩ : ∃ lm, lm = l.set i v' := ⟨_, rfl⟩
      have hset : unis lm = (unis l).set i (putU (uniAt (unis l) i) j x) := by rw [hlm, HU.out, hv']; simp [unis, List.map_set]; rfl
      have hfr2 : 0 < i → cellAt (uniAt (unis l) (i - 1)).cells j = x := fun h => HF.out (by omega)
      have hli : i < (unis l).length := by rw [HGl.out.len]; exact hi3
      have HGm : Hid (GoodC (unis lm)) := by show GoodC _; rw [hset]; exact set_good HGl.out hi3 hj60 HX.out HB4.out hfr2
      have HS : Hid (cellAt (uniAt (unis lm) i).cells j = s) := by
        show cellAt _ _ = _
        rw [hset, uniAt_eq (List.getElem?_set_self hli)]
        show cellAt ((uniAt (unis l) i).cells.set j x) j = s
        rw [cellAt_set (by rw [HU.out]; have := HPL.out; simp only [putU, List.length_set] at this; omega), if_pos rfl, HSX.out]
      have HRD : Hid (∀ (p : Nat) a, p < 60 → readC (unis l) (p : Int) = (a, 0) → readC (unis lm) (p : Int) = (a, 0)) := by
        show ∀ (p : Nat) a, _
        intro p a hp hr
        rw [hset]
        exact set_read HGl.out hi3 hj60 hp HX.out HB4.out hfr2 hr
      have hm6 : Us ((w5.setCell ⟨bm, offm + i * 2, none⟩ (.int .i64 (putU u.u j x).ep)).setCell ⟨bm, offm + i * 2 + 1, none⟩ (.slice A' 60 c')) (some ⟨bm, offm, none⟩) 3 lm := by
        rw [hlm]
        refine ⟨?_, fun v hv => ?_, fun v hv => ?_⟩
        · have := (HMM.out.putU hi3 v').sl
          rw [hv'] at this ⊢
          exact this
        · rcases List.mem_or_eq_of_mem_set hv with h1 | h1
          · exact ((hl5.cells v h1).off ((HLB.out.cells v h1).offN hbw) _).off ((HLB.out.cells v h1).offN hbw) _
          · rw [h1, hv']
            exact (hsN5.off (Fresh.offB hfr' hbz) _).off (Fresh.offB hfr' hbz) _
        · rcases List.mem_or_eq_of_mem_set hv with h1 | h1
          · exact hl5.caps v h1
          · rw [h1, hv']; exact ⟨hnc', hcm'⟩
      have hl6 : Us ((w5.setCell ⟨bm, offm + i * 2, none⟩ (.int .i64 (putU u.u j x).ep)).setCell ⟨bm, offm + i * 2 + 1, none⟩ (.slice A' 60 c')) (some ⟨b, off, none⟩) 3 l := Us.off (Us.off hl5 (HLB.out.rows.offN hbw) (fun v hv => (HLB.out.cells v hv).offN hbw) _ _) (HLB.out.rows.offN hbw) (fun v hv => (HLB.out.cells v hv).offN hbw) _ _
      have hW6 : Onto w ((w5.setCell ⟨bm, offm + i * 2, none⟩ (.int .i64 (putU u.u j x).ep)).setCell ⟨bm, offm + i * 2 + 1, none⟩ (.slice A' 60 c')) := (hW5.put hbw _).put hbw _
      have s0 : ((w5.setCell ⟨bm, offm + i * 2, none⟩ (.int .i64 (putU u.u j x).ep)).setCell ⟨bm, offm + i * 2 + 1, none⟩ (.slice A' 60 c')).cell? ⟨w1.heap.size + 1, 0, none⟩ = some (.int .i64 s.kind) := cellS (cellS s0' (by simp only; omega)) (by simp only; omega)
      have s1 : ((w5.setCell ⟨bm, offm + i * 2, none⟩ (.int .i64 (putU u.u j x).ep)).setCell ⟨bm, offm + i * 2 + 1, none⟩ (.slice A' 60 c')).cell? ⟨w1.heap.size + 1, 1, none⟩ = some (.int .i64 s.job) := cellS (cellS s1' (by simp only; omega)) (by simp only; omega)
      have s2 : ((w5.setCell ⟨bm, offm + i * 2, none⟩ (.int .i64 (putU u.u j x).ep)).setCell ⟨bm, offm + i * 2 + 1, none⟩ (.slice A' 60 c')).cell? ⟨w1.heap.size + 1, 2, none⟩ = some (.int .i64 s.every) := cellS (cellS s2' (by simp only; omega)) (by simp only; omega)
      have s3 : ((w5.setCell ⟨bm, offm + i * 2, none⟩ (.int .i64 (putU u.u j x).ep)).setCell ⟨bm, offm + i * 2 + 1, none⟩ (.slice A' 60 c')).cell? ⟨w1.heap.size + 1, 3, none⟩ = some (.int .i64 s.time) := cellS (cellS s3' (by simp only; omega)) (by simp only; omega)
      have s4 : ((w5.setCell ⟨bm, offm + i * 2, none⟩ (.int .i64 (putU u.u j x).ep)).setCell ⟨bm, offm + i * 2 + 1, none⟩ (.slice A' 60 c')).cell? ⟨w1.heap.size + 1, 4, none⟩ = some (.int .i64 s.client) := cellS (cellS s4' (by simp only; omega)) (by simp only; omega)
      clear hset hfr2 hli hlm hv' hl5 hW5 hsN5 hfr' HMM hbz u0 u1 m0 m1 t0 t1 HUN HLB x0' x1' x2' x3' x4' s0' s1' s2' s3' s4' r1' hzm hum
      change Code.wp _ _ _ _ ((w5.setCell ⟨bm, offm + i * 2, none⟩ (.int .i64 (putU u.u j x).ep)).setCell ⟨bm, offm + i * 2 + 1, none⟩ (.slice A' 60 c'))
      generalize ((w5.setCell ⟨bm, offm + i * 2, none⟩ (.int .i64 (putU u.u j x).ep)).setCell ⟨bm, offm + i * 2 + 1, none⟩ (.slice A' 60 c')) = w6 at s0 s1 s2 s3 s4 hl6 hm6 hW6 ⊢
      have hl := hl6; have hm := hm6; have hW := hW6
      clear hl6 hm6 hW6 hne
      obtain ⟨bm, offm, um, hAm, hzm, hum, f0, f1, hsm, huml⟩ := hm.atU (i := i) (by omega)
      have hgm := HGm.out.ok um.u (List.mem_map.2 ⟨um, List.mem_of_getElem? hum, rfl⟩)
      have humn : um.n = 60 := by rw [← huml]; exact hgm.len
      rw [humn] at hsm f1
      obtain ⟨bc, offc, y, hAc, hzc, hy, d0, d1, d2, d3, d4⟩ := hsm.atE hj60
      have hys : y = s := by
        rw [← HS.out, uniAt_unis hum]
        exact (cellAt_eq hy).symm
      subst hys
      rw [hAc] at f1
      have hd : (!(y.kind == y.kind && y.job == y.job && y.every == y.every && y.time == y.time && y.client == y.client)) = false := by simp
      have hne := neqE
      have hi3' : (i : Int) < 3 := by omega
      have hj60' : (j : Int) < 60 := by omega
      have hAm' := hAm
      rw [hAm]
      have k0 := onto_cell f0; have k1 := onto_cell f1; have k2 := onto_cell d0; have k3 := onto_cell d1; have k4 := onto_cell d2; have k5 := onto_cell d3; have k6 := onto_cell d4; have k7 := onto_cell s0; have k8 := onto_cell s1; have k9 := onto_cell s2; have k10 := onto_cell s3; have k11 := onto_cell s4
      have k20 := onto_size hzm; have k21 := onto_size hzc
      rw [hAm] at hm
      refine wp_region_onto (by kernel_rfl) (by kernel_rfl) ?_
      repeat (go_big_quiet_step ((first
        | (go_at_call 16; exact calls_onto' (u := .int .i64 0) (CCheck_calls _ 3 cm lm _ (Us.onto hm (onto_on _ _))) (by rw [checkC_iff.2 HGm.out])))))
      refine wpQuiet_nil ?_
      intro w9 hb9
      have h9 := Onto.to hW hb9
      have hl9 := Us.onto hl hb9
      have hm9 := Us.onto hm hb9
      clear k0 k1 k2 k3 k4 k5 k6 k7 k8 k9 k10 k11 k20 k21 f0 f1 d0 d1 d2 d3 d4 s0 s1 s2 s3 s4 hb9 hl hm hW hsm hzm hzc hAc hum huml humn hgm hd HS
      go_wp2_with fail
      go_loopw [87] (fun q wr => ∃ p : Nat, p ≤ 60 ∧ q = .int .i64 p ∧ Onto w9 wr) (fun q _ => 60 - (intOf q).toNat)
      case atStart => exact ⟨0, by omega, rfl, Below.refl _ _⟩
      case round =>
        obtain ⟨p, hp, rfl, hbr⟩ := hrel
        by_cases hlt : p < 60
        · have hl10 := Us.onto hl9 hbr
          have hm10 := Us.onto hm9 hbr
          have hlt' : (p : Int) < 60 := by omega
          obtain ⟨ra, hra⟩ : ∃ ra, ra = readC (unis l) p := ⟨_, rfl⟩
          obtain ⟨rb, hrb⟩ : ∃ rb, rb = readC (unis lm) p := ⟨_, rfl⟩
          have HRA := Lib.hid hra; have HRB := Lib.hid hrb
          clear hra hrb
          go_wp2_with fail
          refine Calls.mono (Read_calls _ 3 c l p _ hl10) ?_
          rw [← HRA.out]
          rintro e w11 ⟨rfl, hb11⟩
          have hm11 := Us.onto hm10 hb11
          have h11 := Onto.to hbr hb11
          clear hl10 hm10 hb11
          go_wp2_with fail
          refine Calls.mono (Read_calls _ 3 cm lm p _ (hm11.new _)) ?_
          rw [← HRB.out]
          rintro e w12 ⟨rfl, hb12⟩
          have g0 : w12.cell? ⟨w11.heap.size, 0, none⟩ = some (.int .i64 ra.1.kind) := cellB hb12 (by simp [go_sem])
          have g1 : w12.cell? ⟨w11.heap.size, 1, none⟩ = some (.int .i64 ra.1.job) := cellB hb12 (by simp [go_sem])
          have g2 : w12.cell? ⟨w11.heap.size, 2, none⟩ = some (.int .i64 ra.1.every) := cellB hb12 (by simp [go_sem])
          have g3 : w12.cell? ⟨w11.heap.size, 3, none⟩ = some (.int .i64 ra.1.time) := cellB hb12 (by simp [go_sem])
          have g4 : w12.cell? ⟨w11.heap.size, 4, none⟩ = some (.int .i64 ra.1.client) := cellB hb12 (by simp [go_sem])
          have hm12 := Us.onto (hm11.new _) hb12
          have h12 : Onto w9 w12 := Onto.to (Onto.new h11 _) hb12
          have hz12 : w11.heap.size < w12.heap.size := World.block_lt_of_cell? _ _ g0
          clear hm11 h11 hb12
          rcases ra with ⟨a1, ea⟩
          rcases rb with ⟨a2, eb⟩
          dsimp only at g0 g1 g2 g3 g4 ⊢
          by_cases hea : ea = 0
          · subst hea
            have hrb := HRD.out p a1 hlt HRA.out.symm
            rw [← HRB.out] at hrb
            injection hrb with hr1 hr2
            subst hr1; subst hr2
            have hall := (read_all HGm.out hlt HRB.out.symm).2
            have HALL := Lib.hid hall
            have hd : (!(a2.kind == a2.kind && a2.job == a2.job && a2.every == a2.every && a2.time == a2.time && a2.client == a2.client)) = false := by simp
            clear hall
            go_upto_region 17 with fail
            have hbA : Onto w12 (w12.alloc (Obj.cells #[.int .i64 a2.kind, .int .i64 a2.job, .int .i64 a2.every, .int .i64 a2.time, .int .i64 a2.client] 24)) := (Below.refl _ _).alloc (Nat.le_refl _) _
            have h13 := Onto.to h12 hbA
            have hm13 := Us.onto hm12 hbA
            have g0b := cellB hbA g0; have g1b := cellB hbA g1; have g2b := cellB hbA g2; have g3b := cellB hbA g3; have g4b := cellB hbA g4
            have v0 : (w12.alloc (Obj.cells #[.int .i64 a2.kind, .int .i64 a2.job, .int .i64 a2.every, .int .i64 a2.time, .int .i64 a2.client] 24)).cell? ⟨w12.heap.size, 0, none⟩ = some (.int .i64 a2.kind) := by simp [go_sem]
            have v1 : (w12.alloc (Obj.cells #[.int .i64 a2.kind, .int .i64 a2.job, .int .i64 a2.every, .int .i64 a2.time, .int .i64 a2.client] 24)).cell? ⟨w12.heap.size, 1, none⟩ = some (.int .i64 a2.job) := by simp [go_sem]
            have v2 : (w12.alloc (Obj.cells #[.int .i64 a2.kind, .int .i64 a2.job, .int .i64 a2.every, .int .i64 a2.time, .int .i64 a2.client] 24)).cell? ⟨w12.heap.size, 2, none⟩ = some (.int .i64 a2.every) := by simp [go_sem]
            have v3 : (w12.alloc (Obj.cells #[.int .i64 a2.kind, .int .i64 a2.job, .int .i64 a2.every, .int .i64 a2.time, .int .i64 a2.client] 24)).cell? ⟨w12.heap.size, 3, none⟩ = some (.int .i64 a2.time) := by simp [go_sem]
            have v4 : (w12.alloc (Obj.cells #[.int .i64 a2.kind, .int .i64 a2.job, .int .i64 a2.every, .int .i64 a2.time, .int .i64 a2.client] 24)).cell? ⟨w12.heap.size, 4, none⟩ = some (.int .i64 a2.client) := by simp [go_sem]
            have hz13 : w12.heap.size < (w12.alloc (Obj.cells #[.int .i64 a2.kind, .int .i64 a2.job, .int .i64 a2.every, .int .i64 a2.time, .int .i64 a2.client] 24)).heap.size := by simp
            clear hbA h12 hm12 g0 g1 g2 g3 g4
            generalize (w12.alloc (Obj.cells #[.int .i64 a2.kind, .int .i64 a2.job, .int .i64 a2.every, .int .i64 a2.time, .int .i64 a2.client] 24)) = w13 at *
            go_wp2_with fail
            go_loopw [117] (fun q ws => ∃ q' : Nat, q' ≤ 3 ∧ q = .int .i64 q' ∧ Onto w13 ws) (fun q _ => 3 - (intOf q).toNat)
            case atStart => exact ⟨0, by omega, rfl, Below.refl _ _⟩
            case round =>
              obtain ⟨q, hq, rfl, hbs⟩ := hrel
              by_cases hq3 : q < 3
              · obtain ⟨b4, off4, v, hA4, hz4, hv, e0, e1, hsv, hvl⟩ := (Us.onto hm13 hbs).atU hq3
                injection hA4 with hA4
                injection hA4 with e2 e3 _
                subst e2; subst e3
                have hgv := HGm.out.ok v.u (List.mem_map.2 ⟨v, List.mem_of_getElem? hv, rfl⟩)
                have hvn : v.n = 60 := by rw [← hvl]; exact hgv.len
                rw [hvn] at hsv e1
                obtain ⟨b5, off5, z, hA5, hz5, hz, d0, d1, d2, d3, d4⟩ := hsv.atE hlt
                have hza : z = a2 := by
                  rw [← HALL.out q hq3, uniAt_unis hv]
                  exact (cellAt_eq hz).symm
                subst hza
                rw [hA5] at e1
                have g0 := cellB hbs g0b; have g1 := cellB hbs g1b; have g2 := cellB hbs g2b; have g3 := cellB hbs g3b; have g4 := cellB hbs g4b
                have hzg := World.block_lt_of_cell? _ _ g0
                simp only at hzg
                have hal : ∀ o, Onto wr (wr.alloc o) := fun o => (Below.refl _ _).alloc (Nat.le_refl _) _
                clear hsv hvl hvn hgv hv hz hA5
                go_wp2_with fail
                go_quiet (fail)
                go_wp2_with fail
                go_roundw
                case measure => simp [intOf] <;> omega
                case rel => exact ⟨q + 1, by omega, by go_num, Onto.to hbs (Onto.draws (hal _) _)⟩
              · obtain rfl : q = 3 := by omega
                go_wp2_with fail
                go_roundw
                case measure => simp [intOf] <;> omega
                case rel => exact ⟨p + 1, by omega, by go_num, Onto.to h13 hbs⟩
          · have hea' : (ea == 0) = false := by simpa using hea
            have hea2 : (ea != 0) = true := by simpa using hea
            clear hea
            go_wp2_with fail
            go_roundw
            case measure => simp [intOf] <;> omega
            case rel => exact ⟨p + 1, by omega, by go_num, Onto.new h12 _⟩
        · obtain rfl : p = 60 := by omega
          go_wp2_with fail
          go_ret
          exact ⟨rfl, Onto.to h9 hbr⟩

set_option maxHeartbeats 4000000 in
set_option maxRecDepth 100000 in
theorem Stands_bad (A : Option Addr) (n c : Nat) (l : List UV) (k a : Int) (x : Entry) (ep : Int) (w : World) (h : Us w A n l) (hbad : (linkC (unis l) k a x ep).2.2 ≠ 0) :
    Calls Try.prog 3 #[.slice A n c, .int .i64 k, .int .i64 a, .agg #[.int .i64 x.kind, .int .i64 x.job, .int .i64 x.every, .int .i64 x.time, .int .i64 x.client], .int .i64 ep] w fun e w' => e = .returned (.bool true) ∧ Below w.heap.size w w' := by
  obtain ⟨r, hr⟩ : ∃ r, r = linkC (unis l) k a x ep := ⟨_, rfl⟩
  rw [← hr] at hbad
  have hd : (r.2.2 != 0) = true := by simpa using hbad
  have HR := Lib.hid hr
  clear hr hbad
  go_enter Try.func3, Try.ntmps3
  go_wp2_with fail
  refine Calls.mono (Link_calls A n c l k a x ep _ (h.new _)) ?_
  rw [← HR.out]
  rintro e w1 ⟨rfl, hb1⟩
  have h01 : Onto w w1 := ((Below.refl _ _).alloc (Nat.le_refl _) _).trans (hb1.mono (by simp))
  clear hb1 h
  go_wp2_with fail
  refine Calls.mono (linked_calls _) ?_
  rintro e w2 ⟨rfl, hb2⟩
  have h02 := Onto.to (Onto.new (Onto.new h01 _) _) hb2
  clear hb2 h01
  go_wp2_with fail
  refine Calls.mono (linked_calls _) ?_
  rintro e w3 ⟨rfl, hb3⟩
  have h03 := Onto.to h02 hb3
  clear hb3 h02
  go_wp2_with fail
  go_ret
  exact ⟨rfl, h03⟩

theorem ChainStands_walk (A : Option Addr) (n c : Nat) (l : List UV) (k a : Int) (x : Entry) (ep : Int) (w : World) (h : Us w A n l) (_ : n ≤ c) (_ : c ≤ maxLen) :
    Calls Try.prog 3 #[.slice A n c, .int .i64 k, .int .i64 a, .agg #[.int .i64 x.kind, .int .i64 x.job, .int .i64 x.every, .int .i64 x.time, .int .i64 x.client], .int .i64 ep] w fun e w' => e = .returned (.bool true) ∧ Below w.heap.size w w' := by
  by_cases hb : (linkC (unis l) k a x ep).2.2 = 0
  · exact Stands_good A n c l k a x ep _ _ w h (show linkC (unis l) k a x ep = ((linkC (unis l) k a x ep).1, (linkC (unis l) k a x ep).2.1, 0) by rw [← hb])
  · exact Stands_bad A n c l k a x ep w h hb
end Go.Proofs.Ytbipmoehcmighaa
