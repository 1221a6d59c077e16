/- The law UnitOnce's walk. -/
import Derived.Test.YtdcegdonppfbkaaDoorStood
import Derived.Test.YtdcegdonppfbkaaDoorDRec
import Derived.Test.YtdcegdonppfbkaaDoorDSync
import Derived.Test.YtdcegdonppfbkaaDoorLawK
import Derived.Test.YtdcegdonppfbkaaDoorEBack
namespace Go.Proofs.YtdcegdonppfbkaaDoor
set_option linter.unusedSimpArgs false
set_option linter.unusedVariables false
open Go.RowKit

theorem sizeU : (Tryd.prog.info? 71).map (·.size) = some 2 := by kernel_rfl
theorem DK.puts {w : World} {A A' : Option Addr} {n c m d z : Nat} {x : Dsk} (h : DK w A n c A' m d x) (h1 : OffN n z A) (h2 : OffN m z A') {us : List Value} {o : Nat} : DK (w.setCells z o us) A n c A' m d x :=
  ⟨put_S (w := w) h1 h.safe, put_S (w := w) h2 h.wait, h.n_le, h.c_le, h.m_le, h.d_le⟩
/-- What holds between two rounds: the unit lies at zu, the disk at zd. -/
structure OnceI (w w4 wr : World) (zu zd : Nat) (u : Uni) (d : Dsk) (A : Option Addr) (c : Nat) (F F' : Option Addr) (k i l j : Nat) : Prop where
  on : Onto w wr
  le : w4.heap.size ≤ wr.heap.size
  U : Bx wr zu [.int .i64 u.ep, .slice A 60 c]
  D : Bx wr zd [.slice F k i, .slice F' l j]
  su : S wr 5 A 60 (u.cells.map encE)
  K : DK wr F k i F' l j d
  au : OffN 60 zu A ∧ OffN 60 zd A
  af : OffN k zu F ∧ OffN k zd F
  af' : OffN l zu F' ∧ OffN l zd F'
theorem OnceI.onto {w w4 wr wr' : World} {zu zd : Nat} {u : Uni} {d : Dsk} {A : Option Addr} {c : Nat} {F F' : Option Addr} {k i l j : Nat} (h : OnceI w w4 wr zu zd u d A c F F' k i l j) (b : Onto wr wr') : OnceI w w4 wr' zu zd u d A c F F' k i l j :=
  ⟨h.on.to b, Nat.le_trans h.le b.size, h.U.onto b, h.D.onto b, h.su.onto b, h.K.onto b, h.au, h.af, h.af'⟩

theorem OnceI.putD {w w4 wr : World} {zu zd : Nat} {u : Uni} {d d1 : Dsk} {A : Option Addr} {c : Nat} {F F' F1 F1' : Option Addr} {k i l j k1 i1 l1 j1 : Nat} (h : OnceI w w4 wr zu zd u d A c F F' k i l j) (hz : w.heap.size ≤ zd) (hne : zu ≠ zd)
    (K1 : DK wr F1 k1 i1 F1' l1 j1 d1) (f : Fresh (zd + 1) F1) (f' : Fresh (zd + 1) F1') (hl : zu < zd) : OnceI w w4 (wr.setCells zd 0 [.slice F1 k1 i1, .slice F1' l1 j1]) zu zd u d1 A c F1 F1' k1 i1 l1 j1 :=
  ⟨Onto.puts hz h.on, by rw [put_size]; exact h.le, h.U.off hne, h.D.put rfl, put_S (w := w) h.au.2 h.su, K1.puts (f.offN (by omega)) (f'.offN (by omega)), h.au, ⟨f.offN (by omega), f.offN (by omega)⟩, ⟨f'.offN (by omega), f'.offN (by omega)⟩⟩
theorem OnceI.putU {w w4 wr : World} {zu zd : Nat} {u v : Uni} {d : Dsk} {A A1 : Option Addr} {c c1 : Nat} {F F' : Option Addr} {k i l j : Nat} (h : OnceI w w4 wr zu zd u d A c F F' k i l j) (hz : w.heap.size ≤ zu) (hne : zu ≠ zd)
    (sv : S wr 5 A1 60 (v.cells.map encE)) (f : OffN 60 zu A1 ∧ OffN 60 zd A1) : OnceI w w4 (wr.setCells zu 0 [.int .i64 v.ep, .slice A1 60 c1]) zu zd v d A1 c1 F F' k i l j :=
  ⟨Onto.puts hz h.on, by rw [put_size]; exact h.le, h.U.put rfl, h.D.off (Ne.symm hne), put_S (w := w) f.1 sv, h.K.puts h.af.1 h.af'.1, f, h.af, h.af'⟩
theorem Fresh.mono {lo lo' : Nat} {A : Option Addr} (h : Fresh lo A) (hl : lo' ≤ lo) : Fresh lo' A := fun a e => Nat.le_trans hl (h a e)

set_option maxHeartbeats 16000000 in
set_option maxRecDepth 100000 in
theorem UnitOnce_calls (A0 : Option Addr) (n0 c0 : Nat) (l : List Rec) (w : World) (E : Env w) (h : S w 8 A0 n0 (l.map encQ)) (hnc : n0 ≤ c0) (hcm : c0 ≤ maxLen) :
    Calls Tryd.prog 11 #[.slice A0 n0 c0] w fun e w' => e = .returned (.bool true) ∧ Onto w w' := by
  have hl : l.length = n0 := by have := h.len; simpa using this
  unfold maxLen at hcm
  have HL := Lib.hid hl
  clear hl
  go_enter Tryd.func11, Tryd.ntmps11
  go_wp2_with fail
  refine Calls.mono (stood_calls _) ?_
  rintro e w1 ⟨rfl, on⟩
  go_wp2_with fail
  refine Calls.mono (UNew2_calls _) ?_
  rintro e w2 ⟨A, c, rfl, su, b, hc60, hcM, fr⟩
  replace on := on.to b
  clear b
  go_upto_region 5 with fail
  have hsz3 : (w2.alloc (Obj.cells #[.int .i64 1, .slice A 60 c] 71)).heap.size = w2.heap.size + 1 := by simp
  have hs2 := on.size
  have hofu : OffN 60 w2.heap.size A := su.offN (Nat.le_refl _)
  have ob := (Onto.rfl' w2).new (Obj.cells #[.int .i64 1, .slice A 60 c] 71)
  have BU : Bx (w2.alloc (Obj.cells #[.int .i64 1, .slice A 60 c] 71)) w2.heap.size [.int .i64 1, .slice A 60 c] := Bx.made _ _ _
  replace su := su.onto ob
  replace on := on.to ob
  clear ob
  try change Code.wp _ _ _ _ (w2.alloc (Obj.cells #[.int .i64 1, .slice A 60 c] 71))
  generalize (w2.alloc (Obj.cells #[.int .i64 1, .slice A 60 c] 71)) = w3 at *
  generalize hz_zu : w2.heap.size = zu at *
  have hs3 := on.size
  have hofd : OffN 60 w3.heap.size A := su.offN (Nat.le_refl _)
  have hlt := BU.lt
  have ob := (Onto.rfl' w3).new (Obj.cells #[.slice none 0 0, .slice none 0 0] 53)
  have BD : Bx (w3.alloc (Obj.cells #[.slice none 0 0, .slice none 0 0] 53)) w3.heap.size [.slice none 0 0, .slice none 0 0] := Bx.made _ _ _
  replace su := su.onto ob
  replace BU := BU.onto ob
  replace on := on.to ob
  clear ob
  try change Code.wp _ _ _ _ (w3.alloc (Obj.cells #[.slice none 0 0, .slice none 0 0] 53))
  generalize (w3.alloc (Obj.cells #[.slice none 0 0, .slice none 0 0] 53)) = w4 at *
  generalize hz_zd : w3.heap.size = zd at *
  have hzu : w.heap.size ≤ zu := hs2
  have hzd : w.heap.size ≤ zd := hs3
  have hud : zu ≠ zd := by have := hlt; omega
  have hfz : OffN 60 zu A ∧ OffN 60 zd A := ⟨hofu, hofd⟩
  have hzd1 : zd = zu + 1 := hsz3
  subst hzd1
  clear hz_zu hz_zd hs2 hs3 hlt hofu hofd fr hsz3
  obtain ⟨N, hN⟩ : ∃ N : Nat, N = min n0 80 := ⟨_, rfl⟩
  have hN1 : N ≤ n0 := by omega
  have hN2 : (N : Int) = min (n0 : Int) 80 := by omega
  have i0 : (0 : Int) ≤ (N : Int) := by omega
  have i1 : (N : Int) ≤ (c0 : Int) := by omega
  have hmin : (min (n0 : Int) 80) = (N : Int) := by omega
  clear hN hN2
  go_upto_region 6 with fail
  go_loopg [25] N (fun g s25 wr => ∃ (kk k i l' j' c : Nat) (u : Uni) (d : Dsk) (rs : List Rec) (A F F' : Option Addr), kk ≤ N ∧ N - kk ≤ g ∧ s25 = .int .i64 kk ∧ Hid (OnceI w w4 wr zu (zu + 1) u d A c F F' k i l' j') ∧ Hid (Holds u d rs))
  case atStart =>
    refine ⟨0, 0, 0, 0, 0, c, newU, noK, [], A, none, none, by omega, by omega, rfl, ?_, Holds.new⟩
    exact ⟨on, Nat.le_refl _, BU, BD, su, DK.none_ _, hfz, ⟨fun h => absurd h (by omega), fun h => absurd h (by omega)⟩, ⟨fun h => absurd h (by omega), fun h => absurd h (by omega)⟩⟩
  case round =>
    clear BU BD su hfz on
    obtain ⟨kk, k, i, l', j', c, u, d, rs, A, F, F', hkk, hg, rfl, HI, HH⟩ := hrel
    have on := HI.out.on
    by_cases hlt : kk < N
    · obtain ⟨bq, oq, r, rfl, hbq, hrx, q0, q1, q2, q3, q4, q5, q6, q7⟩ := (h.onto on).atQ (i := kk) (by omega)
      clear hrx
      have hsr := on.size
      have hzr := HI.out.D.lt
      have hN3 : kk < n0 := by omega
      go_upto_region 8 with fail
      have ob := (Onto.rfl' wr).new (Obj.cells #[.int .i64 r.kind, .int .i64 r.at_, .int .i64 r.epoch, .int .i64 r.e.kind, .int .i64 r.e.job, .int .i64 r.e.every, .int .i64 r.e.time, .int .i64 r.e.client] 35)
      have BR : Bx (wr.alloc (Obj.cells #[.int .i64 r.kind, .int .i64 r.at_, .int .i64 r.epoch, .int .i64 r.e.kind, .int .i64 r.e.job, .int .i64 r.e.every, .int .i64 r.e.time, .int .i64 r.e.client] 35)) wr.heap.size [.int .i64 r.kind, .int .i64 r.at_, .int .i64 r.epoch, .int .i64 r.e.kind, .int .i64 r.e.job, .int .i64 r.e.every, .int .i64 r.e.time, .int .i64 r.e.client] := Bx.made _ _ _
      replace on := on.to ob
      have ob' := ob
      clear ob
      have HI5 := Lib.hid (HI.out.onto ob')
      clear HI q0 q1 q2 q3 q4 q5 q6 q7
      try change Code.wp _ _ _ _ (wr.alloc (Obj.cells #[.int .i64 r.kind, .int .i64 r.at_, .int .i64 r.epoch, .int .i64 r.e.kind, .int .i64 r.e.job, .int .i64 r.e.every, .int .i64 r.e.time, .int .i64 r.e.client] 35))
      generalize (wr.alloc (Obj.cells #[.int .i64 r.kind, .int .i64 r.at_, .int .i64 r.epoch, .int .i64 r.e.kind, .int .i64 r.e.job, .int .i64 r.e.every, .int .i64 r.e.time, .int .i64 r.e.client] 35)) = w5 at *
      generalize hz_zr : wr.heap.size = zr at *
      clear ob'
      have hszr : w.heap.size ≤ zr := hsr
      clear hsr hz_zr
      have U5 := HI5.out.U
      have u0 := U5.at_ 0 rfl; have u1 := U5.at_ 1 rfl
      have r0 := BR.at_ 0 rfl; have r1 := BR.at_ 1 rfl; have r2 := BR.at_ 2 rfl; have r3 := BR.at_ 3 rfl; have r4 := BR.at_ 4 rfl; have r5 := BR.at_ 5 rfl; have r6 := BR.at_ 6 rfl; have r7 := BR.at_ 7 rfl
      obtain ⟨v, hv⟩ : ∃ v, v = (nextU u r).1 := ⟨_, rfl⟩
      obtain ⟨er, her⟩ : ∃ v, v = (nextU u r).2 := ⟨_, rfl⟩
      go_wp2_with fail
      refine Calls.mono (UNext_calls u.ep A 60 c u.cells r.kind r.at_ r.epoch r.e _ HI5.out.su) ?_
      rw [show nextU ⟨u.ep, u.cells⟩ ⟨r.kind, r.at_, r.epoch, r.e⟩ = nextU u r from rfl, ← hv, ← her]
      have HV := Lib.hid hv; have HER := Lib.hid her
      clear hv her u0 u1 r0 r1 r2 r3 r4 r5 r6 r7 U5
      rintro e w6 ⟨A1, n1, c1, rfl, sv, b, hn1, hc1, fr⟩
      have hof1 : OffN n1 zu A1 ∧ OffN n1 (zu + 1) A1 := ⟨fr.offN (by have := HI5.out.D.lt; omega), fr.offN HI5.out.D.lt⟩
      clear fr
      have HI6 := Lib.hid (HI5.out.onto b)
      replace on := on.to b; replace BR := BR.onto b
      clear HI5 b
      go_upto_region 9 with fail
      have hzv := HI6.out.D.lt
      have hzrv := BR.lt
      have ob := (Onto.rfl' w6).new (Obj.cells #[.int .i64 v.ep, .slice A1 n1 c1] 71)
      have BV : Bx (w6.alloc (Obj.cells #[.int .i64 v.ep, .slice A1 n1 c1] 71)) w6.heap.size [.int .i64 v.ep, .slice A1 n1 c1] := Bx.made _ _ _
      replace BR := BR.onto ob
      replace on := on.to ob
      have ob' := ob
      clear ob
      have HI7 := Lib.hid (HI6.out.onto ob')
      replace sv := sv.onto ob'
      clear HI6 ob'
      try change Code.wp _ _ _ _ (w6.alloc (Obj.cells #[.int .i64 v.ep, .slice A1 n1 c1] 71))
      generalize (w6.alloc (Obj.cells #[.int .i64 v.ep, .slice A1 n1 c1] 71)) = w7 at *
      generalize hz_zv : w6.heap.size = zv at *
      clear hz_zv
      by_cases he0 : er = 0
      · have hnu : (nextU u r).2 = 0 := by rw [← HER.out]; exact he0
        have hgd := (nextU_good hnu).2.2
        rw [← HV.out] at hgd
        have hchk : checkU v.ep v.cells = 0 := checkU_iff.2 hgd
        have hn60 : n1 = 60 := by have h1 := sv.len; rw [List.length_map] at h1; have h2 := hgd.len; omega
        subst hn60
        have hep : ¬ v.ep < u.ep := by have := (nextU_upon hnu).ep; rw [← HV.out] at this; omega
        have hnc := next_cells hnu
        rw [← HV.out] at hnc
        have HNC := Lib.hid hnc; have HNU := Lib.hid hnu; have HCK := Lib.hid hchk
        clear hnc hnu hgd hchk
        subst he0
        have v0 := BV.at_ 0 rfl; have v1 := BV.at_ 1 rfl
        have u0 := HI7.out.U.at_ 0 rfl
        go_wp2_with fail
        refine Calls.mono (UCheck_calls v.ep A1 60 c1 v.cells _ sv) ?_
        rw [HCK.out]
        rintro e w8 ⟨rfl, b⟩
        have HI8 := Lib.hid (HI7.out.onto b)
        replace sv := sv.onto b; replace BV := BV.onto b; replace BR := BR.onto b; replace on := on.to b
        clear HI7 b v0 v1 u0
        have v0 := BV.at_ 0 rfl
        have u0 := HI8.out.U.at_ 0 rfl; have u1 := HI8.out.U.at_ 1 rfl
        go_upto_region 13 with fail
        clear v0 u0 u1
        go_loopg [50] 60 (fun g s50 wr => ∃ ii : Nat, ii ≤ 60 ∧ 60 - ii ≤ g ∧ s50 = .int .i64 ii ∧ Onto w8 wr)
        case atStart => exact ⟨0, by omega, by omega, rfl, Onto.rfl' _⟩
        case round =>
          obtain ⟨ii, hii, hg2, rfl, b⟩ := hrel
          by_cases hlt2 : ii < 60
          · have sv9 := sv.onto b
            obtain ⟨bu, ou, x, hAu, hbu, hx, e0, e1, e2, e3, e4⟩ := (HI8.out.su.onto b).atE hlt2
            obtain ⟨bv, ov, y, hAv, hbv, hy, d0, d1, d2, d3, d4⟩ := sv9.atE hlt2
            subst hAu
            subst hAv
            have hcx := cellAt_eq hx; have hcy := cellAt_eq hy
            have hn := HNC.out ii
            rw [hcx, hcy] at hn
            have HN := Lib.hid hn
            clear hn hcx hcy hx hy sv9
            go_upto_region 15 with fail
            have ob := (Onto.rfl' wr).new (Obj.cells #[.int .i64 x.kind, .int .i64 x.job, .int .i64 x.every, .int .i64 x.time, .int .i64 x.client] 23)
            have BX : Bx (wr.alloc (Obj.cells #[.int .i64 x.kind, .int .i64 x.job, .int .i64 x.every, .int .i64 x.time, .int .i64 x.client] 23)) wr.heap.size [.int .i64 x.kind, .int .i64 x.job, .int .i64 x.every, .int .i64 x.time, .int .i64 x.client] := Bx.made _ _ _
            replace b := b.to ob
            replace d0 := cellB ob d0; replace d1 := cellB ob d1; replace d2 := cellB ob d2; replace d3 := cellB ob d3; replace d4 := cellB ob d4
            clear ob e0 e1 e2 e3 e4
            try change Code.wp _ _ _ _ (wr.alloc (Obj.cells #[.int .i64 x.kind, .int .i64 x.job, .int .i64 x.every, .int .i64 x.time, .int .i64 x.client] 23))
            generalize (wr.alloc (Obj.cells #[.int .i64 x.kind, .int .i64 x.job, .int .i64 x.every, .int .i64 x.time, .int .i64 x.client] 23)) = w9 at *
            generalize wr.heap.size = zx at *
            have x0 := BX.at_ 0 rfl; have x1 := BX.at_ 1 rfl; have x2 := BX.at_ 2 rfl; have x3 := BX.at_ 3 rfl; have x4 := BX.at_ 4 rfl
            have v1 := (BV.onto b).at_ 1 rfl
            have r0 := (BR.onto b).at_ 0 rfl; have r1 := (BR.onto b).at_ 1 rfl; have r2 := (BR.onto b).at_ 2 rfl; have r3 := (BR.onto b).at_ 3 rfl; have r4 := (BR.onto b).at_ 4 rfl; have r5 := (BR.onto b).at_ 5 rfl; have r6 := (BR.onto b).at_ 6 rfl; have r7 := (BR.onto b).at_ 7 rfl
            clear BX
            replace x0 := onto_cell x0; replace x1 := onto_cell x1; replace x2 := onto_cell x2; replace x3 := onto_cell x3; replace x4 := onto_cell x4
            replace d0 := onto_cell d0; replace d1 := onto_cell d1; replace d2 := onto_cell d2; replace d3 := onto_cell d3; replace d4 := onto_cell d4
            replace r0 := onto_cell r0; replace r1 := onto_cell r1; replace r2 := onto_cell r2; replace r3 := onto_cell r3; replace r4 := onto_cell r4; replace r5 := onto_cell r5; replace r6 := onto_cell r6; replace r7 := onto_cell r7
            replace v1 := onto_cell v1
            by_cases hk4 : x.kind = 4
            · by_cases hxy : y = x
              · subst hxy
                have e1 : eqB y y = true := by rw [eqB_eq]; simp
                have n1 := neqB y y
                simp only [e1, hk4, Bool.not_true] at n1
                clear e1
                refine wp_region_onto (by kernel_rfl) (by kernel_rfl) ?_
                repeat (go_big_quiet_step (fail))
                refine wpQuiet_nil ?_
                intro w10 b10
                replace b := b.to b10
                clear b10 x0 x1 x2 x3 x4 d0 d1 d2 d3 d4 r0 r1 r2 r3 r4 r5 r6 r7 v1 n1
                go_wp2_with fail
                go_roundg (60 - (ii + 1))
                case measure => omega
                case rel => exact ⟨ii + 1, by omega, by omega, by go_num, b⟩
              · have hn := HN.out
                rw [not_or] at hn
                have h3 := hn.2
                have h4 : r.kind = 1 ∧ r.at_ = (ii : Int) ∧ y = r.e := by
                  refine ⟨?_, ?_, ?_⟩
                  · exact Decidable.byContradiction fun hc => h3 ⟨hk4, hxy, .inl hc⟩
                  · exact Decidable.byContradiction fun hc => h3 ⟨hk4, hxy, .inr (.inl hc)⟩
                  · exact Decidable.byContradiction fun hc => h3 ⟨hk4, hxy, .inr (.inr hc)⟩
                obtain ⟨g1, g2, g3⟩ := h4
                have e1 : eqB y x = false := by rw [eqB_eq]; simp [hxy]
                have e2 : eqB y r.e = true := by rw [eqB_eq]; simp [g3]
                have n1 := neqB y x; have n2 := neqB y r.e
                simp only [e1, hk4, Bool.not_false] at n1
                simp only [e2, Bool.not_true] at n2
                clear hn h3 hxy g3 e1 e2
                refine wp_region_onto (by kernel_rfl) (by kernel_rfl) ?_
                repeat (go_big_quiet_step (fail))
                refine wpQuiet_nil ?_
                intro w10 b10
                replace b := b.to b10
                clear b10 x0 x1 x2 x3 x4 d0 d1 d2 d3 d4 r0 r1 r2 r3 r4 r5 r6 r7 v1 n1 n2
                go_wp2_with fail
                go_roundg (60 - (ii + 1))
                case measure => omega
                case rel => exact ⟨ii + 1, by omega, by omega, by go_num, b⟩
            · have hxy : y = x := Decidable.byContradiction fun hc => HN.out (.inl ⟨hk4, hc⟩)
              subst hxy
              have e1 : eqB y y = true := by rw [eqB_eq]; simp
              have n1 := neqB y y
              simp only [e1, Bool.not_true] at n1
              have k1 : (y.kind == 4) = false := by simp [hk4]
              have k2 : (y.kind != 4) = true := by simp [hk4]
              clear e1
              refine wp_region_onto (by kernel_rfl) (by kernel_rfl) ?_
              repeat (go_big_quiet_step (fail))
              refine wpQuiet_nil ?_
              intro w10 b10
              replace b := b.to b10
              clear b10 x0 x1 x2 x3 x4 d0 d1 d2 d3 d4 r0 r1 r2 r3 r4 r5 r6 r7 v1 n1
              go_wp2_with fail
              go_roundg (60 - (ii + 1))
              case measure => omega
              case rel => exact ⟨ii + 1, by omega, by omega, by go_num, b⟩
          · obtain rfl : ii = 60 := by omega
            have HI9 := Lib.hid (HI8.out.onto b)
            replace BR := BR.onto b; replace BV := BV.onto b; replace sv := sv.onto b; replace on := on.to b
            clear b HI8
            obtain ⟨d1, hp1, hs1, HH1⟩ := HH.out.next HNU.out
            have HP1 := Lib.hid hp1; have HS1 := Lib.hid hs1; have HH2 := Lib.hid HH1
            clear hp1 hs1 HH1
            have z0 := HI9.out.D.at_ 0 rfl; have z1 := HI9.out.D.at_ 1 rfl
            have r0 := BR.at_ 0 rfl; have r1 := BR.at_ 1 rfl; have r2 := BR.at_ 2 rfl; have r3 := BR.at_ 3 rfl; have r4 := BR.at_ 4 rfl; have r5 := BR.at_ 5 rfl; have r6 := BR.at_ 6 rfl; have r7 := BR.at_ 7 rfl
            go_wp2_with fail
            refine Calls.mono (DPut_calls F F' k i l' j' d r _ (E.onto on) HI9.out.K) ?_
            rw [HP1.out]
            clear r0 r1 r2 r3 r4 r5 r6 r7
            rintro e wd1 ⟨F1, k1, i1, F1', l1, j1, rfl, K1, fF1, fG1, b⟩
            have hzD1 := HI9.out.D.lt
            have HI9b := Lib.hid (HI9.out.onto b)
            replace BR := BR.onto b; replace BV := BV.onto b; replace sv := sv.onto b; replace on := on.to b
            clear b HI9 z0 z1
            go_upto_region 19 with (refine wpList_put HI9b.out.D [.slice F1 k1 i1, .slice F1' l1 j1] 53 _ _ (by rfl) (by rfl) (by rfl) (by rfl) (by rfl) sizeD (by rfl) ?_)
            have HI10 := Lib.hid (HI9b.out.putD hzd (by omega) K1 (fF1.mono hzD1) (fG1.mono hzD1) (by omega))
            replace BR := BR.off (b := zu + 1) (o := 0) (us := [.slice F1 k1 i1, .slice F1' l1 j1]) (by omega)
            replace BV := BV.off (b := zu + 1) (o := 0) (us := [.slice F1 k1 i1, .slice F1' l1 j1]) (by omega)
            replace sv := put_S (w := w) hof1.2 (vs := [.slice F1 k1 i1, .slice F1' l1 j1]) (o := 0) sv
            clear HI9b K1 fF1 fG1 hzD1
            replace on := HI10.out.on
            generalize World.setCells _ (zu + 1) 0 [.slice F1 k1 i1, .slice F1' l1 j1] = ws1 at *
            have z0 := HI10.out.D.at_ 0 rfl; have z1 := HI10.out.D.at_ 1 rfl
            go_wp2_with fail
            refine Calls.mono (DSync_calls F1 F1' k1 i1 l1 j1 d1 _ (E.onto on) HI10.out.K) ?_
            rw [HS1.out]
            rintro e wd2 ⟨F2, k2, i2, F2', l2, j2, rfl, K2, fF2, fG2, b⟩
            have hzD2 := HI10.out.D.lt
            have HI10b := Lib.hid (HI10.out.onto b)
            replace BR := BR.onto b; replace BV := BV.onto b; replace sv := sv.onto b; replace on := on.to b
            clear b HI10 z0 z1
            go_upto_region 22 with (refine wpList_put HI10b.out.D [.slice F2 k2 i2, .slice F2' l2 j2] 53 _ _ (by rfl) (by rfl) (by rfl) (by rfl) (by rfl) sizeD (by rfl) ?_)
            have HI11 := Lib.hid (HI10b.out.putD hzd (by omega) K2 (fF2.mono hzD2) (fG2.mono hzD2) (by omega))
            replace BR := BR.off (b := zu + 1) (o := 0) (us := [.slice F2 k2 i2, .slice F2' l2 j2]) (by omega)
            replace BV := BV.off (b := zu + 1) (o := 0) (us := [.slice F2 k2 i2, .slice F2' l2 j2]) (by omega)
            replace sv := put_S (w := w) hof1.2 (vs := [.slice F2 k2 i2, .slice F2' l2 j2]) (o := 0) sv
            clear HI10b K2 fF2 fG2 hzD2
            replace on := HI11.out.on
            generalize World.setCells _ (zu + 1) 0 [.slice F2 k2 i2, .slice F2' l2 j2] = ws2 at *
            have v0 := BV.at_ 0 rfl; have v1 := BV.at_ 1 rfl
            go_upto_region 25 with (refine wpList_put HI11.out.U [.int .i64 v.ep, .slice A1 60 c1] 71 _ _ (by rfl) (by rfl) (by rfl) (by rfl) (by rfl) sizeU (by rfl) ?_)
            have HI12 := Lib.hid (HI11.out.putU (c1 := c1) hzu (by omega) sv hof1)
            clear HI11 BR BV sv v0 v1 on
            generalize World.setCells _ zu 0 [.int .i64 v.ep, .slice A1 60 c1] = w12 at *
            go_wp2_with fail
            go_roundg (N - (kk + 1))
            case measure => omega
            case rel => exact ⟨kk + 1, k2, i2, l2, j2, c1, v, _, _, A1, F2, F2', by omega, Nat.le_refl _, by go_num, HI12, by rw [HV.out]; exact HH2⟩
      · have hq1 : (er == 0) = false := by simp [he0]
        have hq2 : (er != 0) = true := by simp [he0]
        clear he0 sv BV BR
        go_wp2_with fail
        go_roundg (N - (kk + 1))
        case measure => omega
        case rel => exact ⟨kk + 1, k, i, l', j', c, u, d, rs, A, F, F', by omega, Nat.le_refl _, by go_num, HI7, HH⟩
    · obtain rfl : kk = N := by omega
      have z0 := HI.out.D.at_ 0 rfl; have z1 := HI.out.D.at_ 1 rfl
      go_wp2_with fail
      refine Calls.mono (DRecover_calls F F' k i l' j' d _ (E.onto on) HI.out.K) ?_
      rw [HH.out.back]
      rintro e w5 ⟨F1, k1, i1, F1', l1, j1, B, n1, y, rfl, _, sB, hny, hym, _, _, _, b⟩
      have HI5 := Lib.hid (HI.out.onto b)
      replace on := on.to b
      clear b HI z0 z1
      go_upto_region 27 with fail
      have ob := (Onto.rfl' w5).new (Obj.cells #[.slice F1 k1 i1, .slice F1' l1 j1] 53)
      have HI6 := Lib.hid (HI5.out.onto ob)
      replace on := on.to ob; replace sB := sB.onto ob
      clear ob HI5
      try change Code.wp _ _ _ _ (w5.alloc (Obj.cells #[.slice F1 k1 i1, .slice F1' l1 j1] 53))
      generalize (w5.alloc (Obj.cells #[.slice F1 k1 i1, .slice F1' l1 j1] 53)) = w6 at *
      go_wp2_with fail
      refine Calls.mono (UReplay_calls B n1 y rs _ sB) ?_
      rw [HH.out.unit]
      rintro e w7 ⟨A2, n2, c2, rfl, sv, b, _⟩
      have HI7 := Lib.hid (HI6.out.onto b)
      replace on := on.to b
      clear b HI6 sB
      go_upto_region 28 with fail
      have ob := (Onto.rfl' w7).new (Obj.cells #[.int .i64 u.ep, .slice A2 n2 c2] 71)
      have BV : Bx (w7.alloc (Obj.cells #[.int .i64 u.ep, .slice A2 n2 c2] 71)) w7.heap.size [.int .i64 u.ep, .slice A2 n2 c2] := Bx.made _ _ _
      have HI8 := Lib.hid (HI7.out.onto ob)
      replace on := on.to ob; replace sv := sv.onto ob
      clear ob HI7
      try change Code.wp _ _ _ _ (w7.alloc (Obj.cells #[.int .i64 u.ep, .slice A2 n2 c2] 71))
      generalize (w7.alloc (Obj.cells #[.int .i64 u.ep, .slice A2 n2 c2] 71)) = w8 at *
      generalize w7.heap.size = z8 at *
      have v0 := BV.at_ 0 rfl; have v1 := BV.at_ 1 rfl
      have u0 := HI8.out.U.at_ 0 rfl; have u1 := HI8.out.U.at_ 1 rfl
      go_wp2_with fail
      refine Calls.mono (USame_calls u.ep u.ep A A2 60 c n2 c2 u.cells u.cells _ HI8.out.su sv (by omega)) ?_
      rintro e w9 ⟨rfl, b⟩
      rw [show decide ((⟨u.ep, u.cells⟩ : Uni) = ⟨u.ep, u.cells⟩) = true by simp]
      replace on := on.to b
      clear b v0 v1 u0 u1 BV sv
      go_wp2_with fail
      go_ret
      exact ⟨ret_bool (by simp), on⟩
end Go.Proofs.YtdcegdonppfbkaaDoor
