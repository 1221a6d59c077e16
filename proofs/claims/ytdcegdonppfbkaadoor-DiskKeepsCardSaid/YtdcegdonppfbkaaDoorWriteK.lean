/- The closure 'write' of DiskKeeps. -/
import Derived.Test.YtdcegdonppfbkaaDoorFiled
import Derived.Test.YtdcegdonppfbkaaDoorDPut
import Derived.Maps.Range
namespace Go.Proofs.YtdcegdonppfbkaaDoor
set_option linter.unusedSimpArgs false
set_option linter.unusedVariables false
open Go.RowKit
attribute [local go_sem ↓] Go.wp_at_zero Go.wp_at_succ

theorem Live.setCell {w0 w : World} {L : List (Option Ent)} (h : Live w0 w L) {p : Addr} (hz : w0.heap.size ≤ p.block) (hne : ∀ (i : Nat) (x : Ent), L[i]? = some (some x) → x.v.ownBlock ≠ some p.block) (u : Value) : Live w0 (w.setCell p u) L :=
  ⟨fun i x hx => (h.own i x hx).kept1 (gb_put (gb_of (Onto.rfl' w) (some p.block)) rfl u) (fun b hb e => hne i x hx (by rw [hb, e])), h.apart, h.on.put hz u⟩
theorem Onto.sz {w w' : World} (h : Onto w w') : w.heap.size ≤ w'.heap.size := h.size
theorem Bx.grown {w w' : World} {z : Nat} {vs : List Value} {row : Option Nat} (h : Bx w z vs) (hg : w.grownBy w' row) (hne : some z ≠ row) : Bx w' z vs := ⟨fun j v hv => grow_cell hg (h.cells j v hv) hne, h.unf.grown hg hne⟩
theorem S.grown {w w' : World} {k n : Nat} {A : Option Addr} {rows : List (List Value)} {row : Option Nat} (h : S w k A n rows) (hg : w.grownBy w' row) (hne : ∀ b, row = some b → OffN n b A) : S w' k A n rows :=
  ⟨h.1, h.2.1, fun hn => by
    obtain ⟨b, off, e, hb, hc⟩ := h.2.2 hn
    exact ⟨b, off, e, Nat.lt_of_lt_of_le hb hg.size, fun i j r u hr hu => grow_cell hg (hc i j r u hr hu) (fun e' => hne b e'.symm hn _ e rfl)⟩⟩
theorem DK.grown {w w' : World} {A A' : Option Addr} {n c m d : Nat} {x : Dsk} {row : Option Nat} (h : DK w A n c A' m d x) (hg : w.grownBy w' row) (h1 : ∀ b, row = some b → OffN n b A) (h2 : ∀ b, row = some b → OffN m b A') : DK w' A n c A' m d x :=
  ⟨h.safe.grown hg h1, h.wait.grown hg h2, h.n_le, h.c_le, h.m_le, h.d_le⟩
theorem DK.put1 {w : World} {A A' : Option Addr} {n c m d : Nat} {x : Dsk} {p : Addr} (h : DK w A n c A' m d x) (h1 : OffN n p.block A) (h2 : OffN m p.block A') (u : Value) : DK (w.setCell p u) A n c A' m d x := ⟨S.off h.safe h1 u, S.off h.wait h2 u, h.n_le, h.c_le, h.m_le, h.d_le⟩
theorem writeK_cons (d : Dsk) (r : Rec) (l : List Rec) : writeK d (r :: l) = if (putK d r).2 = 0 then ((writeK (putK d r).1 l).1, r :: (writeK (putK d r).1 l).2) else writeK d l := rfl
/-- What the closure leaves. -/
def WkPost (w0 w : World) (zd : Nat) (q : Dsk × List Rec) (e : Ending) (w' : World) : Prop :=
  ∃ B b y F k i G m j, e = .returned (.slice B b y) ∧ Bx w' zd [.slice F k i, .slice G m j] ∧ DK w' F k i G m j q.1 ∧ OffN k zd F ∧ OffN m zd G ∧ Own w' w.heap.size 35 8 (.slice B b y) b (q.2.map encQ) ∧ Onto w0 w' ∧ w.grownBy w' (some zd)
set_option maxHeartbeats 16000000 in
set_option maxRecDepth 100000 in
theorem Write_calls (w0 : World) (E : Env w0) (A : Option Addr) (n c : Nat) (l : List Rec) (h : S w0 8 A n (l.map encQ)) (hnc : n ≤ c) (hcm : c ≤ maxLen) (zd : Nat) (hz : w0.heap.size ≤ zd) (w : World) (on : Onto w0 w)
    (F G : Option Addr) (k i m j : Nat) (d : Dsk) (B : Bx w zd [.slice F k i, .slice G m j]) (K : DK w F k i G m j d) (hF : OffN k zd F) (hG : OffN m zd G) :
    Calls Tryd.prog 33 #[.slice A n c, .pointer (some ⟨zd, 0, none⟩)] w (WkPost w0 w zd (writeK d (l.take 20))) := by
  have hl : l.length = n := by have := h.len; simpa using this
  unfold maxLen at hcm
  obtain ⟨q, hq⟩ : ∃ q, q = writeK d (l.take 20) := ⟨_, rfl⟩
  rw [← hq]
  have HQ := Lib.hid hq; have HL := Lib.hid hl
  clear hq hl
  obtain ⟨N, hN⟩ : ∃ N : Nat, N = min n 20 := ⟨_, rfl⟩
  have hN1 : N ≤ n := by omega
  have hN20 : N ≤ 20 := by omega
  have i0 : (0 : Int) ≤ (N : Int) := by omega
  have i1 : (N : Int) ≤ (c : Int) := by omega
  have hmin : (min (n : Int) 20) = (N : Int) := by omega
  have hdr : (l.take 20).drop N = [] := by
    apply List.drop_eq_nil_of_le
    rw [List.length_take, HL.out]; omega
  have HDR := Lib.hid hdr
  have hzw := B.lt
  clear hN hdr
  go_enter Tryd.func33, Tryd.ntmps33
  go_wp2_with fail
  go_loopg [4, 15] N (fun g s4 s15 wr => ∃ (kk b y k i m j : Nat) (dd : Dsk) (out : List Rec) (B1 F G : Option Addr), kk ≤ N ∧ N - kk ≤ g ∧ s15 = .int .i64 kk ∧ s4 = .slice B1 b y ∧ b ≤ kk ∧ b ≤ y ∧ Hid (q = ((writeK dd ((l.take 20).drop kk)).1, out ++ (writeK dd ((l.take 20).drop kk)).2)) ∧
    Bx wr zd [.slice F k i, .slice G m j] ∧ Hid (DK wr F k i G m j dd) ∧ OffN k zd F ∧ OffN m zd G ∧ Hid (Own wr w.heap.size 35 8 (.slice B1 b y) b (out.map encQ)) ∧ Onto w0 wr ∧ w.grownBy wr (some zd))
  case atStart => exact ⟨0, 0, 0, k, i, m, j, d, [], none, F, G, by omega, by omega, rfl, rfl, by omega, by omega, by rw [List.drop_zero, List.nil_append]; exact HQ, B, K, hF, hG, Own.nil _ _ _ _, on, gb_of (Onto.rfl' w) _⟩
  case round =>
    clear B K hF hG on
    obtain ⟨kk, b, y, k, i, m, j, dd, out, B1, F, G, hkk, hg, rfl, rfl, hbk, hby, HW, B, HK, hF, hG, HO, on, gb⟩ := hrel
    by_cases hlt : kk < N
    · obtain ⟨bq, oq, r, rfl, hbq, hrx, q0, q1, q2, q3, q4, q5, q6, q7⟩ := (h.onto on).atQ (i := kk) (by omega)
      have hdk : (l.take 20).drop kk = r :: (l.take 20).drop (kk + 1) := by
        have h1 : (l.take 20)[kk]? = some r := by rw [List.getElem?_take, if_pos (by omega)]; exact hrx
        obtain ⟨h2, rfl⟩ := List.getElem?_eq_some_iff.1 h1
        exact List.drop_eq_getElem_cons h2
      have hw := HW.out
      rw [hdk, writeK_cons] at hw
      have HW2 := Lib.hid hw
      clear hrx hdk hw HW
      have hN3 : kk < n := by omega
      have hzr := B.lt
      have hol := HO.out.lt
      go_upto_region 5 with fail
      have ob := (Onto.rfl' wr).new (Obj.cells #[.int .i64 r.kind, .int .i64 r.at_, .int .i64 r.epoch, .int .i64 r.e.kind, .int .i64 r.e.job, .int .i64 r.e.every, .int .i64 r.e.time, .int .i64 r.e.client] 35)
      have BR : Bx (wr.alloc (Obj.cells #[.int .i64 r.kind, .int .i64 r.at_, .int .i64 r.epoch, .int .i64 r.e.kind, .int .i64 r.e.job, .int .i64 r.e.every, .int .i64 r.e.time, .int .i64 r.e.client] 35)) wr.heap.size [.int .i64 r.kind, .int .i64 r.at_, .int .i64 r.epoch, .int .i64 r.e.kind, .int .i64 r.e.job, .int .i64 r.e.every, .int .i64 r.e.time, .int .i64 r.e.client] := Bx.made _ _ _
      replace B := B.onto ob
      have HK5 := Lib.hid (HK.out.onto ob)
      have HO5 := Lib.hid (HO.out.below ob)
      replace on := on.to ob
      replace gb := gb_onto gb ob
      clear HK HO ob q0 q1 q2 q3 q4 q5 q6 q7
      try change Code.wp _ _ _ _ (wr.alloc (Obj.cells #[.int .i64 r.kind, .int .i64 r.at_, .int .i64 r.epoch, .int .i64 r.e.kind, .int .i64 r.e.job, .int .i64 r.e.every, .int .i64 r.e.time, .int .i64 r.e.client] 35))
      generalize (wr.alloc (Obj.cells #[.int .i64 r.kind, .int .i64 r.at_, .int .i64 r.epoch, .int .i64 r.e.kind, .int .i64 r.e.job, .int .i64 r.e.every, .int .i64 r.e.time, .int .i64 r.e.client] 35)) = w5 at *
      generalize wr.heap.size = zr at *
      have b0 := B.at_ 0 rfl; have b1 := B.at_ 1 rfl
      have r0 := BR.at_ 0 rfl; have r1 := BR.at_ 1 rfl; have r2 := BR.at_ 2 rfl; have r3 := BR.at_ 3 rfl; have r4 := BR.at_ 4 rfl; have r5 := BR.at_ 5 rfl; have r6 := BR.at_ 6 rfl; have r7 := BR.at_ 7 rfl
      obtain ⟨er, her⟩ : ∃ er, er = (putK dd r).2 := ⟨_, rfl⟩
      obtain ⟨d2, hd2⟩ : ∃ er, er = (putK dd r).1 := ⟨_, rfl⟩
      go_wp2_with fail
      refine Calls.mono (DPut_calls F G k i m j dd r _ (E.onto on) HK5.out) ?_
      unfold DnPost
      rw [← her, ← hd2]
      have hw := HW2.out
      rw [← her, ← hd2] at hw
      replace HW2 := Lib.hid hw
      rintro e w6 ⟨F2, k2, i2, G2, m2, j2, rfl, K2, fF, fG, b6⟩
      clear her hd2 hw b0 b1 r0 r1 r2 r3 r4 r5 r6 r7
      have hzl := B.lt
      have hrl := BR.lt
      replace B := B.onto b6; replace BR := BR.onto b6
      have HK6 := Lib.hid (HK5.out.onto b6)
      have HO6 := Lib.hid (HO5.out.below b6)
      replace on := on.to b6; replace gb := gb_onto gb b6
      clear HK5 HO5 b6
      have hzv := B.lt
      have hrv := BR.lt
      go_upto_region 6 with fail
      have ob := (Onto.rfl' w6).new (Obj.cells #[.slice F2 k2 i2, .slice G2 m2 j2] 53)
      have BV : Bx (w6.alloc (Obj.cells #[.slice F2 k2 i2, .slice G2 m2 j2] 53)) w6.heap.size [.slice F2 k2 i2, .slice G2 m2 j2] := Bx.made _ _ _
      replace B := B.onto ob; replace BR := BR.onto ob; replace K2 := K2.onto ob
      have HK7 := Lib.hid (HK6.out.onto ob)
      have HO7 := Lib.hid (HO6.out.below ob)
      replace on := on.to ob; replace gb := gb_onto gb ob
      clear HK6 HO6 ob
      try change Code.wp _ _ _ _ (w6.alloc (Obj.cells #[.slice F2 k2 i2, .slice G2 m2 j2] 53))
      generalize (w6.alloc (Obj.cells #[.slice F2 k2 i2, .slice G2 m2 j2] 53)) = w7 at *
      generalize w6.heap.size = zv at *
      by_cases he : er = 0
      · have hw := HW2.out
        rw [if_pos he] at hw
        replace HW2 := Lib.hid hw
        subst he
        clear hw
        go_upto_region 7 with fail
        have hw7 : w.heap.size ≤ w7.heap.size := gb.size
        have hvd : zv ≠ zd := by omega
        have hrd : zr ≠ zd := by omega
        have hF2 : OffN k2 zd F2 := fF.offN hzl
        have hG2 : OffN m2 zd G2 := fG.offN hzl
        have b0 := B.at_ 0 rfl; have b1 := B.at_ 1 rfl
        have f0 := B.froz 0; have f1 := B.froz 1
        have nz0 := World.new_ne w7 _ b0; have nz1 := World.new_ne w7 _ b1
        obtain ⟨i0', hi0, hzz0, hzz1, hzz2⟩ := info_parts infoQ
        have HI0 := Lib.hid hi0; have HZ0 := Lib.hid hzz0; have HZ1 := Lib.hid hzz1; have HZ2 := Lib.hid hzz2
        clear hi0 hzz0 hzz1 hzz2
        have gne : ∀ z', zr ≤ z' → some z' ≠ Value.ownBlock (.slice B1 b y) := fun z' hz' e => by have := (hol z' e.symm).2; omega
        have gnd : some zd ≠ Value.ownBlock (.slice B1 b y) := fun e => by have := (hol zd e.symm).1; omega
        have gF : ∀ b', Value.ownBlock (.slice B1 b y) = some b' → OffN k2 b' F2 := fun b' e => fF.offN (by have := (hol b' e).2; omega)
        have gG : ∀ b', Value.ownBlock (.slice B1 b y) = some b' → OffN m2 b' G2 := fun b' e => fG.offN (by have := (hol b' e).2; omega)
        have BN : Bx ((w7.setCell ⟨zd, 0, none⟩ (.slice F2 k2 i2)).setCell ⟨zd, 1, none⟩ (.slice G2 m2 j2)) zd [.slice F2 k2 i2, .slice G2 m2 j2] := (B.put1 (j := 0) (by simp) (.slice F2 k2 i2)).put1 (j := 1) (by simp) (.slice G2 m2 j2)
        have HN1 : Sl (w7.alloc (Obj.cells #[.int .i64 r.kind, .int .i64 r.at_, .int .i64 r.epoch, .int .i64 r.e.kind, .int .i64 r.e.job, .int .i64 r.e.every, .int .i64 r.e.time, .int .i64 r.e.client] 35)) (w7.heap.size + 1) 8 (some ⟨w7.heap.size, 0, none⟩) 1 [encQ r] := Sl.oneQ r
        have HN2 : Sl (((w7.setCell ⟨zd, 0, none⟩ (.slice F2 k2 i2)).setCell ⟨zd, 1, none⟩ (.slice G2 m2 j2)).alloc (Obj.cells #[.int .i64 r.kind, .int .i64 r.at_, .int .i64 r.epoch, .int .i64 r.e.kind, .int .i64 r.e.job, .int .i64 r.e.every, .int .i64 r.e.time, .int .i64 r.e.client] 35)) (w7.heap.size + 1) 8 (some ⟨w7.heap.size, 0, none⟩) 1 [encQ r] := by
          have := Sl.oneQ (w := ((w7.setCell ⟨zd, 0, none⟩ (.slice F2 k2 i2)).setCell ⟨zd, 1, none⟩ (.slice G2 m2 j2))) (t := 35) r
          simpa using this
        go_region_held3 (fun w' => w'.cell? ⟨zv, 0, none⟩ = some (.slice F2 k2 i2) ∧ w'.cell? ⟨zv, 1, none⟩ = some (.slice G2 m2 j2) ∧ w'.cell? ⟨zr, 0, none⟩ = some (.int .i64 r.kind) ∧ w'.cell? ⟨zr, 1, none⟩ = some (.int .i64 r.at_) ∧ w'.cell? ⟨zr, 2, none⟩ = some (.int .i64 r.epoch) ∧ w'.cell? ⟨zr, 3, none⟩ = some (.int .i64 r.e.kind) ∧ w'.cell? ⟨zr, 4, none⟩ = some (.int .i64 r.e.job) ∧ w'.cell? ⟨zr, 5, none⟩ = some (.int .i64 r.e.every) ∧ w'.cell? ⟨zr, 6, none⟩ = some (.int .i64 r.e.time) ∧ w'.cell? ⟨zr, 7, none⟩ = some (.int .i64 r.e.client))
          (first | exact ⟨Bx.at_ (show Bx _ zv [.slice F2 k2 i2, .slice G2 m2 j2] from (by ((with_reducible (repeat (first | exact BV8 | exact BV | refine Bx.off1 ?_ hvd _ | refine Bx.new ?_ _ | refine Bx.draw ?_))); done))) 0 rfl, Bx.at_ (show Bx _ zv [.slice F2 k2 i2, .slice G2 m2 j2] from (by ((with_reducible (repeat (first | exact BV8 | exact BV | refine Bx.off1 ?_ hvd _ | refine Bx.new ?_ _ | refine Bx.draw ?_))); done))) 1 rfl, Bx.at_ (show Bx _ zr [.int .i64 r.kind, .int .i64 r.at_, .int .i64 r.epoch, .int .i64 r.e.kind, .int .i64 r.e.job, .int .i64 r.e.every, .int .i64 r.e.time, .int .i64 r.e.client] from (by ((with_reducible (repeat (first | exact BR8 | exact BR | refine Bx.off1 ?_ hrd _ | refine Bx.new ?_ _ | refine Bx.draw ?_))); done))) 0 rfl, Bx.at_ (show Bx _ zr [.int .i64 r.kind, .int .i64 r.at_, .int .i64 r.epoch, .int .i64 r.e.kind, .int .i64 r.e.job, .int .i64 r.e.every, .int .i64 r.e.time, .int .i64 r.e.client] from (by ((with_reducible (repeat (first | exact BR8 | exact BR | refine Bx.off1 ?_ hrd _ | refine Bx.new ?_ _ | refine Bx.draw ?_))); done))) 1 rfl, Bx.at_ (show Bx _ zr [.int .i64 r.kind, .int .i64 r.at_, .int .i64 r.epoch, .int .i64 r.e.kind, .int .i64 r.e.job, .int .i64 r.e.every, .int .i64 r.e.time, .int .i64 r.e.client] from (by ((with_reducible (repeat (first | exact BR8 | exact BR | refine Bx.off1 ?_ hrd _ | refine Bx.new ?_ _ | refine Bx.draw ?_))); done))) 2 rfl, Bx.at_ (show Bx _ zr [.int .i64 r.kind, .int .i64 r.at_, .int .i64 r.epoch, .int .i64 r.e.kind, .int .i64 r.e.job, .int .i64 r.e.every, .int .i64 r.e.time, .int .i64 r.e.client] from (by ((with_reducible (repeat (first | exact BR8 | exact BR | refine Bx.off1 ?_ hrd _ | refine Bx.new ?_ _ | refine Bx.draw ?_))); done))) 3 rfl, Bx.at_ (show Bx _ zr [.int .i64 r.kind, .int .i64 r.at_, .int .i64 r.epoch, .int .i64 r.e.kind, .int .i64 r.e.job, .int .i64 r.e.every, .int .i64 r.e.time, .int .i64 r.e.client] from (by ((with_reducible (repeat (first | exact BR8 | exact BR | refine Bx.off1 ?_ hrd _ | refine Bx.new ?_ _ | refine Bx.draw ?_))); done))) 4 rfl, Bx.at_ (show Bx _ zr [.int .i64 r.kind, .int .i64 r.at_, .int .i64 r.epoch, .int .i64 r.e.kind, .int .i64 r.e.job, .int .i64 r.e.every, .int .i64 r.e.time, .int .i64 r.e.client] from (by ((with_reducible (repeat (first | exact BR8 | exact BR | refine Bx.off1 ?_ hrd _ | refine Bx.new ?_ _ | refine Bx.draw ?_))); done))) 5 rfl, Bx.at_ (show Bx _ zr [.int .i64 r.kind, .int .i64 r.at_, .int .i64 r.epoch, .int .i64 r.e.kind, .int .i64 r.e.job, .int .i64 r.e.every, .int .i64 r.e.time, .int .i64 r.e.client] from (by ((with_reducible (repeat (first | exact BR8 | exact BR | refine Bx.off1 ?_ hrd _ | refine Bx.new ?_ _ | refine Bx.draw ?_))); done))) 6 rfl, Bx.at_ (show Bx _ zr [.int .i64 r.kind, .int .i64 r.at_, .int .i64 r.epoch, .int .i64 r.e.kind, .int .i64 r.e.job, .int .i64 r.e.every, .int .i64 r.e.time, .int .i64 r.e.client] from (by ((with_reducible (repeat (first | exact BR8 | exact BR | refine Bx.off1 ?_ hrd _ | refine Bx.new ?_ _ | refine Bx.draw ?_))); done))) 7 rfl⟩ | fail)
          (first
            | (refine step_app_sl _ (by rfl) _ _ 50 (by rfl) w.heap.size 35 i0' _ 8 64 Tryd.underlying50 HI0.out HZ0.out HZ1.out HZ2.out rfl (by decide) (.slice B1 b y) b (out.map encQ) (by rfl) (by ((with_reducible (repeat (first | exact HO7.out | refine Own.alloc ?_ _ | refine Own.setCell ?_ hzw _ | refine Own.below ?_ ((Onto.rfl' _).draw)))); done)) (w7.heap.size + 1) _ 1 1 [encQ r] (by rfl) (by first | exact HN1 | exact HN2) (encQ_one [r]) (by unfold maxLen; omega) (by omega) (by simp; omega) ?_; intro v8 w8 own8 grow8 hv8; obtain ⟨A8, c8, rfl, hc8, _⟩ := own8.slice; have BV8 := Bx.grown (show Bx _ zv [.slice F2 k2 i2, .slice G2 m2 j2] from by ((with_reducible (repeat (first | exact BV | refine Bx.off1 ?_  hvd _ | refine Bx.new ?_ _ | refine Bx.draw ?_))); done)) grow8 (gne zv (by omega)); have BR8 := Bx.grown (show Bx _ zr [.int .i64 r.kind, .int .i64 r.at_, .int .i64 r.epoch, .int .i64 r.e.kind, .int .i64 r.e.job, .int .i64 r.e.every, .int .i64 r.e.time, .int .i64 r.e.client] from by ((with_reducible (repeat (first | exact BR | refine Bx.off1 ?_ hrd _ | refine Bx.new ?_ _ | refine Bx.draw ?_))); done)) grow8 (gne zr (Nat.le_refl _)); (first | (have B8 : Bx w8 zd [.slice F2 k2 i2, .slice G2 m2 j2] := ?_; rotate_left 1; focus (refine Bx.grown ?_ grow8 gnd; with_reducible (repeat (first | exact BN | refine Bx.new ?_ _ | refine Bx.draw ?_)); done)) | (have B8 : Bx w8 zd [.slice F k i, .slice G m j] := ?_; rotate_left 1; focus (refine Bx.grown ?_ grow8 gnd; with_reducible (repeat (first | exact B | refine Bx.new ?_ _ | refine Bx.draw ?_)); done))); have K8 := DK.grown (show DK _ F2 k2 i2 G2 m2 j2 d2 from by ((with_reducible (repeat (first | exact K2 | refine DK.put1 ?_ hF2 hG2 _ | refine DK.onto ?_ ((Onto.rfl' _).draw) | refine DK.onto ?_ ((Onto.rfl' _).new _)))); done)) grow8 gF gG; have on8 : Onto w0 w8 := below_grown (show Onto w0 _ from by ((with_reducible (repeat (first | exact on8 | exact on | refine Onto.draw ?_ | refine Onto.new ?_ _ | refine Onto.put ?_ hz _))); done)) (Onto.sz (show Onto w0 _ from by ((with_reducible (repeat (first | exact on8 | exact on | refine Onto.draw ?_ | refine Onto.new ?_ _ | refine Onto.put ?_ hz _))); done))) grow8 (fun g hg => by have := (hol g hg).1; omega); have gb8 : w.grownBy w8 (some zd) := World.grownBy.andThen (show w.grownBy _ (some zd) from by ((with_reducible (repeat (first | exact gb8 | exact gb | refine gb_draw ?_ | refine gb_put ?_ rfl _ | refine gb_onto ?_ ((Onto.rfl' _).new _)))); done)) grow8 (fun g hg => .inl (hol g hg).1); have c0 := B8.at_ 0 rfl; have c1 := B8.at_ 1 rfl; have d0 := B8.froz 0; have d1 := B8.froz 1)
            | fail)
        all_goals
          have HW3 : Hid (q = ((writeK d2 ((l.take 20).drop (kk + 1))).1, (out ++ [r]) ++ (writeK d2 ((l.take 20).drop (kk + 1))).2)) := Lib.hid (by rw [HW2.out]; simp)
          have HO8 := Lib.hid own8
          have HK8 := Lib.hid K8
          clear own8 K8 HW2 HO7 HK7
          go_wp2_with fail
          go_roundg (N - (kk + 1))
          case measure => omega
          case rel =>
            refine ⟨kk + 1, b + 1, c8, k2, i2, m2, j2, d2, out ++ [r], A8, F2, G2, by omega, Nat.le_refl _, by go_num, rfl, by omega, hc8, HW3, ?_, ?_, hF2, hG2, ?_, ?_, ?_⟩
            · first | exact B8 | exact (B8.put1 (j := 0) (by simp) (.slice F2 k2 i2)).put1 (j := 1) (by simp) (.slice G2 m2 j2)
            · refine Lib.hid ?_
              first | exact HK8.out | exact (HK8.out.put1 hF2 hG2 _).put1 hF2 hG2 _
            · refine Lib.hid ?_
              rw [List.map_append]
              first | exact HO8.out | exact (HO8.out.setCell hzw _).setCell hzw _
            · first | exact on8 | exact (on8.put hz _).put hz _
            · first | exact gb8 | exact gb_put (gb_put gb8 rfl _) rfl _
      · have hw := HW2.out
        rw [if_neg he] at hw
        have HW3 := Lib.hid hw
        have hq1 : (er == 0) = false := by simp [he]
        clear hw he HW2 BV BR K2
        go_wp2_with fail
        go_roundg (N - (kk + 1))
        case measure => omega
        case rel => exact ⟨kk + 1, b, y, k, i, m, j, dd, out, B1, F, G, by omega, Nat.le_refl _, by go_num, rfl, by omega, hby, HW3, B, HK7, hF, hG, HO7, on, gb⟩
    · obtain rfl : kk = N := by omega
      have hw := HW.out
      rw [HDR.out] at hw
      simp only [writeK, List.append_nil] at hw
      subst hw
      have HON := Lib.hid on
      clear on
      go_wp2_with fail
      go_ret
      exact ⟨B1, b, y, F, k, i, G, m, j, rfl, B, HK.out, hF, hG, HO.out, HON.out, gb⟩
end Go.Proofs.YtdcegdonppfbkaaDoor
