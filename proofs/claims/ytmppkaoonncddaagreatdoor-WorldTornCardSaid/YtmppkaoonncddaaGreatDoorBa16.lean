/- Part 16 of the proof: WSame, WSameG, WToldP, WTolled. -/
import Derived.Test.YtmppkaoonncddaaGreatDoorBa10
import Derived.Test.YtmppkaoonncddaaGreatDoorBa12
import Derived.Test.YtmppkaoonncddaaGreatDoorBa07
import Derived.Test.YtmppkaoonncddaaGreatDoorBa06
import Derived.Test.YtmppkaoonncddaaGreatDoorBa15
import Derived.Test.YtmppkaoonncddaaGreatDoorBa03
import Derived.Test.YtmppkaoonncddaaGreatDoorBa09
import Derived.Test.YtmppkaoonncddaaGreatDoorBa01
namespace Go.Proofs.YtmppkaoonncddaaGreatDoor
section
set_option linter.unusedSimpArgs false
set_option linter.unusedVariables false
open Go.RowKit
attribute [local go_sem ↓] Go.wp_at_zero Go.wp_at_succ
def eqF {α : Type} (p : α → α → Bool) : List α → List α → Bool
 | [], [] => true
 | a :: l, b :: l' => p a b && eqF p l l'
 | _, _ => false
theorem eqF_len {α : Type} {p : α → α → Bool} : ∀ {l l' : List α}, l.length ≠ l'.length → eqF p l l' = false
 | [], [], h => absurd rfl h
 | [], _ :: _, _ => rfl
 | _ :: _, [], _ => rfl
 | a :: l, b :: l', h => by rw [eqF, eqF_len (by simpa using h), Bool.and_false]
theorem eqF_map {α β : Type} [DecidableEq β] (f : α → β) : ∀ l l' : List α, eqF (fun x y => decide (f x = f y)) l l' = decide (l.map f = l'.map f)
 | [], [] => by simp [eqF]
 | [], _ :: _ => by simp [eqF]
 | _ :: _, [] => by simp [eqF]
 | a :: l, b :: l' => by rw [eqF, eqF_map f l l']; simp
theorem NV.In.small {w : World} {v : NV} (h : v.In w) : v.n ≤ 9223372036854775807 := by
 have h1 := h.le; have h2 := h.max; unfold maxLen at h2; omega
set_option maxHeartbeats 4000000 in
set_option maxRecDepth 100000 in
theorem NSame_calls (u v : NV) (w : World) (hu : u.In w) (hv : v.In w) :
    Calls Tryz.prog 59 #[.agg #[.int .i64 u.x.u.ep, .slice u.A u.n u.c, .slice u.F u.k u.i, .slice u.G u.l u.j, .bool u.x.up], .agg #[.int .i64 v.x.u.ep, .slice v.A v.n v.c, .slice v.F v.k v.i, .slice v.G v.l v.j, .bool v.x.up]] w fun e w' => e = .returned (.bool (decide (u.x = v.x))) ∧ Onto w w' := by
 obtain ⟨r, hr⟩ : ∃ r, r = decide (u.x = v.x) := ⟨_, rfl⟩
 rw [← hr]
 have hr2 : r = (decide (u.x.up = v.x.up) && (decide ((⟨u.x.u.ep, u.x.u.cells⟩ : Uni) = ⟨v.x.u.ep, v.x.u.cells⟩) && decide (u.x.d = v.x.d))) := by
  rw [hr]
  obtain ⟨⟨a1, a2, a3⟩, _⟩ := u
  obtain ⟨⟨b1, b2, b3⟩, _⟩ := v
  simp only [Nod.mk.injEq]
  by_cases h1 : a1 = b1 <;> by_cases h2 : a2 = b2 <;> by_cases h3 : a3 = b3 <;> simp [h1, h2, h3]
 have HR := Lib.hid hr2
 clear hr hr2
 go_enter Tryz.func59, Tryz.ntmps59
 go_upto_region 1 with fail
 have on := ((Onto.rfl' w).new (Obj.cells #[.int .i64 u.x.u.ep, .slice u.A u.n u.c, .slice u.F u.k u.i, .slice u.G u.l u.j, .bool u.x.up] 49)).new (Obj.cells #[.int .i64 v.x.u.ep, .slice v.A v.n v.c, .slice v.F v.k v.i, .slice v.G v.l v.j, .bool v.x.up] 49)
 have U : Bx ((w.alloc (Obj.cells #[.int .i64 u.x.u.ep, .slice u.A u.n u.c, .slice u.F u.k u.i, .slice u.G u.l u.j, .bool u.x.up] 49)).alloc (Obj.cells #[.int .i64 v.x.u.ep, .slice v.A v.n v.c, .slice v.F v.k v.i, .slice v.G v.l v.j, .bool v.x.up] 49)) w.heap.size [.int .i64 u.x.u.ep, .slice u.A u.n u.c, .slice u.F u.k u.i, .slice u.G u.l u.j, .bool u.x.up] := (Bx.made _ _ _).new _
 have V : Bx ((w.alloc (Obj.cells #[.int .i64 u.x.u.ep, .slice u.A u.n u.c, .slice u.F u.k u.i, .slice u.G u.l u.j, .bool u.x.up] 49)).alloc (Obj.cells #[.int .i64 v.x.u.ep, .slice v.A v.n v.c, .slice v.F v.k v.i, .slice v.G v.l v.j, .bool v.x.up] 49)) (w.heap.size + 1) [.int .i64 v.x.u.ep, .slice v.A v.n v.c, .slice v.F v.k v.i, .slice v.G v.l v.j, .bool v.x.up] := made1 w _ #[.int .i64 v.x.u.ep, .slice v.A v.n v.c, .slice v.F v.k v.i, .slice v.G v.l v.j, .bool v.x.up] _
 replace hu := hu.onto on; replace hv := hv.onto on
 try change Code.wp _ _ _ _ ((w.alloc (Obj.cells #[.int .i64 u.x.u.ep, .slice u.A u.n u.c, .slice u.F u.k u.i, .slice u.G u.l u.j, .bool u.x.up] 49)).alloc (Obj.cells #[.int .i64 v.x.u.ep, .slice v.A v.n v.c, .slice v.F v.k v.i, .slice v.G v.l v.j, .bool v.x.up] 49))
 generalize ((w.alloc (Obj.cells #[.int .i64 u.x.u.ep, .slice u.A u.n u.c, .slice u.F u.k u.i, .slice u.G u.l u.j, .bool u.x.up] 49)).alloc (Obj.cells #[.int .i64 v.x.u.ep, .slice v.A v.n v.c, .slice v.F v.k v.i, .slice v.G v.l v.j, .bool v.x.up] 49)) = w1 at *
 generalize w.heap.size = z at *
 have a0 := U.at_ 0 rfl; have a1 := U.at_ 1 rfl; have a2 := U.at_ 2 rfl; have a3 := U.at_ 3 rfl; have a4 := U.at_ 4 rfl
 have b0 := V.at_ 0 rfl; have b1 := V.at_ 1 rfl; have b2 := V.at_ 2 rfl; have b3 := V.at_ 3 rfl; have b4 := V.at_ 4 rfl
 cases h1 : decide (u.x.up = v.x.up) with
 | false =>
   have hrr : r = false := by rw [HR.out, h1]; rfl
   subst hrr
   have hd : (u.x.up == v.x.up) = false := by simpa using h1
   clear h1 HR
   go_wp2_with fail
   go_ret
   exact ⟨rfl, on⟩
 | true =>
   have hrr : r = (decide ((⟨u.x.u.ep, u.x.u.cells⟩ : Uni) = ⟨v.x.u.ep, v.x.u.cells⟩) && decide (u.x.d = v.x.d)) := by rw [HR.out, h1]; rfl
   have HR2 := Lib.hid hrr
   have hd : (u.x.up == v.x.up) = true := by simpa using h1
   clear h1 HR hrr
   go_wp2_with fail
   refine Calls.mono (USame_calls u.x.u.ep v.x.u.ep u.A v.A u.n u.c v.n v.c u.x.u.cells v.x.u.cells _ hu.cells hv.cells hu.small) ?_
   rintro e w2 ⟨rfl, b⟩
   replace U := U.onto b; replace V := V.onto b; replace hu := hu.onto b; replace hv := hv.onto b; replace on := on.to b
   clear a0 a1 a2 a3 a4 b0 b1 b2 b3 b4 b
   have a2 := U.at_ 2 rfl; have a3 := U.at_ 3 rfl
   have b2 := V.at_ 2 rfl; have b3 := V.at_ 3 rfl
   cases h2 : decide ((⟨u.x.u.ep, u.x.u.cells⟩ : Uni) = ⟨v.x.u.ep, v.x.u.cells⟩) with
   | false =>
     have hrr : r = false := by rw [HR2.out, h2]; rfl
     subst hrr
     clear h2 HR2
     go_wp2_with fail
     go_ret
     exact ⟨rfl, on⟩
   | true =>
     have hrr : r = decide (u.x.d = v.x.d) := by rw [HR2.out, h2]; rfl
     have HR3 := Lib.hid hrr
     clear h2 HR2 hrr
     go_wp2_with fail
     refine Calls.mono (DSame_calls u.F u.G u.k u.i u.l u.j u.x.d v.F v.G v.k v.i v.l v.j v.x.d _ hu.disk hv.disk) ?_
     rw [← HR3.out]
     rintro e w3 ⟨rfl, b⟩
     replace on := on.to b
     go_wp2_with fail
     go_ret
     exact ⟨by simp, on⟩
set_option maxHeartbeats 4000000 in
set_option maxRecDepth 100000 in
theorem EqualFuncD_calls (A A' : Option Addr) (n c m d : Nat) (l l' : List NV) (g : FuncId) (p : NV → NV → Bool) (w : World) (h : S w 5 A n (l.map encN)) (h' : S w 5 A' m (l'.map encN)) (hn : n ≤ 1000000000000)
    (eg : ∀ args w, (callFunc g args).run Tryz.prog w = .ok (.enter g args) w)
    (hp : ∀ x ∈ l, ∀ y ∈ l', ∀ w', Onto w w' → Calls Tryz.prog g #[.agg #[.int .i64 x.x.u.ep, .slice x.A x.n x.c, .slice x.F x.k x.i, .slice x.G x.l x.j, .bool x.x.up], .agg #[.int .i64 y.x.u.ep, .slice y.A y.n y.c, .slice y.F y.k y.i, .slice y.G y.l y.j, .bool y.x.up]] w' fun e w'' => e = .returned (.bool (p x y)) ∧ Onto w' w'') :
    Calls Tryz.prog 58 #[.slice A n c, .slice A' m d, .func (.func g) #[] #[]] w fun e w' => e = .returned (.bool (eqF p l l')) ∧ Onto w w' := by
 have hp' := Lib.hid hp
 have hl : l.length = n := by have := h.len; simpa using this
 have hl' : l'.length = m := by have := h'.len; simpa using this
 have HL := Lib.hid hl; have HL' := Lib.hid hl'
 clear hp hl hl'
 obtain ⟨q, hq⟩ : ∃ q, q = eqF p l l' := ⟨_, rfl⟩
 rw [← hq]
 have HQ := Lib.hid hq
 clear hq
 by_cases hnm : n = m
 · subst hnm
   have hd : ((n : Int) != (n : Int)) = false := by simp
   go_enter Tryz.func58, Tryz.ntmps58
   go_wp2_with fail
   go_loopg [17] n (fun g0 s17 wr => ∃ i : Nat, i ≤ n ∧ n - i ≤ g0 ∧ s17 = .int .i64 i ∧ Onto w wr ∧ Hid (q = eqF p (l.drop i) (l'.drop i)))
   case atStart => exact ⟨0, Nat.zero_le _, Nat.le_refl _, rfl, Onto.rfl' _, HQ⟩
   case round =>
    clear HQ
    obtain ⟨i, hi, hg, rfl, on, HQ⟩ := hrel
    by_cases hlt : i < n
    · obtain ⟨p0, q0, x, rfl, hb0, hx, hca⟩ := (h.onto on).at_ hlt
      obtain ⟨p1, q1, y, rfl, hb1, hy, hcb⟩ := (h'.onto on).at_ hlt
      have a0 : wr.cell? ⟨p0, q0 + i * 5, none⟩ = some (.int .i64 x.x.u.ep) := hca 0 _ rfl; have a1 : wr.cell? ⟨p0, q0 + i * 5 + 1, none⟩ = some (.slice x.A x.n x.c) := hca 1 _ rfl; have a2 : wr.cell? ⟨p0, q0 + i * 5 + 2, none⟩ = some (.slice x.F x.k x.i) := hca 2 _ rfl; have a3 : wr.cell? ⟨p0, q0 + i * 5 + 3, none⟩ = some (.slice x.G x.l x.j) := hca 3 _ rfl; have a4 : wr.cell? ⟨p0, q0 + i * 5 + 4, none⟩ = some (.bool x.x.up) := hca 4 _ rfl
      have b0 : wr.cell? ⟨p1, q1 + i * 5, none⟩ = some (.int .i64 y.x.u.ep) := hcb 0 _ rfl; have b1 : wr.cell? ⟨p1, q1 + i * 5 + 1, none⟩ = some (.slice y.A y.n y.c) := hcb 1 _ rfl; have b2 : wr.cell? ⟨p1, q1 + i * 5 + 2, none⟩ = some (.slice y.F y.k y.i) := hcb 2 _ rfl; have b3 : wr.cell? ⟨p1, q1 + i * 5 + 3, none⟩ = some (.slice y.G y.l y.j) := hcb 3 _ rfl; have b4 : wr.cell? ⟨p1, q1 + i * 5 + 4, none⟩ = some (.bool y.x.up) := hcb 4 _ rfl
      have hmx := List.mem_of_getElem? hx; have hmy := List.mem_of_getElem? hy
      have HX := Lib.hid hx; have HY := Lib.hid hy
      clear hca hcb hx hy
      go_upto_region 6 with fail
      refine wp_box1 (v1 := [.int .i64 x.x.u.ep, .slice x.A x.n x.c, .slice x.F x.k x.i, .slice x.G x.l x.j, .bool x.x.up]) rfl fun w6 ox X => ?_
      have b0 := cellB ox b0; have b1 := cellB ox b1; have b2 := cellB ox b2; have b3 := cellB ox b3; have b4 := cellB ox b4
      clear a0 a1 a2 a3 a4
      generalize wr.heap.size = zx at *
      go_upto_region 7 with fail
      refine wp_box1 (v1 := [.int .i64 y.x.u.ep, .slice y.A y.n y.c, .slice y.F y.k y.i, .slice y.G y.l y.j, .bool y.x.up]) rfl fun w7 oy Y => ?_
      have X := X.onto oy
      have on7 := (on.to ox).to oy
      clear b0 b1 b2 b3 b4 ox oy
      generalize w6.heap.size = zy at *
      have a0 := X.at_ 0 rfl; have a1 := X.at_ 1 rfl; have a2 := X.at_ 2 rfl; have a3 := X.at_ 3 rfl; have a4 := X.at_ 4 rfl
      have b0 := Y.at_ 0 rfl; have b1 := Y.at_ 1 rfl; have b2 := Y.at_ 2 rfl; have b3 := Y.at_ 3 rfl; have b4 := Y.at_ 4 rfl
      go_wp2_with fail
      refine Calls.mono (hp'.out x hmx y hmy _ on7) ?_
      rintro e w8 ⟨rfl, b⟩
      have on8 := on7.to b
      clear X Y a0 b0 a1 b1 a2 b2 a3 b3 a4 b4 on on7 b
      have hst : eqF p (l.drop i) (l'.drop i) = (p x y && eqF p (l.drop (i + 1)) (l'.drop (i + 1))) := by
       rw [List.drop_eq_getElem_cons (by have := HL.out; omega), List.drop_eq_getElem_cons (l := l') (by have := HL'.out; omega), (List.getElem?_eq_some_iff.1 HX.out).2, (List.getElem?_eq_some_iff.1 HY.out).2]; rfl
      have HS := Lib.hid hst
      clear hst
      cases hpx : p x y with
      | true =>
        have hq2 : q = eqF p (l.drop (i + 1)) (l'.drop (i + 1)) := by rw [HQ.out, HS.out, hpx]; rfl
        have HQ2 := Lib.hid hq2
        clear hq2 hpx HQ
        go_wp2_with fail
        go_roundg (n - (i + 1))
        case measure => omega
        case rel => exact ⟨i + 1, by omega, Nat.le_refl _, by go_num, on8, HQ2⟩
      | false =>
        have hq2 : q = false := by rw [HQ.out, HS.out, hpx]; rfl
        subst hq2
        clear hpx
        go_wp2_with fail
        go_ret
        exact ⟨rfl, on8⟩
    · obtain rfl : i = n := by omega
      have hq2 : q = true := by
       rw [HQ.out, List.drop_eq_nil_of_le (by have := HL.out; omega), List.drop_eq_nil_of_le (by have := HL'.out; omega)]; rfl
      subst hq2
      go_wp2_with fail
      go_ret
      exact ⟨rfl, on⟩
 · have hq2 : q = false := by rw [HQ.out]; exact eqF_len (by rw [HL.out, HL'.out]; exact hnm)
   subst hq2
   have hd : ((n : Int) != (m : Int)) = true := by simp; omega
   clear HQ
   go_enter Tryz.func58, Tryz.ntmps58
   go_wp2_with fail
   go_ret
   exact ⟨rfl, Onto.rfl' _⟩
set_option maxHeartbeats 4000000 in
set_option maxRecDepth 100000 in
theorem EqualFuncC_calls (A A' : Option Addr) (n c m d : Nat) (l l' : List CV) (g : FuncId) (p : CV → CV → Bool) (w : World) (h : S w 12 A n (l.map encC)) (h' : S w 12 A' m (l'.map encC)) (hn : n ≤ 1000000000000)
    (eg : ∀ args w, (callFunc g args).run Tryz.prog w = .ok (.enter g args) w)
    (hp : ∀ x ∈ l, ∀ y ∈ l', ∀ w', Onto w w' → Calls Tryz.prog g #[.agg #[.int .i64 x.x.epoch, .int .i64 x.x.doing, .int .i64 x.x.e.kind, .int .i64 x.x.e.job, .int .i64 x.x.e.every, .int .i64 x.x.e.time, .int .i64 x.x.e.client, .int .i64 x.x.at_, .int .i64 x.x.link, .int .i64 x.x.played, .slice x.A x.n x.c, .slice x.G x.m x.d], .agg #[.int .i64 y.x.epoch, .int .i64 y.x.doing, .int .i64 y.x.e.kind, .int .i64 y.x.e.job, .int .i64 y.x.e.every, .int .i64 y.x.e.time, .int .i64 y.x.e.client, .int .i64 y.x.at_, .int .i64 y.x.link, .int .i64 y.x.played, .slice y.A y.n y.c, .slice y.G y.m y.d]] w' fun e w'' => e = .returned (.bool (p x y)) ∧ Onto w' w'') :
    Calls Tryz.prog 57 #[.slice A n c, .slice A' m d, .func (.func g) #[] #[]] w fun e w' => e = .returned (.bool (eqF p l l')) ∧ Onto w w' := by
 have hp' := Lib.hid hp
 have hl : l.length = n := by have := h.len; simpa using this
 have hl' : l'.length = m := by have := h'.len; simpa using this
 have HL := Lib.hid hl; have HL' := Lib.hid hl'
 clear hp hl hl'
 obtain ⟨q, hq⟩ : ∃ q, q = eqF p l l' := ⟨_, rfl⟩
 rw [← hq]
 have HQ := Lib.hid hq
 clear hq
 by_cases hnm : n = m
 · subst hnm
   have hd : ((n : Int) != (n : Int)) = false := by simp
   go_enter Tryz.func57, Tryz.ntmps57
   go_wp2_with fail
   go_loopg [17] n (fun g0 s17 wr => ∃ i : Nat, i ≤ n ∧ n - i ≤ g0 ∧ s17 = .int .i64 i ∧ Onto w wr ∧ Hid (q = eqF p (l.drop i) (l'.drop i)))
   case atStart => exact ⟨0, Nat.zero_le _, Nat.le_refl _, rfl, Onto.rfl' _, HQ⟩
   case round =>
    clear HQ
    obtain ⟨i, hi, hg, rfl, on, HQ⟩ := hrel
    by_cases hlt : i < n
    · obtain ⟨p0, q0, x, rfl, hb0, hx, hca⟩ := (h.onto on).at_ hlt
      obtain ⟨p1, q1, y, rfl, hb1, hy, hcb⟩ := (h'.onto on).at_ hlt
      have a0 : wr.cell? ⟨p0, q0 + i * 12, none⟩ = some (.int .i64 x.x.epoch) := hca 0 _ rfl; have a1 : wr.cell? ⟨p0, q0 + i * 12 + 1, none⟩ = some (.int .i64 x.x.doing) := hca 1 _ rfl; have a2 : wr.cell? ⟨p0, q0 + i * 12 + 2, none⟩ = some (.int .i64 x.x.e.kind) := hca 2 _ rfl; have a3 : wr.cell? ⟨p0, q0 + i * 12 + 3, none⟩ = some (.int .i64 x.x.e.job) := hca 3 _ rfl; have a4 : wr.cell? ⟨p0, q0 + i * 12 + 4, none⟩ = some (.int .i64 x.x.e.every) := hca 4 _ rfl; have a5 : wr.cell? ⟨p0, q0 + i * 12 + 5, none⟩ = some (.int .i64 x.x.e.time) := hca 5 _ rfl; have a6 : wr.cell? ⟨p0, q0 + i * 12 + 6, none⟩ = some (.int .i64 x.x.e.client) := hca 6 _ rfl; have a7 : wr.cell? ⟨p0, q0 + i * 12 + 7, none⟩ = some (.int .i64 x.x.at_) := hca 7 _ rfl; have a8 : wr.cell? ⟨p0, q0 + i * 12 + 8, none⟩ = some (.int .i64 x.x.link) := hca 8 _ rfl; have a9 : wr.cell? ⟨p0, q0 + i * 12 + 9, none⟩ = some (.int .i64 x.x.played) := hca 9 _ rfl; have a10 : wr.cell? ⟨p0, q0 + i * 12 + 10, none⟩ = some (.slice x.A x.n x.c) := hca 10 _ rfl; have a11 : wr.cell? ⟨p0, q0 + i * 12 + 11, none⟩ = some (.slice x.G x.m x.d) := hca 11 _ rfl
      have b0 : wr.cell? ⟨p1, q1 + i * 12, none⟩ = some (.int .i64 y.x.epoch) := hcb 0 _ rfl; have b1 : wr.cell? ⟨p1, q1 + i * 12 + 1, none⟩ = some (.int .i64 y.x.doing) := hcb 1 _ rfl; have b2 : wr.cell? ⟨p1, q1 + i * 12 + 2, none⟩ = some (.int .i64 y.x.e.kind) := hcb 2 _ rfl; have b3 : wr.cell? ⟨p1, q1 + i * 12 + 3, none⟩ = some (.int .i64 y.x.e.job) := hcb 3 _ rfl; have b4 : wr.cell? ⟨p1, q1 + i * 12 + 4, none⟩ = some (.int .i64 y.x.e.every) := hcb 4 _ rfl; have b5 : wr.cell? ⟨p1, q1 + i * 12 + 5, none⟩ = some (.int .i64 y.x.e.time) := hcb 5 _ rfl; have b6 : wr.cell? ⟨p1, q1 + i * 12 + 6, none⟩ = some (.int .i64 y.x.e.client) := hcb 6 _ rfl; have b7 : wr.cell? ⟨p1, q1 + i * 12 + 7, none⟩ = some (.int .i64 y.x.at_) := hcb 7 _ rfl; have b8 : wr.cell? ⟨p1, q1 + i * 12 + 8, none⟩ = some (.int .i64 y.x.link) := hcb 8 _ rfl; have b9 : wr.cell? ⟨p1, q1 + i * 12 + 9, none⟩ = some (.int .i64 y.x.played) := hcb 9 _ rfl; have b10 : wr.cell? ⟨p1, q1 + i * 12 + 10, none⟩ = some (.slice y.A y.n y.c) := hcb 10 _ rfl; have b11 : wr.cell? ⟨p1, q1 + i * 12 + 11, none⟩ = some (.slice y.G y.m y.d) := hcb 11 _ rfl
      have hmx := List.mem_of_getElem? hx; have hmy := List.mem_of_getElem? hy
      have HX := Lib.hid hx; have HY := Lib.hid hy
      clear hca hcb hx hy
      go_upto_region 6 with fail
      refine wp_box1 (v1 := [.int .i64 x.x.epoch, .int .i64 x.x.doing, .int .i64 x.x.e.kind, .int .i64 x.x.e.job, .int .i64 x.x.e.every, .int .i64 x.x.e.time, .int .i64 x.x.e.client, .int .i64 x.x.at_, .int .i64 x.x.link, .int .i64 x.x.played, .slice x.A x.n x.c, .slice x.G x.m x.d]) rfl fun w6 ox X => ?_
      have b0 := cellB ox b0; have b1 := cellB ox b1; have b2 := cellB ox b2; have b3 := cellB ox b3; have b4 := cellB ox b4; have b5 := cellB ox b5; have b6 := cellB ox b6; have b7 := cellB ox b7; have b8 := cellB ox b8; have b9 := cellB ox b9; have b10 := cellB ox b10; have b11 := cellB ox b11
      clear a0 a1 a2 a3 a4 a5 a6 a7 a8 a9 a10 a11
      generalize wr.heap.size = zx at *
      go_upto_region 7 with fail
      refine wp_box1 (v1 := [.int .i64 y.x.epoch, .int .i64 y.x.doing, .int .i64 y.x.e.kind, .int .i64 y.x.e.job, .int .i64 y.x.e.every, .int .i64 y.x.e.time, .int .i64 y.x.e.client, .int .i64 y.x.at_, .int .i64 y.x.link, .int .i64 y.x.played, .slice y.A y.n y.c, .slice y.G y.m y.d]) rfl fun w7 oy Y => ?_
      have X := X.onto oy
      have on7 := (on.to ox).to oy
      clear b0 b1 b2 b3 b4 b5 b6 b7 b8 b9 b10 b11 ox oy
      generalize w6.heap.size = zy at *
      have a0 := X.at_ 0 rfl; have a1 := X.at_ 1 rfl; have a2 := X.at_ 2 rfl; have a3 := X.at_ 3 rfl; have a4 := X.at_ 4 rfl; have a5 := X.at_ 5 rfl; have a6 := X.at_ 6 rfl; have a7 := X.at_ 7 rfl; have a8 := X.at_ 8 rfl; have a9 := X.at_ 9 rfl; have a10 := X.at_ 10 rfl; have a11 := X.at_ 11 rfl
      have b0 := Y.at_ 0 rfl; have b1 := Y.at_ 1 rfl; have b2 := Y.at_ 2 rfl; have b3 := Y.at_ 3 rfl; have b4 := Y.at_ 4 rfl; have b5 := Y.at_ 5 rfl; have b6 := Y.at_ 6 rfl; have b7 := Y.at_ 7 rfl; have b8 := Y.at_ 8 rfl; have b9 := Y.at_ 9 rfl; have b10 := Y.at_ 10 rfl; have b11 := Y.at_ 11 rfl
      go_wp2_with fail
      refine Calls.mono (hp'.out x hmx y hmy _ on7) ?_
      rintro e w8 ⟨rfl, b⟩
      have on8 := on7.to b
      clear X Y a0 b0 a1 b1 a2 b2 a3 b3 a4 b4 a5 b5 a6 b6 a7 b7 a8 b8 a9 b9 a10 b10 a11 b11 on on7 b
      have hst : eqF p (l.drop i) (l'.drop i) = (p x y && eqF p (l.drop (i + 1)) (l'.drop (i + 1))) := by
       rw [List.drop_eq_getElem_cons (by have := HL.out; omega), List.drop_eq_getElem_cons (l := l') (by have := HL'.out; omega), (List.getElem?_eq_some_iff.1 HX.out).2, (List.getElem?_eq_some_iff.1 HY.out).2]; rfl
      have HS := Lib.hid hst
      clear hst
      cases hpx : p x y with
      | true =>
        have hq2 : q = eqF p (l.drop (i + 1)) (l'.drop (i + 1)) := by rw [HQ.out, HS.out, hpx]; rfl
        have HQ2 := Lib.hid hq2
        clear hq2 hpx HQ
        go_wp2_with fail
        go_roundg (n - (i + 1))
        case measure => omega
        case rel => exact ⟨i + 1, by omega, Nat.le_refl _, by go_num, on8, HQ2⟩
      | false =>
        have hq2 : q = false := by rw [HQ.out, HS.out, hpx]; rfl
        subst hq2
        clear hpx
        go_wp2_with fail
        go_ret
        exact ⟨rfl, on8⟩
    · obtain rfl : i = n := by omega
      have hq2 : q = true := by
       rw [HQ.out, List.drop_eq_nil_of_le (by have := HL.out; omega), List.drop_eq_nil_of_le (by have := HL'.out; omega)]; rfl
      subst hq2
      go_wp2_with fail
      go_ret
      exact ⟨rfl, on⟩
 · have hq2 : q = false := by rw [HQ.out]; exact eqF_len (by rw [HL.out, HL'.out]; exact hnm)
   subst hq2
   have hd : ((n : Int) != (m : Int)) = true := by simp; omega
   clear HQ
   go_enter Tryz.func57, Tryz.ntmps57
   go_wp2_with fail
   go_ret
   exact ⟨rfl, Onto.rfl' _⟩
set_option maxHeartbeats 4000000 in
set_option maxRecDepth 100000 in
theorem WSame_calls (A A' : Option Addr) (n c n' c' : Nat) (tip tip' : Int) (C C' : Option Addr) (m d m' d' : Nat) (time time' : Int) (ns ns' : List NV) (cs cs' : List CV) (w : World) (R : WR w A n C m ns cs) (R' : WR w A' n' C' m' ns' cs')
    (hn : n ≤ 1000000000000) (hm : m ≤ 1000000000000) (hc : ∀ v ∈ cs, v.n ≤ 9223372036854775807 ∧ v.m ≤ 9223372036854775807) :
    Calls Tryz.prog 21 #[.agg #[.slice A n c, .int .i64 tip, .slice C m d, .int .i64 time], .agg #[.slice A' n' c', .int .i64 tip', .slice C' m' d', .int .i64 time']] w fun e w' => e = .returned (.bool (decide (wor ns tip cs time = wor ns' tip' cs' time'))) ∧ Onto w w' := by
 obtain ⟨r, hr⟩ : ∃ r, r = decide (wor ns tip cs time = wor ns' tip' cs' time') := ⟨_, rfl⟩
 rw [← hr]
 have hr2 : r = (decide (tip = tip') && (decide (time = time') && (decide (clis cs = clis cs') && decide (nods ns = nods ns')))) := by
  rw [hr]
  unfold wor
  simp only [Wor.mk.injEq]
  by_cases h1 : tip = tip' <;> by_cases h2 : time = time' <;> by_cases h3 : clis cs = clis cs' <;> by_cases h4 : nods ns = nods ns' <;> simp [h1, h2, h3, h4]
 have HR := Lib.hid hr2
 have HC := Lib.hid hc
 clear hr hr2 hc
 go_enter Tryz.func21, Tryz.ntmps21
 go_upto_region 1 with fail
 have on := ((Onto.rfl' w).new (Obj.cells #[.slice A n c, .int .i64 tip, .slice C m d, .int .i64 time] 25)).new (Obj.cells #[.slice A' n' c', .int .i64 tip', .slice C' m' d', .int .i64 time'] 25)
 have U : Bx ((w.alloc (Obj.cells #[.slice A n c, .int .i64 tip, .slice C m d, .int .i64 time] 25)).alloc (Obj.cells #[.slice A' n' c', .int .i64 tip', .slice C' m' d', .int .i64 time'] 25)) w.heap.size [.slice A n c, .int .i64 tip, .slice C m d, .int .i64 time] := (Bx.made _ _ _).new _
 have V : Bx ((w.alloc (Obj.cells #[.slice A n c, .int .i64 tip, .slice C m d, .int .i64 time] 25)).alloc (Obj.cells #[.slice A' n' c', .int .i64 tip', .slice C' m' d', .int .i64 time'] 25)) (w.heap.size + 1) [.slice A' n' c', .int .i64 tip', .slice C' m' d', .int .i64 time'] := made1 w _ #[.slice A' n' c', .int .i64 tip', .slice C' m' d', .int .i64 time'] _
 replace R := R.onto on; replace R' := R'.onto on
 try change Code.wp _ _ _ _ ((w.alloc (Obj.cells #[.slice A n c, .int .i64 tip, .slice C m d, .int .i64 time] 25)).alloc (Obj.cells #[.slice A' n' c', .int .i64 tip', .slice C' m' d', .int .i64 time'] 25))
 generalize ((w.alloc (Obj.cells #[.slice A n c, .int .i64 tip, .slice C m d, .int .i64 time] 25)).alloc (Obj.cells #[.slice A' n' c', .int .i64 tip', .slice C' m' d', .int .i64 time'] 25)) = w1 at *
 generalize w.heap.size = z at *
 have a0 := U.at_ 0 rfl; have a1 := U.at_ 1 rfl; have a2 := U.at_ 2 rfl; have a3 := U.at_ 3 rfl
 have b0 := V.at_ 0 rfl; have b1 := V.at_ 1 rfl; have b2 := V.at_ 2 rfl; have b3 := V.at_ 3 rfl
 cases h1 : decide (tip = tip') with
 | false =>
   have hrr : r = false := by rw [HR.out, h1]; rfl
   subst hrr
   have hd : (tip == tip') = false := by simpa using h1
   clear h1 HR
   go_wp2_with fail
   go_ret
   exact ⟨rfl, on⟩
 | true =>
   have hrr : r = (decide (time = time') && (decide (clis cs = clis cs') && decide (nods ns = nods ns'))) := by rw [HR.out, h1]; rfl
   have HR2 := Lib.hid hrr
   have hd : (tip == tip') = true := by simpa using h1
   clear h1 HR hrr
   cases h2 : decide (time = time') with
   | false =>
     have hrr : r = false := by rw [HR2.out, h2]; rfl
     subst hrr
     have hd2 : (time == time') = false := by simpa using h2
     clear h2 HR2
     go_wp2_with fail
     go_ret
     exact ⟨rfl, on⟩
   | true =>
     have hrr : r = (decide (clis cs = clis cs') && decide (nods ns = nods ns')) := by rw [HR2.out, h2]; rfl
     have HR3 := Lib.hid hrr
     have hd2 : (time == time') = true := by simpa using h2
     clear h2 HR2 hrr
     go_wp2_with fail
     refine Calls.mono (EqualFuncC_calls C C' m d m' d' cs cs' 16 (fun x y => decide (x.x = y.x)) _ R.cr R'.cr hm (fun _ _ => by kernel_rfl) (fun x hx y hy w' hw => ClSame_calls x.x.epoch x.x.doing x.x.at_ x.x.link x.x.played y.x.epoch y.x.doing y.x.at_ y.x.link y.x.played x.x.e y.x.e x.A x.G y.A y.G x.n x.c x.m x.d y.n y.c y.m y.d x.x.b y.x.b w' ((R.ci x hx).onto hw).jobs ((R.ci x hx).onto hw).rung ((R'.ci y hy).onto hw).jobs ((R'.ci y hy).onto hw).rung (HC.out x hx).1 (HC.out x hx).2)) ?_
     rw [eqF_map (fun v : CV => v.x) cs cs']
     rintro e w2 ⟨rfl, b⟩
     replace U := U.onto b; replace V := V.onto b; replace R := R.onto b; replace R' := R'.onto b; replace on := on.to b
     clear a0 a1 a2 a3 b0 b1 b2 b3 b
     have a0 := U.at_ 0 rfl; have b0 := V.at_ 0 rfl
     cases h3 : decide (clis cs = clis cs') with
     | false =>
       have hrr : r = false := by rw [HR3.out, h3]; rfl
       subst hrr
       clear h3 HR3
       go_wp2_with fail
       go_ret
       exact ⟨rfl, on⟩
     | true =>
       have hrr : r = decide (nods ns = nods ns') := by rw [HR3.out, h3]; rfl
       have HR4 := Lib.hid hrr
       clear h3 HR3 hrr
       go_wp2_with fail
       refine Calls.mono (EqualFuncD_calls A A' n c n' c' ns ns' 59 (fun x y => decide (x.x = y.x)) _ R.nr R'.nr hn (fun _ _ => by kernel_rfl) (fun x hx y hy w' hw => NSame_calls x y w' ((R.ni x hx).onto hw) ((R'.ni y hy).onto hw))) ?_
       rw [eqF_map (fun v : NV => v.x) ns ns', show decide (List.map (fun v : NV => v.x) ns = List.map (fun v : NV => v.x) ns') = r from HR4.out.symm]
       rintro e w3 ⟨rfl, b⟩
       replace on := on.to b
       go_wp2_with fail
       go_ret
       exact ⟨by simp, on⟩
end
section
set_option linter.unusedSimpArgs false
set_option linter.unusedVariables false
open Go.RowKit
theorem WSameG_calls (A A' : Option Addr) (n c n' c' : Nat) (tip tip' : Int) (C C' : Option Addr) (m d m' d' : Nat) (time time' : Int) (ns ns' : List NV) (cs cs' : List CV) (w : World) (R : WR w A n C m ns cs) (R' : WR w A' n' C' m' ns' cs') (hg : GoodW (wor ns tip cs time)) :
    Calls Tryz.prog 21 #[.agg #[.slice A n c, .int .i64 tip, .slice C m d, .int .i64 time], .agg #[.slice A' n' c', .int .i64 tip', .slice C' m' d', .int .i64 time']] w fun e w' => e = .returned (.bool (decide (wor ns tip cs time = wor ns' tip' cs' time'))) ∧ Onto w w' := by
 obtain ⟨h1, h2, hs⟩ := small_of R hg
 exact WSame_calls A A' n c n' c' tip tip' C C' m d m' d' time time' ns ns' cs cs' w R R' (by omega) (by omega) (fun v hv => by have := hs.c v hv; omega)
end
section
set_option linter.unusedSimpArgs false
set_option linter.unusedVariables false
def ofH (k c : Int) : Hap := ⟨k, c, 0, 0, 0, zeroE⟩
def toA : List Hap := [ofH 3 0, ofH 4 0, ofH 4 0, ofH 4 0, ofH 7 0]
def toE : Entry := ⟨1, 2, 5, 3, 0⟩
def toX : Hap := ⟨1, 0, 0, 0, 0, toE⟩
def toB : List Hap := [⟨2, 0, 0, 2, 0, zeroE⟩, ⟨11, 0, 4, 0, 0, zeroE⟩, ⟨2, 0, 0, 2, 0, zeroE⟩]
def toL : List Hap := [toX] ++ toA ++ toB ++ toA
def toW : Wor := (runW newW toL).1
theorem to_said : (runW newW toL).2 = ([0, 0, 0, 0, 0, 0, 5, 0, 0, 0, 0, 0, 0, 0], 0) := by decide +kernel
theorem to_world : toW.tip = 2 ∧ (cliAt toW.c 0).played = 2 ∧ (cliAt toW.c 0).b.rung = [⟨2, 3, 0⟩] := by decide +kernel
def tlE : Entry := ⟨1, 1, 5, 3, 0⟩
def tlA : List Hap := [toX, ofH 3 0, ⟨1, 1, 0, 0, 0, tlE⟩, ofH 3 1, ofH 4 1, ofH 4 1, ofH 4 1]
def tlB : List Hap := [⟨6, 1, 0, 0, 0, zeroE⟩, ofH 4 1, ofH 4 1, ofH 4 1, ofH 4 0]
def tlW : Wor := (runW newW tlA).1
def tlV : Wor := (runW tlW tlB).1
theorem tl_said : (runW newW tlA).2 = ([0, 0, 0, 0, 0, 0, 0], 0) := by decide +kernel
theorem tl_more : (runW tlW tlB).2 = ([0, 0, 0, 0, 0], 0) := by decide +kernel
theorem tl_holes : holesW tlW = ([0], 0) := by decide +kernel
theorem tl_log : logW tlW = ([], 0) := by decide +kernel
theorem tl_log2 : logW tlV = ([zeroE, tlE], 0) := by decide +kernel
theorem tl_book : (bookW tlV).2 = 0 ∧ (bookW tlV).1.jobs.length = 1 := by decide +kernel
theorem tl_do : (cliAt tlV.c 0).doing = 1 := by decide +kernel
end
section
set_option linter.unusedSimpArgs false
set_option linter.unusedVariables false
open Go.RowKit
attribute [local go_sem ↓] Go.wp_at_zero Go.wp_at_succ
theorem encH_len (l : List Hap) : ∀ r ∈ l.map encH, r.length = 10 := fun r hr => by obtain ⟨v, _, rfl⟩ := List.mem_map.1 hr; rfl
theorem encH_one (l : List Hap) : ∀ r ∈ l.map encH, ∀ u ∈ r, u.oneCell' = true := fun r hr u hu => by
 obtain ⟨v, _, rfl⟩ := List.mem_map.1 hr
 simp [encH] at hu
 rcases hu with rfl | rfl | rfl | rfl | rfl | rfl | rfl | rfl | rfl | rfl <;> rfl
set_option maxHeartbeats 8000000 in
set_option maxRecDepth 100000 in
theorem tolled_calls (w : World) (E : Env w) : Calls Tryz.prog 14 #[] w fun e w' => e = .returned (.bool true) ∧ Onto w w' := by
 go_enter Tryz.func14, Tryz.ntmps14
 go_wp2_with fail
 refine Calls.mono (toOf_calls 3 0 _) ?_
 rintro e w1 ⟨rfl, b1⟩
 go_wp2_with fail
 refine Calls.mono (toOf_calls 4 0 _) ?_
 rintro e w2 ⟨rfl, b2⟩
 go_wp2_with fail
 refine Calls.mono (toOf_calls 4 0 _) ?_
 rintro e w3 ⟨rfl, b3⟩
 go_wp2_with fail
 refine Calls.mono (toOf_calls 4 0 _) ?_
 rintro e w4 ⟨rfl, b4⟩
 go_wp2_with fail
 refine Calls.mono (toOf_calls 7 0 _) ?_
 rintro e w5 ⟨rfl, b5⟩
 have on := (((b1.to b2).to b3).to b4).to b5
 clear b1 b2 b3 b4 b5
 go_upto_region 3 with fail
 have oA := (Onto.rfl' w5).new (Obj.cells #[.int .i64 3, .int .i64 0, .int .i64 0, .int .i64 0, .int .i64 0, .int .i64 0, .int .i64 0, .int .i64 0, .int .i64 0, .int .i64 0, .int .i64 4, .int .i64 0, .int .i64 0, .int .i64 0, .int .i64 0, .int .i64 0, .int .i64 0, .int .i64 0, .int .i64 0, .int .i64 0, .int .i64 4, .int .i64 0, .int .i64 0, .int .i64 0, .int .i64 0, .int .i64 0, .int .i64 0, .int .i64 0, .int .i64 0, .int .i64 0, .int .i64 4, .int .i64 0, .int .i64 0, .int .i64 0, .int .i64 0, .int .i64 0, .int .i64 0, .int .i64 0, .int .i64 0, .int .i64 0, .int .i64 7, .int .i64 0, .int .i64 0, .int .i64 0, .int .i64 0, .int .i64 0, .int .i64 0, .int .i64 0, .int .i64 0, .int .i64 0] 29)
 have SA : S (w5.alloc (Obj.cells #[.int .i64 3, .int .i64 0, .int .i64 0, .int .i64 0, .int .i64 0, .int .i64 0, .int .i64 0, .int .i64 0, .int .i64 0, .int .i64 0, .int .i64 4, .int .i64 0, .int .i64 0, .int .i64 0, .int .i64 0, .int .i64 0, .int .i64 0, .int .i64 0, .int .i64 0, .int .i64 0, .int .i64 4, .int .i64 0, .int .i64 0, .int .i64 0, .int .i64 0, .int .i64 0, .int .i64 0, .int .i64 0, .int .i64 0, .int .i64 0, .int .i64 4, .int .i64 0, .int .i64 0, .int .i64 0, .int .i64 0, .int .i64 0, .int .i64 0, .int .i64 0, .int .i64 0, .int .i64 0, .int .i64 7, .int .i64 0, .int .i64 0, .int .i64 0, .int .i64 0, .int .i64 0, .int .i64 0, .int .i64 0, .int .i64 0, .int .i64 0] 29)) 10 (some ⟨w5.heap.size, 0, none⟩) 5 (toA.map encH) := by
  have := Sl.block (w := (w5.alloc (Obj.cells #[.int .i64 3, .int .i64 0, .int .i64 0, .int .i64 0, .int .i64 0, .int .i64 0, .int .i64 0, .int .i64 0, .int .i64 0, .int .i64 0, .int .i64 4, .int .i64 0, .int .i64 0, .int .i64 0, .int .i64 0, .int .i64 0, .int .i64 0, .int .i64 0, .int .i64 0, .int .i64 0, .int .i64 4, .int .i64 0, .int .i64 0, .int .i64 0, .int .i64 0, .int .i64 0, .int .i64 0, .int .i64 0, .int .i64 0, .int .i64 0, .int .i64 4, .int .i64 0, .int .i64 0, .int .i64 0, .int .i64 0, .int .i64 0, .int .i64 0, .int .i64 0, .int .i64 0, .int .i64 0, .int .i64 7, .int .i64 0, .int .i64 0, .int .i64 0, .int .i64 0, .int .i64 0, .int .i64 0, .int .i64 0, .int .i64 0, .int .i64 0] 29))) (k := 10) (toA.map encH) (heap_alloc_new w5 _) (encH_len _) rfl
  exact this
 replace on := on.to oA
 clear oA
 try change Code.wp _ _ _ _ (w5.alloc (Obj.cells #[.int .i64 3, .int .i64 0, .int .i64 0, .int .i64 0, .int .i64 0, .int .i64 0, .int .i64 0, .int .i64 0, .int .i64 0, .int .i64 0, .int .i64 4, .int .i64 0, .int .i64 0, .int .i64 0, .int .i64 0, .int .i64 0, .int .i64 0, .int .i64 0, .int .i64 0, .int .i64 0, .int .i64 4, .int .i64 0, .int .i64 0, .int .i64 0, .int .i64 0, .int .i64 0, .int .i64 0, .int .i64 0, .int .i64 0, .int .i64 0, .int .i64 4, .int .i64 0, .int .i64 0, .int .i64 0, .int .i64 0, .int .i64 0, .int .i64 0, .int .i64 0, .int .i64 0, .int .i64 0, .int .i64 7, .int .i64 0, .int .i64 0, .int .i64 0, .int .i64 0, .int .i64 0, .int .i64 0, .int .i64 0, .int .i64 0, .int .i64 0] 29))
 generalize (w5.alloc (Obj.cells #[.int .i64 3, .int .i64 0, .int .i64 0, .int .i64 0, .int .i64 0, .int .i64 0, .int .i64 0, .int .i64 0, .int .i64 0, .int .i64 0, .int .i64 4, .int .i64 0, .int .i64 0, .int .i64 0, .int .i64 0, .int .i64 0, .int .i64 0, .int .i64 0, .int .i64 0, .int .i64 0, .int .i64 4, .int .i64 0, .int .i64 0, .int .i64 0, .int .i64 0, .int .i64 0, .int .i64 0, .int .i64 0, .int .i64 0, .int .i64 0, .int .i64 4, .int .i64 0, .int .i64 0, .int .i64 0, .int .i64 0, .int .i64 0, .int .i64 0, .int .i64 0, .int .i64 0, .int .i64 0, .int .i64 7, .int .i64 0, .int .i64 0, .int .i64 0, .int .i64 0, .int .i64 0, .int .i64 0, .int .i64 0, .int .i64 0, .int .i64 0] 29)) = w6 at *
 generalize w5.heap.size = zA at *
 go_wp2_with fail
 refine Calls.mono (WNew_calls _) ?_
 rintro e w7 ⟨A, n, C, m, ns, cs, rfl, R, hW, b7⟩
 go_wp2_with fail
 refine Calls.mono (put_calls 2 5 3 _) ?_
 rintro e w8 ⟨rfl, b8⟩
 replace b8 : Onto w7 w8 := b8
 replace SA := (SA.onto b7).onto b8; replace R := R.onto b8; replace on := (on.to b7).to b8
 have oX := (Onto.rfl' w8).new (Obj.cells #[.int .i64 1, .int .i64 0, .int .i64 0, .int .i64 0, .int .i64 0, .int .i64 1, .int .i64 2, .int .i64 5, .int .i64 3, .int .i64 0] 29)
 have oB := (Onto.rfl' (w8.alloc (Obj.cells #[.int .i64 1, .int .i64 0, .int .i64 0, .int .i64 0, .int .i64 0, .int .i64 1, .int .i64 2, .int .i64 5, .int .i64 3, .int .i64 0] 29))).new (Obj.cells #[.int .i64 2, .int .i64 0, .int .i64 0, .int .i64 2, .int .i64 0, .int .i64 0, .int .i64 0, .int .i64 0, .int .i64 0, .int .i64 0, .int .i64 11, .int .i64 0, .int .i64 4, .int .i64 0, .int .i64 0, .int .i64 0, .int .i64 0, .int .i64 0, .int .i64 0, .int .i64 0, .int .i64 2, .int .i64 0, .int .i64 0, .int .i64 2, .int .i64 0, .int .i64 0, .int .i64 0, .int .i64 0, .int .i64 0, .int .i64 0] 29)
 have oS := (Onto.rfl' ((w8.alloc (Obj.cells #[.int .i64 1, .int .i64 0, .int .i64 0, .int .i64 0, .int .i64 0, .int .i64 1, .int .i64 2, .int .i64 5, .int .i64 3, .int .i64 0] 29)).alloc (Obj.cells #[.int .i64 2, .int .i64 0, .int .i64 0, .int .i64 2, .int .i64 0, .int .i64 0, .int .i64 0, .int .i64 0, .int .i64 0, .int .i64 0, .int .i64 11, .int .i64 0, .int .i64 4, .int .i64 0, .int .i64 0, .int .i64 0, .int .i64 0, .int .i64 0, .int .i64 0, .int .i64 0, .int .i64 2, .int .i64 0, .int .i64 0, .int .i64 2, .int .i64 0, .int .i64 0, .int .i64 0, .int .i64 0, .int .i64 0, .int .i64 0] 29))).new (Obj.cells #[.slice (some ⟨w8.heap.size, 0, none⟩) 1 1, .slice (some ⟨zA, 0, none⟩) 5 5, .slice (some ⟨(w8.heap.size + 1), 0, none⟩) 3 3, .slice (some ⟨zA, 0, none⟩) 5 5] 53)
 have SX : S (w8.alloc (Obj.cells #[.int .i64 1, .int .i64 0, .int .i64 0, .int .i64 0, .int .i64 0, .int .i64 1, .int .i64 2, .int .i64 5, .int .i64 3, .int .i64 0] 29)) 10 (some ⟨w8.heap.size, 0, none⟩) 1 ([toX].map encH) := by
  have := Sl.block (w := (w8.alloc (Obj.cells #[.int .i64 1, .int .i64 0, .int .i64 0, .int .i64 0, .int .i64 0, .int .i64 1, .int .i64 2, .int .i64 5, .int .i64 3, .int .i64 0] 29))) (k := 10) ([toX].map encH) (heap_alloc_new w8 _) (encH_len _) rfl
  exact this
 have SB : S ((w8.alloc (Obj.cells #[.int .i64 1, .int .i64 0, .int .i64 0, .int .i64 0, .int .i64 0, .int .i64 1, .int .i64 2, .int .i64 5, .int .i64 3, .int .i64 0] 29)).alloc (Obj.cells #[.int .i64 2, .int .i64 0, .int .i64 0, .int .i64 2, .int .i64 0, .int .i64 0, .int .i64 0, .int .i64 0, .int .i64 0, .int .i64 0, .int .i64 11, .int .i64 0, .int .i64 4, .int .i64 0, .int .i64 0, .int .i64 0, .int .i64 0, .int .i64 0, .int .i64 0, .int .i64 0, .int .i64 2, .int .i64 0, .int .i64 0, .int .i64 2, .int .i64 0, .int .i64 0, .int .i64 0, .int .i64 0, .int .i64 0, .int .i64 0] 29)) 10 (some ⟨w8.heap.size + 1, 0, none⟩) 3 (toB.map encH) := by
  have := Sl.block (w := ((w8.alloc (Obj.cells #[.int .i64 1, .int .i64 0, .int .i64 0, .int .i64 0, .int .i64 0, .int .i64 1, .int .i64 2, .int .i64 5, .int .i64 3, .int .i64 0] 29)).alloc (Obj.cells #[.int .i64 2, .int .i64 0, .int .i64 0, .int .i64 2, .int .i64 0, .int .i64 0, .int .i64 0, .int .i64 0, .int .i64 0, .int .i64 0, .int .i64 11, .int .i64 0, .int .i64 4, .int .i64 0, .int .i64 0, .int .i64 0, .int .i64 0, .int .i64 0, .int .i64 0, .int .i64 0, .int .i64 2, .int .i64 0, .int .i64 0, .int .i64 2, .int .i64 0, .int .i64 0, .int .i64 0, .int .i64 0, .int .i64 0, .int .i64 0] 29))) (k := 10) (toB.map encH) (heap_alloc_new (w8.alloc (Obj.cells #[.int .i64 1, .int .i64 0, .int .i64 0, .int .i64 0, .int .i64 0, .int .i64 1, .int .i64 2, .int .i64 5, .int .i64 3, .int .i64 0] 29)) _) (encH_len _) rfl
  rw [show (w8.alloc (Obj.cells #[.int .i64 1, .int .i64 0, .int .i64 0, .int .i64 0, .int .i64 0, .int .i64 1, .int .i64 2, .int .i64 5, .int .i64 3, .int .i64 0] 29)).heap.size = w8.heap.size + 1 by simp] at this
  exact this
 have SX3 := (SX.onto oB).onto oS
 have SB3 := SB.onto oS
 have SA3 := ((SA.onto oX).onto oB).onto oS
 have R3 := ((R.onto oX).onto oB).onto oS
 have on3 := ((on.to oX).to oB).to oS
 have HZ : Hid (∀ i p, ([⟨some ⟨w8.heap.size, 0, none⟩, 1, 1, ([toX]).map encH⟩, ⟨some ⟨zA, 0, none⟩, 5, 5, (toA).map encH⟩, ⟨some ⟨(w8.heap.size + 1), 0, none⟩, 3, 3, (toB).map encH⟩, ⟨some ⟨zA, 0, none⟩, 5, 5, (toA).map encH⟩] : List Pt)[i]? = some p → (((w8.alloc (Obj.cells #[.int .i64 1, .int .i64 0, .int .i64 0, .int .i64 0, .int .i64 0, .int .i64 1, .int .i64 2, .int .i64 5, .int .i64 3, .int .i64 0] 29)).alloc (Obj.cells #[.int .i64 2, .int .i64 0, .int .i64 0, .int .i64 2, .int .i64 0, .int .i64 0, .int .i64 0, .int .i64 0, .int .i64 0, .int .i64 0, .int .i64 11, .int .i64 0, .int .i64 4, .int .i64 0, .int .i64 0, .int .i64 0, .int .i64 0, .int .i64 0, .int .i64 0, .int .i64 0, .int .i64 2, .int .i64 0, .int .i64 0, .int .i64 2, .int .i64 0, .int .i64 0, .int .i64 0, .int .i64 0, .int .i64 0, .int .i64 0] 29)).alloc (Obj.cells #[.slice (some ⟨w8.heap.size, 0, none⟩) 1 1, .slice (some ⟨zA, 0, none⟩) 5 5, .slice (some ⟨(w8.heap.size + 1), 0, none⟩) 3 3, .slice (some ⟨zA, 0, none⟩) 5 5] 53)).cell? ⟨w8.heap.size + 2, i, none⟩ = some (.slice p.A p.n p.c)) := Lib.hid fun i p hp => by
  match i with
  | 0 => simp at hp; subst hp; simp [go_sem]
  | 1 => simp at hp; subst hp; simp [go_sem]
  | 2 => simp at hp; subst hp; simp [go_sem]
  | 3 => simp at hp; subst hp; simp [go_sem]
  | i + 4 => simp at hp
 have HS : Hid (∀ p ∈ ([⟨some ⟨w8.heap.size, 0, none⟩, 1, 1, ([toX]).map encH⟩, ⟨some ⟨zA, 0, none⟩, 5, 5, (toA).map encH⟩, ⟨some ⟨(w8.heap.size + 1), 0, none⟩, 3, 3, (toB).map encH⟩, ⟨some ⟨zA, 0, none⟩, 5, 5, (toA).map encH⟩] : List Pt), Sl (((w8.alloc (Obj.cells #[.int .i64 1, .int .i64 0, .int .i64 0, .int .i64 0, .int .i64 0, .int .i64 1, .int .i64 2, .int .i64 5, .int .i64 3, .int .i64 0] 29)).alloc (Obj.cells #[.int .i64 2, .int .i64 0, .int .i64 0, .int .i64 2, .int .i64 0, .int .i64 0, .int .i64 0, .int .i64 0, .int .i64 0, .int .i64 0, .int .i64 11, .int .i64 0, .int .i64 4, .int .i64 0, .int .i64 0, .int .i64 0, .int .i64 0, .int .i64 0, .int .i64 0, .int .i64 0, .int .i64 2, .int .i64 0, .int .i64 0, .int .i64 2, .int .i64 0, .int .i64 0, .int .i64 0, .int .i64 0, .int .i64 0, .int .i64 0] 29)).alloc (Obj.cells #[.slice (some ⟨w8.heap.size, 0, none⟩) 1 1, .slice (some ⟨zA, 0, none⟩) 5 5, .slice (some ⟨(w8.heap.size + 1), 0, none⟩) 3 3, .slice (some ⟨zA, 0, none⟩) 5 5] 53)) (((w8.alloc (Obj.cells #[.int .i64 1, .int .i64 0, .int .i64 0, .int .i64 0, .int .i64 0, .int .i64 1, .int .i64 2, .int .i64 5, .int .i64 3, .int .i64 0] 29)).alloc (Obj.cells #[.int .i64 2, .int .i64 0, .int .i64 0, .int .i64 2, .int .i64 0, .int .i64 0, .int .i64 0, .int .i64 0, .int .i64 0, .int .i64 0, .int .i64 11, .int .i64 0, .int .i64 4, .int .i64 0, .int .i64 0, .int .i64 0, .int .i64 0, .int .i64 0, .int .i64 0, .int .i64 0, .int .i64 2, .int .i64 0, .int .i64 0, .int .i64 2, .int .i64 0, .int .i64 0, .int .i64 0, .int .i64 0, .int .i64 0, .int .i64 0] 29)).alloc (Obj.cells #[.slice (some ⟨w8.heap.size, 0, none⟩) 1 1, .slice (some ⟨zA, 0, none⟩) 5 5, .slice (some ⟨(w8.heap.size + 1), 0, none⟩) 3 3, .slice (some ⟨zA, 0, none⟩) 5 5] 53)).heap.size 10 p.A p.n p.rows) := Lib.hid fun p hp => by
  simp only [List.mem_cons, List.not_mem_nil, or_false] at hp
  rcases hp with rfl | rfl | rfl | rfl
  · exact SX3
  · exact SA3
  · exact SB3
  · exact SA3
 have H1 : Hid (∀ p ∈ ([⟨some ⟨w8.heap.size, 0, none⟩, 1, 1, ([toX]).map encH⟩, ⟨some ⟨zA, 0, none⟩, 5, 5, (toA).map encH⟩, ⟨some ⟨(w8.heap.size + 1), 0, none⟩, 3, 3, (toB).map encH⟩, ⟨some ⟨zA, 0, none⟩, 5, 5, (toA).map encH⟩] : List Pt), ∀ r ∈ p.rows, ∀ u ∈ r, u.oneCell' = true) := Lib.hid fun p hp => by
  simp only [List.mem_cons, List.not_mem_nil, or_false] at hp
  rcases hp with rfl | rfl | rfl | rfl
  all_goals exact encH_one _
 have HR := Lib.hid R3; have HON := Lib.hid on3; have HW := Lib.hid hW
 clear oX oB oS SX SB SX3 SB3 SA3 R3 on3 SA R on b7 b8 hW
 go_wp2_with fail
 refine Calls.mono (ConcatNH_calls _ [⟨some ⟨w8.heap.size, 0, none⟩, 1, 1, ([toX]).map encH⟩, ⟨some ⟨zA, 0, none⟩, 5, 5, (toA).map encH⟩, ⟨some ⟨(w8.heap.size + 1), 0, none⟩, 3, 3, (toB).map encH⟩, ⟨some ⟨zA, 0, none⟩, 5, 5, (toA).map encH⟩] (w8.heap.size + 2) 4 HZ.out HS.out H1.out (by simp) (by simp) (by simp [lenP])) ?_
 rintro e w9 ⟨A1, c1, rfl, ow, b9⟩
 have SL : S w9 10 A1 14 (toL.map encH) := ow.sl
 have R := HR.out.onto b9; have on := HON.out.to b9
 clear HZ HS H1 HR HON ow b9
 go_wp2_with fail
 refine Calls.mono (WRun_calls A 3 n 0 C 3 m 0 ns cs A1 14 c1 toL _ (E.onto on) R SL) ?_
 rw [HW.out]
 rintro e w10 ⟨A', n', c', C', m', d', ns', cs', B, b, y, rfl, R', e1, e2, SE, hby, hym, b10, _⟩
 replace on := on.to b10
 have hs1 : (runW newW toL).2.1 = [0, 0, 0, 0, 0, 0, 5, 0, 0, 0, 0, 0, 0, 0] := by rw [to_said]
 have hs2 : (runW newW toL).2.2 = 0 := by rw [to_said]
 have ht : (runW newW toL).1.tip = 2 := to_world.1
 have hp : (cliAt (runW newW toL).1.c 0).played = 2 := to_world.2.1
 have hr : (cliAt (runW newW toL).1.c 0).b.rung = [⟨2, 3, 0⟩] := to_world.2.2
 have hl3 : (runW newW toL).1.c.length = 3 := (GoodW.run (l := toL) GoodW.new).c3
 rw [hs1] at SE
 rw [hs2, ht]
 have hcl : cs'.length = m' := R'.clen
 have hb14 : 14 = b := by have := SE.len; simpa using this
 subst hb14
 have hm3 : 3 = m' := by rw [← hcl, ← hl3, ← e2]; simp [clis]
 subst hm3
 generalize (runW newW toL).1.time = tm at *
 obtain ⟨bc, oc, v, rfl, hbc, hv, vi, q0, q1, q2, q3, q4, q5, q6, q7, q8, q9, q10, q11⟩ := R'.atC (i := 0) (by omega)
 have hvx : cliAt (runW newW toL).1.c 0 = v.x := by rw [← e2]; exact cliAt_cs hv
 rw [hvx] at hp hr
 rw [hp] at q9
 have sr := vi.rung
 rw [hr] at sr
 have hvm : 1 = v.m := by have := sr.len; simpa using this
 rw [← hvm] at sr q11
 obtain ⟨br, offr, xr, hGr, hbr, hxr, r0, r1, r2⟩ := Sl.atR sr (i := 0) (by omega)
 simp at hxr
 subst hxr
 rw [hGr] at q11
 simp only [Nat.zero_mul, Nat.add_zero] at q9 q11 r0 r1 r2
 clear R' e1 e2 hs1 hs2 ht hp hr hl3 hcl q0 q1 q2 q3 q4 q5 q6 q7 q8 q10 hv vi hvx hvm hbc sr hbr HW E R SL hGr
 have SEh := Lib.hid SE
 have hs := eqlR 2 3 0 2 3 0
 clear SE
 go_upto_region 4 with fail
 refine wp_box1 (v1 := [.slice A' n' c', .int .i64 2, .slice (some ⟨bc, oc, none⟩) 3 d', .int .i64 tm]) rfl fun w11 oW WW => ?_
 have q9 := cellB oW q9; have q11 := cellB oW q11; have r0 := cellB oW r0; have r1 := cellB oW r1; have r2 := cellB oW r2
 replace on := on.to oW
 have SE := Lib.hid (SEh.out.onto oW)
 clear oW SEh
 generalize w10.heap.size = zW at *
 go_wp2_with fail
 refine Calls.mono (IndexN_calls B 14 y _ 5 _ SE.out (by omega)) ?_
 rw [show idxI (fun y => decide ((5 : Int) = y)) [0, 0, 0, 0, 0, 0, 5, 0, 0, 0, 0, 0, 0, 0] = 6 by decide]
 rintro e w12 ⟨rfl, b⟩
 have SE2 := Lib.hid (SE.out.onto b)
 replace q9 := cellB b q9; replace q11 := cellB b q11; replace r0 := cellB b r0; replace r1 := cellB b r1; replace r2 := cellB b r2
 replace on := on.to b; replace WW := WW.onto b
 clear SE b
 go_wp2_with fail
 refine Calls.mono (ContainsFuncN_calls B 14 y _ 52 (fun x => decide (x ≠ 0) && decide (x ≠ 5)) _ SE2.out (by omega) (fun _ _ => by kernel_rfl) (fun x w' _ => toBad_calls x w')) ?_
 rw [show decide (0 ≤ idxI (fun x : Int => decide (x ≠ 0) && decide (x ≠ 5)) [0, 0, 0, 0, 0, 0, 5, 0, 0, 0, 0, 0, 0, 0]) = false by decide]
 rintro e w13 ⟨rfl, b⟩
 replace q9 := cellB b q9; replace q11 := cellB b q11; replace r0 := cellB b r0; replace r1 := cellB b r1; replace r2 := cellB b r2
 replace on := on.to b; replace WW := WW.onto b
 clear SE2 b
 have u1 := WW.at_ 1 rfl; have u2 := WW.at_ 2 rfl
 go_wp2_with fail
 go_ret
 exact ⟨by first | rfl | simp, on⟩
end
end Go.Proofs.YtmppkaoonncddaaGreatDoor
