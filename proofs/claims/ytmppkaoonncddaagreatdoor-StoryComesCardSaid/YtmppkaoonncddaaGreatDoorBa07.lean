/- Part 7 of the proof: Client7, Sort, DelF, SpecD, Due, LawD, LawR, Ring3, Client4, ClNew, Client5, Client6, Client8. -/
import Derived.Test.YtmppkaoonncddaaGreatDoorBa06
import Derived.Test.YtmppkaoonncddaaGreatDoorProg
import Derived.Test.YtmppkaoonncddaaGreatDoorBa02
import Derived.Test.YtmppkaoonncddaaGreatDoorBa05
import Derived.Test.YtmppkaoonncddaaGreatDoorBa03
namespace Go.Proofs.YtmppkaoonncddaaGreatDoor
section
set_option linter.unusedSimpArgs false
set_option linter.unusedVariables false
open Go.RowKit
set_option maxHeartbeats 8000000 in
set_option maxRecDepth 100000 in
theorem ClWant_calls (ep dg at_ ln pl : Int) (x y : Entry) (A A' : Option Addr) (n c m d : Nat) (b : Book) (w : World) (h : S w 3 A n (b.jobs.map encJ)) (h' : S w 3 A' m (b.rung.map encR)) :
    Calls Tryz.prog 102 #[.agg #[.int .i64 ep, .int .i64 dg, .int .i64 x.kind, .int .i64 x.job, .int .i64 x.every, .int .i64 x.time, .int .i64 x.client, .int .i64 at_, .int .i64 ln, .int .i64 pl, .slice A n c, .slice A' m d], .agg #[.int .i64 y.kind, .int .i64 y.job, .int .i64 y.every, .int .i64 y.time, .int .i64 y.client]] w (ClPost w (wantCl ⟨ep, dg, x, at_, ln, pl, b⟩ y).1 (wantCl ⟨ep, dg, x, at_, ln, pl, b⟩ y).2) := by
 obtain ⟨q, hq⟩ : ∃ q, q = restsCl ⟨ep, dg, x, at_, ln, pl, b⟩ := ⟨_, rfl⟩
 obtain ⟨r, hr⟩ : ∃ r, r = wantCl ⟨ep, dg, x, at_, ln, pl, b⟩ y := ⟨_, rfl⟩
 rw [← hr]
 unfold wantCl at hr
 rw [← hq] at hr
 dsimp only at hr
 have HQ := Lib.hid hq; have HR := Lib.hid hr
 clear hq hr
 go_enter Tryz.func102, Tryz.ntmps102
 go_upto_region 1 with fail
 refine wp_box3 (v1 := cL ep dg x.kind x.job x.every x.time x.client at_ ln pl A n c A' m d) (v2 := [.int .i64 y.kind, .int .i64 y.job, .int .i64 y.every, .int .i64 y.time, .int .i64 y.client]) (v3 := zC) rfl rfl rfl fun w1 on B Y Q => ?_
 replace h := h.onto on; replace h' := h'.onto on
 generalize hz : w.heap.size = z at B Q Y ⊢
 have x0 := B.at_ 0 rfl; have x1 := B.at_ 1 rfl; have x2 := B.at_ 2 rfl; have x3 := B.at_ 3 rfl; have x4 := B.at_ 4 rfl; have x5 := B.at_ 5 rfl; have x6 := B.at_ 6 rfl; have x7 := B.at_ 7 rfl; have x8 := B.at_ 8 rfl; have x9 := B.at_ 9 rfl; have x10 := B.at_ 10 rfl; have x11 := B.at_ 11 rfl
 go_wp2_with fail
 refine Calls.mono (ClRests_calls ep dg at_ ln pl x A A' n c m d b _ h h') ?_
 rw [← HQ.out]
 rintro e w2 ⟨rfl, b2⟩
 clear x0 x1 x2 x3 x4 x5 x6 x7 x8 x9 x10 x11
 replace on := on.to b2; replace B := B.onto b2; replace Q := Q.onto b2; replace h := h.onto b2; replace h' := h'.onto b2; replace Y := Y.onto b2
 clear b2
 have hr := HR.out
 by_cases h0 : q = 0
 · subst h0
   rw [if_neg (by simp)] at hr
   clear HR
   have hgb := restsCl_book (HQ.out.symm)
   have hn : n ≤ 1000000 := by have h9 := hgb.nj; dsimp only at h9; have := h.len; simp only [List.length_map] at this; omega
   have hm : m ≤ 1000000 := by have h9 := hgb.nr; dsimp only at h9; have := h'.len; simp only [List.length_map] at this; omega
   clear hgb
   obtain ⟨q2, hq2⟩ : ∃ q2, q2 = checkE y := ⟨_, rfl⟩
   rw [← hq2] at hr
   have HQ2 := Lib.hid hq2
   have HRE := Lib.hid hr
   clear hq2 hr
   have y0 := Y.at_ 0 rfl; have y1 := Y.at_ 1 rfl; have y2 := Y.at_ 2 rfl; have y3 := Y.at_ 3 rfl; have y4 := Y.at_ 4 rfl
   go_wp2_with fail
   refine Calls.mono (Check_calls y.kind y.job y.every y.time y.client _) ?_
   rw [show checkE ⟨y.kind, y.job, y.every, y.time, y.client⟩ = q2 from HQ2.out.symm]
   rintro e w2b ⟨rfl, b2⟩
   clear y0 y1 y2 y3 y4
   replace on := on.to b2; replace B := B.onto b2; replace Q := Q.onto b2; replace h := h.onto b2; replace h' := h'.onto b2; replace Y := Y.onto b2
   clear b2
   have hr := HRE.out
   clear HRE
   by_cases h20 : q2 ≠ 0
   · rw [if_pos h20] at hr
     have HR := Lib.hid hr
     have hd : (q2 != 0) = true := by simpa using h20
     clear h20
     clear hr
     go_wp2_with (refine wpList_put Q zC 41 _ _ (by rfl) (by rfl) (by rfl) (by rfl) (by rfl) sizeC12 (by rfl) ?_)
     exact bodyPost_ret (res_cl Tryz.results102 rfl rfl (Q.put rfl)) rfl (ClPost.bad HR.out (put_onto (by omega) on))
   · rw [if_neg h20] at hr
     obtain rfl : q2 = 0 := Decidable.not_not.1 h20
     clear h20
     by_cases hk : y.kind = 0
     · rw [if_pos hk] at hr
       have HR := Lib.hid hr
       have hd : (y.kind == 0) = true := by simpa using hk
       clear hk
       clear hr
       have y0 := Y.at_ 0 rfl
       go_wp2_with (refine wpList_put Q zC 41 _ _ (by rfl) (by rfl) (by rfl) (by rfl) (by rfl) sizeC12 (by rfl) ?_)
       exact bodyPost_ret (res_cl Tryz.results102 rfl rfl (Q.put rfl)) rfl (ClPost.bad HR.out (put_onto (by omega) on))
     · rw [if_neg hk] at hr
       have HR := Lib.hid hr
       have hd : (y.kind == 0) = false := by simpa using hk
       clear hr hk
       have y0 := Y.at_ 0 rfl
       go_upto_region 9 with fail
       clear y0
       have x0 := B.at_ 0 rfl; have x1 := B.at_ 1 rfl; have x2 := B.at_ 2 rfl; have x3 := B.at_ 3 rfl; have x4 := B.at_ 4 rfl; have x5 := B.at_ 5 rfl; have x6 := B.at_ 6 rfl; have x7 := B.at_ 7 rfl; have x8 := B.at_ 8 rfl; have x9 := B.at_ 9 rfl; have x10 := B.at_ 10 rfl; have x11 := B.at_ 11 rfl
       have hzl := B.lt; have hrl := Q.lt
       go_wp2_with fail
       refine Calls.mono (ClCopy_calls ep dg at_ ln pl x A A' n c m d b _ h h' hn hm) ?_
       rintro e w3 ⟨A1, c1, A2, c2, rfl, s1, s2, b3, k1, k2, f1, f2⟩
       have o1 : OffN n z A1 := f1.offN hzl; have o2 : OffN m z A2 := f2.offN hzl
       have p1 : OffN n (z + 1 + 1) A1 := f1.offN hrl; have p2 : OffN m (z + 1 + 1) A2 := f2.offN hrl
       have g1 : Fresh w.heap.size A1 := fun a e => Nat.le_trans on.size (f1 a e); have g2 : Fresh w.heap.size A2 := fun a e => Nat.le_trans on.size (f2 a e)
       clear h h' hn hm f1 f2 hzl hrl
       clear x0 x1 x2 x3 x4 x5 x6 x7 x8 x9 x10 x11
       replace on := on.to b3; replace B := B.onto b3; replace Q := Q.onto b3; replace Y := Y.onto b3
       clear b3
       go_upto_region 10 with (refine wpList_put B (cL ep dg x.kind x.job x.every x.time x.client at_ ln pl A1 n c1 A2 m c2) 41 _ _ (by rfl) (by rfl) (by rfl) (by rfl) (by rfl) sizeC12 (by rfl) ?_)
       replace B := B.put (us := cL ep dg x.kind x.job x.every x.time x.client at_ ln pl A1 n c1 A2 m c2) rfl; replace Q := Q.off (b := z) (o := 0) (us := cL ep dg x.kind x.job x.every x.time x.client at_ ln pl A1 n c1 A2 m c2) (by omega); replace Y := Y.off (b := z) (o := 0) (us := cL ep dg x.kind x.job x.every x.time x.client at_ ln pl A1 n c1 A2 m c2) (by omega)
       replace s1 := put_S (w := w3) o1 (vs := cL ep dg x.kind x.job x.every x.time x.client at_ ln pl A1 n c1 A2 m c2) (o := 0) s1; replace s2 := put_S (w := w3) o2 (vs := cL ep dg x.kind x.job x.every x.time x.client at_ ln pl A1 n c1 A2 m c2) (o := 0) s2
       replace on := Onto.puts (b := z) (o := 0) (us := cL ep dg x.kind x.job x.every x.time x.client at_ ln pl A1 n c1 A2 m c2) (by omega) on
       generalize World.setCells w3 z 0 _ = w4 at *
       have y0 := Y.at_ 0 rfl; have y1 := Y.at_ 1 rfl; have y2 := Y.at_ 2 rfl; have y3 := Y.at_ 3 rfl; have y4 := Y.at_ 4 rfl
       have t1 := B.froz 1; have t2 := B.froz 2; have t3 := B.froz 3; have t4 := B.froz 4; have t5 := B.froz 5; have t6 := B.froz 6
       have x1 := B.at_ 1 rfl; have x2 := B.at_ 2 rfl; have x3 := B.at_ 3 rfl; have x4 := B.at_ 4 rfl; have x5 := B.at_ 5 rfl; have x6 := B.at_ 6 rfl
       go_region
       all_goals
        go_upto_region 11 with fail
        clear x1 x2 x3 x4 x5 x6
        clear t1 t2 t3 t4 t5 t6
        replace B := B.put1 (j := 1) (by simp) (.int .i64 1); replace Q := Q.off1 (p := ⟨z, 1, none⟩) (by show _ ≠ z; omega) (.int .i64 1); replace Y := Y.off1 (p := ⟨z, 1, none⟩) (by show _ ≠ z; omega) (.int .i64 1); replace s1 := S.off s1 (p := ⟨z, 1, none⟩) o1 (.int .i64 1); replace s2 := S.off s2 (p := ⟨z, 1, none⟩) o2 (.int .i64 1); replace on := on.put (p := ⟨z, 1, none⟩) (by simp; omega) (.int .i64 1)
        replace B := B.put1 (j := 2) (by simp) (.int .i64 y.kind); replace Q := Q.off1 (p := ⟨z, 2, none⟩) (by show _ ≠ z; omega) (.int .i64 y.kind); replace Y := Y.off1 (p := ⟨z, 2, none⟩) (by show _ ≠ z; omega) (.int .i64 y.kind); replace s1 := S.off s1 (p := ⟨z, 2, none⟩) o1 (.int .i64 y.kind); replace s2 := S.off s2 (p := ⟨z, 2, none⟩) o2 (.int .i64 y.kind); replace on := on.put (p := ⟨z, 2, none⟩) (by simp; omega) (.int .i64 y.kind)
        replace B := B.put1 (j := 3) (by simp) (.int .i64 y.job); replace Q := Q.off1 (p := ⟨z, 3, none⟩) (by show _ ≠ z; omega) (.int .i64 y.job); replace Y := Y.off1 (p := ⟨z, 3, none⟩) (by show _ ≠ z; omega) (.int .i64 y.job); replace s1 := S.off s1 (p := ⟨z, 3, none⟩) o1 (.int .i64 y.job); replace s2 := S.off s2 (p := ⟨z, 3, none⟩) o2 (.int .i64 y.job); replace on := on.put (p := ⟨z, 3, none⟩) (by simp; omega) (.int .i64 y.job)
        replace B := B.put1 (j := 4) (by simp) (.int .i64 y.every); replace Q := Q.off1 (p := ⟨z, 4, none⟩) (by show _ ≠ z; omega) (.int .i64 y.every); replace Y := Y.off1 (p := ⟨z, 4, none⟩) (by show _ ≠ z; omega) (.int .i64 y.every); replace s1 := S.off s1 (p := ⟨z, 4, none⟩) o1 (.int .i64 y.every); replace s2 := S.off s2 (p := ⟨z, 4, none⟩) o2 (.int .i64 y.every); replace on := on.put (p := ⟨z, 4, none⟩) (by simp; omega) (.int .i64 y.every)
        replace B := B.put1 (j := 5) (by simp) (.int .i64 y.time); replace Q := Q.off1 (p := ⟨z, 5, none⟩) (by show _ ≠ z; omega) (.int .i64 y.time); replace Y := Y.off1 (p := ⟨z, 5, none⟩) (by show _ ≠ z; omega) (.int .i64 y.time); replace s1 := S.off s1 (p := ⟨z, 5, none⟩) o1 (.int .i64 y.time); replace s2 := S.off s2 (p := ⟨z, 5, none⟩) o2 (.int .i64 y.time); replace on := on.put (p := ⟨z, 5, none⟩) (by simp; omega) (.int .i64 y.time)
        replace B := B.put1 (j := 6) (by simp) (.int .i64 y.client); replace Q := Q.off1 (p := ⟨z, 6, none⟩) (by show _ ≠ z; omega) (.int .i64 y.client); replace Y := Y.off1 (p := ⟨z, 6, none⟩) (by show _ ≠ z; omega) (.int .i64 y.client); replace s1 := S.off s1 (p := ⟨z, 6, none⟩) o1 (.int .i64 y.client); replace s2 := S.off s2 (p := ⟨z, 6, none⟩) o2 (.int .i64 y.client); replace on := on.put (p := ⟨z, 6, none⟩) (by simp; omega) (.int .i64 y.client)
        replace B := B.draw; replace Q := Q.draw; replace s1 := S.draw s1; replace s2 := S.draw s2; replace on := on.draw
        clear Y y0 y1 y2 y3 y4
        generalize (((((((w4.setCell ⟨z, 1, none⟩ (.int .i64 1)).setCell ⟨z, 2, none⟩ (.int .i64 y.kind)).setCell ⟨z, 3, none⟩ (.int .i64 y.job)).setCell ⟨z, 4, none⟩ (.int .i64 y.every)).setCell ⟨z, 5, none⟩ (.int .i64 y.time)).setCell ⟨z, 6, none⟩ (.int .i64 y.client))).drew = w5 at *
        replace B : Bx _ z (cL ep 1 y.kind y.job y.every y.time y.client at_ ln pl A1 n c1 A2 m c2) := B
        have x0 := B.at_ 0 rfl; have x1 := B.at_ 1 rfl; have x2 := B.at_ 2 rfl; have x3 := B.at_ 3 rfl; have x4 := B.at_ 4 rfl; have x5 := B.at_ 5 rfl; have x6 := B.at_ 6 rfl; have x7 := B.at_ 7 rfl; have x8 := B.at_ 8 rfl; have x9 := B.at_ 9 rfl; have x10 := B.at_ 10 rfl; have x11 := B.at_ 11 rfl
        go_wp2_with (refine wpList_put Q (cL ep 1 y.kind y.job y.every y.time y.client at_ ln pl A1 n c1 A2 m c2) 41 _ _ (by rfl) (by rfl) (by rfl) (by rfl) (by rfl) sizeC12 (by rfl) ?_)
        rw [HR.out]
        exact bodyPost_ret (res_cl Tryz.results102 rfl rfl (Q.put rfl)) rfl ⟨A1, n, c1, A2, m, c2, rfl, put_S (w := w) p1 s1, put_S (w := w) p2 s2, put_onto (by omega) on, k1, k2, g1, g2⟩
 · rw [if_pos h0] at hr
   have HR := Lib.hid hr
   have hd : (q != 0) = true := by simpa using h0
   clear hr
   go_wp2_with (refine wpList_put Q zC 41 _ _ (by rfl) (by rfl) (by rfl) (by rfl) (by rfl) sizeC12 (by rfl) ?_)
   exact bodyPost_ret (res_cl Tryz.results102 rfl rfl (Q.put rfl)) rfl (ClPost.bad HR.out (put_onto (by omega) on))
end
section
set_option linter.unusedSimpArgs false
set_option linter.unusedVariables false
open Go.RowKit
set_option maxHeartbeats 2000000 in
set_option maxRecDepth 100000 in
theorem isort_calls (A : Option Addr) (n c base : Nat) (l : List Job) (g : FuncId) (lb : Array Value) (cf : Job → Job → Int) (w : World) (h : M w base 3 A n (l.map encJ)) (hn : n ≤ 12)
    (eg : ∀ args w, (callFunc g args).run Tryz.prog w = .ok (.enter g args) w)
    (hp : ∀ (x y : Job) (w' : World), x ∈ l → y ∈ l → Calls Tryz.prog g (#[.agg #[.int .i64 x.id, .int .i64 x.every, .int .i64 x.next], .agg #[.int .i64 y.id, .int .i64 y.every, .int .i64 y.next]] ++ lb) w' fun e w'' => e = .returned (.int .i64 (cf x y)) ∧ Onto w' w'') :
    Calls Tryz.prog 116 #[.slice A n c, .int .i64 0, .int .i64 n, .func (.func g) #[] lb] w fun e w' => e = .returned (.tuple #[]) ∧
     M w' base 3 A n ((isort (fun x y => decide (cf x y < 0)) l).map encJ) ∧ w.grownBy w' (A.map (·.block)) := by
 have hl : l.length = n := by have := h.1.len; simpa using this
 have hp' := Lib.hid hp
 have HL := Lib.hid hl
 clear hp hl
 go_enter Tryz.func116, Tryz.ntmps116
 go_wp2_with fail
 go_loopw [8, 9] (fun s s9 wr => ∃ i : Nat, 1 ≤ i ∧ (i ≤ n ∨ i = 1) ∧ s = .int .i64 i ∧ M wr base 3 A n ((isort (fun x y => decide (cf x y < 0)) (l.take i) ++ l.drop i).map encJ) ∧ w.grownBy wr (A.map (·.block))) (fun s _ _ => n - (intOf s).toNat)
 case atStart =>
  refine ⟨1, by omega, by omega, rfl, ?_, World.grownBy.refl _ _⟩
  have e : isort (fun x y => decide (cf x y < 0)) (l.take 1) ++ l.drop 1 = l := by
   cases l with
   | nil => rfl
   | cons x l => simp [isort, insR, posR]
  rw [e]
  exact h
 case round =>
  obtain ⟨i, hi1, hin, rfl, hM, hg⟩ := hrel
  by_cases hlt : i < n
  · obtain ⟨wo, rfl⟩ : ∃ wo : World, wo = wr := ⟨_, rfl⟩
    have hil : i < l.length := by have := HL.out; omega
    have hx : l[i]? = some l[i] := List.getElem?_eq_getElem hil
    obtain ⟨S, hS⟩ : ∃ S, S = isort (fun x y => decide (cf x y < 0)) (l.take i) := ⟨_, rfl⟩
    obtain ⟨x, hxx⟩ : ∃ x, x = l[i] := ⟨_, rfl⟩
    rw [← hxx] at hx
    have hSl : S.length = i := by rw [hS, isort_length, List.length_take, HL.out]; omega
    rw [← hS] at hM
    have hst : S ++ l.drop i = carried S x (l.drop (i + 1)) i := by
     unfold carried
     rw [← hSl, List.take_length, List.drop_length, hSl, hxx, List.drop_eq_getElem_cons (by have := HL.out; omega)]
     simp
    rw [hst] at hM
    have HX := Lib.hid hx; have HS := Lib.hid hS; have HSl := Lib.hid hSl
    clear hx hS hSl hst hxx h
    go_wp2_with fail
    go_loopw [9] (fun s wr => ∃ j : Nat, j ≤ i ∧ s = .int .i64 j ∧ M wr base 3 A n ((carried S x (l.drop (i + 1)) j).map encJ) ∧ wo.grownBy wr (A.map (·.block)) ∧ Hid (∀ y ∈ S.drop j, decide (cf x y < 0) = true)) (fun s _ => (intOf s).toNat)
    case atStart => exact ⟨i, by omega, rfl, hM, World.grownBy.refl _ _, by show ∀ y ∈ _, _; rw [List.drop_eq_nil_of_le (by rw [HSl.out]; omega)]; simp⟩
    case round =>
     clear hM
     obtain ⟨j, hj, rfl, hM, hg', HJ⟩ := hrel
     by_cases h0 : 0 < j
     · obtain ⟨j, rfl⟩ : ∃ j', j = j' + 1 := ⟨j - 1, by omega⟩
       obtain ⟨b, off, x', rfl, hb, hx', c0, c1, c2⟩ := hM.1.atJ (i := j + 1) (by omega)
       obtain rfl : x = x' := by rw [carried_at (by rw [HSl.out]; omega)] at hx'; injection hx'
       obtain ⟨y, hy⟩ : ∃ y, S[j]? = some y := ⟨_, List.getElem?_eq_getElem (show j < S.length by rw [HSl.out]; omega)⟩
       obtain ⟨b', off', y', hA', hb', hy', d0, d1, d2⟩ := hM.1.atJ (i := j) (by omega)
       injection hA' with hA'; injection hA' with e1 e2 _
       subst e1; subst e2
       obtain rfl : y = y' := by have e := carried_below (x := x) (rest := l.drop (i + 1)) (j := j + 1) (by rw [HSl.out]; omega) (by omega) hy; rw [Nat.add_sub_cancel] at e; rw [e] at hy'; injection hy'
       have HY := Lib.hid hy
       have HXm := Lib.hid (List.mem_of_getElem? HX.out)
       have HYm : Hid (y ∈ l) := List.mem_of_mem_take ((isort_perm _ _).mem_iff.1 (by rw [← HS.out]; exact List.mem_of_getElem? hy))
       clear hx' hy' hy
       have hjn : (j : Int) < (n : Int) := by omega
       have hjn1 : (j : Int) + 1 < (n : Int) := by omega
       have hj1 : (0 : Int) < (j : Int) + 1 := by omega
       have k0 := onto_cell c0; have k1 := onto_cell c1; have k2 := onto_cell c2; have l0 := onto_cell d0; have l1 := onto_cell d1; have l2 := onto_cell d2
       cases hc : decide (cf x y < 0) with
       | true =>
         go_wp2_with fail
         refine wp_region_onto (by kernel_rfl) (by kernel_rfl) ?_
         repeat (go_big_quiet_step (exact calls_onto (hp'.out x y _ HXm.out HYm.out)))
         refine wpQuiet_nil ?_
         intro w1 hb1
         have z0 := cellB hb1 c0; have z1 := cellB hb1 c1; have z2 := cellB hb1 c2; have y0 := cellB hb1 d0; have y1 := cellB hb1 d1; have y2 := cellB hb1 d2
         have hM1 := hM.onto hb1
         have hU : Unf w1 b := by obtain ⟨b', off', e, _, hU⟩ := hM1.2 (by omega); injection e with e; injection e with e1 e2 _; subst e1; exact hU
         have fz := hU.frozen
         clear k0 k1 k2 l0 l1 l2 c0 c1 c2 d0 d1 d2 hb hb'
         go_wp2_with fail
         go_region
         have hnl : (carried S x (l.drop (i + 1)) (j + 1)).length = n := by have := hM.1.len; simpa using this
         have hM2 := ((hM1.putJ (i := j + 1) (by omega) y).putJ (i := j) (by omega) x).draw
         have e := carried_swap (x := x) (rest := l.drop (i + 1)) (j := j + 1) (by rw [HSl.out]; omega) (by omega) HY.out
         rw [Nat.add_sub_cancel] at e
         rw [e] at hM2
         clear e
         have hg2 := gb_draw (gb_put (gb_put (gb_put (gb_put (gb_put (gb_put (gb_onto hg' hb1) (p := ⟨b, off + (j + 1) * 3, none⟩) rfl (.int .i64 y.id)) (p := ⟨b, off + (j + 1) * 3 + 1, none⟩) rfl (.int .i64 y.every)) (p := ⟨b, off + (j + 1) * 3 + 2, none⟩) rfl (.int .i64 y.next)) (p := ⟨b, off + j * 3, none⟩) rfl (.int .i64 x.id)) (p := ⟨b, off + j * 3 + 1, none⟩) rfl (.int .i64 x.every)) (p := ⟨b, off + j * 3 + 2, none⟩) rfl (.int .i64 x.next))
         have HC := Lib.hid hc
         clear hM hM1 hnl hU fz z0 z1 z2 y0 y1 y2 hb1 hg' hc
         go_wp2_with fail
         go_roundw
         case measure => simp [intOf] <;> omega
         case rel =>
          refine ⟨j, by omega, by first | rfl | go_num, hM2, hg2, fun y' hy' => ?_⟩
          obtain ⟨hjl, rfl⟩ := List.getElem?_eq_some_iff.1 HY.out
          rw [List.drop_eq_getElem_cons hjl] at hy'
          rcases List.mem_cons.1 hy' with rfl | hy'
          · exact HC.out
          · exact HJ.out y' hy'
       | false =>
         have HC := Lib.hid hc
         have hfin : S.take (j + 1) ++ [x] ++ S.drop (j + 1) = isort (fun x y => decide (cf x y < 0)) (l.take (i + 1)) := by
          rw [isort_take HX.out, ← HS.out]
          unfold insR
          rw [posR_eq (j := j + 1) (by rw [HSl.out]; omega) HJ.out (fun y' _ hy' => by
           rw [Nat.add_sub_cancel, HY.out] at hy'
           injection hy' with hy'
           subst hy'
           exact hc)]
         have HF := Lib.hid hfin
         clear hfin
         go_wp2_with fail
         refine wp_region_onto (by kernel_rfl) (by kernel_rfl) ?_
         repeat (go_big_quiet_step (exact calls_onto (hp'.out x y _ HXm.out HYm.out)))
         refine wpQuiet_nil ?_
         intro w1 hb1
         have hM1 := hM.onto hb1
         unfold carried at hM1
         rw [HF.out] at hM1
         have hg2 := gb_trans hg (gb_onto hg' hb1)
         clear hM hc c0 c1 c2 d0 d1 d2 k0 k1 k2 l0 l1 l2 hb hb' hg' hb1
         go_wp2_with fail
         go_roundw
         case measure => simp [intOf]; omega
         case rel => exact ⟨i + 1, by omega, by omega, by go_num, hM1, hg2⟩
     · obtain rfl : j = 0 := by omega
       have hfin : S.take 0 ++ [x] ++ S.drop 0 = isort (fun x y => decide (cf x y < 0)) (l.take (i + 1)) := by
        rw [isort_take HX.out, ← HS.out]
        unfold insR
        rw [posR_eq (j := 0) (by omega) HJ.out (fun y' h _ => by omega)]
       have HF := Lib.hid hfin
       clear hfin
       go_wp2_with fail
       go_quiet (fail)
       have hM1 := hM.draws nq
       unfold carried at hM1
       rw [HF.out] at hM1
       have hg2 := gb_trans hg (gb_draws hg' nq)
       clear hM hg'
       go_wp2_with fail
       go_roundw
       case measure => simp [intOf]; omega
       case rel => exact ⟨i + 1, by omega, by omega, by go_num, hM1, hg2⟩
  · have hfin : isort (fun x y => decide (cf x y < 0)) (l.take i) ++ l.drop i = isort (fun x y => decide (cf x y < 0)) l := by
     rw [List.take_of_length_le (by rw [HL.out]; omega), List.drop_eq_nil_of_le (by rw [HL.out]; omega), List.append_nil]
    rw [hfin] at hM
    clear hfin h
    go_wp2_with fail
    go_end0
    exact ⟨rfl, hM, hg⟩
end
section
set_option linter.unusedSimpArgs false
set_option linter.unusedVariables false
open Go.RowKit
theorem M.clear {w : World} {base k n b off i : Nat} {rows : List (List Value)} {cur : Array Value} {t : TypeId} {cs : List Value} (h : M w base k (some ⟨b, off, none⟩) n rows) (hh : w.heap[b]? = some (.cells cur t (0, 0))) (hi : i ≤ n)
    (hfit : off + i * k + cs.length ≤ cur.size) : M (w.setRow b (spliceR cur (off + i * k) cs)) base k (some ⟨b, off, none⟩) i (rows.take i) := by
 have hh' := setRow_heap w b cur (spliceR cur (off + i * k) cs) _ _ hh
 have hbl : b < w.heap.size := (Array.getElem?_eq_some_iff.1 hh).1
 have hb0 : 0 < i → base ≤ b := fun hi0 => by
  obtain ⟨b', off', e, h1, _⟩ := h.2 (by omega)
  injection e with e; injection e with e1 e2 _
  omega
 refine ⟨⟨by have := h.1.len; simp; omega, fun r hr => h.1.2.1 r (List.mem_of_mem_take hr), fun hi0 => ?_⟩, fun hi0 => ⟨b, off, rfl, hb0 hi0, _, _, hh'⟩⟩
 obtain ⟨b', off', e, hb, hc⟩ := h.1.2.2 (by omega)
 injection e with e; injection e with e1 e2 _
 subst e1; subst e2
 refine ⟨b, off, rfl, by simpa using hbl, fun i0 j r u hr hu => ?_⟩
 rw [List.getElem?_take] at hr
 split at hr
 · rename_i hlt
   have := hc i0 j r u hr hu
   have hrk : r.length = k := h.1.2.1 r (List.mem_of_getElem? hr)
   have hj : j < k := by rw [← hrk]; exact (List.getElem?_eq_some_iff.1 hu).1
   rw [cell_of_row _ b _ _ _ _ hh', ← Array.getElem?_toList]
   rw [cell_of_row _ b _ _ _ _ hh, ← Array.getElem?_toList] at this
   have hle : (i0 + 1) * k ≤ i * k := Nat.mul_le_mul_right k hlt
   rw [Nat.add_mul] at hle
   show (cur.toList.take (off + i * k) ++ cs ++ _)[_]? = _
   rw [List.append_assoc, List.getElem?_append_left (by
    have h1 : off + i0 * k + j < cur.toList.length := (List.getElem?_eq_some_iff.1 this).1
    rw [List.length_take]; simp at h1 ⊢; omega), List.getElem?_take, if_pos (by omega)]
   exact this
 · cases hr
theorem M.room {w : World} {base k n b off : Nat} {rows : List (List Value)} (h : M w base k (some ⟨b, off, none⟩) n rows) (hn : 0 < n) (hk : 0 < k) : ∃ cur t, w.heap[b]? = some (.cells cur t (0, 0)) ∧ off + n * k ≤ cur.size := by
 obtain ⟨b', off', e, _, cur, t, hh⟩ := h.2 hn
 injection e with e; injection e with e1 e2 _
 subst e1; subst e2
 refine ⟨cur, t, hh, ?_⟩
 obtain ⟨b', off', e, hb, hc⟩ := h.1.2.2 hn
 injection e with e; injection e with e1 e2 _
 subst e1; subst e2
 have hl := h.1.1
 have hr : rows[n - 1]? = some rows[n - 1] := List.getElem?_eq_getElem (by omega)
 have hrk : (rows[n - 1]).length = k := h.1.2.1 _ (List.getElem_mem _)
 have := hc (n - 1) (k - 1) _ _ hr (List.getElem?_eq_getElem (by omega))
 rw [cell_of_row _ b _ _ _ _ hh] at this
 have h1 := (Array.getElem?_eq_some_iff.1 this).1
 have e : (n - 1 + 1) * k = (n - 1) * k + k := by rw [Nat.add_mul]; omega
 rw [show n - 1 + 1 = n by omega] at e
 omega
theorem filter_take_succ {α : Type} {p : α → Bool} {l : List α} {j : Nat} {x : α} (hx : l[j]? = some x) : (l.take (j + 1)).filter p = (l.take j).filter p ++ if p x = true then [x] else [] := by
 obtain ⟨hj, rfl⟩ := List.getElem?_eq_some_iff.1 hx
 rw [List.take_succ_eq_append_getElem hj, List.filter_append]
 simp only [List.filter_cons, List.filter_nil]
theorem filter_all_take {α : Type} {p : α → Bool} {l : List α} {i : Nat} (h : ∀ (j : Nat) y, j < i → l[j]? = some y → p y = true) : (l.take i).filter p = l.take i := by
 rw [List.filter_eq_self]
 intro y hy
 obtain ⟨j, hj⟩ := List.mem_iff_getElem?.1 hy
 rw [List.getElem?_take] at hj
 split at hj
 · exact h j y (by assumption) hj
 · cases hj
theorem idxI_cases {α : Type} (p : α → Bool) (l : List α) : (idxI p l = -1 ∧ ∀ (j : Nat) y, l[j]? = some y → p y = false) ∨ ∃ (i : Nat) (x : α), idxI p l = i ∧ l[i]? = some x ∧ p x = true ∧ ∀ (j : Nat) y, j < i → l[j]? = some y → p y = false := by
 unfold idxI
 cases hf : l.findIdx? p with
 | none =>
   left
   refine ⟨rfl, fun j y hy => ?_⟩
   have := List.findIdx?_eq_none_iff.1 hf y (List.mem_of_getElem? hy)
   exact this
 | some i =>
   right
   obtain ⟨hi, hp, hlt⟩ := List.findIdx?_eq_some_iff_getElem.1 hf
   refine ⟨i, l[i], rfl, List.getElem?_eq_getElem hi, hp, fun j y hj hy => ?_⟩
   obtain ⟨hj', rfl⟩ := List.getElem?_eq_some_iff.1 hy
   simpa using hlt j hj
set_option maxHeartbeats 2000000 in
set_option maxRecDepth 100000 in
theorem DeleteFunc_calls (A : Option Addr) (n c base : Nat) (l : List Job) (g : FuncId) (lb : Array Value) (p : Job → Bool) (w : World) (h : M w base 3 A n (l.map encJ)) (hn : n ≤ 1000) (hnc : n ≤ c) (hc : c ≤ maxLen)
    (eg : ∀ args w, (callFunc g args).run Tryz.prog w = .ok (.enter g args) w)
    (hp : ∀ (x : Job) (w' : World), w.grownBy w' (A.map (·.block)) → Calls Tryz.prog g (#[.agg #[.int .i64 x.id, .int .i64 x.every, .int .i64 x.next]] ++ lb) w' fun e w'' => e = .returned (.bool (p x)) ∧ Below w'.heap.size w' w'') :
    Calls Tryz.prog 73 #[.slice A n c, .func (.func g) #[] lb] w fun e w' => ∃ k, e = .returned (.slice A k c) ∧ k ≤ n ∧
     M w' base 3 A k ((l.filter (fun x => !p x)).map encJ) ∧ w.grownBy w' (A.map (·.block)) := by
 have hl : l.length = n := by have := h.1.len; simpa using this
 have hp' := Lib.hid hp
 have HL := Lib.hid hl
 have HCM := Lib.hid hc
 clear hp hl hc
 rcases idxI_cases p l with ⟨hi, hall⟩ | ⟨i, x, hi, hx, hpx, hbef⟩
 · have hfin : l.filter (fun x => !p x) = l := by
    rw [List.filter_eq_self]
    intro y hy
    obtain ⟨j, hj⟩ := List.mem_iff_getElem?.1 hy
    simp [hall j y hj]
   have HF := Lib.hid hfin
   have HI := Lib.hid hi
   clear hfin hi hall
   go_enter Tryz.func73, Tryz.ntmps73
   go_wp2_with fail
   refine Calls.mono (IndexFuncJ_calls A n c _ l g lb p _ h.1 (Nat.le_refl _) (by omega) eg (fun x w' hw' => hp'.out x w' (gb_of hw' _))) ?_
   rintro e w1 ⟨rfl, hb1⟩
   rw [HI.out]
   go_wp2_with fail
   go_ret
   exact ⟨n, rfl, Nat.le_refl _, by rw [HF.out]; exact h.onto hb1, gb_of hb1 _⟩
 · have hin : i < n := by have h1 : i < l.length := (List.getElem?_eq_some_iff.1 hx).1; have := HL.out; omega
   have hstart : (l.take (i + 1)).filter (fun x => !p x) = l.take i := by
    rw [filter_take_succ hx, filter_all_take (fun j y hj hy => by simp [hbef j y hj hy])]
    simp [hpx]
   have HS := Lib.hid hstart
   have HI := Lib.hid hi
   clear hstart hi hpx hbef hx
   go_enter Tryz.func73, Tryz.ntmps73
   go_wp2_with fail
   refine Calls.mono (IndexFuncJ_calls A n c _ l g lb p _ h.1 (Nat.le_refl _) (by omega) eg (fun x w' hw' => hp'.out x w' (gb_of hw' _))) ?_
   rintro e w1 ⟨rfl, hb1⟩
   rw [HI.out]
   have hM1 := h.onto hb1
   have hg1 := gb_of hb1 (A.map (·.block))
   clear hb1 h
   have hne : ((i : Int) == -1) = false := by simp <;> omega
   go_wp2_with fail
   go_loopw [5, 6] (fun s t wr => ∃ (i j : Nat) (L : List Job), i < j ∧ j ≤ n ∧ s = .int .i64 i ∧ t = .int .i64 j ∧ M wr base 3 A n (L.map encJ) ∧ w.grownBy wr (A.map (·.block)) ∧ Hid (L.take i = (l.take j).filter (fun x => !p x) ∧ L.drop j = l.drop j)) (fun _ t _ => n - (intOf t).toNat)
   case atStart => exact ⟨i, i + 1, l, by omega, by omega, rfl, by go_num, hM1, hg1, HS.out.symm, rfl⟩
   case round =>
    clear hM1 hg1 HS HI hin hne
    obtain ⟨i, j, L, hij, hjn, rfl, rfl, hM, hg, HLL⟩ := hrel
    have hLl : L.length = n := by have := hM.1.len; simpa using this
    have HLl := Lib.hid hLl
    clear hLl
    by_cases hlt : j < n
    · obtain ⟨b, off, x, rfl, hb, hx, c0, c1, c2⟩ := hM.1.atJ hlt
      have hxl : l[j]? = some x := by
       have := HLL.out.2
       have e1 : (L.drop j)[0]? = some x := by simpa using hx
       rw [this] at e1
       simpa using e1
      have HX := Lib.hid hxl
      clear hx hxl
      have hin : (i : Int) < (n : Int) := by omega
      cases hpx : p x with
      | true =>
        have HPX := Lib.hid hpx
        clear hpx
        go_wp2_with fail
        refine Calls.mono (hp'.out x _ (gb_onto hg ((Below.refl _ _).alloc (Nat.le_refl _) _))) ?_
        rintro e w2 ⟨rfl, hb2⟩
        rw [HPX.out]
        have hA : Onto wr w2 := ((Below.refl _ _).alloc (Nat.le_refl _) _).trans (hb2.mono (by simp))
        have hM2 := hM.onto hA
        have hg2 := gb_onto hg hA
        clear hM hg hb2 hA c0 c1 c2
        go_wp2_with fail
        go_roundw
        case measure => simp [intOf]; omega
        case rel =>
         refine ⟨i, j + 1, L, by omega, by omega, rfl, by go_num, hM2, hg2, ?_, ?_⟩
         · rw [HLL.out.1, filter_take_succ HX.out]; (try simp [HPX.out])
         · rw [← List.drop_drop, ← List.drop_drop, HLL.out.2]
      | false =>
        have HPX := Lib.hid hpx
        clear hpx
        go_wp2_with fail
        refine Calls.mono (hp'.out x _ (gb_onto hg ((Below.refl _ _).alloc (Nat.le_refl _) _))) ?_
        rintro e w2 ⟨rfl, hb2⟩
        rw [HPX.out]
        have hA : Onto wr w2 := ((Below.refl _ _).alloc (Nat.le_refl _) _).trans (hb2.mono (by simp))
        have hM2 := hM.onto hA
        have hg2 := gb_onto hg hA
        have v0 : w2.cell? ⟨wr.heap.size, 0, none⟩ = some (.int .i64 x.id) := cellB hb2 (by simp [go_sem])
        have v1 : w2.cell? ⟨wr.heap.size, 1, none⟩ = some (.int .i64 x.every) := cellB hb2 (by simp [go_sem])
        have v2 : w2.cell? ⟨wr.heap.size, 2, none⟩ = some (.int .i64 x.next) := cellB hb2 (by simp [go_sem])
        obtain ⟨b', off', y, e, _, _, d0, d1, d2⟩ := hM2.1.atJ (show i < n by omega)
        injection e with e; injection e with e1 e2 _
        subst e1; subst e2
        have hU : Unf w2 b := by obtain ⟨b', off', e, _, hU⟩ := hM2.2 (by omega); injection e with e; injection e with e1 e2 _; subst e1; exact hU
        have fz := hU.frozen
        clear hM hg hb2 hA c0 c1 c2
        go_wp2_with fail
        have hM3 := hM2.putJ (i := i) (by omega) x
        have hg3 := gb_put (gb_put (gb_put hg2 (p := ⟨b, off + i * 3, none⟩) rfl (.int .i64 x.id)) (p := ⟨b, off + i * 3 + 1, none⟩) rfl (.int .i64 x.every)) (p := ⟨b, off + i * 3 + 2, none⟩) rfl (.int .i64 x.next)
        clear hM2 hg2 hU fz
        go_roundw
        case measure => simp [intOf]; omega
        case rel =>
         refine ⟨i + 1, j + 1, L.set i x, by omega, by omega, by go_num, by go_num, hM3, hg3, ?_, ?_⟩
         · have hil : i < L.length := by have := HLl.out; omega
           rw [List.take_succ_eq_append_getElem (by simpa using hil), List.take_set_of_le (Nat.le_refl _), HLL.out.1, filter_take_succ HX.out]
           simp [HPX.out]
         · rw [List.drop_set_of_lt (by omega), ← List.drop_drop, ← List.drop_drop, HLL.out.2]
    · obtain rfl : j = n := by omega
      obtain ⟨b, off, x, rfl, hb, hx, _, _, _⟩ := hM.1.atJ (i := i) (by omega)
      obtain ⟨cur, t, hh, hfit⟩ := hM.room (by omega) (by omega)
      have hcl : ∀ ty, (Builtin.clear_ #[36] ty #[.slice (some ⟨b, off + i * 3, none⟩) (j - i) (c - i)]).run Tryz.prog wr = .ok (.tuple #[]) (wr.setRow b (spliceR cur (off + i * 3) (Builtin.zeroCells (Value.agg #[.int .i64 0, .int .i64 0, .int .i64 0]).cells (j - i)).toList)) := fun ty =>
       run_clear_rowK (P := Tryz.prog) wr 36 ty 88 b (off + i * 3) (j - i) (c - i) cur t (Value.agg #[.int .i64 0, .int .i64 0, .int .i64 0]) Tryz.underlying36 (by kernel_rfl) (by simp [Value.cells, Value.oneCell']) hh (by omega) (by simp [Value.cells]; omega)
      have hM2 := hM.clear (i := i) (cs := (Builtin.zeroCells (Value.agg #[.int .i64 0, .int .i64 0, .int .i64 0]).cells (j - i)).toList) hh (by omega) (by simp [size_zeroCells, Value.cells]; omega)
      have hg2 := gb_trans hg (grownBy_setRow wr b (spliceR cur (off + i * 3) (Builtin.zeroCells (Value.agg #[.int .i64 0, .int .i64 0, .int .i64 0]).cells (j - i)).toList))
      rw [← List.map_take, HLL.out.1, List.take_of_length_le (by have := HL.out; omega)] at hM2
      have HCl := Lib.hid hcl
      have hcn : ¬ (c = i) := by omega
      have hij' : (i : Int) ≤ (j : Int) := by omega
      have hic : (i : Int) ≤ (c : Int) := by omega
      clear hcl hM hg hh hfit hx hb
      go_wp2_with (with_reducible refine wpList_clear_run _ rfl (.tmp 38) _ rfl _ rfl (HCl.out _) ?_)
      go_wp2
      go_ret
      exact ⟨i, rfl, by omega, hM2, hg2⟩
end
section
set_option linter.unusedSimpArgs false
set_option linter.unusedVariables false
def checkD (b : Book) (t : Int) : Int := if checkB b ≠ 0 then checkB b else if t < 0 ∨ 100000 < t then 3 else 0
def dueL (jobs : List Job) (t : Int) : List Job := isort (fun x y => decide (x.next - y.next < 0)) (jobs.filter fun j => !decide (t < j.next))
def cntJ (t : Int) (j : Job) : Int := if j.next ≤ t then (t - j.next) / j.every + 1 else 0
def countL : List Job → Int → Int
 | [], _ => 0
 | j :: l, t => cntJ t j + countL l t
def whenL : Int → List Job → Int
 | a, [] => a
 | a, j :: l => whenL (if a < 0 ∨ j.next < a then j.next else a) l
theorem countL_append (l m : List Job) (t : Int) : countL (l ++ m) t = countL l t + countL m t := by
 induction l with
 | nil => simp [countL]
 | cons j l ih => simp [countL, ih]; omega
theorem countL_take {l : List Job} {k : Nat} {x : Job} (hx : l[k]? = some x) (t : Int) : countL (l.take (k + 1)) t = countL (l.take k) t + cntJ t x := by
 obtain ⟨hk, rfl⟩ := List.getElem?_eq_some_iff.1 hx
 rw [List.take_succ_eq_append_getElem hk, countL_append]
 simp [countL]
theorem whenL_append (a : Int) (l m : List Job) : whenL a (l ++ m) = whenL (whenL a l) m := by
 induction l generalizing a with
 | nil => rfl
 | cons j l ih => simp only [List.cons_append, whenL, ih]
theorem whenL_take {l : List Job} {k : Nat} {x : Job} (hx : l[k]? = some x) (a : Int) : whenL a (l.take (k + 1)) = if whenL a (l.take k) < 0 ∨ x.next < whenL a (l.take k) then x.next else whenL a (l.take k) := by
 obtain ⟨hk, rfl⟩ := List.getElem?_eq_some_iff.1 hx
 rw [List.take_succ_eq_append_getElem hk, whenL_append]
 rfl
theorem checkD_good {b : Book} {t : Int} (h : checkD b t = 0) : GoodB b ∧ 0 ≤ t ∧ t ≤ 100000 := by
 unfold checkD at h
 split at h
 · exact absurd h (by assumption)
 · rename_i h1
   split at h
   · cases h
   · exact ⟨checkB_iff.1 (Decidable.byContradiction h1), by omega, by omega⟩
theorem cntJ_bd {j : Job} {t : Int} (hj : ¬ badJ j) (h1 : t ≤ 100000) : 0 ≤ cntJ t j ∧ cntJ t j ≤ 100001 := by
 unfold badJ at hj
 unfold cntJ
 split
 · have h2 : (t - j.next) / j.every ≤ (t - j.next) := Int.ediv_le_self _ (by omega)
   have h3 : 0 ≤ (t - j.next) / j.every := Int.ediv_nonneg (by omega) (by omega)
   omega
 · omega
theorem countL_bd {l : List Job} {t : Int} (hj : ∀ x ∈ l, ¬ badJ x) (h1 : t ≤ 100000) : 0 ≤ countL l t ∧ countL l t ≤ l.length * 100001 := by
 induction l with
 | nil => simp [countL]
 | cons j l ih =>
   have h2 := cntJ_bd (hj j (by simp)) h1
   have h3 := ih (fun x hx => hj x (by simp [hx]))
   simp only [countL, List.length_cons]
   omega
theorem dueL_len (l : List Job) (t : Int) : (dueL l t).length ≤ l.length := by
 unfold dueL
 rw [isort_length]
 exact List.length_filter_le _ _
end
section
set_option linter.unusedSimpArgs false
set_option linter.unusedVariables false
open Go.RowKit
set_option maxHeartbeats 1000000 in
set_option maxRecDepth 100000 in
theorem SortStable_calls (A : Option Addr) (n c base : Nat) (l : List Job) (g : FuncId) (lb : Array Value) (cf : Job → Job → Int) (w : World) (h : M w base 3 A n (l.map encJ)) (hn : n ≤ 12)
    (eg : ∀ args w, (callFunc g args).run Tryz.prog w = .ok (.enter g args) w)
    (hp : ∀ (x y : Job) (w' : World), x ∈ l → y ∈ l → Calls Tryz.prog g (#[.agg #[.int .i64 x.id, .int .i64 x.every, .int .i64 x.next], .agg #[.int .i64 y.id, .int .i64 y.every, .int .i64 y.next]] ++ lb) w' fun e w'' => e = .returned (.int .i64 (cf x y)) ∧ Onto w' w'') :
    Calls Tryz.prog 76 #[.slice A n c, .func (.func g) #[] lb] w fun e w' => e = .returned (.tuple #[]) ∧
     M w' base 3 A n ((isort (fun x y => decide (cf x y < 0)) l).map encJ) ∧ w.grownBy w' (A.map (·.block)) := by
 have hst : Calls Tryz.prog 98 #[.slice A n c, .int .i64 n, .func (.func g) #[] lb] w fun e w' => e = .returned (.tuple #[]) ∧
     M w' base 3 A n ((isort (fun x y => decide (cf x y < 0)) l).map encJ) ∧ w.grownBy w' (A.map (·.block)) := by
  have hp' := Lib.hid hp
  clear hp
  have hn' : (n : Int) < 20 := by omega
  go_enter Tryz.func98, Tryz.ntmps98
  go_wp2_with fail
  refine wp_loop_rounds 1 ?_
  rw [rounds_succ]
  go_wp2_with fail
  refine Calls.mono (isort_calls A n c base l g lb cf _ h hn eg hp'.out) ?_
  rintro e w1 ⟨rfl, h1, h2⟩
  go_wp2_with fail
  refine wp_loop_rounds 1 ?_
  rw [rounds_succ]
  go_wp2_with fail
  go_end0
  exact ⟨rfl, h1, h2⟩
 have HS := Lib.hid hst
 clear hst hp
 go_enter Tryz.func76, Tryz.ntmps76
 go_wp2_with fail
 refine Calls.mono HS.out ?_
 rintro e w' ⟨rfl, h1, h2⟩
 go_wp2
 go_end0
 exact ⟨rfl, h1, h2⟩
def RowsPost {α : Type} (k : Nat) (en : α → List Value) (w : World) (l : List α) (err : Int) (e : Ending) (w' : World) : Prop :=
 ∃ A n c, e = .returned (.tuple #[.slice A n c, .int .i64 err]) ∧ S w' k A n (l.map en) ∧ Onto w w' ∧ Fresh w.heap.size A ∧ n ≤ c ∧ c ≤ maxLen
set_option maxHeartbeats 1000000 in
theorem dcheck_calls (A A' : Option Addr) (n c m d : Nat) (b : Book) (t : Int) (w : World) (h : S w 3 A n (b.jobs.map encJ)) (h' : S w 3 A' m (b.rung.map encR)) :
    Calls Tryz.prog 72 #[.agg #[.slice A n c, .slice A' m d], .int .i64 t] w fun e w' => e = .returned (.int .i64 (checkD b t)) ∧ Onto w w' := by
 by_cases h0 : checkB b = 0
 · have hs : checkD b t = if t < 0 ∨ 100000 < t then 3 else 0 := by unfold checkD; rw [if_neg (by simp [h0])]
   have HS := Lib.hid hs; have H0 := Lib.hid h0
   clear hs h0
   go_enter Tryz.func72, Tryz.ntmps72
   go_wp2_with fail
   refine Calls.mono (BCheck_calls A A' n c m d _ b.jobs b.rung _ (h.new _) (h'.new _) (Nat.le_refl _)) ?_
   rintro e w1 ⟨rfl, hb1⟩
   rw [show checkB ⟨b.jobs, b.rung⟩ = 0 from H0.out]
   have h01 : Onto w w1 := ((Below.refl _ _).alloc (Nat.le_refl _) _).trans (hb1.mono (by simp))
   clear h h' hb1
   go_wp2
   all_goals
    go_ret
    refine ⟨ret_int ?_, h01⟩
    rw [HS.out]
    split <;> omega
 · have hs : checkD b t = checkB b := by unfold checkD; rw [if_pos h0]
   have HS := Lib.hid hs
   obtain ⟨r, hr⟩ : ∃ r, r = checkB b := ⟨_, rfl⟩
   rw [← hr] at h0
   have hr0 : (r != 0) = true := by simpa using h0
   have HR := Lib.hid hr
   clear hs h0 hr
   go_enter Tryz.func72, Tryz.ntmps72
   go_wp2_with fail
   refine Calls.mono (BCheck_calls A A' n c m d _ b.jobs b.rung _ (h.new _) (h'.new _) (Nat.le_refl _)) ?_
   rintro e w1 ⟨rfl, hb1⟩
   rw [show checkB ⟨b.jobs, b.rung⟩ = r from HR.out.symm]
   have h01 : Onto w w1 := ((Below.refl _ _).alloc (Nat.le_refl _) _).trans (hb1.mono (by simp))
   clear h h' hb1
   go_wp2
   go_ret
   exact ⟨ret_int (by rw [HS.out, HR.out]), h01⟩
theorem Due1_calls (x : Job) (t : Int) (q : Nat) (w : World) (hq : w.cell? ⟨q, 0, none⟩ = some (.int .i64 t)) :
    Calls Tryz.prog 75 #[.agg #[.int .i64 x.id, .int .i64 x.every, .int .i64 x.next], .pointer (some ⟨q, 0, none⟩)] w fun e w' => e = .returned (.bool (decide (t < x.next))) ∧ Below w.heap.size w w' := by
 have hqb : q < w.heap.size := World.block_lt_of_cell? w _ hq
 go_enter Tryz.func75, Tryz.ntmps75
 go_wp2
 all_goals
  go_ret
  refine ⟨ret_bool (by first | rfl | (simp; done) | (simp; omega)), ?_⟩
  repeat (first | exact Below.refl _ _ | refine below_drewN ?_ _ | refine Below.alloc ?_ (by simp) _)
theorem Due2_calls (x y : Job) (w : World) (h1 : 0 ≤ x.next ∧ x.next ≤ 100100) (h2 : 0 ≤ y.next ∧ y.next ≤ 100100) :
    Calls Tryz.prog 77 #[.agg #[.int .i64 x.id, .int .i64 x.every, .int .i64 x.next], .agg #[.int .i64 y.id, .int .i64 y.every, .int .i64 y.next]] w fun e w' => e = .returned (.int .i64 (x.next - y.next)) ∧ Onto w w' := by
 obtain ⟨h1a, h1b⟩ := h1; obtain ⟨h2a, h2b⟩ := h2
 go_enter Tryz.func77, Tryz.ntmps77
 go_wp2
 go_ret
 refine ⟨ret_int (by first | rfl | omega), ?_⟩
 repeat (first | exact Below.refl _ _ | refine below_drewN ?_ _ | refine Below.alloc ?_ (by simp <;> omega) _)
set_option maxHeartbeats 4000000 in
set_option maxRecDepth 100000 in
theorem Due_calls (A A' : Option Addr) (n c m d : Nat) (b : Book) (t : Int) (w : World) (h : S w 3 A n (b.jobs.map encJ)) (h' : S w 3 A' m (b.rung.map encR)) :
    Calls Tryz.prog 39 #[.agg #[.slice A n c, .slice A' m d], .int .i64 t] w (RowsPost 3 encJ w (if checkD b t = 0 then dueL b.jobs t else []) (checkD b t)) := by
 obtain ⟨r, hr⟩ : ∃ r, r = checkD b t := ⟨_, rfl⟩
 rw [← hr]
 have HR := Lib.hid hr
 by_cases h0 : r = 0
 · obtain ⟨hg, ht0, ht1⟩ := checkD_good (h0 ▸ hr.symm)
   have hl : b.jobs.length = n := by have := h.len; simpa using this
   have hn6 : n ≤ 6 := by have := hg.nj; omega
   subst h0
   rw [if_pos rfl]
   have HL := Lib.hid hl
   clear hr hl
   go_enter Tryz.func39, Tryz.ntmps39
   go_wp2_with fail
   refine Calls.mono (dcheck_calls A A' n c m d b t _ ((h.new _).new _) ((h'.new _).new _)) ?_
   rintro e w1 ⟨rfl, hb1⟩
   rw [← HR.out]
   have q0 : w1.cell? ⟨w.heap.size, 0, none⟩ = some (.slice A n c) := cellB hb1 (by simp [go_sem])
   have q1 : w1.cell? ⟨w.heap.size + 1, 0, none⟩ = some (.int .i64 t) := cellB hb1 (by simp [go_sem])
   have h01 : Onto w w1 := (((Below.refl _ _).alloc (Nat.le_refl _) _).alloc (by simp) _).trans (hb1.mono (by simp; omega))
   have z1 : w.heap.size + 1 < w1.heap.size := World.block_lt_of_cell? _ _ q1
   clear hb1
   go_wp2_with fail
   refine Calls.mono (CloneJ_calls _ A n c _ (Nat.le_refl _) (b.jobs.map encJ) (h.onto h01) (encJ_one _) (by omega)) ?_
   rintro e w2 ⟨A2, c2, rfl, own2, hb2⟩
   have q1' := cellB hb2 q1
   have h02 := Onto.to h01 hb2
   have hM2 : M w2 w1.heap.size 3 A2 n (b.jobs.map encJ) := own2.m
   have hnc2 := own2.le_cap
   have hcm2' : c2 ≤ maxLen := own2.cap_max
   have hlt1 : ∀ bb, A2.map (·.block) = some bb → w1.heap.size ≤ bb := fun bb e => by
    cases A2 with
    | none => cases e
    | some a => exact own2.fresh (Nat.le_refl _) a rfl |> fun h => by simp at e; omega
   have HM := Lib.hid hcm2'
   have HLT := Lib.hid hlt1
   clear hb2 own2 q0 hcm2' hlt1
   go_wp2_with fail
   refine Calls.mono (DeleteFunc_calls A2 n c2 _ b.jobs _ _ (fun j => decide (t < j.next)) _ hM2 (by omega) hnc2 HM.out (fun _ _ => by kernel_rfl) ?_) ?_
   · intro x w' hw'
     refine Due1_calls x t _ w' (grow_cell hw' q1' ?_)
     intro e
     have this : w1.heap.size ≤ w.heap.size + 1 := HLT.out _ e.symm
     omega
   rintro e w3 ⟨k, rfl, hk, hM3, hg3⟩
   have h03 : Onto w w3 := below_grown h02 h02.size hg3 (fun g e => by have := HLT.out g e; have := h01.size; omega)
   clear hM2 hg3 q1 q1'
   go_wp2_with fail
   refine Calls.mono (SortStable_calls A2 k c2 _ (b.jobs.filter fun j => !decide (t < j.next)) _ _ (fun x y => x.next - y.next) _ hM3 (by omega) (fun _ _ => by kernel_rfl) ?_) ?_
   · intro x y w' hx hy
     have h1 := hg.ok x ((List.mem_filter.1 hx).1)
     have h2 := hg.ok y ((List.mem_filter.1 hy).1)
     unfold badJ at h1 h2
     exact Due2_calls x y w' (by omega) (by omega)
   rintro e w4 ⟨rfl, hM4, hg4⟩
   have h04 : Onto w w4 := below_grown h03 h03.size hg4 (fun g e => by have := HLT.out g e; have := h01.size; omega)
   clear hM3 hg4
   go_wp2_with fail
   refine bodyPost_ret (v := .tuple #[.slice A2 k c2, .int .i64 0]) (by simp [results, Tryz.results39, go_sem]) rfl ?_
   exact ⟨A2, k, c2, rfl, hM4.1, h04, fun a e => by have := HLT.out a.block (by rw [e]; rfl); have := h01.size; omega, by omega, HM.out⟩
 · rw [if_neg h0]
   have hr0 : (r != 0) = true := by simpa using h0
   clear h0 hr
   go_enter Tryz.func39, Tryz.ntmps39
   go_wp2_with fail
   refine Calls.mono (dcheck_calls A A' n c m d b t _ ((h.new _).new _) ((h'.new _).new _)) ?_
   rintro e w1 ⟨rfl, hb1⟩
   rw [← HR.out]
   have h01 : Onto w w1 := (((Below.refl _ _).alloc (Nat.le_refl _) _).alloc (by simp) _).trans (hb1.mono (by simp; omega))
   clear h h' hb1
   go_wp2_with fail
   refine bodyPost_ret (v := .tuple #[.slice none 0 0, .int .i64 r]) (by simp [results, Tryz.results39, go_sem]) rfl ?_
   exact ⟨none, 0, 0, rfl, Sl.nil, h01, Fresh.none_ _, Nat.le_refl _, by unfold maxLen; omega⟩
end
section
set_option linter.unusedSimpArgs false
set_option linter.unusedVariables false
abbrev ltN : Job → Job → Bool := fun x y => decide (x.next - y.next < 0)
def SortedN (S : List Job) : Prop := S.Pairwise fun a b => a.next ≤ b.next
theorem posR_split {α : Type} {p : α → Bool} {P Q : List α} (hP : ∀ y ∈ P, p y = false) (hQ : ∀ y ∈ Q, p y = true) : posR p (P ++ Q) = P.length := by
 refine posR_eq (by simp) (fun y hy => hQ y (by simpa using hy)) (fun y h0 hy => ?_)
 rw [List.getElem?_append_left (by omega)] at hy
 exact hP y (List.mem_of_getElem? hy)
theorem sorted_split {T : List Job} (hT : SortedN T) (x : Job) : T.filter (fun y => !ltN x y) ++ T.filter (ltN x) = T := by
 induction T with
 | nil => rfl
 | cons t T ih =>
   obtain ⟨k1, k2⟩ := List.pairwise_cons.1 hT
   by_cases ht : ltN x t = true
   · have hall : ∀ z ∈ T, ltN x z = true := by
      intro z hz
      have := k1 z hz; simp [ltN] at ht ⊢; omega
     have e1 : T.filter (fun z => !ltN x z) = [] := List.filter_eq_nil_iff.2 (fun z hz => by simp [hall z hz])
     have e2 : T.filter (ltN x) = T := List.filter_eq_self.2 (fun z hz => hall z hz)
     rw [List.filter_cons, List.filter_cons, e1, e2]
     simp [ht]
   · rw [List.filter_cons, List.filter_cons]
     simp [ht]
     simpa using ih k2
theorem insR_sorted {S : List Job} (h : SortedN S) (x : Job) : insR ltN S x = S.filter (fun y => !ltN x y) ++ [x] ++ S.filter (ltN x) := by
 have hs := sorted_split h x
 have hp : posR (ltN x) S = (S.filter fun y => !ltN x y).length := by
  conv => lhs; rw [← hs]
  exact posR_split (fun y hy => by simpa using (List.mem_filter.1 hy).2) (fun y hy => (List.mem_filter.1 hy).2)
 unfold insR
 rw [hp]
 conv => lhs; rw [← hs]
 simp
theorem insR_keeps {S : List Job} (h : SortedN S) (x : Job) : SortedN (insR ltN S x) := by
 rw [insR_sorted h]
 unfold SortedN
 have hf : ∀ p : Job → Bool, SortedN (S.filter p) := fun p => List.Pairwise.sublist List.filter_sublist h
 refine List.pairwise_append.2 ⟨List.pairwise_append.2 ⟨hf _, by simp, fun a ha b hb => ?_⟩, hf _, fun a ha b hb => ?_⟩
 · have h1 := (List.mem_filter.1 ha).2
   simp at hb; subst hb
   simp [ltN] at h1; omega
 · have h2 := (List.mem_filter.1 hb).2
   rcases List.mem_append.1 ha with ha | ha
   · have h1 := (List.mem_filter.1 ha).2
     simp [ltN] at h1 h2; omega
   · simp at ha; subst ha
     simp [ltN] at h2; omega
abbrev upto (t : Int) : Job → Bool := fun j => !decide (t < j.next)
theorem insR_filter {S : List Job} (h : SortedN S) (x : Job) (t : Int) : (insR ltN S x).filter (upto t) = if upto t x = true then insR ltN (S.filter (upto t)) x else S.filter (upto t) := by
 have hf : SortedN (S.filter (upto t)) := List.Pairwise.sublist List.filter_sublist h
 rw [insR_sorted h, List.filter_append, List.filter_append]
 split
 · rename_i hx
   rw [insR_sorted hf]
   simp only [List.filter_filter, List.filter_cons, hx, List.filter_nil, if_true]
   congr 1
   · congr 1
     exact List.filter_congr fun y _ => Bool.and_comm _ _
   · exact List.filter_congr fun y _ => Bool.and_comm _ _
 · rename_i hx
   simp only [List.filter_cons, hx, List.filter_nil, List.append_nil]
   simp only [Bool.false_eq_true, if_false, List.append_nil]
   rw [← List.filter_append, sorted_split h]
theorem foldl_filter (t : Int) : ∀ (l S : List Job), SortedN S → (l.foldl (insR ltN) S).filter (upto t) = (l.filter (upto t)).foldl (insR ltN) (S.filter (upto t))
 | [], _, _ => rfl
 | x :: l, S, h => by
   rw [List.foldl_cons, foldl_filter t l _ (insR_keeps h x), insR_filter h, List.filter_cons]
   split <;> rfl
theorem dueL_eq (l : List Job) (t : Int) : dueL l t = (isort ltN l).filter (upto t) := by
 unfold dueL isort
 rw [foldl_filter t l [] (by simp [SortedN])]
 rfl
end
section
set_option linter.unusedSimpArgs false
set_option linter.unusedVariables false
theorem dueL_mem {l : List Job} {t : Int} {x : Job} : x ∈ dueL l t ↔ x ∈ l ∧ x.next ≤ t := by
 rw [dueL_eq, List.mem_filter, (isort_perm ltN l).mem_iff]
 simp [upto]
end
section
set_option linter.unusedSimpArgs false
set_option linter.unusedVariables false
open Go.RowKit
theorem ringCl_alt (c : Cli) (me job t : Int) : ringCl c me job t = if restsCl c ≠ 0 then (zeroCl, restsCl c) else if t < 0 ∨ 100000 < t then (zeroCl, 3) else ringM c me job t := by
 unfold ringCl restsCl
 by_cases h : checkCl c = 0
 · by_cases hd : c.doing = 0
   · simp [h, hd]
   · simp [h, hd]
 · simp [h]
theorem find_of {l : List Job} {x : Job} {job : Int} (hp : l.Pairwise (fun a c => a.id < c.id)) (hx : x ∈ l) (he : x.id = job) : l.find? (fun j => decide (j.id = job)) = some x := by
 induction l with
 | nil => cases hx
 | cons y l ih =>
   obtain ⟨h1, h2⟩ := List.pairwise_cons.1 hp
   rcases List.mem_cons.1 hx with rfl | hx
   · simp [he]
   · have := h1 x hx
     rw [List.find?_cons_of_neg (by simp; omega)]
     exact ih h2 hx
theorem ring_hit {c : Cli} {me job t : Int} {x : Job} (hg : GoodB c.b) (hx : x ∈ c.b.jobs) (ht : x.next ≤ t) (he : x.id = job) : ringM c me job t = wantCl c ⟨3, job, 0, x.next, me⟩ := by
 unfold ringM
 rw [find_of hg.ord hx he]
 dsimp only
 rw [if_pos ht]
theorem ring_miss {c : Cli} {me job t : Int} (h : ∀ y ∈ c.b.jobs, y.next ≤ t → y.id ≠ job) : ringM c me job t = (zeroCl, 5) := by
 unfold ringM
 split
 · rename_i j hj
   have h1 := List.mem_of_find?_eq_some hj
   have h2 := List.find?_some hj
   rw [if_neg]
   intro h3
   exact h j h1 h3 (by simpa using h2)
 · rfl
set_option maxHeartbeats 8000000 in
set_option maxRecDepth 100000 in
theorem ClRing_calls (ep dg at_ ln pl : Int) (x : Entry) (A A' : Option Addr) (n c m d : Nat) (b : Book) (me job t : Int) (w : World) (h : S w 3 A n (b.jobs.map encJ)) (h' : S w 3 A' m (b.rung.map encR)) :
    Calls Tryz.prog 103 #[.agg #[.int .i64 ep, .int .i64 dg, .int .i64 x.kind, .int .i64 x.job, .int .i64 x.every, .int .i64 x.time, .int .i64 x.client, .int .i64 at_, .int .i64 ln, .int .i64 pl, .slice A n c, .slice A' m d], .int .i64 me, .int .i64 job, .int .i64 t] w (ClPost w (ringCl ⟨ep, dg, x, at_, ln, pl, b⟩ me job t).1 (ringCl ⟨ep, dg, x, at_, ln, pl, b⟩ me job t).2) := by
 obtain ⟨q, hq⟩ : ∃ q, q = restsCl ⟨ep, dg, x, at_, ln, pl, b⟩ := ⟨_, rfl⟩
 obtain ⟨r, hr⟩ : ∃ r, r = ringCl ⟨ep, dg, x, at_, ln, pl, b⟩ me job t := ⟨_, rfl⟩
 rw [← hr]
 rw [ringCl_alt] at hr
 rw [← hq] at hr
 try dsimp only at hr
 have HQ := Lib.hid hq; have HR := Lib.hid hr
 clear hq hr
 go_enter Tryz.func103, Tryz.ntmps103
 go_upto_region 1 with fail
 refine wp_box2 (v1 := cL ep dg x.kind x.job x.every x.time x.client at_ ln pl A n c A' m d) (v2 := zC) rfl rfl fun w1 on B Q => ?_
 replace h := h.onto on; replace h' := h'.onto on
 generalize hz : w.heap.size = z at B Q ⊢
 have x0 := B.at_ 0 rfl; have x1 := B.at_ 1 rfl; have x2 := B.at_ 2 rfl; have x3 := B.at_ 3 rfl; have x4 := B.at_ 4 rfl; have x5 := B.at_ 5 rfl; have x6 := B.at_ 6 rfl; have x7 := B.at_ 7 rfl; have x8 := B.at_ 8 rfl; have x9 := B.at_ 9 rfl; have x10 := B.at_ 10 rfl; have x11 := B.at_ 11 rfl
 go_wp2_with fail
 refine Calls.mono (ClRests_calls ep dg at_ ln pl x A A' n c m d b _ h h') ?_
 rw [← HQ.out]
 rintro e w2 ⟨rfl, b2⟩
 clear x0 x1 x2 x3 x4 x5 x6 x7 x8 x9 x10 x11
 replace on := on.to b2; replace B := B.onto b2; replace Q := Q.onto b2; replace h := h.onto b2; replace h' := h'.onto b2
 clear b2
 have hr := HR.out
 by_cases h0 : q = 0
 · rw [if_neg (by simp [h0])] at hr
   have hgb := restsCl_book (HQ.out.symm.trans h0)
   dsimp only at hgb
   subst h0
   have HG := Lib.hid hgb; have HR1 := Lib.hid hr
   clear hgb hr HR
   have x0 := B.at_ 0 rfl; have x1 := B.at_ 1 rfl; have x2 := B.at_ 2 rfl; have x3 := B.at_ 3 rfl; have x4 := B.at_ 4 rfl; have x5 := B.at_ 5 rfl; have x6 := B.at_ 6 rfl; have x7 := B.at_ 7 rfl; have x8 := B.at_ 8 rfl; have x9 := B.at_ 9 rfl; have x10 := B.at_ 10 rfl; have x11 := B.at_ 11 rfl
   go_wp2_with fail
   refine Calls.mono (Due_calls A A' n c m d b t _ h h') ?_
   rintro e w3 ⟨A1, n1, k1, rfl, s1, b3, fA1, _, _⟩
   clear x0 x1 x2 x3 x4 x5 x6 x7 x8 x9 x10 x11
   replace on := on.to b3; replace B := B.onto b3; replace Q := Q.onto b3; replace h := h.onto b3; replace h' := h'.onto b3
   clear b3
   have hr := HR1.out
   clear HR1
   by_cases hc : t < 0 ∨ 100000 < t
   · rw [if_pos hc] at hr
     have hck : checkD b t = 3 := by unfold checkD; rw [if_neg (by simp [checkB_iff.2 HG.out]), if_pos hc]
     rw [hck]
     have HR := Lib.hid hr
     clear hr hc s1 fA1 hck
     go_wp2_with (refine wpList_put Q zC 41 _ _ (by rfl) (by rfl) (by rfl) (by rfl) (by rfl) sizeC12 (by rfl) ?_)
     exact bodyPost_ret (res_cl Tryz.results103 rfl rfl (Q.put rfl)) rfl (ClPost.bad HR.out (put_onto (by omega) on))
   · rw [if_neg hc] at hr
     have hck : checkD b t = 0 := by unfold checkD; rw [if_neg (by simp [checkB_iff.2 HG.out]), if_neg hc]
     rw [hck, if_pos rfl] at s1
     rw [hck]
     obtain ⟨dl, hdl⟩ : ∃ dl, dl = dueL b.jobs t := ⟨_, rfl⟩
     rw [← hdl] at s1
     have hlen : dl.length = n1 := by have := s1.len; simpa using this
     have hn6 : n1 ≤ 6 := by have h1 := dueL_len b.jobs t; have h2 := HG.out.nj; rw [← hdl] at h1; omega
     have HDL := Lib.hid hdl; have HRM := Lib.hid hr; have HLN := Lib.hid hlen
     clear hdl hr hc hck hlen fA1
     go_wp2_with fail
     go_loopw [34] (fun s wr => ∃ k : Nat, k ≤ n1 ∧ s = .int .i64 k ∧ Hid (∀ (j : Nat) (y : Job), j < k → dl[j]? = some y → y.id ≠ job) ∧ Bx wr z (cL ep dg x.kind x.job x.every x.time x.client at_ ln pl A n c A' m d) ∧ Bx wr (z + 1) zC ∧ S wr 3 A n (b.jobs.map encJ) ∧ S wr 3 A' m (b.rung.map encR) ∧ S wr 3 A1 n1 (dl.map encJ) ∧ Onto w wr) (fun s _ => n1 - (intOf s).toNat)
     case atStart =>
      exact ⟨0, Nat.zero_le _, rfl, (fun j y hj => by omega : ∀ (j : Nat) (y : Job), j < 0 → dl[j]? = some y → y.id ≠ job), B, Q, h, h', s1, on⟩
     case round =>
      clear B Q h h' s1 on
      obtain ⟨k, hk, rfl, HN, B, Q, h, h', s1, on⟩ := hrel
      by_cases hlt : k < n1
      · obtain ⟨bb, off, j, rfl, hbb, hj, d0, d1, d2⟩ := s1.atJ hlt
        have HJ := Lib.hid hj
        clear hj hbb
        go_upto_region 10 with fail
        refine wp_box1 (v1 := [.int .i64 j.id, .int .i64 j.every, .int .i64 j.next]) rfl fun w4 ob V => ?_
        generalize hv : wr.heap.size = zv at V ⊢
        replace s1 := S.onto s1 ob
        replace on := on.to ob; replace B := B.onto ob; replace Q := Q.onto ob; replace h := h.onto ob; replace h' := h'.onto ob
        clear ob d0 d1 d2
        have v0 := V.at_ 0 rfl; have v1 := V.at_ 1 rfl; have v2 := V.at_ 2 rfl
        by_cases he : j.id = job
        · have hd : (j.id == job) = true := by simpa using he
          have hjm : j ∈ b.jobs ∧ j.next ≤ t := dueL_mem.1 (by rw [← HDL.out]; exact List.mem_of_getElem? HJ.out)
          have hr := HRM.out
          rw [ring_hit (c := ⟨ep, dg, x, at_, ln, pl, b⟩) HG.out hjm.1 hjm.2 he] at hr
          have HR := Lib.hid hr
          clear hr he hjm HRM
          have x0 := B.at_ 0 rfl; have x1 := B.at_ 1 rfl; have x2 := B.at_ 2 rfl; have x3 := B.at_ 3 rfl; have x4 := B.at_ 4 rfl; have x5 := B.at_ 5 rfl; have x6 := B.at_ 6 rfl; have x7 := B.at_ 7 rfl; have x8 := B.at_ 8 rfl; have x9 := B.at_ 9 rfl; have x10 := B.at_ 10 rfl; have x11 := B.at_ 11 rfl
          have hql := Q.lt
          go_wp2_with fail
          refine Calls.mono (ClWant_calls ep dg at_ ln pl x ⟨3, job, 0, j.next, me⟩ A A' n c m d b _ h h') ?_
          rw [← HR.out]
          rintro e w5 ⟨A7, n7, k7, A8, n8, k8, rfl, s7, s8, b5, hq7, hq8, f7, f8⟩
          have g7 : Fresh w.heap.size A7 := fun a e => Nat.le_trans on.size (f7 a e)
          have g8 : Fresh w.heap.size A8 := fun a e => Nat.le_trans on.size (f8 a e)
          have o7 : OffN n7 (z + 1) A7 := f7.offN hql
          have o8 : OffN n8 (z + 1) A8 := f8.offN hql
          clear h h' s1 f7 f8
          replace on := on.to b5; replace Q := Q.onto b5
          clear x0 x1 x2 x3 x4 x5 x6 x7 x8 x9 x10 x11
          clear B V v0 v1 v2 b5
          go_wp2_with (refine wpList_put Q (cL r.1.epoch r.1.doing r.1.e.kind r.1.e.job r.1.e.every r.1.e.time r.1.e.client r.1.at_ r.1.link r.1.played A7 n7 k7 A8 n8 k8) 41 _ _ (by rfl) (by rfl) (by rfl) (by rfl) (by rfl) sizeC12 (by rfl) ?_)
          exact bodyPost_ret (res_cl Tryz.results103 rfl rfl (Q.put rfl)) rfl ⟨A7, n7, k7, A8, n8, k8, rfl, put_S (w := w) o7 s7, put_S (w := w) o8 s8, put_onto (by omega) on, hq7, hq8, g7, g8⟩
        · have hd : (j.id == job) = false := by simpa using he
          have HE := Lib.hid he
          clear he
          go_wp2_with fail
          go_roundw
          case measure => simp [intOf] <;> omega
          case rel =>
           refine ⟨k + 1, by omega, by go_num, Lib.hid fun i y hi hy => ?_, B, Q, h, h', s1, on⟩
           by_cases hik : i = k
           · subst hik; rw [HJ.out] at hy; cases hy; exact HE.out
           · exact HN.out i y (by omega) hy
      · have hr := HRM.out
        rw [ring_miss (c := ⟨ep, dg, x, at_, ln, pl, b⟩) (fun y hy hyt he => by
         have hm : y ∈ dl := by rw [HDL.out]; exact dueL_mem.2 ⟨hy, hyt⟩
         obtain ⟨i, hi, rfl⟩ := List.getElem_of_mem hm
         exact HN.out i _ (by have := HLN.out; omega) (List.getElem?_eq_getElem hi) he)] at hr
        have HR := Lib.hid hr
        have hkn : k = n1 := by omega
        subst hkn
        clear hr HRM HN s1
        go_wp2_with (refine wpList_put Q zC 41 _ _ (by rfl) (by rfl) (by rfl) (by rfl) (by rfl) sizeC12 (by rfl) ?_)
        exact bodyPost_ret (res_cl Tryz.results103 rfl rfl (Q.put rfl)) rfl (ClPost.bad HR.out (put_onto (by omega) on))
 · rw [if_pos h0] at hr
   have HR := Lib.hid hr
   have hd : (q != 0) = true := by simpa using h0
   clear hr
   go_wp2_with (refine wpList_put Q zC 41 _ _ (by rfl) (by rfl) (by rfl) (by rfl) (by rfl) sizeC12 (by rfl) ?_)
   exact bodyPost_ret (res_cl Tryz.results103 rfl rfl (Q.put rfl)) rfl (ClPost.bad HR.out (put_onto (by omega) on))
end
section
set_option linter.unusedSimpArgs false
set_option linter.unusedVariables false
open Go.RowKit
set_option maxHeartbeats 8000000 in
set_option maxRecDepth 100000 in
theorem ClLearn_calls (ep dg at_ ln pl : Int) (x : Entry) (A A' : Option Addr) (n c m d : Nat) (b : Book) (v : Int) (w : World) (h : S w 3 A n (b.jobs.map encJ)) (h' : S w 3 A' m (b.rung.map encR)) :
    Calls Tryz.prog 111 #[.agg #[.int .i64 ep, .int .i64 dg, .int .i64 x.kind, .int .i64 x.job, .int .i64 x.every, .int .i64 x.time, .int .i64 x.client, .int .i64 at_, .int .i64 ln, .int .i64 pl, .slice A n c, .slice A' m d], .int .i64 v] w (ClPost w (learnCl ⟨ep, dg, x, at_, ln, pl, b⟩ v).1 (learnCl ⟨ep, dg, x, at_, ln, pl, b⟩ v).2) := by
 obtain ⟨q, hq⟩ : ∃ q, q = checkCl ⟨ep, dg, x, at_, ln, pl, b⟩ := ⟨_, rfl⟩
 obtain ⟨r, hr⟩ : ∃ r, r = learnCl ⟨ep, dg, x, at_, ln, pl, b⟩ v := ⟨_, rfl⟩
 rw [← hr]
 unfold learnCl at hr
 rw [← hq] at hr
 dsimp only at hr
 have HQ := Lib.hid hq; have HR := Lib.hid hr
 clear hq hr
 go_enter Tryz.func111, Tryz.ntmps111
 go_upto_region 1 with fail
 refine wp_box2 (v1 := cL ep dg x.kind x.job x.every x.time x.client at_ ln pl A n c A' m d) (v2 := zC) rfl rfl fun w1 on B Q => ?_
 replace h := h.onto on; replace h' := h'.onto on
 generalize hz : w.heap.size = z at B Q ⊢
 have x0 := B.at_ 0 rfl; have x1 := B.at_ 1 rfl; have x2 := B.at_ 2 rfl; have x3 := B.at_ 3 rfl; have x4 := B.at_ 4 rfl; have x5 := B.at_ 5 rfl; have x6 := B.at_ 6 rfl; have x7 := B.at_ 7 rfl; have x8 := B.at_ 8 rfl; have x9 := B.at_ 9 rfl; have x10 := B.at_ 10 rfl; have x11 := B.at_ 11 rfl
 go_wp2_with fail
 refine Calls.mono (ClCheck_calls ep dg at_ ln pl x A A' n c m d b _ h h') ?_
 rw [← HQ.out]
 rintro e w2 ⟨rfl, b2⟩
 clear x0 x1 x2 x3 x4 x5 x6 x7 x8 x9 x10 x11
 replace on := on.to b2; replace B := B.onto b2; replace Q := Q.onto b2; replace h := h.onto b2; replace h' := h'.onto b2
 clear b2
 have hr := HR.out
 by_cases h0 : q = 0
 · subst h0
   rw [if_neg (by simp)] at hr
   clear HR
   have hgb := checkCl_book (HQ.out.symm)
   have hn : n ≤ 1000000 := by have h9 := hgb.nj; dsimp only at h9; have := h.len; simp only [List.length_map] at this; omega
   have hm : m ≤ 1000000 := by have h9 := hgb.nr; dsimp only at h9; have := h'.len; simp only [List.length_map] at this; omega
   clear hgb
   by_cases h2 : v < 1
   · rw [if_pos (.inl h2)] at hr
     have HR := Lib.hid hr
     clear hr
     go_wp2_with (refine wpList_put Q zC 41 _ _ (by rfl) (by rfl) (by rfl) (by rfl) (by rfl) sizeC12 (by rfl) ?_)
     exact bodyPost_ret (res_cl Tryz.results111 rfl rfl (Q.put rfl)) rfl (ClPost.bad HR.out (put_onto (by omega) on))
   · by_cases h3 : 20 < v
     · rw [if_pos (.inr h3)] at hr
       have HR := Lib.hid hr
       clear hr
       go_wp2_with (refine wpList_put Q zC 41 _ _ (by rfl) (by rfl) (by rfl) (by rfl) (by rfl) sizeC12 (by rfl) ?_)
       exact bodyPost_ret (res_cl Tryz.results111 rfl rfl (Q.put rfl)) rfl (ClPost.bad HR.out (put_onto (by omega) on))
     · rw [if_neg (by omega)] at hr
       by_cases h4 : v ≤ ep
       · rw [if_pos h4] at hr
         have HR := Lib.hid hr
         clear hr
         have x0 := B.at_ 0 rfl
         go_wp2_with (refine wpList_put Q zC 41 _ _ (by rfl) (by rfl) (by rfl) (by rfl) (by rfl) sizeC12 (by rfl) ?_)
         exact bodyPost_ret (res_cl Tryz.results111 rfl rfl (Q.put rfl)) rfl (ClPost.bad HR.out (put_onto (by omega) on))
       · rw [if_neg h4] at hr
         have HR := Lib.hid hr
         clear hr
         have x0 := B.at_ 0 rfl
         go_upto_region 8 with fail
         clear x0
         have x0 := B.at_ 0 rfl; have x1 := B.at_ 1 rfl; have x2 := B.at_ 2 rfl; have x3 := B.at_ 3 rfl; have x4 := B.at_ 4 rfl; have x5 := B.at_ 5 rfl; have x6 := B.at_ 6 rfl; have x7 := B.at_ 7 rfl; have x8 := B.at_ 8 rfl; have x9 := B.at_ 9 rfl; have x10 := B.at_ 10 rfl; have x11 := B.at_ 11 rfl
         have hzl := B.lt; have hrl := Q.lt
         go_wp2_with fail
         refine Calls.mono (ClCopy_calls ep dg at_ ln pl x A A' n c m d b _ h h' hn hm) ?_
         rintro e w3 ⟨A1, c1, A2, c2, rfl, s1, s2, b3, k1, k2, f1, f2⟩
         have o1 : OffN n z A1 := f1.offN hzl; have o2 : OffN m z A2 := f2.offN hzl
         have p1 : OffN n (z + 1) A1 := f1.offN hrl; have p2 : OffN m (z + 1) A2 := f2.offN hrl
         have g1 : Fresh w.heap.size A1 := fun a e => Nat.le_trans on.size (f1 a e); have g2 : Fresh w.heap.size A2 := fun a e => Nat.le_trans on.size (f2 a e)
         clear h h' hn hm f1 f2 hzl hrl
         clear x0 x1 x2 x3 x4 x5 x6 x7 x8 x9 x10 x11
         replace on := on.to b3; replace B := B.onto b3; replace Q := Q.onto b3
         clear b3
         go_upto_region 9 with (refine wpList_put B (cL ep dg x.kind x.job x.every x.time x.client at_ ln pl A1 n c1 A2 m c2) 41 _ _ (by rfl) (by rfl) (by rfl) (by rfl) (by rfl) sizeC12 (by rfl) ?_)
         replace B := B.put (us := cL ep dg x.kind x.job x.every x.time x.client at_ ln pl A1 n c1 A2 m c2) rfl; replace Q := Q.off (b := z) (o := 0) (us := cL ep dg x.kind x.job x.every x.time x.client at_ ln pl A1 n c1 A2 m c2) (by omega)
         replace s1 := put_S (w := w3) o1 (vs := cL ep dg x.kind x.job x.every x.time x.client at_ ln pl A1 n c1 A2 m c2) (o := 0) s1; replace s2 := put_S (w := w3) o2 (vs := cL ep dg x.kind x.job x.every x.time x.client at_ ln pl A1 n c1 A2 m c2) (o := 0) s2
         replace on := Onto.puts (b := z) (o := 0) (us := cL ep dg x.kind x.job x.every x.time x.client at_ ln pl A1 n c1 A2 m c2) (by omega) on
         generalize World.setCells w3 z 0 _ = w4 at *
         have t0 := B.froz 0
         have x0 := B.at_ 0 rfl
         go_upto_region 10 with fail
         clear x0
         clear t0
         replace B := B.put1 (j := 0) (by simp) (.int .i64 v); replace Q := Q.off1 (p := ⟨z, 0, none⟩) (by show _ ≠ z; omega) (.int .i64 v); replace s1 := S.off s1 (p := ⟨z, 0, none⟩) o1 (.int .i64 v); replace s2 := S.off s2 (p := ⟨z, 0, none⟩) o2 (.int .i64 v); replace on := on.put (p := ⟨z, 0, none⟩) (by simp; omega) (.int .i64 v)
         generalize (w4.setCell ⟨z, 0, none⟩ (.int .i64 v)) = w5 at *
         replace B : Bx _ z (cL v dg x.kind x.job x.every x.time x.client at_ ln pl A1 n c1 A2 m c2) := B
         have x0 := B.at_ 0 rfl; have x1 := B.at_ 1 rfl; have x2 := B.at_ 2 rfl; have x3 := B.at_ 3 rfl; have x4 := B.at_ 4 rfl; have x5 := B.at_ 5 rfl; have x6 := B.at_ 6 rfl; have x7 := B.at_ 7 rfl; have x8 := B.at_ 8 rfl; have x9 := B.at_ 9 rfl; have x10 := B.at_ 10 rfl; have x11 := B.at_ 11 rfl
         go_wp2_with (refine wpList_put Q (cL v dg x.kind x.job x.every x.time x.client at_ ln pl A1 n c1 A2 m c2) 41 _ _ (by rfl) (by rfl) (by rfl) (by rfl) (by rfl) sizeC12 (by rfl) ?_)
         rw [HR.out]
         exact bodyPost_ret (res_cl Tryz.results111 rfl rfl (Q.put rfl)) rfl ⟨A1, n, c1, A2, m, c2, rfl, put_S (w := w) p1 s1, put_S (w := w) p2 s2, put_onto (by omega) on, k1, k2, g1, g2⟩
 · rw [if_pos h0] at hr
   have HR := Lib.hid hr
   have hd : (q != 0) = true := by simpa using h0
   clear hr
   go_wp2_with (refine wpList_put Q zC 41 _ _ (by rfl) (by rfl) (by rfl) (by rfl) (by rfl) sizeC12 (by rfl) ?_)
   exact bodyPost_ret (res_cl Tryz.results111 rfl rfl (Q.put rfl)) rfl (ClPost.bad HR.out (put_onto (by omega) on))
end
section
set_option linter.unusedSimpArgs false
set_option linter.unusedVariables false
open Go.RowKit
theorem ClNew_calls (w : World) : Calls Tryz.prog 87 #[] w fun e w' => e = .returned (.agg #[.int .i64 1, .int .i64 0, .int .i64 0, .int .i64 0, .int .i64 0, .int .i64 0, .int .i64 0, .int .i64 0, .int .i64 0, .int .i64 0, .slice none 0 0, .slice none 0 0]) ∧ Onto w w' := by
 go_enter Tryz.func87, Tryz.ntmps87
 go_wp2_with fail
 refine bodyPost_ret (v := .agg #[.int .i64 1, .int .i64 0, .int .i64 0, .int .i64 0, .int .i64 0, .int .i64 0, .int .i64 0, .int .i64 0, .int .i64 0, .int .i64 0, .slice none 0 0, .slice none 0 0]) (by simp [results, Tryz.results87, go_sem]) rfl ?_
 exact ⟨rfl, by repeat (first | exact Below.refl _ _ | refine Onto.put ?_ (by simp) _ | refine Onto.new ?_ _)⟩
end
section
set_option linter.unusedSimpArgs false
set_option linter.unusedVariables false
open Go.RowKit
set_option maxHeartbeats 8000000 in
set_option maxRecDepth 100000 in
theorem ClPlace_calls (ep dg at_ ln pl : Int) (x : Entry) (A A' : Option Addr) (n c m d : Nat) (b : Book) (v : Int) (w : World) (h : S w 3 A n (b.jobs.map encJ)) (h' : S w 3 A' m (b.rung.map encR)) :
    Calls Tryz.prog 104 #[.agg #[.int .i64 ep, .int .i64 dg, .int .i64 x.kind, .int .i64 x.job, .int .i64 x.every, .int .i64 x.time, .int .i64 x.client, .int .i64 at_, .int .i64 ln, .int .i64 pl, .slice A n c, .slice A' m d], .int .i64 v] w (ClPost w (placeCl ⟨ep, dg, x, at_, ln, pl, b⟩ v).1 (placeCl ⟨ep, dg, x, at_, ln, pl, b⟩ v).2) := by
 obtain ⟨q, hq⟩ : ∃ q, q = checkCl ⟨ep, dg, x, at_, ln, pl, b⟩ := ⟨_, rfl⟩
 obtain ⟨r, hr⟩ : ∃ r, r = placeCl ⟨ep, dg, x, at_, ln, pl, b⟩ v := ⟨_, rfl⟩
 rw [← hr]
 unfold placeCl at hr
 rw [← hq] at hr
 dsimp only at hr
 have HQ := Lib.hid hq; have HR := Lib.hid hr
 clear hq hr
 go_enter Tryz.func104, Tryz.ntmps104
 go_upto_region 1 with fail
 refine wp_box2 (v1 := cL ep dg x.kind x.job x.every x.time x.client at_ ln pl A n c A' m d) (v2 := zC) rfl rfl fun w1 on B Q => ?_
 replace h := h.onto on; replace h' := h'.onto on
 generalize hz : w.heap.size = z at B Q ⊢
 have x0 := B.at_ 0 rfl; have x1 := B.at_ 1 rfl; have x2 := B.at_ 2 rfl; have x3 := B.at_ 3 rfl; have x4 := B.at_ 4 rfl; have x5 := B.at_ 5 rfl; have x6 := B.at_ 6 rfl; have x7 := B.at_ 7 rfl; have x8 := B.at_ 8 rfl; have x9 := B.at_ 9 rfl; have x10 := B.at_ 10 rfl; have x11 := B.at_ 11 rfl
 go_wp2_with fail
 refine Calls.mono (ClCheck_calls ep dg at_ ln pl x A A' n c m d b _ h h') ?_
 rw [← HQ.out]
 rintro e w2 ⟨rfl, b2⟩
 clear x0 x1 x2 x3 x4 x5 x6 x7 x8 x9 x10 x11
 replace on := on.to b2; replace B := B.onto b2; replace Q := Q.onto b2; replace h := h.onto b2; replace h' := h'.onto b2
 clear b2
 have hr := HR.out
 by_cases h0 : q = 0
 · subst h0
   rw [if_neg (by simp)] at hr
   clear HR
   have hgb := checkCl_book (HQ.out.symm)
   have hn : n ≤ 1000000 := by have h9 := hgb.nj; dsimp only at h9; have := h.len; simp only [List.length_map] at this; omega
   have hm : m ≤ 1000000 := by have h9 := hgb.nr; dsimp only at h9; have := h'.len; simp only [List.length_map] at this; omega
   clear hgb
   by_cases h1 : dg = 1
   · rw [if_neg (by simp [h1])] at hr
     have hd1 : (dg != 1) = false := by simp [h1]
     clear h1
     by_cases h2 : v < 0
     · rw [if_pos (.inl h2)] at hr
       have HR := Lib.hid hr
       clear hr
       have x1 := B.at_ 1 rfl
       go_wp2_with (refine wpList_put Q zC 41 _ _ (by rfl) (by rfl) (by rfl) (by rfl) (by rfl) sizeC12 (by rfl) ?_)
       exact bodyPost_ret (res_cl Tryz.results104 rfl rfl (Q.put rfl)) rfl (ClPost.bad HR.out (put_onto (by omega) on))
     · by_cases h3 : 60 ≤ v
       · rw [if_pos (.inr h3)] at hr
         have HR := Lib.hid hr
         clear hr
         have x1 := B.at_ 1 rfl
         go_wp2_with (refine wpList_put Q zC 41 _ _ (by rfl) (by rfl) (by rfl) (by rfl) (by rfl) sizeC12 (by rfl) ?_)
         exact bodyPost_ret (res_cl Tryz.results104 rfl rfl (Q.put rfl)) rfl (ClPost.bad HR.out (put_onto (by omega) on))
       · rw [if_neg (by omega)] at hr
         have HR := Lib.hid hr
         clear hr
         have x1 := B.at_ 1 rfl
         go_upto_region 8 with fail
         clear x1
         have x0 := B.at_ 0 rfl; have x1 := B.at_ 1 rfl; have x2 := B.at_ 2 rfl; have x3 := B.at_ 3 rfl; have x4 := B.at_ 4 rfl; have x5 := B.at_ 5 rfl; have x6 := B.at_ 6 rfl; have x7 := B.at_ 7 rfl; have x8 := B.at_ 8 rfl; have x9 := B.at_ 9 rfl; have x10 := B.at_ 10 rfl; have x11 := B.at_ 11 rfl
         have hzl := B.lt; have hrl := Q.lt
         go_wp2_with fail
         refine Calls.mono (ClCopy_calls ep dg at_ ln pl x A A' n c m d b _ h h' hn hm) ?_
         rintro e w3 ⟨A1, c1, A2, c2, rfl, s1, s2, b3, k1, k2, f1, f2⟩
         have o1 : OffN n z A1 := f1.offN hzl; have o2 : OffN m z A2 := f2.offN hzl
         have p1 : OffN n (z + 1) A1 := f1.offN hrl; have p2 : OffN m (z + 1) A2 := f2.offN hrl
         have g1 : Fresh w.heap.size A1 := fun a e => Nat.le_trans on.size (f1 a e); have g2 : Fresh w.heap.size A2 := fun a e => Nat.le_trans on.size (f2 a e)
         clear h h' hn hm f1 f2 hzl hrl
         clear x0 x1 x2 x3 x4 x5 x6 x7 x8 x9 x10 x11
         replace on := on.to b3; replace B := B.onto b3; replace Q := Q.onto b3
         clear b3
         go_upto_region 9 with (refine wpList_put B (cL ep dg x.kind x.job x.every x.time x.client at_ ln pl A1 n c1 A2 m c2) 41 _ _ (by rfl) (by rfl) (by rfl) (by rfl) (by rfl) sizeC12 (by rfl) ?_)
         replace B := B.put (us := cL ep dg x.kind x.job x.every x.time x.client at_ ln pl A1 n c1 A2 m c2) rfl; replace Q := Q.off (b := z) (o := 0) (us := cL ep dg x.kind x.job x.every x.time x.client at_ ln pl A1 n c1 A2 m c2) (by omega)
         replace s1 := put_S (w := w3) o1 (vs := cL ep dg x.kind x.job x.every x.time x.client at_ ln pl A1 n c1 A2 m c2) (o := 0) s1; replace s2 := put_S (w := w3) o2 (vs := cL ep dg x.kind x.job x.every x.time x.client at_ ln pl A1 n c1 A2 m c2) (o := 0) s2
         replace on := Onto.puts (b := z) (o := 0) (us := cL ep dg x.kind x.job x.every x.time x.client at_ ln pl A1 n c1 A2 m c2) (by omega) on
         generalize World.setCells w3 z 0 _ = w4 at *
         have t1 := B.froz 1; have t7 := B.froz 7
         have x1 := B.at_ 1 rfl; have x7 := B.at_ 7 rfl
         go_upto_region 10 with fail
         clear x1 x7
         clear t1 t7
         replace B := B.put1 (j := 1) (by simp) (.int .i64 2); replace Q := Q.off1 (p := ⟨z, 1, none⟩) (by show _ ≠ z; omega) (.int .i64 2); replace s1 := S.off s1 (p := ⟨z, 1, none⟩) o1 (.int .i64 2); replace s2 := S.off s2 (p := ⟨z, 1, none⟩) o2 (.int .i64 2); replace on := on.put (p := ⟨z, 1, none⟩) (by simp; omega) (.int .i64 2)
         replace B := B.put1 (j := 7) (by simp) (.int .i64 v); replace Q := Q.off1 (p := ⟨z, 7, none⟩) (by show _ ≠ z; omega) (.int .i64 v); replace s1 := S.off s1 (p := ⟨z, 7, none⟩) o1 (.int .i64 v); replace s2 := S.off s2 (p := ⟨z, 7, none⟩) o2 (.int .i64 v); replace on := on.put (p := ⟨z, 7, none⟩) (by simp; omega) (.int .i64 v)
         generalize ((w4.setCell ⟨z, 1, none⟩ (.int .i64 2)).setCell ⟨z, 7, none⟩ (.int .i64 v)) = w5 at *
         replace B : Bx _ z (cL ep 2 x.kind x.job x.every x.time x.client v ln pl A1 n c1 A2 m c2) := B
         have x0 := B.at_ 0 rfl; have x1 := B.at_ 1 rfl; have x2 := B.at_ 2 rfl; have x3 := B.at_ 3 rfl; have x4 := B.at_ 4 rfl; have x5 := B.at_ 5 rfl; have x6 := B.at_ 6 rfl; have x7 := B.at_ 7 rfl; have x8 := B.at_ 8 rfl; have x9 := B.at_ 9 rfl; have x10 := B.at_ 10 rfl; have x11 := B.at_ 11 rfl
         go_wp2_with (refine wpList_put Q (cL ep 2 x.kind x.job x.every x.time x.client v ln pl A1 n c1 A2 m c2) 41 _ _ (by rfl) (by rfl) (by rfl) (by rfl) (by rfl) sizeC12 (by rfl) ?_)
         rw [HR.out]
         exact bodyPost_ret (res_cl Tryz.results104 rfl rfl (Q.put rfl)) rfl ⟨A1, n, c1, A2, m, c2, rfl, put_S (w := w) p1 s1, put_S (w := w) p2 s2, put_onto (by omega) on, k1, k2, g1, g2⟩
   · rw [if_pos h1] at hr
     have HR := Lib.hid hr
     have hd1 : (dg != 1) = true := by simpa using h1
     clear hr
     have x1 := B.at_ 1 rfl
     go_wp2_with (refine wpList_put Q zC 41 _ _ (by rfl) (by rfl) (by rfl) (by rfl) (by rfl) sizeC12 (by rfl) ?_)
     exact bodyPost_ret (res_cl Tryz.results104 rfl rfl (Q.put rfl)) rfl (ClPost.bad HR.out (put_onto (by omega) on))
 · rw [if_pos h0] at hr
   have HR := Lib.hid hr
   have hd : (q != 0) = true := by simpa using h0
   clear hr
   go_wp2_with (refine wpList_put Q zC 41 _ _ (by rfl) (by rfl) (by rfl) (by rfl) (by rfl) sizeC12 (by rfl) ?_)
   exact bodyPost_ret (res_cl Tryz.results104 rfl rfl (Q.put rfl)) rfl (ClPost.bad HR.out (put_onto (by omega) on))
set_option maxHeartbeats 8000000 in
set_option maxRecDepth 100000 in
theorem ClFill_calls (ep dg at_ ln pl : Int) (x : Entry) (A A' : Option Addr) (n c m d : Nat) (b : Book) (v : Int) (w : World) (h : S w 3 A n (b.jobs.map encJ)) (h' : S w 3 A' m (b.rung.map encR)) :
    Calls Tryz.prog 105 #[.agg #[.int .i64 ep, .int .i64 dg, .int .i64 x.kind, .int .i64 x.job, .int .i64 x.every, .int .i64 x.time, .int .i64 x.client, .int .i64 at_, .int .i64 ln, .int .i64 pl, .slice A n c, .slice A' m d], .int .i64 v] w (ClPost w (fillCl ⟨ep, dg, x, at_, ln, pl, b⟩ v).1 (fillCl ⟨ep, dg, x, at_, ln, pl, b⟩ v).2) := by
 obtain ⟨q, hq⟩ : ∃ q, q = restsCl ⟨ep, dg, x, at_, ln, pl, b⟩ := ⟨_, rfl⟩
 obtain ⟨r, hr⟩ : ∃ r, r = fillCl ⟨ep, dg, x, at_, ln, pl, b⟩ v := ⟨_, rfl⟩
 rw [← hr]
 unfold fillCl at hr
 rw [← hq] at hr
 dsimp only at hr
 have HQ := Lib.hid hq; have HR := Lib.hid hr
 clear hq hr
 go_enter Tryz.func105, Tryz.ntmps105
 go_upto_region 1 with fail
 refine wp_box2 (v1 := cL ep dg x.kind x.job x.every x.time x.client at_ ln pl A n c A' m d) (v2 := zC) rfl rfl fun w1 on B Q => ?_
 replace h := h.onto on; replace h' := h'.onto on
 generalize hz : w.heap.size = z at B Q ⊢
 have x0 := B.at_ 0 rfl; have x1 := B.at_ 1 rfl; have x2 := B.at_ 2 rfl; have x3 := B.at_ 3 rfl; have x4 := B.at_ 4 rfl; have x5 := B.at_ 5 rfl; have x6 := B.at_ 6 rfl; have x7 := B.at_ 7 rfl; have x8 := B.at_ 8 rfl; have x9 := B.at_ 9 rfl; have x10 := B.at_ 10 rfl; have x11 := B.at_ 11 rfl
 go_wp2_with fail
 refine Calls.mono (ClRests_calls ep dg at_ ln pl x A A' n c m d b _ h h') ?_
 rw [← HQ.out]
 rintro e w2 ⟨rfl, b2⟩
 clear x0 x1 x2 x3 x4 x5 x6 x7 x8 x9 x10 x11
 replace on := on.to b2; replace B := B.onto b2; replace Q := Q.onto b2; replace h := h.onto b2; replace h' := h'.onto b2
 clear b2
 have hr := HR.out
 by_cases h0 : q = 0
 · subst h0
   rw [if_neg (by simp)] at hr
   clear HR
   have hgb := restsCl_book (HQ.out.symm)
   have hn : n ≤ 1000000 := by have h9 := hgb.nj; dsimp only at h9; have := h.len; simp only [List.length_map] at this; omega
   have hm : m ≤ 1000000 := by have h9 := hgb.nr; dsimp only at h9; have := h'.len; simp only [List.length_map] at this; omega
   clear hgb
   by_cases h2 : v < 0
   · rw [if_pos (.inl h2)] at hr
     have HR := Lib.hid hr
     clear hr
     go_wp2_with (refine wpList_put Q zC 41 _ _ (by rfl) (by rfl) (by rfl) (by rfl) (by rfl) sizeC12 (by rfl) ?_)
     exact bodyPost_ret (res_cl Tryz.results105 rfl rfl (Q.put rfl)) rfl (ClPost.bad HR.out (put_onto (by omega) on))
   · by_cases h3 : 60 ≤ v
     · rw [if_pos (.inr h3)] at hr
       have HR := Lib.hid hr
       clear hr
       go_wp2_with (refine wpList_put Q zC 41 _ _ (by rfl) (by rfl) (by rfl) (by rfl) (by rfl) sizeC12 (by rfl) ?_)
       exact bodyPost_ret (res_cl Tryz.results105 rfl rfl (Q.put rfl)) rfl (ClPost.bad HR.out (put_onto (by omega) on))
     · rw [if_neg (by omega)] at hr
       have HR := Lib.hid hr
       clear hr
       go_upto_region 6 with fail
       have x0 := B.at_ 0 rfl; have x1 := B.at_ 1 rfl; have x2 := B.at_ 2 rfl; have x3 := B.at_ 3 rfl; have x4 := B.at_ 4 rfl; have x5 := B.at_ 5 rfl; have x6 := B.at_ 6 rfl; have x7 := B.at_ 7 rfl; have x8 := B.at_ 8 rfl; have x9 := B.at_ 9 rfl; have x10 := B.at_ 10 rfl; have x11 := B.at_ 11 rfl
       have hzl := B.lt; have hrl := Q.lt
       go_wp2_with fail
       refine Calls.mono (ClCopy_calls ep dg at_ ln pl x A A' n c m d b _ h h' hn hm) ?_
       rintro e w3 ⟨A1, c1, A2, c2, rfl, s1, s2, b3, k1, k2, f1, f2⟩
       have o1 : OffN n z A1 := f1.offN hzl; have o2 : OffN m z A2 := f2.offN hzl
       have p1 : OffN n (z + 1) A1 := f1.offN hrl; have p2 : OffN m (z + 1) A2 := f2.offN hrl
       have g1 : Fresh w.heap.size A1 := fun a e => Nat.le_trans on.size (f1 a e); have g2 : Fresh w.heap.size A2 := fun a e => Nat.le_trans on.size (f2 a e)
       clear h h' hn hm f1 f2 hzl hrl
       clear x0 x1 x2 x3 x4 x5 x6 x7 x8 x9 x10 x11
       replace on := on.to b3; replace B := B.onto b3; replace Q := Q.onto b3
       clear b3
       go_upto_region 7 with (refine wpList_put B (cL ep dg x.kind x.job x.every x.time x.client at_ ln pl A1 n c1 A2 m c2) 41 _ _ (by rfl) (by rfl) (by rfl) (by rfl) (by rfl) sizeC12 (by rfl) ?_)
       replace B := B.put (us := cL ep dg x.kind x.job x.every x.time x.client at_ ln pl A1 n c1 A2 m c2) rfl; replace Q := Q.off (b := z) (o := 0) (us := cL ep dg x.kind x.job x.every x.time x.client at_ ln pl A1 n c1 A2 m c2) (by omega)
       replace s1 := put_S (w := w3) o1 (vs := cL ep dg x.kind x.job x.every x.time x.client at_ ln pl A1 n c1 A2 m c2) (o := 0) s1; replace s2 := put_S (w := w3) o2 (vs := cL ep dg x.kind x.job x.every x.time x.client at_ ln pl A1 n c1 A2 m c2) (o := 0) s2
       replace on := Onto.puts (b := z) (o := 0) (us := cL ep dg x.kind x.job x.every x.time x.client at_ ln pl A1 n c1 A2 m c2) (by omega) on
       generalize World.setCells w3 z 0 _ = w4 at *
       have t1 := B.froz 1; have t7 := B.froz 7
       have x1 := B.at_ 1 rfl; have x7 := B.at_ 7 rfl
       go_upto_region 8 with fail
       clear x1 x7
       clear t1 t7
       replace B := B.put1 (j := 1) (by simp) (.int .i64 2); replace Q := Q.off1 (p := ⟨z, 1, none⟩) (by show _ ≠ z; omega) (.int .i64 2); replace s1 := S.off s1 (p := ⟨z, 1, none⟩) o1 (.int .i64 2); replace s2 := S.off s2 (p := ⟨z, 1, none⟩) o2 (.int .i64 2); replace on := on.put (p := ⟨z, 1, none⟩) (by simp; omega) (.int .i64 2)
       replace B := B.put1 (j := 7) (by simp) (.int .i64 v); replace Q := Q.off1 (p := ⟨z, 7, none⟩) (by show _ ≠ z; omega) (.int .i64 v); replace s1 := S.off s1 (p := ⟨z, 7, none⟩) o1 (.int .i64 v); replace s2 := S.off s2 (p := ⟨z, 7, none⟩) o2 (.int .i64 v); replace on := on.put (p := ⟨z, 7, none⟩) (by simp; omega) (.int .i64 v)
       generalize ((w4.setCell ⟨z, 1, none⟩ (.int .i64 2)).setCell ⟨z, 7, none⟩ (.int .i64 v)) = w5 at *
       replace B : Bx _ z (cL ep 2 x.kind x.job x.every x.time x.client v ln pl A1 n c1 A2 m c2) := B
       have x0 := B.at_ 0 rfl; have x1 := B.at_ 1 rfl; have x2 := B.at_ 2 rfl; have x3 := B.at_ 3 rfl; have x4 := B.at_ 4 rfl; have x5 := B.at_ 5 rfl; have x6 := B.at_ 6 rfl; have x7 := B.at_ 7 rfl; have x8 := B.at_ 8 rfl; have x9 := B.at_ 9 rfl; have x10 := B.at_ 10 rfl; have x11 := B.at_ 11 rfl
       go_wp2_with (refine wpList_put Q (cL ep 2 x.kind x.job x.every x.time x.client v ln pl A1 n c1 A2 m c2) 41 _ _ (by rfl) (by rfl) (by rfl) (by rfl) (by rfl) sizeC12 (by rfl) ?_)
       rw [HR.out]
       exact bodyPost_ret (res_cl Tryz.results105 rfl rfl (Q.put rfl)) rfl ⟨A1, n, c1, A2, m, c2, rfl, put_S (w := w) p1 s1, put_S (w := w) p2 s2, put_onto (by omega) on, k1, k2, g1, g2⟩
 · rw [if_pos h0] at hr
   have HR := Lib.hid hr
   have hd : (q != 0) = true := by simpa using h0
   clear hr
   go_wp2_with (refine wpList_put Q zC 41 _ _ (by rfl) (by rfl) (by rfl) (by rfl) (by rfl) sizeC12 (by rfl) ?_)
   exact bodyPost_ret (res_cl Tryz.results105 rfl rfl (Q.put rfl)) rfl (ClPost.bad HR.out (put_onto (by omega) on))
end
section
set_option linter.unusedSimpArgs false
set_option linter.unusedVariables false
open Go.RowKit
set_option maxHeartbeats 8000000 in
set_option maxRecDepth 100000 in
theorem ClPlay_calls (ep dg at_ ln pl : Int) (x y : Entry) (A A' : Option Addr) (n c m d : Nat) (b : Book) (w : World) (h : S w 3 A n (b.jobs.map encJ)) (h' : S w 3 A' m (b.rung.map encR)) :
    Calls Tryz.prog 108 #[.agg #[.int .i64 ep, .int .i64 dg, .int .i64 x.kind, .int .i64 x.job, .int .i64 x.every, .int .i64 x.time, .int .i64 x.client, .int .i64 at_, .int .i64 ln, .int .i64 pl, .slice A n c, .slice A' m d], .agg #[.int .i64 y.kind, .int .i64 y.job, .int .i64 y.every, .int .i64 y.time, .int .i64 y.client]] w (ClPost w (playCl ⟨ep, dg, x, at_, ln, pl, b⟩ y).1 (playCl ⟨ep, dg, x, at_, ln, pl, b⟩ y).2) := by
 obtain ⟨q, hq⟩ : ∃ q, q = checkCl ⟨ep, dg, x, at_, ln, pl, b⟩ := ⟨_, rfl⟩
 obtain ⟨r, hr⟩ : ∃ r, r = playCl ⟨ep, dg, x, at_, ln, pl, b⟩ y := ⟨_, rfl⟩
 rw [← hr]
 unfold playCl at hr
 rw [← hq] at hr
 dsimp only at hr
 have HQ := Lib.hid hq; have HR := Lib.hid hr
 clear hq hr
 go_enter Tryz.func108, Tryz.ntmps108
 go_upto_region 1 with fail
 refine wp_box3 (v1 := cL ep dg x.kind x.job x.every x.time x.client at_ ln pl A n c A' m d) (v2 := [.int .i64 y.kind, .int .i64 y.job, .int .i64 y.every, .int .i64 y.time, .int .i64 y.client]) (v3 := zC) rfl rfl rfl fun w1 on B Y Q => ?_
 replace h := h.onto on; replace h' := h'.onto on
 generalize hz : w.heap.size = z at B Q Y ⊢
 have x0 := B.at_ 0 rfl; have x1 := B.at_ 1 rfl; have x2 := B.at_ 2 rfl; have x3 := B.at_ 3 rfl; have x4 := B.at_ 4 rfl; have x5 := B.at_ 5 rfl; have x6 := B.at_ 6 rfl; have x7 := B.at_ 7 rfl; have x8 := B.at_ 8 rfl; have x9 := B.at_ 9 rfl; have x10 := B.at_ 10 rfl; have x11 := B.at_ 11 rfl
 obtain ⟨ap, hap⟩ : ∃ ap, ap = applyB b y := ⟨_, rfl⟩
 have HAP := Lib.hid hap
 have hr0 := HR.out
 rw [← hap] at hr0
 replace HR := Lib.hid hr0
 clear hap hr0
 go_wp2_with fail
 refine Calls.mono (ClCheck_calls ep dg at_ ln pl x A A' n c m d b _ h h') ?_
 rw [← HQ.out]
 rintro e w2 ⟨rfl, b2⟩
 clear x0 x1 x2 x3 x4 x5 x6 x7 x8 x9 x10 x11
 replace on := on.to b2; replace B := B.onto b2; replace Q := Q.onto b2; replace h := h.onto b2; replace h' := h'.onto b2; replace Y := Y.onto b2
 clear b2
 have hr := HR.out
 by_cases h0 : q = 0
 · subst h0
   rw [if_neg (by simp)] at hr
   clear HR
   have hpl := checkCl_played (HQ.out.symm)
   dsimp only at hpl
   obtain ⟨hp0, hp1⟩ := hpl
   by_cases hc : pl = 60
   · rw [if_pos hc] at hr
     have HR := Lib.hid hr
     have hd : (pl == 60) = true := by simpa using hc
     clear hc
     clear hr
     have x9 := B.at_ 9 rfl
     go_wp2_with (refine wpList_put Q zC 41 _ _ (by rfl) (by rfl) (by rfl) (by rfl) (by rfl) sizeC12 (by rfl) ?_)
     exact bodyPost_ret (res_cl Tryz.results108 rfl rfl (Q.put rfl)) rfl (ClPost.bad HR.out (put_onto (by omega) on))
   · rw [if_neg hc] at hr
     have hd : (pl == 60) = false := by simpa using hc
     have hwp : IntKind.i64.wrap (pl + 1) = pl + 1 := by rw [IntKind.wrap_i64]; omega
     clear hc
     have HRR := Lib.hid hr
     clear hr
     have hzl := B.lt; have hrl := Q.lt
     have x0 := B.at_ 0 rfl; have x1 := B.at_ 1 rfl; have x2 := B.at_ 2 rfl; have x3 := B.at_ 3 rfl; have x4 := B.at_ 4 rfl; have x5 := B.at_ 5 rfl; have x6 := B.at_ 6 rfl; have x7 := B.at_ 7 rfl; have x8 := B.at_ 8 rfl; have x9 := B.at_ 9 rfl; have x10 := B.at_ 10 rfl; have x11 := B.at_ 11 rfl
     have y0 := Y.at_ 0 rfl; have y1 := Y.at_ 1 rfl; have y2 := Y.at_ 2 rfl; have y3 := Y.at_ 3 rfl; have y4 := Y.at_ 4 rfl
     go_wp2_with fail
     refine Calls.mono (Apply_calls A A' n c m d _ b y.kind y.job y.every y.time y.client _ h h' (Nat.le_refl _)) ?_
     rw [show applyB b ⟨y.kind, y.job, y.every, y.time, y.client⟩ = ap from HAP.out.symm]
     rintro e w3 ⟨A1, n1, c1, A2, n2, c2, rfl, s1, s2, b3, f1, f2, k1, k2⟩
     have o1 : OffN n1 z A1 := f1.offN hzl; have o2 : OffN n2 z A2 := f2.offN hzl
     have p1 : OffN n1 (z + 1 + 1) A1 := f1.offN hrl; have p2 : OffN n2 (z + 1 + 1) A2 := f2.offN hrl
     have g1 : Fresh w.heap.size A1 := fun a e => Nat.le_trans on.size (f1 a e); have g2 : Fresh w.heap.size A2 := fun a e => Nat.le_trans on.size (f2 a e)
     replace b3 : Onto w2 w3 := b3
     replace s1 : S w3 3 A1 n1 (ap.1.jobs.map encJ) := s1; replace s2 : S w3 3 A2 n2 (ap.1.rung.map encR) := s2
     clear h h' f1 f2 hzl hrl
     clear x0 x1 x2 x3 x4 x5 x6 x7 x8 x9 x10 x11
     clear y0 y1 y2 y3 y4
     replace on := on.to b3; replace B := B.onto b3; replace Q := Q.onto b3; replace Y := Y.onto b3
     clear b3
     go_upto_region 7 with fail
     refine wp_box1 (v1 := [.slice A1 n1 c1, .slice A2 n2 c2]) rfl fun w4 ob V => ?_
     generalize hv : w3.heap.size = zv at V ⊢
     have hbl := B.lt; have hql := Q.lt
     replace s1 := s1.onto ob; replace s2 := s2.onto ob
     replace on := on.to ob; replace B := B.onto ob; replace Q := Q.onto ob; replace Y := Y.onto ob
     clear ob
     have hr := HRR.out
     by_cases ha : ap.2 ≠ 0
     · rw [if_pos ha] at hr
       have HR := Lib.hid hr
       have hd2 : (ap.2 != 0) = true := by simpa using ha
       clear ha
       clear hr
       go_wp2_with (refine wpList_put Q zC 41 _ _ (by rfl) (by rfl) (by rfl) (by rfl) (by rfl) sizeC12 (by rfl) ?_)
       exact bodyPost_ret (res_cl Tryz.results108 rfl rfl (Q.put rfl)) rfl (ClPost.bad HR.out (put_onto (by omega) on))
     · rw [if_neg ha] at hr
       have HR := Lib.hid hr
       have hd2 : (ap.2 != 0) = false := by simpa using ha
       clear hr ha
       have x9 := B.at_ 9 rfl; have x10 := B.at_ 10 rfl; have x11 := B.at_ 11 rfl
       have u0 := V.at_ 0 rfl; have u1 := V.at_ 1 rfl
       have t10 := B.froz 10; have t11 := B.froz 11
       go_upto_region 10 with fail
       clear t10 t11
       replace B := B.put1 (j := 10) (by simp) (.slice A1 n1 c1); replace Q := Q.off1 (p := ⟨z, 10, none⟩) (by show _ ≠ z; omega) (.slice A1 n1 c1); replace Y := Y.off1 (p := ⟨z, 10, none⟩) (by show _ ≠ z; omega) (.slice A1 n1 c1); replace s1 := S.off s1 (p := ⟨z, 10, none⟩) o1 (.slice A1 n1 c1); replace s2 := S.off s2 (p := ⟨z, 10, none⟩) o2 (.slice A1 n1 c1); replace on := on.put (p := ⟨z, 10, none⟩) (by simp; omega) (.slice A1 n1 c1)
       replace B := B.put1 (j := 11) (by simp) (.slice A2 n2 c2); replace Q := Q.off1 (p := ⟨z, 11, none⟩) (by show _ ≠ z; omega) (.slice A2 n2 c2); replace Y := Y.off1 (p := ⟨z, 11, none⟩) (by show _ ≠ z; omega) (.slice A2 n2 c2); replace s1 := S.off s1 (p := ⟨z, 11, none⟩) o1 (.slice A2 n2 c2); replace s2 := S.off s2 (p := ⟨z, 11, none⟩) o2 (.slice A2 n2 c2); replace on := on.put (p := ⟨z, 11, none⟩) (by simp; omega) (.slice A2 n2 c2)
       generalize ((w4.setCell ⟨z, 10, none⟩ (.slice A1 n1 c1)).setCell ⟨z, 11, none⟩ (.slice A2 n2 c2)) = w5 at *
       clear x9 x10 x11
       clear u0 u1 V
       have t9 := B.froz 9
       have x9 := B.at_ 9 rfl
       go_upto_region 11 with fail
       clear x9
       clear t9
       replace B := B.put1 (j := 9) (by simp) (.int .i64 (pl + 1)); replace Q := Q.off1 (p := ⟨z, 9, none⟩) (by show _ ≠ z; omega) (.int .i64 (pl + 1)); replace Y := Y.off1 (p := ⟨z, 9, none⟩) (by show _ ≠ z; omega) (.int .i64 (pl + 1)); replace s1 := S.off s1 (p := ⟨z, 9, none⟩) o1 (.int .i64 (pl + 1)); replace s2 := S.off s2 (p := ⟨z, 9, none⟩) o2 (.int .i64 (pl + 1)); replace on := on.put (p := ⟨z, 9, none⟩) (by simp; omega) (.int .i64 (pl + 1))
       generalize (w5.setCell ⟨z, 9, none⟩ (.int .i64 (pl + 1))) = w6 at *
       replace B : Bx _ z (cL ep dg x.kind x.job x.every x.time x.client at_ ln (pl + 1) A1 n1 c1 A2 n2 c2) := B
       have x0 := B.at_ 0 rfl; have x1 := B.at_ 1 rfl; have x2 := B.at_ 2 rfl; have x3 := B.at_ 3 rfl; have x4 := B.at_ 4 rfl; have x5 := B.at_ 5 rfl; have x6 := B.at_ 6 rfl; have x7 := B.at_ 7 rfl; have x8 := B.at_ 8 rfl; have x9 := B.at_ 9 rfl; have x10 := B.at_ 10 rfl; have x11 := B.at_ 11 rfl
       go_wp2_with (refine wpList_put Q (cL ep dg x.kind x.job x.every x.time x.client at_ ln (pl + 1) A1 n1 c1 A2 n2 c2) 41 _ _ (by rfl) (by rfl) (by rfl) (by rfl) (by rfl) sizeC12 (by rfl) ?_)
       rw [HR.out]
       exact bodyPost_ret (res_cl Tryz.results108 rfl rfl (Q.put rfl)) rfl ⟨A1, n1, c1, A2, n2, c2, rfl, put_S (w := w) p1 s1, put_S (w := w) p2 s2, put_onto (by omega) on, k1, k2, g1, g2⟩
 · rw [if_pos h0] at hr
   have HR := Lib.hid hr
   have hd : (q != 0) = true := by simpa using h0
   clear hr
   go_wp2_with (refine wpList_put Q zC 41 _ _ (by rfl) (by rfl) (by rfl) (by rfl) (by rfl) sizeC12 (by rfl) ?_)
   exact bodyPost_ret (res_cl Tryz.results108 rfl rfl (Q.put rfl)) rfl (ClPost.bad HR.out (put_onto (by omega) on))
end
section
set_option linter.unusedSimpArgs false
set_option linter.unusedVariables false
open Go.RowKit
set_option maxHeartbeats 8000000 in
set_option maxRecDepth 100000 in
theorem ClHeard_calls (ep dg at_ ln pl : Int) (x y : Entry) (A A' : Option Addr) (n c m d : Nat) (b : Book) (w : World) (h : S w 3 A n (b.jobs.map encJ)) (h' : S w 3 A' m (b.rung.map encR)) :
    Calls Tryz.prog 120 #[.agg #[.int .i64 ep, .int .i64 dg, .int .i64 x.kind, .int .i64 x.job, .int .i64 x.every, .int .i64 x.time, .int .i64 x.client, .int .i64 at_, .int .i64 ln, .int .i64 pl, .slice A n c, .slice A' m d], .agg #[.int .i64 y.kind, .int .i64 y.job, .int .i64 y.every, .int .i64 y.time, .int .i64 y.client]] w (ClPost w (heardCl ⟨ep, dg, x, at_, ln, pl, b⟩ y).1 (heardCl ⟨ep, dg, x, at_, ln, pl, b⟩ y).2) := by
 obtain ⟨q, hq⟩ : ∃ q, q = checkCl ⟨ep, dg, x, at_, ln, pl, b⟩ := ⟨_, rfl⟩
 obtain ⟨r, hr⟩ : ∃ r, r = heardCl ⟨ep, dg, x, at_, ln, pl, b⟩ y := ⟨_, rfl⟩
 rw [← hr]
 unfold heardCl at hr
 rw [← hq] at hr
 dsimp only at hr
 have HQ := Lib.hid hq; have HR := Lib.hid hr
 clear hq hr
 go_enter Tryz.func120, Tryz.ntmps120
 go_upto_region 1 with fail
 refine wp_box3 (v1 := cL ep dg x.kind x.job x.every x.time x.client at_ ln pl A n c A' m d) (v2 := [.int .i64 y.kind, .int .i64 y.job, .int .i64 y.every, .int .i64 y.time, .int .i64 y.client]) (v3 := zC) rfl rfl rfl fun w1 on B Y Q => ?_
 replace h := h.onto on; replace h' := h'.onto on
 generalize hz : w.heap.size = z at B Q Y ⊢
 have x0 := B.at_ 0 rfl; have x1 := B.at_ 1 rfl; have x2 := B.at_ 2 rfl; have x3 := B.at_ 3 rfl; have x4 := B.at_ 4 rfl; have x5 := B.at_ 5 rfl; have x6 := B.at_ 6 rfl; have x7 := B.at_ 7 rfl; have x8 := B.at_ 8 rfl; have x9 := B.at_ 9 rfl; have x10 := B.at_ 10 rfl; have x11 := B.at_ 11 rfl
 go_wp2_with fail
 refine Calls.mono (ClCheck_calls ep dg at_ ln pl x A A' n c m d b _ h h') ?_
 rw [← HQ.out]
 rintro e w2 ⟨rfl, b2⟩
 clear x0 x1 x2 x3 x4 x5 x6 x7 x8 x9 x10 x11
 replace on := on.to b2; replace B := B.onto b2; replace Q := Q.onto b2; replace h := h.onto b2; replace h' := h'.onto b2; replace Y := Y.onto b2
 clear b2
 have hr := HR.out
 by_cases h0 : q = 0
 · subst h0
   rw [if_neg (by simp)] at hr
   clear HR
   have hlk := checkCl_link (HQ.out.symm)
   dsimp only at hlk
   obtain ⟨hl0, hl1⟩ := hlk
   have hgb := checkCl_book (HQ.out.symm)
   have hn : n ≤ 1000000 := by have h9 := hgb.nj; dsimp only at h9; have := h.len; simp only [List.length_map] at this; omega
   have hm : m ≤ 1000000 := by have h9 := hgb.nr; dsimp only at h9; have := h'.len; simp only [List.length_map] at this; omega
   clear hgb
   obtain ⟨q2, hq2⟩ : ∃ q2, q2 = checkE y := ⟨_, rfl⟩
   rw [← hq2] at hr
   have HQ2 := Lib.hid hq2
   have HRE := Lib.hid hr
   clear hq2 hr
   have y0 := Y.at_ 0 rfl; have y1 := Y.at_ 1 rfl; have y2 := Y.at_ 2 rfl; have y3 := Y.at_ 3 rfl; have y4 := Y.at_ 4 rfl
   go_wp2_with fail
   refine Calls.mono (Check_calls y.kind y.job y.every y.time y.client _) ?_
   rw [show checkE ⟨y.kind, y.job, y.every, y.time, y.client⟩ = q2 from HQ2.out.symm]
   rintro e w2b ⟨rfl, b2⟩
   clear y0 y1 y2 y3 y4
   replace on := on.to b2; replace B := B.onto b2; replace Q := Q.onto b2; replace h := h.onto b2; replace h' := h'.onto b2; replace Y := Y.onto b2
   clear b2
   have hr := HRE.out
   clear HRE
   by_cases h20 : q2 ≠ 0
   · rw [if_pos h20] at hr
     have HR := Lib.hid hr
     have hd : (q2 != 0) = true := by simpa using h20
     clear h20
     clear hr
     go_wp2_with (refine wpList_put Q zC 41 _ _ (by rfl) (by rfl) (by rfl) (by rfl) (by rfl) sizeC12 (by rfl) ?_)
     exact bodyPost_ret (res_cl Tryz.results120 rfl rfl (Q.put rfl)) rfl (ClPost.bad HR.out (put_onto (by omega) on))
   · rw [if_neg h20] at hr
     obtain rfl : q2 = 0 := Decidable.not_not.1 h20
     clear h20
     by_cases hk : dg ≠ 2
     · rw [if_pos hk] at hr
       have HR := Lib.hid hr
       have hd : (dg != 2) = true := by simpa using hk
       clear hk
       clear hr
       have x1 := B.at_ 1 rfl
       go_wp2_with (refine wpList_put Q zC 41 _ _ (by rfl) (by rfl) (by rfl) (by rfl) (by rfl) sizeC12 (by rfl) ?_)
       exact bodyPost_ret (res_cl Tryz.results120 rfl rfl (Q.put rfl)) rfl (ClPost.bad HR.out (put_onto (by omega) on))
     · rw [if_neg hk] at hr
       have hd : (dg != 2) = false := by simpa using hk
       clear hk
       have HRR := Lib.hid hr
       clear hr
       have x1 := B.at_ 1 rfl
       go_upto_region 9 with fail
       clear x1
       have x0 := B.at_ 0 rfl; have x1 := B.at_ 1 rfl; have x2 := B.at_ 2 rfl; have x3 := B.at_ 3 rfl; have x4 := B.at_ 4 rfl; have x5 := B.at_ 5 rfl; have x6 := B.at_ 6 rfl; have x7 := B.at_ 7 rfl; have x8 := B.at_ 8 rfl; have x9 := B.at_ 9 rfl; have x10 := B.at_ 10 rfl; have x11 := B.at_ 11 rfl
       have hzl := B.lt; have hrl := Q.lt
       go_wp2_with fail
       refine Calls.mono (ClCopy_calls ep dg at_ ln pl x A A' n c m d b _ h h' hn hm) ?_
       rintro e w3 ⟨A1, c1, A2, c2, rfl, s1, s2, b3, k1, k2, f1, f2⟩
       have o1 : OffN n z A1 := f1.offN hzl; have o2 : OffN m z A2 := f2.offN hzl
       have p1 : OffN n (z + 1 + 1) A1 := f1.offN hrl; have p2 : OffN m (z + 1 + 1) A2 := f2.offN hrl
       have g1 : Fresh w.heap.size A1 := fun a e => Nat.le_trans on.size (f1 a e); have g2 : Fresh w.heap.size A2 := fun a e => Nat.le_trans on.size (f2 a e)
       clear h h' hn hm f1 f2 hzl hrl
       clear x0 x1 x2 x3 x4 x5 x6 x7 x8 x9 x10 x11
       replace on := on.to b3; replace B := B.onto b3; replace Q := Q.onto b3; replace Y := Y.onto b3
       clear b3
       go_upto_region 10 with (refine wpList_put B (cL ep dg x.kind x.job x.every x.time x.client at_ ln pl A1 n c1 A2 m c2) 41 _ _ (by rfl) (by rfl) (by rfl) (by rfl) (by rfl) sizeC12 (by rfl) ?_)
       replace B := B.put (us := cL ep dg x.kind x.job x.every x.time x.client at_ ln pl A1 n c1 A2 m c2) rfl; replace Q := Q.off (b := z) (o := 0) (us := cL ep dg x.kind x.job x.every x.time x.client at_ ln pl A1 n c1 A2 m c2) (by omega); replace Y := Y.off (b := z) (o := 0) (us := cL ep dg x.kind x.job x.every x.time x.client at_ ln pl A1 n c1 A2 m c2) (by omega)
       replace s1 := put_S (w := w3) o1 (vs := cL ep dg x.kind x.job x.every x.time x.client at_ ln pl A1 n c1 A2 m c2) (o := 0) s1; replace s2 := put_S (w := w3) o2 (vs := cL ep dg x.kind x.job x.every x.time x.client at_ ln pl A1 n c1 A2 m c2) (o := 0) s2
       replace on := Onto.puts (b := z) (o := 0) (us := cL ep dg x.kind x.job x.every x.time x.client at_ ln pl A1 n c1 A2 m c2) (by omega) on
       generalize World.setCells w3 z 0 _ = w4 at *
       have hne := neqE
       have hr := HRR.out
       by_cases hca : y ≠ x ∧ x.kind ≠ 0
       · rw [if_pos hca] at hr
         have HR := Lib.hid hr
         have hd3 : (!(y.kind == x.kind && y.job == x.job && y.every == x.every && y.time == x.time && y.client == x.client)) = true := by
          have h9 := hca.1
          rw [Ne, entry_eq_iff] at h9
          simp only [Bool.not_eq_true', Bool.and_eq_false_iff, beq_eq_false_iff_ne]
          omega
         have hd4 : (x.kind != 0) = true := by simpa using hca.2
         clear hr HRR hca
         have x1 := B.at_ 1 rfl; have x2 := B.at_ 2 rfl; have x3 := B.at_ 3 rfl; have x4 := B.at_ 4 rfl; have x5 := B.at_ 5 rfl; have x6 := B.at_ 6 rfl; have x7 := B.at_ 7 rfl; have x8 := B.at_ 8 rfl
         have y0 := Y.at_ 0 rfl; have y1 := Y.at_ 1 rfl; have y2 := Y.at_ 2 rfl; have y3 := Y.at_ 3 rfl; have y4 := Y.at_ 4 rfl
         have t1 := B.froz 1; have t7 := B.froz 7; have t8 := B.froz 8
         go_upto_region 12 with fail
         clear t1 t7 t8
         replace B := B.put1 (j := 1) (by simp) (.int .i64 1); replace Q := Q.off1 (p := ⟨z, 1, none⟩) (by show _ ≠ z; omega) (.int .i64 1); replace Y := Y.off1 (p := ⟨z, 1, none⟩) (by show _ ≠ z; omega) (.int .i64 1); replace s1 := S.off s1 (p := ⟨z, 1, none⟩) o1 (.int .i64 1); replace s2 := S.off s2 (p := ⟨z, 1, none⟩) o2 (.int .i64 1); replace on := on.put (p := ⟨z, 1, none⟩) (by simp; omega) (.int .i64 1)
         replace B := B.put1 (j := 7) (by simp) (.int .i64 0); replace Q := Q.off1 (p := ⟨z, 7, none⟩) (by show _ ≠ z; omega) (.int .i64 0); replace Y := Y.off1 (p := ⟨z, 7, none⟩) (by show _ ≠ z; omega) (.int .i64 0); replace s1 := S.off s1 (p := ⟨z, 7, none⟩) o1 (.int .i64 0); replace s2 := S.off s2 (p := ⟨z, 7, none⟩) o2 (.int .i64 0); replace on := on.put (p := ⟨z, 7, none⟩) (by simp; omega) (.int .i64 0)
         replace B := B.put1 (j := 8) (by simp) (.int .i64 0); replace Q := Q.off1 (p := ⟨z, 8, none⟩) (by show _ ≠ z; omega) (.int .i64 0); replace Y := Y.off1 (p := ⟨z, 8, none⟩) (by show _ ≠ z; omega) (.int .i64 0); replace s1 := S.off s1 (p := ⟨z, 8, none⟩) o1 (.int .i64 0); replace s2 := S.off s2 (p := ⟨z, 8, none⟩) o2 (.int .i64 0); replace on := on.put (p := ⟨z, 8, none⟩) (by simp; omega) (.int .i64 0)
         generalize (((w4.setCell ⟨z, 1, none⟩ (.int .i64 1)).setCell ⟨z, 7, none⟩ (.int .i64 0)).setCell ⟨z, 8, none⟩ (.int .i64 0)) = w5 at *
         clear x1 x2 x3 x4 x5 x6 x7 x8
         clear y0 y1 y2 y3 y4
         replace B : Bx _ z (cL ep 1 x.kind x.job x.every x.time x.client 0 0 pl A1 n c1 A2 m c2) := B
         have x0 := B.at_ 0 rfl; have x1 := B.at_ 1 rfl; have x2 := B.at_ 2 rfl; have x3 := B.at_ 3 rfl; have x4 := B.at_ 4 rfl; have x5 := B.at_ 5 rfl; have x6 := B.at_ 6 rfl; have x7 := B.at_ 7 rfl; have x8 := B.at_ 8 rfl; have x9 := B.at_ 9 rfl; have x10 := B.at_ 10 rfl; have x11 := B.at_ 11 rfl
         go_wp2_with (refine wpList_put Q (cL ep 1 x.kind x.job x.every x.time x.client 0 0 pl A1 n c1 A2 m c2) 41 _ _ (by rfl) (by rfl) (by rfl) (by rfl) (by rfl) sizeC12 (by rfl) ?_)
         rw [HR.out]
         exact bodyPost_ret (res_cl Tryz.results120 rfl rfl (Q.put rfl)) rfl ⟨A1, n, c1, A2, m, c2, rfl, put_S (w := w) p1 s1, put_S (w := w) p2 s2, put_onto (by omega) on, k1, k2, g1, g2⟩
       · rw [if_neg hca] at hr
         have hwl : IntKind.i64.wrap (ln + 1) = ln + 1 := by rw [IntKind.wrap_i64]; omega
         have hcb : (y = x ∧ (!(y.kind == x.kind && y.job == x.job && y.every == x.every && y.time == x.time && y.client == x.client)) = false) ∨ ((!(y.kind == x.kind && y.job == x.job && y.every == x.every && y.time == x.time && y.client == x.client)) = true ∧ (x.kind != 0) = false) := by
          by_cases hyx : y = x
          · left; exact ⟨hyx, by simp [hyx]⟩
          · right
            refine ⟨?_, by simp; exact Decidable.byContradiction fun h => hca ⟨hyx, h⟩⟩
            rw [entry_eq_iff] at hyx
            simp only [Bool.not_eq_true', Bool.and_eq_false_iff, beq_eq_false_iff_ne]
            omega
         have HRR2 := Lib.hid hr
         clear hca hr HRR
         rcases hcb with ⟨hyx, hd3⟩ | ⟨hd3, hd4⟩
         · subst hyx
           have x2 := B.at_ 2 rfl; have x3 := B.at_ 3 rfl; have x4 := B.at_ 4 rfl; have x5 := B.at_ 5 rfl; have x6 := B.at_ 6 rfl; have x8 := B.at_ 8 rfl
           have y0 := Y.at_ 0 rfl; have y1 := Y.at_ 1 rfl; have y2 := Y.at_ 2 rfl; have y3 := Y.at_ 3 rfl; have y4 := Y.at_ 4 rfl
           have t2 := B.froz 2; have t3 := B.froz 3; have t4 := B.froz 4; have t5 := B.froz 5; have t6 := B.froz 6; have t8 := B.froz 8
           go_upto_region 14 with fail
           clear t2 t3 t4 t5 t6 t8
           replace B := B.put1 (j := 2) (by simp) (.int .i64 y.kind); replace Q := Q.off1 (p := ⟨z, 2, none⟩) (by show _ ≠ z; omega) (.int .i64 y.kind); replace Y := Y.off1 (p := ⟨z, 2, none⟩) (by show _ ≠ z; omega) (.int .i64 y.kind); replace s1 := S.off s1 (p := ⟨z, 2, none⟩) o1 (.int .i64 y.kind); replace s2 := S.off s2 (p := ⟨z, 2, none⟩) o2 (.int .i64 y.kind); replace on := on.put (p := ⟨z, 2, none⟩) (by simp; omega) (.int .i64 y.kind)
           replace B := B.put1 (j := 3) (by simp) (.int .i64 y.job); replace Q := Q.off1 (p := ⟨z, 3, none⟩) (by show _ ≠ z; omega) (.int .i64 y.job); replace Y := Y.off1 (p := ⟨z, 3, none⟩) (by show _ ≠ z; omega) (.int .i64 y.job); replace s1 := S.off s1 (p := ⟨z, 3, none⟩) o1 (.int .i64 y.job); replace s2 := S.off s2 (p := ⟨z, 3, none⟩) o2 (.int .i64 y.job); replace on := on.put (p := ⟨z, 3, none⟩) (by simp; omega) (.int .i64 y.job)
           replace B := B.put1 (j := 4) (by simp) (.int .i64 y.every); replace Q := Q.off1 (p := ⟨z, 4, none⟩) (by show _ ≠ z; omega) (.int .i64 y.every); replace Y := Y.off1 (p := ⟨z, 4, none⟩) (by show _ ≠ z; omega) (.int .i64 y.every); replace s1 := S.off s1 (p := ⟨z, 4, none⟩) o1 (.int .i64 y.every); replace s2 := S.off s2 (p := ⟨z, 4, none⟩) o2 (.int .i64 y.every); replace on := on.put (p := ⟨z, 4, none⟩) (by simp; omega) (.int .i64 y.every)
           replace B := B.put1 (j := 5) (by simp) (.int .i64 y.time); replace Q := Q.off1 (p := ⟨z, 5, none⟩) (by show _ ≠ z; omega) (.int .i64 y.time); replace Y := Y.off1 (p := ⟨z, 5, none⟩) (by show _ ≠ z; omega) (.int .i64 y.time); replace s1 := S.off s1 (p := ⟨z, 5, none⟩) o1 (.int .i64 y.time); replace s2 := S.off s2 (p := ⟨z, 5, none⟩) o2 (.int .i64 y.time); replace on := on.put (p := ⟨z, 5, none⟩) (by simp; omega) (.int .i64 y.time)
           replace B := B.put1 (j := 6) (by simp) (.int .i64 y.client); replace Q := Q.off1 (p := ⟨z, 6, none⟩) (by show _ ≠ z; omega) (.int .i64 y.client); replace Y := Y.off1 (p := ⟨z, 6, none⟩) (by show _ ≠ z; omega) (.int .i64 y.client); replace s1 := S.off s1 (p := ⟨z, 6, none⟩) o1 (.int .i64 y.client); replace s2 := S.off s2 (p := ⟨z, 6, none⟩) o2 (.int .i64 y.client); replace on := on.put (p := ⟨z, 6, none⟩) (by simp; omega) (.int .i64 y.client)
           replace B := B.put1 (j := 8) (by simp) (.int .i64 (ln + 1)); replace Q := Q.off1 (p := ⟨z, 8, none⟩) (by show _ ≠ z; omega) (.int .i64 (ln + 1)); replace Y := Y.off1 (p := ⟨z, 8, none⟩) (by show _ ≠ z; omega) (.int .i64 (ln + 1)); replace s1 := S.off s1 (p := ⟨z, 8, none⟩) o1 (.int .i64 (ln + 1)); replace s2 := S.off s2 (p := ⟨z, 8, none⟩) o2 (.int .i64 (ln + 1)); replace on := on.put (p := ⟨z, 8, none⟩) (by simp; omega) (.int .i64 (ln + 1))
           generalize ((((((w4.setCell ⟨z, 2, none⟩ (.int .i64 y.kind)).setCell ⟨z, 3, none⟩ (.int .i64 y.job)).setCell ⟨z, 4, none⟩ (.int .i64 y.every)).setCell ⟨z, 5, none⟩ (.int .i64 y.time)).setCell ⟨z, 6, none⟩ (.int .i64 y.client)).setCell ⟨z, 8, none⟩ (.int .i64 (ln + 1))) = w5 at *
           clear x2 x3 x4 x5 x6 x8
           clear y0 y1 y2 y3 y4
           have hr := HRR2.out
           by_cases hl3 : ln + 1 = 3
           · rw [if_pos hl3] at hr
             have HR := Lib.hid hr
             have hd5 : (ln + 1 == 3) = true := by simpa using hl3
             clear hr HRR2 hl3
             have x1 := B.at_ 1 rfl; have x2 := B.at_ 2 rfl; have x3 := B.at_ 3 rfl; have x4 := B.at_ 4 rfl; have x5 := B.at_ 5 rfl; have x6 := B.at_ 6 rfl; have x7 := B.at_ 7 rfl; have x8 := B.at_ 8 rfl
             have t1 := B.froz 1; have t2 := B.froz 2; have t3 := B.froz 3; have t4 := B.froz 4; have t5 := B.froz 5; have t6 := B.froz 6; have t7 := B.froz 7; have t8 := B.froz 8
             go_upto_region 16 with fail
             clear t1 t2 t3 t4 t5 t6 t7 t8
             replace B := B.put1 (j := 1) (by simp) (.int .i64 0); replace Q := Q.off1 (p := ⟨z, 1, none⟩) (by show _ ≠ z; omega) (.int .i64 0); replace Y := Y.off1 (p := ⟨z, 1, none⟩) (by show _ ≠ z; omega) (.int .i64 0); replace s1 := S.off s1 (p := ⟨z, 1, none⟩) o1 (.int .i64 0); replace s2 := S.off s2 (p := ⟨z, 1, none⟩) o2 (.int .i64 0); replace on := on.put (p := ⟨z, 1, none⟩) (by simp; omega) (.int .i64 0)
             replace B := B.put1 (j := 2) (by simp) (.int .i64 0); replace Q := Q.off1 (p := ⟨z, 2, none⟩) (by show _ ≠ z; omega) (.int .i64 0); replace Y := Y.off1 (p := ⟨z, 2, none⟩) (by show _ ≠ z; omega) (.int .i64 0); replace s1 := S.off s1 (p := ⟨z, 2, none⟩) o1 (.int .i64 0); replace s2 := S.off s2 (p := ⟨z, 2, none⟩) o2 (.int .i64 0); replace on := on.put (p := ⟨z, 2, none⟩) (by simp; omega) (.int .i64 0)
             replace B := B.put1 (j := 3) (by simp) (.int .i64 0); replace Q := Q.off1 (p := ⟨z, 3, none⟩) (by show _ ≠ z; omega) (.int .i64 0); replace Y := Y.off1 (p := ⟨z, 3, none⟩) (by show _ ≠ z; omega) (.int .i64 0); replace s1 := S.off s1 (p := ⟨z, 3, none⟩) o1 (.int .i64 0); replace s2 := S.off s2 (p := ⟨z, 3, none⟩) o2 (.int .i64 0); replace on := on.put (p := ⟨z, 3, none⟩) (by simp; omega) (.int .i64 0)
             replace B := B.put1 (j := 4) (by simp) (.int .i64 0); replace Q := Q.off1 (p := ⟨z, 4, none⟩) (by show _ ≠ z; omega) (.int .i64 0); replace Y := Y.off1 (p := ⟨z, 4, none⟩) (by show _ ≠ z; omega) (.int .i64 0); replace s1 := S.off s1 (p := ⟨z, 4, none⟩) o1 (.int .i64 0); replace s2 := S.off s2 (p := ⟨z, 4, none⟩) o2 (.int .i64 0); replace on := on.put (p := ⟨z, 4, none⟩) (by simp; omega) (.int .i64 0)
             replace B := B.put1 (j := 5) (by simp) (.int .i64 0); replace Q := Q.off1 (p := ⟨z, 5, none⟩) (by show _ ≠ z; omega) (.int .i64 0); replace Y := Y.off1 (p := ⟨z, 5, none⟩) (by show _ ≠ z; omega) (.int .i64 0); replace s1 := S.off s1 (p := ⟨z, 5, none⟩) o1 (.int .i64 0); replace s2 := S.off s2 (p := ⟨z, 5, none⟩) o2 (.int .i64 0); replace on := on.put (p := ⟨z, 5, none⟩) (by simp; omega) (.int .i64 0)
             replace B := B.put1 (j := 6) (by simp) (.int .i64 0); replace Q := Q.off1 (p := ⟨z, 6, none⟩) (by show _ ≠ z; omega) (.int .i64 0); replace Y := Y.off1 (p := ⟨z, 6, none⟩) (by show _ ≠ z; omega) (.int .i64 0); replace s1 := S.off s1 (p := ⟨z, 6, none⟩) o1 (.int .i64 0); replace s2 := S.off s2 (p := ⟨z, 6, none⟩) o2 (.int .i64 0); replace on := on.put (p := ⟨z, 6, none⟩) (by simp; omega) (.int .i64 0)
             replace B := B.put1 (j := 7) (by simp) (.int .i64 0); replace Q := Q.off1 (p := ⟨z, 7, none⟩) (by show _ ≠ z; omega) (.int .i64 0); replace Y := Y.off1 (p := ⟨z, 7, none⟩) (by show _ ≠ z; omega) (.int .i64 0); replace s1 := S.off s1 (p := ⟨z, 7, none⟩) o1 (.int .i64 0); replace s2 := S.off s2 (p := ⟨z, 7, none⟩) o2 (.int .i64 0); replace on := on.put (p := ⟨z, 7, none⟩) (by simp; omega) (.int .i64 0)
             replace B := B.put1 (j := 8) (by simp) (.int .i64 0); replace Q := Q.off1 (p := ⟨z, 8, none⟩) (by show _ ≠ z; omega) (.int .i64 0); replace Y := Y.off1 (p := ⟨z, 8, none⟩) (by show _ ≠ z; omega) (.int .i64 0); replace s1 := S.off s1 (p := ⟨z, 8, none⟩) o1 (.int .i64 0); replace s2 := S.off s2 (p := ⟨z, 8, none⟩) o2 (.int .i64 0); replace on := on.put (p := ⟨z, 8, none⟩) (by simp; omega) (.int .i64 0)
             generalize ((((((((w5.setCell ⟨z, 1, none⟩ (.int .i64 0)).setCell ⟨z, 2, none⟩ (.int .i64 0)).setCell ⟨z, 3, none⟩ (.int .i64 0)).setCell ⟨z, 4, none⟩ (.int .i64 0)).setCell ⟨z, 5, none⟩ (.int .i64 0)).setCell ⟨z, 6, none⟩ (.int .i64 0)).setCell ⟨z, 7, none⟩ (.int .i64 0)).setCell ⟨z, 8, none⟩ (.int .i64 0)) = w6 at *
             clear x1 x2 x3 x4 x5 x6 x7 x8
             replace B : Bx _ z (cL ep 0 0 0 0 0 0 0 0 pl A1 n c1 A2 m c2) := B
             have x0 := B.at_ 0 rfl; have x1 := B.at_ 1 rfl; have x2 := B.at_ 2 rfl; have x3 := B.at_ 3 rfl; have x4 := B.at_ 4 rfl; have x5 := B.at_ 5 rfl; have x6 := B.at_ 6 rfl; have x7 := B.at_ 7 rfl; have x8 := B.at_ 8 rfl; have x9 := B.at_ 9 rfl; have x10 := B.at_ 10 rfl; have x11 := B.at_ 11 rfl
             go_wp2_with (refine wpList_put Q (cL ep 0 0 0 0 0 0 0 0 pl A1 n c1 A2 m c2) 41 _ _ (by rfl) (by rfl) (by rfl) (by rfl) (by rfl) sizeC12 (by rfl) ?_)
             rw [HR.out]
             exact bodyPost_ret (res_cl Tryz.results120 rfl rfl (Q.put rfl)) rfl ⟨A1, n, c1, A2, m, c2, rfl, put_S (w := w) p1 s1, put_S (w := w) p2 s2, put_onto (by omega) on, k1, k2, g1, g2⟩
           · rw [if_neg hl3] at hr
             have HR := Lib.hid hr
             have hd5 : (ln + 1 == 3) = false := by simpa using hl3
             clear hr HRR2 hl3
             have x8 := B.at_ 8 rfl
             go_upto_region 16 with fail
             clear x8
             replace B : Bx _ z (cL ep dg y.kind y.job y.every y.time y.client at_ (ln + 1) pl A1 n c1 A2 m c2) := B
             have x0 := B.at_ 0 rfl; have x1 := B.at_ 1 rfl; have x2 := B.at_ 2 rfl; have x3 := B.at_ 3 rfl; have x4 := B.at_ 4 rfl; have x5 := B.at_ 5 rfl; have x6 := B.at_ 6 rfl; have x7 := B.at_ 7 rfl; have x8 := B.at_ 8 rfl; have x9 := B.at_ 9 rfl; have x10 := B.at_ 10 rfl; have x11 := B.at_ 11 rfl
             go_wp2_with (refine wpList_put Q (cL ep dg y.kind y.job y.every y.time y.client at_ (ln + 1) pl A1 n c1 A2 m c2) 41 _ _ (by rfl) (by rfl) (by rfl) (by rfl) (by rfl) sizeC12 (by rfl) ?_)
             rw [HR.out]
             exact bodyPost_ret (res_cl Tryz.results120 rfl rfl (Q.put rfl)) rfl ⟨A1, n, c1, A2, m, c2, rfl, put_S (w := w) p1 s1, put_S (w := w) p2 s2, put_onto (by omega) on, k1, k2, g1, g2⟩
         · skip
           have x2 := B.at_ 2 rfl; have x3 := B.at_ 3 rfl; have x4 := B.at_ 4 rfl; have x5 := B.at_ 5 rfl; have x6 := B.at_ 6 rfl; have x8 := B.at_ 8 rfl
           have y0 := Y.at_ 0 rfl; have y1 := Y.at_ 1 rfl; have y2 := Y.at_ 2 rfl; have y3 := Y.at_ 3 rfl; have y4 := Y.at_ 4 rfl
           have t2 := B.froz 2; have t3 := B.froz 3; have t4 := B.froz 4; have t5 := B.froz 5; have t6 := B.froz 6; have t8 := B.froz 8
           go_upto_region 14 with fail
           clear t2 t3 t4 t5 t6 t8
           replace B := B.put1 (j := 2) (by simp) (.int .i64 y.kind); replace Q := Q.off1 (p := ⟨z, 2, none⟩) (by show _ ≠ z; omega) (.int .i64 y.kind); replace Y := Y.off1 (p := ⟨z, 2, none⟩) (by show _ ≠ z; omega) (.int .i64 y.kind); replace s1 := S.off s1 (p := ⟨z, 2, none⟩) o1 (.int .i64 y.kind); replace s2 := S.off s2 (p := ⟨z, 2, none⟩) o2 (.int .i64 y.kind); replace on := on.put (p := ⟨z, 2, none⟩) (by simp; omega) (.int .i64 y.kind)
           replace B := B.put1 (j := 3) (by simp) (.int .i64 y.job); replace Q := Q.off1 (p := ⟨z, 3, none⟩) (by show _ ≠ z; omega) (.int .i64 y.job); replace Y := Y.off1 (p := ⟨z, 3, none⟩) (by show _ ≠ z; omega) (.int .i64 y.job); replace s1 := S.off s1 (p := ⟨z, 3, none⟩) o1 (.int .i64 y.job); replace s2 := S.off s2 (p := ⟨z, 3, none⟩) o2 (.int .i64 y.job); replace on := on.put (p := ⟨z, 3, none⟩) (by simp; omega) (.int .i64 y.job)
           replace B := B.put1 (j := 4) (by simp) (.int .i64 y.every); replace Q := Q.off1 (p := ⟨z, 4, none⟩) (by show _ ≠ z; omega) (.int .i64 y.every); replace Y := Y.off1 (p := ⟨z, 4, none⟩) (by show _ ≠ z; omega) (.int .i64 y.every); replace s1 := S.off s1 (p := ⟨z, 4, none⟩) o1 (.int .i64 y.every); replace s2 := S.off s2 (p := ⟨z, 4, none⟩) o2 (.int .i64 y.every); replace on := on.put (p := ⟨z, 4, none⟩) (by simp; omega) (.int .i64 y.every)
           replace B := B.put1 (j := 5) (by simp) (.int .i64 y.time); replace Q := Q.off1 (p := ⟨z, 5, none⟩) (by show _ ≠ z; omega) (.int .i64 y.time); replace Y := Y.off1 (p := ⟨z, 5, none⟩) (by show _ ≠ z; omega) (.int .i64 y.time); replace s1 := S.off s1 (p := ⟨z, 5, none⟩) o1 (.int .i64 y.time); replace s2 := S.off s2 (p := ⟨z, 5, none⟩) o2 (.int .i64 y.time); replace on := on.put (p := ⟨z, 5, none⟩) (by simp; omega) (.int .i64 y.time)
           replace B := B.put1 (j := 6) (by simp) (.int .i64 y.client); replace Q := Q.off1 (p := ⟨z, 6, none⟩) (by show _ ≠ z; omega) (.int .i64 y.client); replace Y := Y.off1 (p := ⟨z, 6, none⟩) (by show _ ≠ z; omega) (.int .i64 y.client); replace s1 := S.off s1 (p := ⟨z, 6, none⟩) o1 (.int .i64 y.client); replace s2 := S.off s2 (p := ⟨z, 6, none⟩) o2 (.int .i64 y.client); replace on := on.put (p := ⟨z, 6, none⟩) (by simp; omega) (.int .i64 y.client)
           replace B := B.put1 (j := 8) (by simp) (.int .i64 (ln + 1)); replace Q := Q.off1 (p := ⟨z, 8, none⟩) (by show _ ≠ z; omega) (.int .i64 (ln + 1)); replace Y := Y.off1 (p := ⟨z, 8, none⟩) (by show _ ≠ z; omega) (.int .i64 (ln + 1)); replace s1 := S.off s1 (p := ⟨z, 8, none⟩) o1 (.int .i64 (ln + 1)); replace s2 := S.off s2 (p := ⟨z, 8, none⟩) o2 (.int .i64 (ln + 1)); replace on := on.put (p := ⟨z, 8, none⟩) (by simp; omega) (.int .i64 (ln + 1))
           generalize ((((((w4.setCell ⟨z, 2, none⟩ (.int .i64 y.kind)).setCell ⟨z, 3, none⟩ (.int .i64 y.job)).setCell ⟨z, 4, none⟩ (.int .i64 y.every)).setCell ⟨z, 5, none⟩ (.int .i64 y.time)).setCell ⟨z, 6, none⟩ (.int .i64 y.client)).setCell ⟨z, 8, none⟩ (.int .i64 (ln + 1))) = w5 at *
           clear x2 x3 x4 x5 x6 x8
           clear y0 y1 y2 y3 y4
           have hr := HRR2.out
           by_cases hl3 : ln + 1 = 3
           · rw [if_pos hl3] at hr
             have HR := Lib.hid hr
             have hd5 : (ln + 1 == 3) = true := by simpa using hl3
             clear hr HRR2 hl3
             have x1 := B.at_ 1 rfl; have x2 := B.at_ 2 rfl; have x3 := B.at_ 3 rfl; have x4 := B.at_ 4 rfl; have x5 := B.at_ 5 rfl; have x6 := B.at_ 6 rfl; have x7 := B.at_ 7 rfl; have x8 := B.at_ 8 rfl
             have t1 := B.froz 1; have t2 := B.froz 2; have t3 := B.froz 3; have t4 := B.froz 4; have t5 := B.froz 5; have t6 := B.froz 6; have t7 := B.froz 7; have t8 := B.froz 8
             go_upto_region 16 with fail
             clear t1 t2 t3 t4 t5 t6 t7 t8
             replace B := B.put1 (j := 1) (by simp) (.int .i64 0); replace Q := Q.off1 (p := ⟨z, 1, none⟩) (by show _ ≠ z; omega) (.int .i64 0); replace Y := Y.off1 (p := ⟨z, 1, none⟩) (by show _ ≠ z; omega) (.int .i64 0); replace s1 := S.off s1 (p := ⟨z, 1, none⟩) o1 (.int .i64 0); replace s2 := S.off s2 (p := ⟨z, 1, none⟩) o2 (.int .i64 0); replace on := on.put (p := ⟨z, 1, none⟩) (by simp; omega) (.int .i64 0)
             replace B := B.put1 (j := 2) (by simp) (.int .i64 0); replace Q := Q.off1 (p := ⟨z, 2, none⟩) (by show _ ≠ z; omega) (.int .i64 0); replace Y := Y.off1 (p := ⟨z, 2, none⟩) (by show _ ≠ z; omega) (.int .i64 0); replace s1 := S.off s1 (p := ⟨z, 2, none⟩) o1 (.int .i64 0); replace s2 := S.off s2 (p := ⟨z, 2, none⟩) o2 (.int .i64 0); replace on := on.put (p := ⟨z, 2, none⟩) (by simp; omega) (.int .i64 0)
             replace B := B.put1 (j := 3) (by simp) (.int .i64 0); replace Q := Q.off1 (p := ⟨z, 3, none⟩) (by show _ ≠ z; omega) (.int .i64 0); replace Y := Y.off1 (p := ⟨z, 3, none⟩) (by show _ ≠ z; omega) (.int .i64 0); replace s1 := S.off s1 (p := ⟨z, 3, none⟩) o1 (.int .i64 0); replace s2 := S.off s2 (p := ⟨z, 3, none⟩) o2 (.int .i64 0); replace on := on.put (p := ⟨z, 3, none⟩) (by simp; omega) (.int .i64 0)
             replace B := B.put1 (j := 4) (by simp) (.int .i64 0); replace Q := Q.off1 (p := ⟨z, 4, none⟩) (by show _ ≠ z; omega) (.int .i64 0); replace Y := Y.off1 (p := ⟨z, 4, none⟩) (by show _ ≠ z; omega) (.int .i64 0); replace s1 := S.off s1 (p := ⟨z, 4, none⟩) o1 (.int .i64 0); replace s2 := S.off s2 (p := ⟨z, 4, none⟩) o2 (.int .i64 0); replace on := on.put (p := ⟨z, 4, none⟩) (by simp; omega) (.int .i64 0)
             replace B := B.put1 (j := 5) (by simp) (.int .i64 0); replace Q := Q.off1 (p := ⟨z, 5, none⟩) (by show _ ≠ z; omega) (.int .i64 0); replace Y := Y.off1 (p := ⟨z, 5, none⟩) (by show _ ≠ z; omega) (.int .i64 0); replace s1 := S.off s1 (p := ⟨z, 5, none⟩) o1 (.int .i64 0); replace s2 := S.off s2 (p := ⟨z, 5, none⟩) o2 (.int .i64 0); replace on := on.put (p := ⟨z, 5, none⟩) (by simp; omega) (.int .i64 0)
             replace B := B.put1 (j := 6) (by simp) (.int .i64 0); replace Q := Q.off1 (p := ⟨z, 6, none⟩) (by show _ ≠ z; omega) (.int .i64 0); replace Y := Y.off1 (p := ⟨z, 6, none⟩) (by show _ ≠ z; omega) (.int .i64 0); replace s1 := S.off s1 (p := ⟨z, 6, none⟩) o1 (.int .i64 0); replace s2 := S.off s2 (p := ⟨z, 6, none⟩) o2 (.int .i64 0); replace on := on.put (p := ⟨z, 6, none⟩) (by simp; omega) (.int .i64 0)
             replace B := B.put1 (j := 7) (by simp) (.int .i64 0); replace Q := Q.off1 (p := ⟨z, 7, none⟩) (by show _ ≠ z; omega) (.int .i64 0); replace Y := Y.off1 (p := ⟨z, 7, none⟩) (by show _ ≠ z; omega) (.int .i64 0); replace s1 := S.off s1 (p := ⟨z, 7, none⟩) o1 (.int .i64 0); replace s2 := S.off s2 (p := ⟨z, 7, none⟩) o2 (.int .i64 0); replace on := on.put (p := ⟨z, 7, none⟩) (by simp; omega) (.int .i64 0)
             replace B := B.put1 (j := 8) (by simp) (.int .i64 0); replace Q := Q.off1 (p := ⟨z, 8, none⟩) (by show _ ≠ z; omega) (.int .i64 0); replace Y := Y.off1 (p := ⟨z, 8, none⟩) (by show _ ≠ z; omega) (.int .i64 0); replace s1 := S.off s1 (p := ⟨z, 8, none⟩) o1 (.int .i64 0); replace s2 := S.off s2 (p := ⟨z, 8, none⟩) o2 (.int .i64 0); replace on := on.put (p := ⟨z, 8, none⟩) (by simp; omega) (.int .i64 0)
             generalize ((((((((w5.setCell ⟨z, 1, none⟩ (.int .i64 0)).setCell ⟨z, 2, none⟩ (.int .i64 0)).setCell ⟨z, 3, none⟩ (.int .i64 0)).setCell ⟨z, 4, none⟩ (.int .i64 0)).setCell ⟨z, 5, none⟩ (.int .i64 0)).setCell ⟨z, 6, none⟩ (.int .i64 0)).setCell ⟨z, 7, none⟩ (.int .i64 0)).setCell ⟨z, 8, none⟩ (.int .i64 0)) = w6 at *
             clear x1 x2 x3 x4 x5 x6 x7 x8
             replace B : Bx _ z (cL ep 0 0 0 0 0 0 0 0 pl A1 n c1 A2 m c2) := B
             have x0 := B.at_ 0 rfl; have x1 := B.at_ 1 rfl; have x2 := B.at_ 2 rfl; have x3 := B.at_ 3 rfl; have x4 := B.at_ 4 rfl; have x5 := B.at_ 5 rfl; have x6 := B.at_ 6 rfl; have x7 := B.at_ 7 rfl; have x8 := B.at_ 8 rfl; have x9 := B.at_ 9 rfl; have x10 := B.at_ 10 rfl; have x11 := B.at_ 11 rfl
             go_wp2_with (refine wpList_put Q (cL ep 0 0 0 0 0 0 0 0 pl A1 n c1 A2 m c2) 41 _ _ (by rfl) (by rfl) (by rfl) (by rfl) (by rfl) sizeC12 (by rfl) ?_)
             rw [HR.out]
             exact bodyPost_ret (res_cl Tryz.results120 rfl rfl (Q.put rfl)) rfl ⟨A1, n, c1, A2, m, c2, rfl, put_S (w := w) p1 s1, put_S (w := w) p2 s2, put_onto (by omega) on, k1, k2, g1, g2⟩
           · rw [if_neg hl3] at hr
             have HR := Lib.hid hr
             have hd5 : (ln + 1 == 3) = false := by simpa using hl3
             clear hr HRR2 hl3
             have x8 := B.at_ 8 rfl
             go_upto_region 16 with fail
             clear x8
             replace B : Bx _ z (cL ep dg y.kind y.job y.every y.time y.client at_ (ln + 1) pl A1 n c1 A2 m c2) := B
             have x0 := B.at_ 0 rfl; have x1 := B.at_ 1 rfl; have x2 := B.at_ 2 rfl; have x3 := B.at_ 3 rfl; have x4 := B.at_ 4 rfl; have x5 := B.at_ 5 rfl; have x6 := B.at_ 6 rfl; have x7 := B.at_ 7 rfl; have x8 := B.at_ 8 rfl; have x9 := B.at_ 9 rfl; have x10 := B.at_ 10 rfl; have x11 := B.at_ 11 rfl
             go_wp2_with (refine wpList_put Q (cL ep dg y.kind y.job y.every y.time y.client at_ (ln + 1) pl A1 n c1 A2 m c2) 41 _ _ (by rfl) (by rfl) (by rfl) (by rfl) (by rfl) sizeC12 (by rfl) ?_)
             rw [HR.out]
             exact bodyPost_ret (res_cl Tryz.results120 rfl rfl (Q.put rfl)) rfl ⟨A1, n, c1, A2, m, c2, rfl, put_S (w := w) p1 s1, put_S (w := w) p2 s2, put_onto (by omega) on, k1, k2, g1, g2⟩
 · rw [if_pos h0] at hr
   have HR := Lib.hid hr
   have hd : (q != 0) = true := by simpa using h0
   clear hr
   go_wp2_with (refine wpList_put Q zC 41 _ _ (by rfl) (by rfl) (by rfl) (by rfl) (by rfl) sizeC12 (by rfl) ?_)
   exact bodyPost_ret (res_cl Tryz.results120 rfl rfl (Q.put rfl)) rfl (ClPost.bad HR.out (put_onto (by omega) on))
end
end Go.Proofs.YtmppkaoonncddaaGreatDoor
