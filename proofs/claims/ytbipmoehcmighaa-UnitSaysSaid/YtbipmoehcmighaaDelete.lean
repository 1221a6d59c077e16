/- slices.Delete of one job out of a row of the call's own. -/
import Derived.Test.YtbipmoehcmighaaInsert
namespace Go.Proofs.Ytbipmoehcmighaa
set_option linter.unusedSimpArgs false
set_option linter.unusedVariables false
open Go.RowKit

set_option maxHeartbeats 4000000 in
set_option maxRecDepth 100000 in
theorem Delete_calls (base : Nat) (A : Option Addr) (n c i : Nat) (rows : List (List Value)) (w : World) (hown : Own w base 73 3 (.slice A n c) n rows)
    (h1 : ∀ r ∈ rows, ∀ u ∈ r, u.oneCell' = true) (hi : i < n) (hn : n ≤ 1000) :
    Calls Try.prog 94 #[.slice A n c, .int .i64 i, .int .i64 (i + 1)] w fun e w' => e = .returned (.slice A (n - 1) c) ∧
      Own w' base 73 3 (.slice A (n - 1) c) (n - 1) (rows.take i ++ rows.drop (i + 1)) ∧ w.grownBy w' (Value.slice A n c).ownBlock := by
  obtain ⟨i0, hi0, hz0, hz1, hz2⟩ := info_parts infoJ
  obtain ⟨g, cur, rfl, hbg, hgl, hh, hnc, hcm, hcs, htk⟩ := hown.open_ (by omega)
  have hrl := hown.2.1
  have hr3 := hown.2.2
  obtain ⟨P, S, Z, hP, hS, hcur⟩ : ∃ P S Z : List Value, P.length = i * 3 ∧ S.length = (n - (i + 1)) * 3 ∧ cur.toList.take (i * 3) = P ∧ (cur.toList.drop ((i + 1) * 3)).take ((n - (i + 1)) * 3) = S ∧ P = (rows.take i).flatten ∧ S = (rows.drop (i + 1)).flatten := by
    refine ⟨cur.toList.take (i * 3), (cur.toList.drop ((i + 1) * 3)).take ((n - (i + 1)) * 3), [], ?_, ?_, rfl, rfl, ?_, ?_⟩
    · simp; omega
    · simp; omega
    · rw [take_flatten i hr3, ← htk, List.take_take, Nat.min_eq_left (by omega)]
    · rw [drop_flatten (i + 1) hr3, ← htk, List.drop_take]
      congr 1
      omega
  obtain ⟨hPc, hSc, hPr, hSr⟩ := hcur
  have h1S : ∀ u ∈ S, u.oneCell' = true := by
    intro u hu
    rw [hSr] at hu
    obtain ⟨r, hr, hu⟩ := List.mem_flatten.1 hu
    exact h1 r (List.mem_of_mem_drop hr) u hu
  have hnews : ∀ (W : World), W.heap[g]? = some (.cells cur 73 (0, 0)) → ∀ j u, S[j]? = some u → W.cell? ((⟨g, (i + 1) * 3, none⟩ : Addr).add j) = some u := by
    intro W hW j u hu
    rw [Addr.add_lit, cell_of_row W g _ _ _ _ hW, ← Array.getElem?_toList]
    rw [← hSc, List.getElem?_take] at hu
    split at hu
    · rw [List.getElem?_drop] at hu
      exact hu
    · cases hu
  -- the append, whatever address the cut has
  have hap : ∀ (W : World), W.heap[g]? = some (.cells cur 73 (0, 0)) → ∀ ty dc, (Builtin.append_ #[51, 51] ty #[.slice (some ⟨g, 0, none⟩) i c, .slice (if c = i + 1 then some ⟨g, 0, none⟩ else some ⟨g, (i + 1) * 3, none⟩) (n - (i + 1)) dc]).run Try.prog W = .ok (.slice (some ⟨g, 0, none⟩) (n - 1) c) (W.setRow g (spliceR cur (i * 3) S)) := by
    intro W hW ty dc
    have hgen : ∀ ad : Addr, (∀ j u, S[j]? = some u → W.cell? (ad.add j) = some u) → (Builtin.append_ #[51, 51] ty #[.slice (some ⟨g, 0, none⟩) i c, .slice (some ad) (n - (i + 1)) dc]).run Try.prog W = .ok (.slice (some ⟨g, 0, none⟩) (n - 1) c) (W.setRow g (spliceR cur (i * 3) S)) := by
      intro ad had
      have := run_append_room (P := Try.prog) W 51 ty 73 i0 Try.underlying51 hi0 g i c cur hW ad (n - (i + 1)) dc S (by rw [hz1, hS]) had h1S (by omega) (by rw [hz1, hS, hcs]; omega)
      rw [hz1, show i + (n - (i + 1)) = n - 1 by omega] at this
      exact this
    split
    · refine hgen _ (fun j u hu => ?_)
      have : S.length = 0 := by rw [hS]; omega
      rw [List.length_eq_zero_iff.1 this] at hu
      simp at hu
    · exact hgen _ (hnews W hW)
  have hs1 : (spliceR cur (i * 3) S).size = cur.size := spliceR_size (by rw [hS, hcs]; omega)
  have hcl : ∀ (W : World), W.heap[g]? = some (.cells (spliceR cur (i * 3) S) 73 (0, 0)) → ∀ ty dc, (Builtin.clear_ #[51] ty #[.slice (some ⟨g, (n - 1) * 3, none⟩) (n - (n - 1)) dc]).run Try.prog W = .ok (.tuple #[]) (W.setRow g (spliceR (spliceR cur (i * 3) S) ((n - 1) * 3) (Builtin.zeroCells (Value.agg #[.int .i64 0, .int .i64 0, .int .i64 0]).cells 1).toList)) := by
    intro W hW ty dc
    rw [show n - (n - 1) = 1 by omega]
    exact run_clear_rowK (P := Try.prog) W 51 ty 73 g ((n - 1) * 3) 1 dc _ _ (Value.agg #[.int .i64 0, .int .i64 0, .int .i64 0]) Try.underlying51 (by kernel_rfl) (by simp [Value.cells, Value.oneCell']) hW (by omega) (by rw [hs1, hcs]; simp [Value.cells]; omega)
  have hfin : (spliceR (spliceR cur (i * 3) S) ((n - 1) * 3) (Builtin.zeroCells (Value.agg #[.int .i64 0, .int .i64 0, .int .i64 0]).cells 1).toList).toList.take ((n - 1) * 3) = (rows.take i ++ rows.drop (i + 1)).flatten := by
    have e1 : (spliceR cur (i * 3) S).toList = P ++ S ++ cur.toList.drop (i * 3 + S.length) := by
      show cur.toList.take (i * 3) ++ S ++ _ = _
      rw [hPc]
    have e2 : (n - 1) * 3 = (P ++ S).length := by simp; omega
    show List.take _ ((spliceR cur (i * 3) S).toList.take ((n - 1) * 3) ++ _ ++ _) = _
    rw [e1, e2, List.take_left, List.append_assoc, List.take_left, hPr, hSr, List.flatten_append]
  have hsz2 : (spliceR (spliceR cur (i * 3) S) ((n - 1) * 3) (Builtin.zeroCells (Value.agg #[.int .i64 0, .int .i64 0, .int .i64 0]).cells 1).toList).size = c * 3 := by
    rw [spliceR_size (by rw [hs1, hcs]; simp [size_zeroCells, Value.cells]; omega), hs1, hcs]
  have hlen : (rows.take i ++ rows.drop (i + 1)).length = n - 1 := by simp; omega
  have hr3' : ∀ r ∈ rows.take i ++ rows.drop (i + 1), r.length = 3 := by
    intro r hr
    rcases List.mem_append.1 hr with hr | hr
    · exact hr3 r (List.mem_of_mem_take hr)
    · exact hr3 r (List.mem_of_mem_drop hr)
  have HAp := Lib.hid hap; have HCl := Lib.hid hcl; have HF := Lib.hid hfin; have HSz := Lib.hid hsz2; have HLn := Lib.hid hlen; have HR3 := Lib.hid hr3'; have HH := Lib.hid hh; have HCM := Lib.hid hcm
  clear hap hcl hfin hsz2 hlen hr3' hh hcm hs1 hnews h1S hPc hSc hPr hSr hP hS hr3 hrl htk hcs hown h1 hi0 hz0 hz1 hz2
  have hz : ¬ ((i : Int) = (i : Int) + 1) := by omega
  have hb1 : (i : Int) + 1 ≤ (n : Int) := by omega
  have hcn : ¬ (c = n - 1) := by omega
  go_enter Try.func94, Try.ntmps94
  go_wp2_with fail
  have hb0 : (0 : Int) ≤ (i : Int) + 1 := by omega
  have htn : ((i : Int) + 1).toNat = i + 1 := by omega
  have hic : (i : Int) ≤ (c : Int) := by omega
  go_region_law (refine step_append_run _ rfl _ _ 51 51 rfl _ _ (by simp [Act.eval, Act.put]) (by simp [Act.eval, Act.put]; rfl) (HAp.out _ (by exact HH.out) _ _) ?_)
  clear hb0 htn hic
  go_wp2_with (with_reducible refine wpList_clear_run _ rfl (.tmp 31) _ rfl _ rfl (HCl.out _ ?h1 _ _) ?_)
  all_goals
    first
      | exact setRow_heap _ _ _ _ _ _ HH.out
      | (go_wp2
         go_ret
         refine ⟨rfl, Own.mk_ hbg (setRow_heap _ g (spliceR cur (i * 3) S) _ _ _ (setRow_heap _ g cur _ _ _ HH.out)) (by omega) (by have := HCM.out; omega) (by have e := HSz.out; simp only [Value.cells] at e; omega) HF.out HLn.out HR3.out, ?_⟩
         exact ⟨rfl, rfl, rfl, by simp, fun k _ hk => by
           have hk' : k ≠ g := fun e => hk (by simp [Value.ownBlock, e])
           rw [setRow_other _ g k _ hk', setRow_other _ g k _ hk']
           rfl⟩)
end Go.Proofs.Ytbipmoehcmighaa
