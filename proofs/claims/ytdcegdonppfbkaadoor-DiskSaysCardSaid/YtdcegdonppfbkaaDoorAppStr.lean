/- append in regions that draw their order: rows, and a string's bytes; where the new slice lies. -/
import Derived.Test.YtdcegdonppfbkaaDoorByte
import Derived.Test.YtdcegdonppfbkaaDoorFresh
import Derived.Deep.RegionHeld3
import Derived.Deep.DrawnRows
namespace Go.Proofs.YtdcegdonppfbkaaDoor
set_option linter.unusedSimpArgs false
set_option linter.unusedVariables false
open Go.RowKit

theorem ok_value {α : Type} {a b : α} {w w' : World} (h : Result.ok a w = Result.ok b w') : a = b := by injection h
theorem strC : ∀ s : List UInt8, (s.map encB).flatten = Lib.strCells ⟨s.toArray⟩
  | [] => rfl
  | b :: s => by
    rw [List.map_cons, List.flatten_cons, strC s]
    rfl
section
variable {P : Program} (w : World)
theorem run_app_str (base : Nat) (t u ty e : TypeId) (i : TypeInfo) (ht : P.underlying t = some (.slice e)) (hu : P.underlying u = some .string) (hi : P.info? e = some i) (hz : i.zero = some (.int .u8 0))
    (hsize : i.size = 1) (hby : i.bytes = 1) (v : Value) (n : Nat) (rows : List (List Value)) (hown : Own w base e 1 v n rows) (s : List UInt8)
    (h63 : n + s.length ≤ maxLen) (hbytes : n + s.length ≤ 140737488355328) (hbase : base ≤ w.heap.size) :
    ∃ v' w', (Builtin.append_ #[t, u] ty #[v, str s]).run P w = .ok v' w' ∧ Own w' base e 1 v' (n + s.length) (rows ++ s.map encB) ∧ w.grownBy w' v.ownBlock ∧ (v'.ownBlock = v.ownBlock ∨ v'.ownBlock = some w.heap.size) := by
  have hsz : (⟨s.toArray⟩ : ByteArray).size = s.length := rfl
  obtain ⟨v', w', hr, h2, h3, h4⟩ := Lib.run_append_own_string (P := P) w base t u ty e i ht hu hi hz hsize hby v n rows.flatten hown.1 ⟨s.toArray⟩ (by rw [hsz]; exact h63) (by rw [hsz]; exact hbytes) hbase
  rw [hsz] at h2 h4
  refine ⟨v', w', hr, ⟨?_, by simp [hown.2.1], ?_⟩, h3, ?_⟩
  · have e : (rows ++ s.map encB).flatten = rows.flatten ++ Lib.strCells ⟨s.toArray⟩ := by
      rw [List.flatten_append]
      rw [strC]
    rw [e]; exact h2
  · intro r hr
    rcases List.mem_append.1 hr with hr | hr
    · exact hown.2.2 r hr
    · obtain ⟨b, _, rfl⟩ := List.mem_map.1 hr
      rfl
  · rcases hown.1.2 with ⟨rfl, rfl⟩ | ⟨g, cap, cur, rfl, hbg, hg, hnc, hcm, hcs, htake⟩
    · by_cases hm : s.length = 0
      · left; rw [h4.2 ⟨rfl, hm⟩]
      · right
        have hr2 := run_append_nil_string (P := P) w t u ty e i (.int .u8 0) ht hu hi hz ⟨s.toArray⟩ (by rw [hsz]; omega) (by rw [hsz]; omega) (by rw [hby, hsz]; omega)
        rw [hr] at hr2
        rw [ok_value hr2]; rfl
    · by_cases hroom : n + s.length ≤ cap
      · left
        have hr2 := Lib.run_append_room_string (P := P) w t u ty e i ht hu hi hsize g n cap cur hg ⟨s.toArray⟩ (by rw [hsz]; exact hroom) (by rw [hsz, hcs]; omega)
        rw [hr] at hr2
        rw [ok_value hr2]; rfl
      · right
        have holds : ∀ j u, rows.flatten[j]? = some u → w.cell? ((⟨g, 0, none⟩ : Addr).add j) = some u := hown.1.cells (g := g) rfl
        have hr2 := Lib.run_append_grow_string (P := P) w t u ty e i (.int .u8 0) ht hu hi hz ⟨g, 0, none⟩ n cap rows.flatten (by rw [hsize]; simpa using hown.1.1) holds ⟨s.toArray⟩ (by rw [hsz]; omega) (by rw [hsz]; unfold maxLen at h63; omega) (by rw [hby, hsz]; exact growslice_fits (by omega) (by omega))
        rw [hr] at hr2
        rw [ok_value hr2]; rfl
theorem step_app_str {ops : Array Oper} {o : Oper} {a : Act} {K : Act → World → Prop} {Q : Exit → Act → World → Prop} {F : Prop} (hgd : o.guard = none) (sl x : Operand) (t u : TypeId)
    (ho : o.op = .call { callee := .builtin .append, args := #[sl, x], argTypes := #[t, u] })
    (base : Nat) (e : TypeId) (i : TypeInfo) (ht : P.underlying t = some (.slice e)) (hu : P.underlying u = some .string) (hi : P.info? e = some i) (hz : i.zero = some (.int .u8 0))
    (hsize : i.size = 1) (hby : i.bytes = 1) (v : Value) (n : Nat) (rows : List (List Value)) (hs : a.eval sl = v) (hown : Own w base e 1 v n rows) (s : List UInt8) (hx : a.eval x = str s)
    (h63 : n + s.length ≤ maxLen) (hbytes : n + s.length ≤ 140737488355328) (hbase : base ≤ w.heap.size)
    (h : ∀ v' w', Own w' base e 1 v' (n + s.length) (rows ++ s.map encB) → w.grownBy w' v.ownBlock → (v'.ownBlock = v.ownBlock ∨ v'.ownBlock = some w.heap.size) → K (a.put o.dst v') w') :
    if Region.wanted o (yielded ops a.tmps) = true then Oper.wp P o a w K Q else F := by
  rw [if_pos (by simp [Region.wanted, hgd])]
  obtain ⟨v', w', hrun, h2, h3, h4⟩ := run_app_str (P := P) w base t u o.type e i ht hu hi hz hsize hby v n rows hown s h63 hbytes hbase
  unfold Oper.wp execOp
  simp only [ho, resolve, invoke, builtin, Sem.run_bind, Sem.run_pure, Result.andThen_ok, List.map_toArray, List.map_cons, List.map_nil, hs, hx, hrun]
  exact h v' w' h2 h3 h4
theorem step_app_sl {ops : Array Oper} {o : Oper} {a : Act} {K : Act → World → Prop} {Q : Exit → Act → World → Prop} {F : Prop} (hgd : o.guard = none) (s x : Operand) (t : TypeId)
    (ho : o.op = .call { callee := .builtin .append, args := #[s, x], argTypes := #[t, t] })
    (base : Nat) (e : TypeId) (i : TypeInfo) (z : Value) (size bytes : Nat) (ht : P.underlying t = some (.slice e)) (hi : P.info? e = some i) (hz : i.zero = some z)
    (hsize : i.size = size) (hby : i.bytes = bytes) (hzs : z.cells.size = size) (hsz : 0 < size)
    (v : Value) (n : Nat) (rows : List (List Value)) (hs : a.eval s = v) (hown : Own w base e size v n rows)
    (B : Nat) (A : Option Addr) (m c : Nat) (news : List (List Value)) (hx : a.eval x = .slice A m c) (hr : Sl w B size A m news) (h1 : ∀ r ∈ news, ∀ u ∈ r, u.oneCell' = true)
    (h63 : n + m ≤ maxLen) (hbytes : (n + m) * bytes ≤ 140737488355328) (hbase : base ≤ w.heap.size)
    (h : ∀ v' w', Own w' base e size v' (n + m) (rows ++ news) → w.grownBy w' v.ownBlock → (v'.ownBlock = v.ownBlock ∨ v'.ownBlock = some w.heap.size) → K (a.put o.dst v') w') :
    if Region.wanted o (yielded ops a.tmps) = true then Oper.wp P o a w K Q else F := by
  rw [if_pos (by simp [Region.wanted, hgd])]
  exact wp_append_sl w s x t ho base e i z size bytes ht hi hz hsize hby hzs hsz v n rows hs hown B A m c news hx hr h1 h63 hbytes hbase h
end
/-- A row in another block than the one that is written. -/
theorem Own.kept1 {w w' : World} {base E k n : Nat} {v : Value} {rows : List (List Value)} {row : Option Nat} (h : Own w base E k v n rows) (hg : w.grownBy w' row) (hne : ∀ b, v.ownBlock = some b → row ≠ some b) : Own w' base E k v n rows :=
  h.kept hg (by
    cases e : v.ownBlock with
    | none => exact .inl rfl
    | some b => exact .inr fun e' => hne b e e'.symm)
theorem Own.lt {w : World} {base E k n : Nat} {v : Value} {rows : List (List Value)} (h : Own w base E k v n rows) : ∀ b, v.ownBlock = some b → base ≤ b ∧ b < w.heap.size := h.1.lt
end Go.Proofs.YtdcegdonppfbkaaDoor
