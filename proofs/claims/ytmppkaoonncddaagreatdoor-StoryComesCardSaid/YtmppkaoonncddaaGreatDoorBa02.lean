/- Part 2 of the proof: Fresh, Mem, See, Rows3, Mut, Put, Box, BoxM, Env, SpecU, Text, Text2, Text3, Str, Byte, AppStr, RowsB, Live, EqE, CloneE. -/
import Derived.Test.YtmppkaoonncddaaGreatDoorBa01
import Derived.StillTailTactics
import Derived.BigRegion
import Derived.Laws.CopyRow
import Derived.Lib.AppendZerosOnto
import Derived.Lib.AppendZeros
import Derived.Lib.Overlaps
import Derived.Laws.Externs
import Derived.Laws.IdiomCopy
import Derived.Deep.MidRow
import Derived.Test.YtmppkaoonncddaaGreatDoorProg
import Derived.Lib.LaidTab
import Derived.Lib.AppendIntMem
import Derived.Lib.AtoiErrMem
import Derived.Lib.SplitLaws
import Derived.Lib.ItoaLen
import Derived.Lib.AtoiAllCases
import Derived.Test.YtmppkaoonncddaaGreatDoorShelf
import Derived.Lib.ParseIntBTie
import Derived.Laws.BytesArg
import Derived.Lib.AppendStr
import Derived.Deep.RegionHeld3
import Derived.Deep.DrawnRows
import Derived.Lib.SliceRun
namespace Go.Proofs.YtmppkaoonncddaaGreatDoor
section
set_option linter.unusedSimpArgs false
set_option linter.unusedVariables false
open Go.RowKit
def Fresh (lo : Nat) (A : Option Addr) : Prop := ∀ a, A = some a → lo ≤ a.block
theorem Fresh.none_ (lo : Nat) : Fresh lo none := fun a h => by cases h
theorem Own.fresh {w : World} {base E k n c lo : Nat} {A : Option Addr} {rows : List (List Value)} (h : Own w base E k (.slice A n c) n rows) (hl : lo ≤ base) : Fresh lo A := by
 intro a e
 subst e
 exact Nat.le_trans hl (h.1.lt a.block rfl).1
theorem Own.le_cap {w : World} {base E k n c : Nat} {A : Option Addr} {rows : List (List Value)} (h : Own w base E k (.slice A n c) n rows) : n ≤ c := by
 obtain ⟨A', c', e, h1, _⟩ := h.slice
 injection e with _ _ e
 omega
theorem Sl.away {w : World} {B k n lo : Nat} {A : Option Addr} {rows : List (List Value)} (h : Sl w B k A n rows) (hf : Fresh lo A) {p : Addr} (hp : p.block < lo) (u : Value) : Sl (w.setCell p u) B k A n rows :=
 ⟨h.1, h.2.1, fun hn => by
  obtain ⟨b, off, e, hb, hc⟩ := h.2.2 hn
  have := hf _ e
  exact ⟨b, off, e, hb, fun i j r v hr hv => (World.cell?_setCell_other w _ _ _ (by intro e; subst e; simp only at this hp; omega)).trans (hc i j r v hr hv)⟩⟩
theorem bcell {W w1 : World} (hb : Below W.heap.size W w1) : (∀ b o, b < W.heap.size → w1.cell? ⟨b, o, none⟩ = W.cell? ⟨b, o, none⟩) ∧ (∀ b o, b < W.heap.size → w1.frozen? ⟨b, o, none⟩ = W.frozen? ⟨b, o, none⟩) :=
 ⟨fun b o h => hb.cell (p := ⟨b, o, none⟩) h, fun b o h => hb.frozen (p := ⟨b, o, none⟩) h⟩
theorem cellB {W w1 : World} (hb : Below W.heap.size W w1) {p : Addr} {v : Value} (h : W.cell? p = some v) : w1.cell? p = some v := (hb.cell (World.block_lt_of_cell? W p h)).trans h
theorem frozB {W w1 : World} (hb : Below W.heap.size W w1) {p : Addr} {v : Value} (h : W.cell? p = some v) (hf : W.frozen? p = false) : w1.frozen? p = false := (hb.frozen (World.block_lt_of_cell? W p h)).trans hf
theorem Own.apart {w : World} {base E k n base' E' k' n' : Nat} {v v' : Value} {rows rows' : List (List Value)} (h : Own w base E k v n rows) (h' : Own w base' E' k' v' n' rows') (hE : E ≠ E') : v'.ownBlock = none ∨ v'.ownBlock ≠ v.ownBlock := by
 rcases h'.1.2 with ⟨rfl, _⟩ | ⟨g', _, cur', rfl, _, hg', _⟩
 · exact .inl rfl
 · right
   rcases h.1.2 with ⟨rfl, _⟩ | ⟨g, _, cur, rfl, _, hg, _⟩
   · simp [Value.ownBlock]
   · intro e
     simp only [Value.ownBlock, Option.some.injEq] at e
     subst e
     rw [hg] at hg'
     injection hg' with hg'
     injection hg' with _ e2 _
     exact hE e2
theorem Own.notBelow {w : World} {base E k n : Nat} {v : Value} {rows : List (List Value)} (h : Own w base E k v n rows) {b : Nat} (hb : b < base) : some b ≠ v.ownBlock := by
 rcases h.1.2 with ⟨rfl, _⟩ | ⟨g, _, cur, rfl, hg, _⟩
 · simp [Value.ownBlock]
 · intro e
   simp only [Value.ownBlock, Option.some.injEq] at e
   omega
theorem grow_cell {w w' : World} {row : Option Nat} (hg : w.grownBy w' row) {p : Addr} {v : Value} (h : w.cell? p = some v) (hne : some p.block ≠ row) : w'.cell? p = some v := hg.cell h hne
theorem grow_froz {w w' : World} {row : Option Nat} (hg : w.grownBy w' row) {p : Addr} {v : Value} (h : w.cell? p = some v) (hf : w.frozen? p = false) (hne : some p.block ≠ row) : w'.frozen? p = false :=
 (World.frozen?_of_block (hg.block p.block (World.block_lt_of_cell? w p h) hne)).trans hf
theorem below_grown {w0 w w' : World} {B : Nat} {row : Option Nat} (hb : Below B w0 w) (hB : B ≤ w.heap.size) (hg : w.grownBy w' row) (hr : ∀ g, row = some g → B ≤ g) : Below B w0 w' := hb.grown hg hB hr
theorem Sl.grow {w w' : World} {B k n b off : Nat} {rows : List (List Value)} {row : Option Nat} (h : Sl w B k (some ⟨b, off, none⟩) n rows) (hg : w.grownBy w' row) (hne : some b ≠ row) (hB : B ≤ w.heap.size) : Sl w' B k (some ⟨b, off, none⟩) n rows :=
 ⟨h.1, h.2.1, fun hn => by
  obtain ⟨b', off', e, hb, hc⟩ := h.2.2 hn
  injection e with e; injection e with e1 e2 _
  subst e1; subst e2
  exact ⟨b, off, rfl, hb, fun i j r u hr hu => (World.cell?_of_block (hg.block b (by omega) hne)).trans (hc i j r u hr hu)⟩⟩
theorem Sl.setOff {w : World} {B k n b off : Nat} {rows : List (List Value)} (h : Sl w B k (some ⟨b, off, none⟩) n rows) {p : Addr} (hp : p.block ≠ b) (u : Value) : Sl (w.setCell p u) B k (some ⟨b, off, none⟩) n rows :=
 ⟨h.1, h.2.1, fun hn => by
  obtain ⟨b', off', e, hb, hc⟩ := h.2.2 hn
  injection e with e; injection e with e1 e2 _
  subst e1; subst e2
  exact ⟨b, off, rfl, hb, fun i j r v hr hv => (World.cell?_setCell_other w _ _ _ (by intro e; subst e; exact hp rfl)).trans (hc i j r v hr hv)⟩⟩
end
section
set_option linter.unusedSimpArgs false
set_option linter.unusedVariables false
open Go.RowKit
theorem Sl.take {w : World} {B k n m : Nat} {A : Option Addr} {rows : List (List Value)} (h : Sl w B k A n rows) (hm : m ≤ n) : Sl w B k A m (rows.take m) :=
 ⟨by rw [List.length_take, h.1]; omega, fun r hr => h.2.1 r (List.mem_of_mem_take hr), fun h0 => by
  obtain ⟨b, off, e, hb, hc⟩ := h.2.2 (by omega)
  refine ⟨b, off, e, hb, fun i j r u hr hu => ?_⟩
  rw [List.getElem?_take] at hr
  split at hr
  · exact hc i j r u hr hu
  · cases hr⟩
theorem Sl.cut {w : World} {B k n m c : Nat} {A : Option Addr} {rows : List (List Value)} (h : Sl w B k A n rows) (hm : m ≤ n) (hc : n ≤ c) :
    Sl w B k (if c = m then A else A.map (fun a => a.add (m * k))) (n - m) (rows.drop m) := by
 refine ⟨by rw [List.length_drop, h.1], fun r hr => h.2.1 r (List.mem_of_mem_drop hr), fun h0 => ?_⟩
 obtain ⟨b, off, rfl, hb, hcell⟩ := h.2.2 (by omega)
 rw [if_neg (by omega)]
 refine ⟨b, off + m * k, by simp [Addr.add_lit], hb, fun i j r u hr hu => ?_⟩
 rw [List.getElem?_drop] at hr
 have := hcell (m + i) j r u hr hu
 rw [show off + m * k + i * k + j = off + (m + i) * k + j by rw [Nat.add_mul]; omega]
 exact this
theorem run_slice_from {P : Program} {t e : TypeId} {size : Nat} (A : Option Addr) (n c m : Nat) (ht : P.underlying t = some (.slice e)) (hz : ∀ w, (sizeOf e).run P w = .ok size w) (hm : m ≤ n) (w : World) :
    (Instr.slice t (.slice A n c) (some (.int .i64 (m : Int))) none none).run P w = .ok (.slice (if c = m then A else A.map (fun a => a.add (m * size))) (n - m) (c - m)) w := by
 have h1 : (m : Int) ≤ (n : Int) := by omega
 simp [Instr.slice, run_underlying ht, Instr.sliceBounds, hz, go_sem, h1]
theorem Sl.block {w : World} {b k : Nat} {t : TypeId} {fr : Nat × Nat} {cs : Array Value} (rows : List (List Value)) (h : w.heap[b]? = some (.cells cs t fr)) (hk : ∀ r ∈ rows, r.length = k) (hl : cs.toList = rows.flatten) :
    Sl w w.heap.size k (some ⟨b, 0, none⟩) rows.length rows := by
 refine ⟨rfl, hk, fun _ => ⟨b, 0, rfl, (Array.getElem?_eq_some_iff.1 h).1, fun i j r u hr hu => ?_⟩⟩
 rw [cell_of_row w b _ _ _ _ h, ← Array.getElem?_toList, hl, Nat.zero_add]
 exact flatten_at hk i j r u hr hu
def OffN (n z : Nat) (A : Option Addr) : Prop := 0 < n → ∀ a, A = some a → a.block ≠ z
theorem Sl.offN {w : World} {B k n z : Nat} {A : Option Addr} {rows : List (List Value)} (h : Sl w B k A n rows) (hz : B ≤ z) : OffN n z A := fun hn a e => by
 obtain ⟨b, off, e', hb, _⟩ := h.2.2 hn
 rw [e] at e'
 injection e' with e'
 subst e'
 simp only
 omega
theorem Fresh.offN {lo n z : Nat} {A : Option Addr} (h : Fresh lo A) (hz : z < lo) : OffN n z A := fun _ a e => by have := h a e; omega
theorem Sl.setOffN {w : World} {B k n : Nat} {A : Option Addr} {rows : List (List Value)} (h : Sl w B k A n rows) {p : Addr} (ho : OffN n p.block A) (u : Value) : Sl (w.setCell p u) B k A n rows :=
 ⟨h.1, h.2.1, fun hn => by
  obtain ⟨b, off, e, hb, hc⟩ := h.2.2 hn
  have := ho hn _ e
  exact ⟨b, off, e, hb, fun i j r v hr hv => (World.cell?_setCell_other w _ _ _ (by intro e; subst e; exact this rfl)).trans (hc i j r v hr hv)⟩⟩
end
section
set_option linter.unusedSimpArgs false
set_option linter.unusedVariables false
open Go.RowKit
abbrev S (w : World) (k : Nat) (A : Option Addr) (n : Nat) (rows : List (List Value)) : Prop := Sl w w.heap.size k A n rows
abbrev Onto (w w' : World) : Prop := Below w.heap.size w w'
section
variable {w w' w'' : World} {k n : Nat} {A : Option Addr} {rows : List (List Value)}
theorem Onto.rfl' (w : World) : Onto w w := Below.refl _ _
theorem Onto.to (h : Onto w w') (h' : Onto w' w'') : Onto w w'' := Below.trans h (h'.mono h.size)
theorem Onto.new (h : Onto w w') (o : Obj) : Onto w (w'.alloc o) := Below.alloc h h.size o
theorem Onto.draws (h : Onto w w') (q : Nat) : Onto w (w'.drewN q) := below_drewN h q
theorem Onto.draw (h : Onto w w') : Onto w w'.drew := Below.drew h
theorem Onto.put (h : Onto w w') {p : Addr} (hp : w.heap.size ≤ p.block) (u : Value) : Onto w (w'.setCell p u) := Below.setCell h hp u
theorem S.new (h : S w k A n rows) (o : Obj) : S (w.alloc o) k A n rows := (Sl.alloc h (Nat.le_refl _) o).more (by simp)
theorem S.draws (h : S w k A n rows) (q : Nat) : S (w.drewN q) k A n rows := h
theorem S.draw (h : S w k A n rows) : S w.drew k A n rows := h
theorem S.onto (h : S w k A n rows) (hb : Onto w w') : S w' k A n rows := (Sl.under h (Nat.le_refl _) hb).more hb.size
theorem S.off (h : S w k A n rows) {p : Addr} (ho : OffN n p.block A) (u : Value) : S (w.setCell p u) k A n rows := by simpa [S] using Sl.setOffN h ho u
theorem S.of {B : Nat} (h : Sl w B k A n rows) (hB : B ≤ w.heap.size) : S w k A n rows := h.more hB
theorem cellA {p : Addr} {v : Value} (h : w.cell? p = some v) (o : Obj) : (w.alloc o).cell? p = some v := (World.cell?_alloc_lt w o p (World.block_lt_of_cell? w p h)).trans h
end
/-! ### A region that draws its order, its calls make memory, their values are known ahead -/
noncomputable def ontoW (w x : World) : World := open Classical in if Onto w x then x else w
section
variable {w x : World}
theorem onto_on (w x : World) : Onto w (ontoW w x) := by
 unfold ontoW; split
 · assumption
 · exact Below.refl _ _
theorem onto_of (h : Onto w x) : x = ontoW w x := by unfold ontoW; rw [if_pos h]
theorem onto_cell {p : Addr} {v : Value} (h : w.cell? p = some v) : ∀ x, (ontoW w x).cell? p = some v := fun x => cellB (onto_on w x) h
theorem S.ontoX {k n : Nat} {A : Option Addr} {rows : List (List Value)} (h : S w k A n rows) (x : World) : S (ontoW w x) k A n rows := S.onto h (onto_on w x)
variable {P : Program} {f : FuncId} {args : Array Value} {v : Value}
theorem calls_onto (h : Calls P f args (ontoW w x) fun e w' => e = .returned v ∧ Onto (ontoW w x) w') : Calls P f args (ontoW w x) fun e w'' => e = .returned v ∧ ∃ y, w'' = ontoW w y :=
 h.mono fun _ w' ⟨he, hw⟩ => ⟨he, w', onto_of ((onto_on w x).to hw)⟩
theorem calls_onto' {u : Value} (h : Calls P f args (ontoW w x) fun e w' => e = .returned v ∧ Onto (ontoW w x) w') (hv : v = u) : Calls P f args (ontoW w x) fun e w'' => e = .returned u ∧ ∃ y, w'' = ontoW w y :=
 hv ▸ calls_onto h
theorem wp_region_onto {id : Nat} {Q : Exit → Act → World → Prop} {a : Act} {l : List Oper} (hm : P.follows .mixedOrders = true) (hB : Region.lexB .any l.toArray = true)
    (h : wpQuiet P l.toArray (fun w' => ∃ x, w' = ontoW w x) (fun a' => ∀ w', Onto w w' → Q .normal a' w') l a) : (Code.region id l.toArray true).wp P Q a w :=
 wp_region_quiet (C := fun w' => ∃ x, w' = ontoW w x) hm hB ⟨w.drew, onto_of ((Below.refl _ _).drew)⟩ (by
  have : (fun a' : Act => ∀ w', (∃ x, w' = ontoW w x) → Q .normal a' w') = (fun a' => ∀ w', Onto w w' → Q .normal a' w') := by
   funext a'
   exact propext ⟨fun h w' hw => h w' ⟨w', onto_of hw⟩, fun h w' ⟨x, hx⟩ => h w' (hx ▸ onto_on w x)⟩
  rw [this]
  simpa using h)
end
end
section
set_option linter.unusedSimpArgs false
set_option linter.unusedVariables false
open Go.RowKit
def spliceR (cur : Array Value) (o : Nat) (cs : List Value) : Array Value := (cur.toList.take o ++ cs ++ cur.toList.drop (o + cs.length)).toArray
theorem spliceR_size {cur : Array Value} {o : Nat} {cs : List Value} (h : o + cs.length ≤ cur.size) : (spliceR cur o cs).size = cur.size := by
 simp [spliceR]; omega
section
variable {P : Program} (w : World)
theorem run_copy_rowK (dT sT ty elem : TypeId) (g o dLen dCap : Nat) (a : Addr) (sLen sCap : Nat) (cur : Array Value) (t : TypeId) (i : TypeInfo) (cs : List Value)
    (hu : P.underlying dT = some (.slice elem)) (hi : P.info? elem = some i) (hg : w.heap[g]? = some (.cells cur t (0, 0))) (hn : cs.length = Nat.min sLen dLen * i.size)
    (hsrc : ∀ j v, cs[j]? = some v → w.cell? (a.add j) = some v) (hfit : o + cs.length ≤ cur.size) (h1 : ∀ v ∈ cs, v.oneCell' = true) :
    (Builtin.copy_ #[dT, sT] ty #[.slice (some ⟨g, o, none⟩) dLen dCap, .slice (some a) sLen sCap]).run P w = .ok (goInt (Nat.min sLen dLen)) (w.setRow g (spliceR cur o cs)) := by
 have hl := run_loadCells_list (P := P) w a cs hsrc
 have hst := run_storeCells_at P g o t cs 0 cur w hg (by simpa using hfit) h1
 simp only [Nat.add_zero] at hst
 simp [Builtin.copy_, run_underlying hu, Builtin.lenOf, Builtin.firstCells, sizeOf, typeInfo, hi, ← hn, hl, hst, spliceR]
theorem wp_copy_run {o : Oper} {a : Act} {K : Act → World → Prop} {Q : Exit → Act → World → Prop} (d s : Operand) (t t' : TypeId)
    (ho : o.op = .call { callee := .builtin .copy, args := #[d, s], argTypes := #[t, t'] }) (v u : Value) (hd : a.eval d = v) (hs : a.eval s = u) {v' : Value} {w' : World}
    (hr : (Builtin.copy_ #[t, t'] o.type #[v, u]).run P w = .ok v' w') (h : K (a.put o.dst v') w') : o.wp P a w K Q := by
 unfold Oper.wp execOp
 simp only [ho, resolve, invoke, builtin, Sem.run_bind, Sem.run_pure, Result.andThen_ok, List.map_toArray, List.map_cons, List.map_nil, hd, hs, hr]
 exact h
theorem wpList_copy_run {ops : Array Oper} {rest : List Oper} {o : Oper} {a : Act} {Q : Exit → Act → World → Prop} (hgd : o.guard = none) (d s : Operand) (t t' : TypeId)
    (ho : o.op = .call { callee := .builtin .copy, args := #[d, s], argTypes := #[t, t'] }) (v u : Value) (hd : a.eval d = v) (hs : a.eval s = u) {v' : Value} {w' : World}
    (hr : (Builtin.copy_ #[t, t'] o.type #[v, u]).run P w = .ok v' w') (h : wpList P ops Q rest (a.put o.dst v') w') : wpList P ops Q (o :: rest) a w :=
 wpList_plain hgd fun _ hK => wp_copy_run w d s t t' ho v u hd hs hr (hK _ _ h)
theorem step_copy_run {ops : Array Oper} {o : Oper} {a : Act} {K : Act → World → Prop} {Q : Exit → Act → World → Prop} {E : Prop}
    (hg : o.guard = none) (d x : Operand) (dT sT : TypeId) (hop : o.op = Op.call { callee := Callee.builtin Builtin.copy, args := #[d, x], argTypes := #[dT, sT] })
    (v u : Value) (hd : a.eval d = v) (hx : a.eval x = u) {v' : Value} {w' : World} (hr : (Builtin.copy_ #[dT, sT] o.type #[v, u]).run P w = .ok v' w') (hK : K (a.put o.dst v') w') :
    if Region.wanted o (yielded ops a.tmps) = true then Oper.wp P o a w K Q else E := by
 have hw : Region.wanted o (yielded ops a.tmps) = true := by simp [Region.wanted, hg]
 rw [if_pos hw]
 exact wp_copy_run w d x dT sT hop v u hd hx hr hK
end
section
variable {P : Program} (w : World)
theorem step_append_run {ops : Array Oper} {o : Oper} {a : Act} {K : Act → World → Prop} {Q : Exit → Act → World → Prop} {E : Prop}
    (hg : o.guard = none) (d x : Operand) (dT sT : TypeId) (hop : o.op = Op.call { callee := Callee.builtin Builtin.append, args := #[d, x], argTypes := #[dT, sT] })
    (v u : Value) (hd : a.eval d = v) (hx : a.eval x = u) {v' : Value} {w' : World} (hr : (Builtin.append_ #[dT, sT] o.type #[v, u]).run P w = .ok v' w') (hK : K (a.put o.dst v') w') :
    if Region.wanted o (yielded ops a.tmps) = true then Oper.wp P o a w K Q else E := by
 have hw : Region.wanted o (yielded ops a.tmps) = true := by simp [Region.wanted, hg]
 rw [if_pos hw]
 unfold Oper.wp execOp
 simp only [hop, resolve, invoke, builtin, Sem.run_bind, Sem.run_pure, Result.andThen_ok, List.map_toArray, List.map_cons, List.map_nil, hd, hx, hr]
 exact hK
theorem wpList_clear_run {ops : Array Oper} {rest : List Oper} {o : Oper} {a : Act} {Q : Exit → Act → World → Prop} (hgd : o.guard = none) (d : Operand) (t : TypeId)
    (ho : o.op = .call { callee := .builtin .clear, args := #[d], argTypes := #[t] }) (v : Value) (hd : a.eval d = v) {v' : Value} {w' : World}
    (hr : (Builtin.clear_ #[t] o.type #[v]).run P w = .ok v' w') (h : wpList P ops Q rest (a.put o.dst v') w') : wpList P ops Q (o :: rest) a w :=
 wpList_plain hgd fun _ hK => by
  unfold Oper.wp execOp
  simp only [ho, resolve, invoke, builtin, Sem.run_bind, Sem.run_pure, Result.andThen_ok, List.map_toArray, List.map_cons, List.map_nil, hd, hr]
  exact hK _ _ h
theorem run_clear_rowK (t ty elem : TypeId) (g o n c : Nat) (cur : Array Value) (E : TypeId) (z : Value) (hu : P.underlying t = some (.slice elem)) (hz : (zeroValue elem).run P w = .ok z w) (hz1 : ∀ u ∈ z.cells, u.oneCell' = true)
    (hg : w.heap[g]? = some (.cells cur E (0, 0))) (hn : 0 < n) (hfit : o + n * z.cells.size ≤ cur.size) :
    (Builtin.clear_ #[t] ty #[.slice (some ⟨g, o, none⟩) n c]).run P w = .ok (.tuple #[]) (w.setRow g (spliceR cur o (Builtin.zeroCells z.cells n).toList)) := by
 have hst := run_storeCells_at P g o E (Builtin.zeroCells z.cells n).toList 0 cur w hg (by simpa [size_zeroCells] using hfit) (by
  intro v hv
  rw [Array.mem_toList_iff, Builtin.zeroCells, Array.mem_map] at hv
  obtain ⟨i, hi, rfl⟩ := hv
  rw [Array.mem_range] at hi
  have hpos : 0 < z.cells.size := by
   rcases Nat.eq_zero_or_pos z.cells.size with h | h
   · rw [h] at hi; omega
   · exact h
  have hlt := Nat.mod_lt i hpos
  rw [getElem!_pos z.cells _ hlt]
  exact hz1 _ (Array.getElem_mem hlt))
 simp only [Nat.add_zero] at hst
 cases n with
 | zero => omega
 | succ n => simp [Builtin.clear_, run_underlying hu, hz, hst, spliceR]
end
theorem Own.open_ {w : World} {base E k n c : Nat} {A : Option Addr} {rows : List (List Value)} (h : Own w base E k (.slice A n c) n rows) (hn : 0 < n) :
    ∃ g cur, A = some ⟨g, 0, none⟩ ∧ base ≤ g ∧ g < w.heap.size ∧ w.heap[g]? = some (.cells cur E (0, 0)) ∧ n ≤ c ∧ c ≤ maxLen ∧ cur.size = c * k ∧ cur.toList.take (n * k) = rows.flatten := by
 rcases h.1.2 with ⟨e, h0⟩ | ⟨g, cap, cur, e, hb, hh, h1, h2, h3, h4⟩
 · omega
 · injection e with e1 e2 e3
   subst e1; subst e3
   exact ⟨g, cur, rfl, hb, (Array.getElem?_eq_some_iff.1 hh).1, hh, h1, h2, h3, h4⟩
theorem Own.mk_ {w : World} {base E k n c g : Nat} {cur : Array Value} {rows : List (List Value)} (hb : base ≤ g) (hh : w.heap[g]? = some (.cells cur E (0, 0))) (h1 : n ≤ c) (h2 : c ≤ maxLen) (h3 : cur.size = c * k)
    (h4 : cur.toList.take (n * k) = rows.flatten) (hl : rows.length = n) (hr : ∀ r ∈ rows, r.length = k) : Own w base E k (.slice (some ⟨g, 0, none⟩) n c) n rows :=
 ⟨⟨by rw [flatten_length hr, hl], .inr ⟨g, c, cur, rfl, hb, hh, h1, h2, h3, h4⟩⟩, hl, hr⟩
theorem grownBy_setRow (w : World) (g : Nat) (cs : Array Value) : w.grownBy (w.setRow g cs) (some g) :=
 ⟨rfl, rfl, rfl, by simp, fun k _ hk => setRow_other w g k _ (fun e => hk (by rw [e]))⟩
theorem insert_cells {α : Type} (P X S Z : List α) (hX : X.length ≤ Z.length) :
    let c1 := (P ++ S ++ Z).take (P.length + X.length) ++ S ++ (P ++ S ++ Z).drop (P.length + X.length + S.length)
    c1.take P.length ++ X ++ c1.drop (P.length + X.length) = P ++ X ++ S ++ Z.drop X.length := by
 have e1 : (P ++ S ++ Z).take (P.length + X.length) = P ++ (S ++ Z).take X.length := by rw [List.append_assoc, List.take_length_add_append]
 have e2 : (P ++ S ++ Z).drop (P.length + X.length + S.length) = Z.drop X.length := by
  rw [show P.length + X.length + S.length = (P ++ S).length + X.length by simp; omega, List.drop_length_add_append]
 have e3 : ((S ++ Z).take X.length).length = X.length := by simp; omega
 simp only [e1, e2]
 have t1 : (P ++ (S ++ Z).take X.length ++ S ++ Z.drop X.length).take P.length = P := by simp [List.append_assoc]
 have t2 : (P ++ (S ++ Z).take X.length ++ S ++ Z.drop X.length).drop (P.length + X.length) = S ++ Z.drop X.length := by
  rw [show P.length + X.length = (P ++ (S ++ Z).take X.length).length by simp; omega]
  rw [List.append_assoc (P ++ _), List.drop_left]
 rw [t1, t2]
 simp [List.append_assoc]
end
section
set_option linter.unusedSimpArgs false
set_option linter.unusedVariables false
open Go.RowKit
def Unf (w : World) (b : Nat) : Prop := ∃ cs t, w.heap[b]? = some (.cells cs t (0, 0))
section
variable {w w' : World} {b : Nat}
theorem Unf.frozen (h : Unf w b) (o : Nat) : w.frozen? ⟨b, o, none⟩ = false := by
 obtain ⟨cs, t, h⟩ := h
 simp [World.frozen?, h]
theorem Unf.put (h : Unf w b) (p : Addr) (u : Value) : Unf (w.setCell p u) b := by
 obtain ⟨cs, t, h⟩ := h
 by_cases e : b = p.block
 · subst e
   unfold Unf World.setCell
   simp only [Array.getElem?_modify, if_true, h, Option.map_some]
   split <;> first | exact ⟨_, _, rfl⟩ | (rename_i e; injection e with e; exact ⟨_, _, rfl⟩) | simp_all
 · exact ⟨cs, t, (Below.heap_setCell w p u b e).trans h⟩
theorem Unf.new (h : Unf w b) (o : Obj) : Unf (w.alloc o) b := by
 obtain ⟨cs, t, h⟩ := h
 exact ⟨cs, t, (Below.heap_alloc w o b (Array.getElem?_eq_some_iff.1 h).1).trans h⟩
theorem Unf.lt (h : Unf w b) : b < w.heap.size := by
 obtain ⟨cs, t, h⟩ := h
 exact (Array.getElem?_eq_some_iff.1 h).1
theorem Unf.below {B : Nat} (h : Unf w b) (hb : Below B w w') (hB : b < B) : Unf w' b := by
 obtain ⟨cs, t, h⟩ := h
 exact ⟨cs, t, (hb.block b hB).trans h⟩
theorem Unf.onto (h : Unf w b) (hb : Onto w w') : Unf w' b := h.below hb h.lt
theorem Unf.grown {row : Option Nat} (h : Unf w b) (hb : w.grownBy w' row) (hB : some b ≠ row) : Unf w' b := by
 have hl := h.lt
 obtain ⟨cs, t, h⟩ := h
 exact ⟨cs, t, (hb.block b hl hB).trans h⟩
end
def M (w : World) (base k : Nat) (A : Option Addr) (n : Nat) (rows : List (List Value)) : Prop := S w k A n rows ∧ (0 < n → ∃ b off, A = some ⟨b, off, none⟩ ∧ base ≤ b ∧ Unf w b)
section
variable {w w' : World} {base k n b off i j : Nat} {A : Option Addr} {rows : List (List Value)} {r : List Value} {u : Value}
theorem M.sl (h : M w base k A n rows) : S w k A n rows := h.1
theorem M.onto (h : M w base k A n rows) (hb : Onto w w') : M w' base k A n rows :=
 ⟨h.1.onto hb, fun hn => by obtain ⟨b, off, e, h1, h2⟩ := h.2 hn; exact ⟨b, off, e, h1, h2.onto hb⟩⟩
theorem M.lower {base' : Nat} (h : M w base k A n rows) (hb : base' ≤ base) : M w base' k A n rows :=
 ⟨h.1, fun hn => by obtain ⟨b, off, e, h1, h2⟩ := h.2 hn; exact ⟨b, off, e, by omega, h2⟩⟩
theorem M.nil (w : World) (base k : Nat) (A : Option Addr) : M w base k A 0 [] := ⟨Sl.nil, fun h => absurd h (by omega)⟩
theorem Own.cap_max {E c : Nat} (h : Own w base E k (.slice A n c) n rows) : c ≤ maxLen := by
 obtain ⟨A', c', e, _, h2⟩ := h.slice
 injection e with _ _ e
 omega
theorem Own.m {E c : Nat} (h : Own w base E k (.slice A n c) n rows) : M w base k A n rows :=
 ⟨h.sl, fun hn => by
  obtain ⟨g, cur, rfl, h1, h2, h3, _⟩ := h.open_ hn
  exact ⟨g, 0, rfl, h1, cur, E, h3⟩⟩
theorem Sl.put {B : Nat} (h : Sl w B k (some ⟨b, off, none⟩) n rows) (hr : rows[i]? = some r) (hj : j < r.length) (u : Value) :
    Sl (w.setCell ⟨b, off + i * k + j, none⟩ u) B k (some ⟨b, off, none⟩) n (rows.set i (r.set j u)) := by
 have hi : i < rows.length := (List.getElem?_eq_some_iff.1 hr).1
 have hrk : r.length = k := h.2.1 r (List.mem_of_getElem? hr)
 refine ⟨by simpa using h.1, fun x hx => ?_, fun hn => ?_⟩
 · rcases List.mem_or_eq_of_mem_set hx with hx | rfl
   · exact h.2.1 x hx
   · simpa using hrk
 obtain ⟨b', off', e, hb, hc⟩ := h.2.2 hn
 injection e with e; injection e with e1 e2 _
 subst e1; subst e2
 refine ⟨b, off, rfl, hb, fun i0 j0 x v hx hv => ?_⟩
 rw [List.getElem?_set] at hx
 by_cases e : i = i0
 · subst e
   rw [if_pos rfl, if_pos hi] at hx
   injection hx with hx
   subst hx
   rw [List.getElem?_set] at hv
   by_cases e : j = j0
   · subst e
     rw [if_pos rfl, if_pos hj] at hv
     injection hv with hv
     subst hv
     exact World.cell?_setCell_same w _ _ (hc i j r r[j] hr (List.getElem?_eq_getElem hj))
   · rw [if_neg e] at hv
     rw [World.cell?_setCell_other w _ _ _ (by intro h; injection h with _ h _; omega)]
     exact hc i j0 r v hr hv
 · rw [if_neg e] at hx
   have hxk : x.length = k := h.2.1 x (List.mem_of_getElem? hx)
   have hj0 : j0 < k := by rw [← hxk]; exact (List.getElem?_eq_some_iff.1 hv).1
   rw [World.cell?_setCell_other w _ _ _ (by
    intro h
    injection h with _ h _
    rcases Nat.lt_or_gt_of_ne e with e | e
    · have : (i + 1) * k ≤ i0 * k := Nat.mul_le_mul_right k e
      rw [Nat.add_mul] at this; omega
    · have : (i0 + 1) * k ≤ i * k := Nat.mul_le_mul_right k e
      rw [Nat.add_mul] at this; omega)]
   exact hc i0 j0 x v hx hv
theorem M.put (h : M w base k (some ⟨b, off, none⟩) n rows) (hr : rows[i]? = some r) (hj : j < r.length) (u : Value) :
    M (w.setCell ⟨b, off + i * k + j, none⟩ u) base k (some ⟨b, off, none⟩) n (rows.set i (r.set j u)) :=
 ⟨by have := Sl.put h.1 hr hj u; simpa [S] using this, fun hn => by
  obtain ⟨b', off', e, h1, h2⟩ := h.2 hn
  exact ⟨b', off', e, h1, h2.put _ _⟩⟩
theorem M.putJ {l : List Job} (h : M w base 3 (some ⟨b, off, none⟩) n (l.map encJ)) (hi : i < n) (x : Job) :
    M (((w.setCell ⟨b, off + i * 3, none⟩ (.int .i64 x.id)).setCell ⟨b, off + i * 3 + 1, none⟩ (.int .i64 x.every)).setCell ⟨b, off + i * 3 + 2, none⟩ (.int .i64 x.next)) base 3 (some ⟨b, off, none⟩) n ((l.set i x).map encJ) := by
 have hl : l.length = n := by have := h.1.len; simpa using this
 have hli : (l.map encJ)[i]? = some (encJ l[i]) := by simp [List.getElem?_eq_getElem (show i < l.length by omega)]
 have h1 := h.put (j := 0) hli (by simp [encJ]) (.int .i64 x.id)
 have h2 := h1.put (i := i) (j := 1) (r := (encJ l[i]).set 0 (.int .i64 x.id)) (by rw [List.getElem?_set]; simp; omega) (by simp [encJ]) (.int .i64 x.every)
 have h3 := h2.put (i := i) (j := 2) (r := ((encJ l[i]).set 0 (.int .i64 x.id)).set 1 (.int .i64 x.every)) (by rw [List.getElem?_set]; simp; omega) (by simp [encJ]) (.int .i64 x.next)
 simpa [encJ, List.map_set] using h3
end
/-! ### Only one row has turned -/
section
variable {a w w' : World} {row : Option Nat} {b : Nat}
theorem gb_onto (h : a.grownBy w row) (hb : Onto w w') : a.grownBy w' row :=
 ⟨hb.os.trans h.os, hb.tape.trans h.tape, hb.output.trans h.output, Nat.le_trans h.size hb.size, fun i hi hn => (hb.block i (Nat.lt_of_lt_of_le hi h.size)).trans (h.block i hi hn)⟩
theorem gb_put (h : a.grownBy w (some b)) {p : Addr} (hp : p.block = b) (u : Value) : a.grownBy (w.setCell p u) (some b) :=
 ⟨h.os, h.tape, h.output, by simpa [World.setCell] using h.size, fun i hi hne => (Below.heap_setCell w p u i (by rintro rfl; exact hne (by rw [hp]))).trans (h.block i hi hne)⟩
theorem gb_draws (h : a.grownBy w row) (n : Nat) : a.grownBy (w.drewN n) row := ⟨h.os, h.tape, h.output, h.size, h.block⟩
theorem gb_draw (h : a.grownBy w row) : a.grownBy w.drew row := ⟨h.os, h.tape, h.output, h.size, h.block⟩
theorem gb_trans {c : World} (h : a.grownBy w row) (k : w.grownBy c row) : a.grownBy c row :=
 ⟨k.os.trans h.os, k.tape.trans h.tape, k.output.trans h.output, Nat.le_trans h.size k.size, fun i hi hn => (k.block i (Nat.lt_of_lt_of_le hi h.size) hn).trans (h.block i hi hn)⟩
theorem gb_of (h : Onto a w) (row : Option Nat) : a.grownBy w row := grownBy_of_below h row
theorem M.draw {base k n : Nat} {A : Option Addr} {rows : List (List Value)} (h : M w base k A n rows) : M w.drew base k A n rows := h
theorem M.draws {base k n : Nat} {A : Option Addr} {rows : List (List Value)} (h : M w base k A n rows) (q : Nat) : M (w.drewN q) base k A n rows := h
end
/-! ### Insertion, from the right -/
section
variable {α : Type}
def posR (p : α → Bool) (S : List α) : Nat := S.length - (S.reverse.takeWhile p).length
theorem posR_eq {p : α → Bool} {S : List α} {j : Nat} (hj : j ≤ S.length) (h1 : ∀ y ∈ S.drop j, p y = true) (h2 : ∀ y, 0 < j → S[j - 1]? = some y → p y = false) : posR p S = j := by
 have e : S.reverse = (S.drop j).reverse ++ (S.take j).reverse := by rw [← List.reverse_append, List.take_append_drop]
 have h3 : ((S.take j).reverse).takeWhile p = [] := by
  rcases Nat.eq_zero_or_pos j with rfl | h0
  · simp
  · obtain ⟨y, hy⟩ : ∃ y, S[j - 1]? = some y := ⟨_, List.getElem?_eq_getElem (show j - 1 < S.length by omega)⟩
    have hp := h2 y h0 hy
    have e2 : S.take j = S.take (j - 1) ++ [y] := by
     have := List.take_succ_eq_append_getElem (l := S) (i := j - 1) (by omega)
     rw [show j - 1 + 1 = j by omega] at this
     rw [this]
     have := (List.getElem?_eq_some_iff.1 hy).2
     rw [this]
    rw [e2]
    simp [hp]
 unfold posR
 rw [e, List.takeWhile_append_of_pos (by intro y hy; exact h1 y (List.mem_reverse.1 hy)), h3]
 simp
 omega
def insR (lt : α → α → Bool) (S : List α) (x : α) : List α := S.take (posR (lt x) S) ++ [x] ++ S.drop (posR (lt x) S)
def isort (lt : α → α → Bool) (l : List α) : List α := l.foldl (insR lt) []
theorem insR_length (lt : α → α → Bool) (S : List α) (x : α) : (insR lt S x).length = S.length + 1 := by
 simp [insR]
 omega
theorem isort_snoc (lt : α → α → Bool) (l : List α) (x : α) : isort lt (l ++ [x]) = insR lt (isort lt l) x := by simp [isort]
theorem foldl_insR_length (lt : α → α → Bool) : ∀ (l S : List α), (l.foldl (insR lt) S).length = S.length + l.length
 | [], S => by simp
 | x :: l, S => by
   rw [List.foldl_cons, foldl_insR_length lt l, insR_length]
   simp
   omega
theorem isort_length (lt : α → α → Bool) (l : List α) : (isort lt l).length = l.length := by
 unfold isort
 rw [foldl_insR_length]
 simp
theorem insR_perm (lt : α → α → Bool) (S : List α) (x : α) : (insR lt S x).Perm (x :: S) := by
 unfold insR
 have h := List.perm_middle (a := x) (l₁ := S.take (posR (lt x) S)) (l₂ := S.drop (posR (lt x) S))
 rw [List.take_append_drop] at h
 rw [List.append_assoc]
 exact h
theorem foldl_insR_perm (lt : α → α → Bool) : ∀ (l S : List α), (l.foldl (insR lt) S).Perm (l ++ S)
 | [], S => List.Perm.refl _
 | x :: l, S => by
   rw [List.foldl_cons]
   refine (foldl_insR_perm lt l _).trans ?_
   refine (List.Perm.append_left l (insR_perm lt S x)).trans ?_
   exact List.perm_middle
theorem isort_perm (lt : α → α → Bool) (l : List α) : (isort lt l).Perm l := by simpa [isort] using foldl_insR_perm lt l []
theorem isort_take {lt : α → α → Bool} {l : List α} {i : Nat} {x : α} (hx : l[i]? = some x) : isort lt (l.take (i + 1)) = insR lt (isort lt (l.take i)) x := by
 obtain ⟨hi, rfl⟩ := List.getElem?_eq_some_iff.1 hx
 rw [List.take_succ_eq_append_getElem hi, isort_snoc]
def carried (S : List α) (x : α) (rest : List α) (j : Nat) : List α := S.take j ++ [x] ++ S.drop j ++ rest
theorem carried_at {S : List α} {x : α} {rest : List α} {j : Nat} (hj : j ≤ S.length) : (carried S x rest j)[j]? = some x := by
 have h : (S.take j).length = j := by simp; omega
 simp [carried, List.getElem?_append, h]
theorem carried_below {S : List α} {x y : α} {rest : List α} {j : Nat} (hj : j ≤ S.length) (h0 : 0 < j) (hy : S[j - 1]? = some y) : (carried S x rest j)[j - 1]? = some y := by
 have h : (S.take j).length = j := by simp; omega
 simp only [carried, List.append_assoc]
 rw [List.getElem?_append_left (by omega), List.getElem?_take, if_pos (by omega)]
 exact hy
theorem carried_swap {S : List α} {x y : α} {rest : List α} {j : Nat} (hj : j ≤ S.length) (h0 : 0 < j) (hy : S[j - 1]? = some y) : ((carried S x rest j).set j y).set (j - 1) x = carried S x rest (j - 1) := by
 obtain ⟨j, rfl⟩ : ∃ k, j = k + 1 := ⟨j - 1, by omega⟩
 simp only [Nat.add_sub_cancel] at *
 obtain ⟨hl, rfl⟩ := List.getElem?_eq_some_iff.1 hy
 have h1 : S.take (j + 1) = S.take j ++ [S[j]] := List.take_succ_eq_append_getElem hl
 have h2 : S.drop j = S[j] :: S.drop (j + 1) := List.drop_eq_getElem_cons hl
 have h : (S.take j).length = j := by simp; omega
 unfold carried
 rw [h1, h2]
 simp only [List.append_assoc, List.cons_append, List.nil_append]
 rw [List.set_append_right _ _ (by omega), h, show j + 1 - j = 1 by omega]
 simp only [List.set_cons_succ, List.set_cons_zero]
 rw [List.set_append_right _ _ (by omega), h, Nat.sub_self]
 simp
end
end
section
set_option linter.unusedSimpArgs false
set_option linter.unusedVariables false
open Go.RowKit
theorem put_in {w : World} {b : Nat} {vs : List Value} (hex : ∀ j, j < vs.length → (w.cell? ⟨b, j, none⟩).isSome = true) {j : Nat} {v : Value} (hj : vs[j]? = some v) : (w.setCells b 0 vs).cell? ⟨b, j, none⟩ = some v := by
 obtain ⟨hl, rfl⟩ := List.getElem?_eq_some_iff.1 hj
 have := World.cell?_setCells_in b vs 0 w (fun j hj => by simpa using hex j hj) j hl
 simpa using this
theorem put_out {w : World} {b o : Nat} {vs : List Value} {p : Addr} (hp : p.block ≠ b) : (w.setCells b o vs).cell? p = w.cell? p :=
 World.cell?_setCells_out b vs o w p fun h => absurd h hp
theorem put_onto {w : World} {b : Nat} (hb : w.heap.size ≤ b) : ∀ {vs : List Value} {o : Nat} {w1 : World}, Onto w w1 → Onto w (w1.setCells b o vs)
 | [], _, _, h => h
 | v :: r, o, w1, h => by rw [World.setCells]; exact put_onto hb (h.put hb v)
theorem put_S {w : World} {b k n : Nat} {A : Option Addr} {rows : List (List Value)} (ho : OffN n b A) : ∀ {vs : List Value} {o : Nat} {w : World}, S w k A n rows → S (w.setCells b o vs) k A n rows
 | [], _, _, h => h
 | v :: r, o, w1, h => by rw [World.setCells]; exact put_S (w := w) ho (S.off h ho v)
def There (w : World) (b n : Nat) : Prop := ∀ j, j < n → (w.cell? ⟨b, j, none⟩).isSome = true
theorem There.put {w : World} {b n b' o : Nat} {vs : List Value} (h : There w b n) (hb : b ≠ b') : There (w.setCells b' o vs) b n := fun j hj => by
 rw [put_out (by simpa using hb)]; exact h j hj
theorem there5 {w : World} {b : Nat} {v0 v1 v2 v3 v4 : Value} (h0 : w.cell? ⟨b, 0, none⟩ = some v0) (h1 : w.cell? ⟨b, 1, none⟩ = some v1) (h2 : w.cell? ⟨b, 2, none⟩ = some v2) (h3 : w.cell? ⟨b, 3, none⟩ = some v3) (h4 : w.cell? ⟨b, 4, none⟩ = some v4) : There w b 5 := fun j hj => by
 match j, hj with
 | 0, _ => rw [h0]; rfl
 | 1, _ => rw [h1]; rfl
 | 2, _ => rw [h2]; rfl
 | 3, _ => rw [h3]; rfl
 | 4, _ => rw [h4]; rfl
theorem there12 {w : World} {b : Nat} {v0 v1 v2 v3 v4 v5 v6 v7 v8 v9 v10 v11 : Value} (h0 : w.cell? ⟨b, 0, none⟩ = some v0) (h1 : w.cell? ⟨b, 1, none⟩ = some v1) (h2 : w.cell? ⟨b, 2, none⟩ = some v2) (h3 : w.cell? ⟨b, 3, none⟩ = some v3) (h4 : w.cell? ⟨b, 4, none⟩ = some v4) (h5 : w.cell? ⟨b, 5, none⟩ = some v5) (h6 : w.cell? ⟨b, 6, none⟩ = some v6) (h7 : w.cell? ⟨b, 7, none⟩ = some v7) (h8 : w.cell? ⟨b, 8, none⟩ = some v8) (h9 : w.cell? ⟨b, 9, none⟩ = some v9) (h10 : w.cell? ⟨b, 10, none⟩ = some v10) (h11 : w.cell? ⟨b, 11, none⟩ = some v11) : There w b 12 := fun j hj => by
 match j, hj with
 | 0, _ => rw [h0]; rfl
 | 1, _ => rw [h1]; rfl
 | 2, _ => rw [h2]; rfl
 | 3, _ => rw [h3]; rfl
 | 4, _ => rw [h4]; rfl
 | 5, _ => rw [h5]; rfl
 | 6, _ => rw [h6]; rfl
 | 7, _ => rw [h7]; rfl
 | 8, _ => rw [h8]; rfl
 | 9, _ => rw [h9]; rfl
 | 10, _ => rw [h10]; rfl
 | 11, _ => rw [h11]; rfl
end
section
set_option linter.unusedSimpArgs false
set_option linter.unusedVariables false
open Go.RowKit
structure Bx (w : World) (z : Nat) (vs : List Value) : Prop where
 cells : ∀ j v, vs[j]? = some v → w.cell? ⟨z, j, none⟩ = some v
 unf : Unf w z
section
variable {w w' : World} {z b o : Nat} {vs us : List Value}
theorem Bx.lt (h : Bx w z vs) : z < w.heap.size := h.unf.lt
theorem Bx.at_ (h : Bx w z vs) (j : Nat) {v : Value} (hv : vs[j]? = some v) : w.cell? ⟨z, j, none⟩ = some v := h.cells j v hv
theorem Bx.froz (h : Bx w z vs) (o : Nat) : w.frozen? ⟨z, o, none⟩ = false := h.unf.frozen o
theorem Bx.onto (h : Bx w z vs) (hb : Onto w w') : Bx w' z vs := ⟨fun j v hv => cellB hb (h.cells j v hv), h.unf.onto hb⟩
theorem Bx.draws (h : Bx w z vs) (q : Nat) : Bx (w.drewN q) z vs := h.onto ((Onto.rfl' w).draws q)
theorem Bx.draw (h : Bx w z vs) : Bx w.drew z vs := h.onto ((Onto.rfl' w).draw)
theorem Bx.new (h : Bx w z vs) (o : Obj) : Bx (w.alloc o) z vs := h.onto ((Onto.rfl' w).new o)
theorem Bx.made (w : World) (cs : Array Value) (t : TypeId) : Bx (w.alloc (.cells cs t)) w.heap.size cs.toList :=
 ⟨fun j v hv => by
  rw [cell_of_row _ _ _ _ _ _ (heap_alloc_new w _), ← Array.getElem?_toList]; exact hv, ⟨_, _, heap_alloc_new w _⟩⟩
theorem Bx.is {z : Nat} {cs : Array Value} {t : TypeId} (h : w.heap[z]? = some (.cells cs t)) : Bx w z cs.toList :=
 ⟨fun j v hv => by rw [cell_of_row _ _ _ _ _ _ h, ← Array.getElem?_toList]; exact hv, ⟨_, _, h⟩⟩
theorem Bx.there (h : Bx w z vs) {n : Nat} (hn : n ≤ vs.length) : w.there z 0 n := fun j hj => by
 rw [Nat.zero_add]
 exact ⟨by rw [h.cells j vs[j] (List.getElem?_eq_getElem (by omega))]; rfl, h.froz j⟩
theorem Bx.range (h : Bx w z vs) : w.rangeAt z 0 vs := fun j v hv => by rw [Nat.zero_add]; exact h.cells j v hv
theorem Unf.puts {b' : Nat} : ∀ {us : List Value} {o : Nat} {w : World}, Unf w b → Unf (w.setCells b' o us) b
 | [], _, _, h => h
 | v :: r, o, w, h => by rw [World.setCells]; exact Unf.puts (h.put _ _)
theorem Bx.put (h : Bx w z vs) (hu : us.length = vs.length) : Bx (w.setCells z 0 us) z us :=
 ⟨fun j v hv => put_in (fun j hj => by rw [h.cells j vs[j] (List.getElem?_eq_getElem (by omega))]; rfl) hv, Unf.puts h.unf⟩
theorem Bx.off (h : Bx w z vs) (hb : z ≠ b) : Bx (w.setCells b o us) z vs :=
 ⟨fun j v hv => by rw [put_out (by simpa using hb)]; exact h.cells j v hv, Unf.puts h.unf⟩
theorem Bx.off1 (h : Bx w z vs) {p : Addr} (hb : z ≠ p.block) (u : Value) : Bx (w.setCell p u) z vs :=
 ⟨fun j v hv => by rw [World.cell?_setCell_other w _ _ _ (by intro e; subst e; exact hb rfl)]; exact h.cells j v hv, h.unf.put _ _⟩
theorem Bx.put1 (h : Bx w z vs) {j : Nat} (hj : j < vs.length) (u : Value) : Bx (w.setCell ⟨z, j, none⟩ u) z (vs.set j u) :=
 ⟨fun i v hv => by
  rw [List.getElem?_set] at hv
  by_cases e : j = i
  · subst e
    rw [if_pos rfl, if_pos hj] at hv
    injection hv with hv
    subst hv
    exact World.cell?_setCell_same w _ _ (h.cells j vs[j] (List.getElem?_eq_getElem hj))
  · rw [if_neg e] at hv
    rw [World.cell?_setCell_other w _ _ _ (by intro h; injection h with _ h _; exact e h)]
    exact h.cells i v hv, h.unf.put _ _⟩
theorem Onto.puts {w1 : World} (hb : w.heap.size ≤ b) (h : Onto w w1) : Onto w (w1.setCells b o us) := put_onto hb h
theorem wpList_put {P : Program} {ops : Array Oper} {rest : List Oper} {op : Oper} {a : Act} {Q : Exit → Act → World → Prop} (hB : Bx w z vs) (us : List Value) (ty : TypeId) (x y : Operand) (hgd : op.guard = none) (ho : op.op = .store ty x y)
    (hx : a.eval x = .pointer (some ⟨z, 0, none⟩)) (hy : a.eval y = .agg us.toArray) (hl : us.length = vs.length) (hi : (P.info? ty).map (·.size) = some vs.length) (h1 : us.all (·.oneCell') = true)
    (h : wpList P ops Q rest (a.put op.dst undef) (w.setCells z 0 us)) : wpList P ops Q (op :: rest) a w :=
 wpList_store_mid hgd ty x y ho z 0 us.toArray hx hy (hB.there (by simp; omega)) (by rw [hi]; simp [hl]) (all_oneCell_toArray (List.all_eq_true.1 h1)) h
end
end
section
set_option linter.unusedSimpArgs false
set_option linter.unusedVariables false
open Go.RowKit
def setMany : List Value → Nat → List Value → List Value
 | vs, _, [] => vs
 | vs, o, u :: r => setMany (vs.set o u) (o + 1) r
theorem setMany_length : ∀ (us : List Value) (vs : List Value) (o : Nat), (setMany vs o us).length = vs.length
 | [], _, _ => rfl
 | u :: r, vs, o => by rw [setMany, setMany_length r]; simp
section
variable {w : World} {z b o : Nat} {vs us : List Value}
theorem Bx.putM : ∀ {us vs : List Value} {o : Nat} {w : World}, Bx w z vs → o + us.length ≤ vs.length → Bx (w.setCells z o us) z (setMany vs o us)
 | [], _, _, _, h, _ => h
 | u :: r, vs, o, w, h, hl => by
   rw [World.setCells, setMany]
   simp only [List.length_cons] at hl
   exact Bx.putM (h.put1 (j := o) (by omega) u) (by simp; omega)
theorem Bx.thereM (h : Bx w z vs) {o n : Nat} (hn : o + n ≤ vs.length) : w.there z o n := fun j hj =>
 ⟨by rw [h.cells (o + j) vs[o + j] (List.getElem?_eq_getElem (by omega))]; rfl, h.froz (o + j)⟩
variable {P : Program} {ops : Array Oper} {rest : List Oper} {op : Oper} {a : Act} {K : Act → World → Prop} {Q : Exit → Act → World → Prop} {F : Prop}
theorem wpList_putM (hB : Bx w z vs) (o : Nat) (us : List Value) (ty : TypeId) (x y : Operand) (hgd : op.guard = none) (ho : op.op = .store ty x y)
    (hx : a.eval x = .pointer (some ⟨z, o, none⟩)) (hy : a.eval y = .agg us.toArray) (hl : o + us.length ≤ vs.length) (hi : (P.info? ty).map (·.size) = some us.length) (h1 : us.all (·.oneCell') = true)
    (h : wpList P ops Q rest (a.put op.dst undef) (w.setCells z o us)) : wpList P ops Q (op :: rest) a w :=
 wpList_store_mid hgd ty x y ho z o us.toArray hx hy (hB.thereM (by simpa using hl)) (by rw [hi]; simp) (all_oneCell_toArray (List.all_eq_true.1 h1)) h
end
end
section
set_option linter.unusedSimpArgs false
set_option linter.unusedVariables false
open Go.RowKit
structure Env (w : World) : Prop where
 tab : Lib.TabIs Tryz.prog w "internal/strconv.uint64pow10" .u64 Lib.pow10Tab
 big : ∃ m, w.cell? ⟨0, 0, none⟩ = some (.int .i64 m)
 syn : ∃ t p, w.cell? ⟨1, 0, none⟩ = some (.iface t p)
 rng : ∃ t p, w.cell? ⟨2, 0, none⟩ = some (.iface t p)
section
variable {w w' : World}
theorem Env.onto (h : Env w) (hb : Onto w w') : Env w' :=
 ⟨Lib.tabBelow_of_tabIs h.tab w' hb, let ⟨m, hm⟩ := h.big; ⟨m, cellB hb hm⟩, let ⟨t, p, hm⟩ := h.syn; ⟨t, p, cellB hb hm⟩, let ⟨t, p, hm⟩ := h.rng; ⟨t, p, cellB hb hm⟩⟩
theorem Env.draws (h : Env w) (q : Nat) : Env (w.drewN q) := h.onto ((Onto.rfl' w).draws q)
theorem Env.draw (h : Env w) : Env w.drew := h.onto ((Onto.rfl' w).draw)
theorem Env.new (h : Env w) (o : Obj) : Env (w.alloc o) := h.onto ((Onto.rfl' w).new o)
theorem onto_grow (w : World) (k : Nat) (os : Array Obj) : Onto w (Sort.grow (w.drewN k) os) := Lib.below_grow w.heap.size w (Nat.le_refl _) k os
end
end
section
set_option linter.unusedSimpArgs false
set_option linter.unusedVariables false
structure Rec where
 kind : Int
 at_ : Int
 epoch : Int
 e : Entry
 deriving DecidableEq, Inhabited
structure Uni where
 ep : Int
 cells : List Entry
 deriving DecidableEq, Inhabited
def zeroE : Entry := ⟨0, 0, 0, 0, 0⟩
def blank : Entry := ⟨4, 0, 0, 0, 0⟩
def zeroR : Rec := ⟨0, 0, 0, zeroE⟩
def cellAt (cs : List Entry) (k : Nat) : Entry := (cs[k]?).getD zeroE
theorem cellAt_eq {cs : List Entry} {k : Nat} {x : Entry} (h : cs[k]? = some x) : cellAt cs k = x := by unfold cellAt; rw [h]; rfl
def checkR (r : Rec) : Int :=
 if r.kind = 1 then (if r.at_ < 0 ∨ 60 ≤ r.at_ then 3 else if r.epoch ≠ 0 then 4 else checkE r.e)
 else if r.kind = 2 then (if r.epoch < 1 ∨ 20 < r.epoch then 3 else if r.at_ ≠ 0 ∨ r.e ≠ zeroE then 4 else 0) else 4
def checkCs : List Entry → Int
 | [] => 0
 | c :: l => if c = blank then checkCs l else if checkE c ≠ 0 then checkE c else checkCs l
def checkU (ep : Int) (cs : List Entry) : Int := if ep < 1 ∨ 20 < ep then 3 else if cs.length ≠ 60 then 4 else checkCs cs
def nextU (u : Uni) (r : Rec) : Uni × Int :=
 if checkU u.ep u.cells ≠ 0 then (⟨0, []⟩, checkU u.ep u.cells)
 else if checkR r ≠ 0 then (⟨0, []⟩, checkR r)
 else if r.kind = 2 then (if r.epoch ≤ u.ep then (⟨0, []⟩, 8) else (⟨r.epoch, u.cells⟩, 0))
 else if (cellAt u.cells r.at_.toNat).kind ≠ 4 then (⟨0, []⟩, 6) else (⟨u.ep, u.cells.set r.at_.toNat r.e⟩, 0)
def newU : Uni := ⟨1, List.replicate 60 blank⟩
def tailU (cs : List Entry) : Nat := (cs.reverse.dropWhile (fun c => decide (c.kind = 4))).length
theorem checkCs_at {l : List Entry} {k : Nat} {x : Entry} (hx : l[k]? = some x) : checkCs (l.drop k) = if x = blank then checkCs (l.drop (k + 1)) else if checkE x ≠ 0 then checkE x else checkCs (l.drop (k + 1)) := by
 obtain ⟨hk, rfl⟩ := List.getElem?_eq_some_iff.1 hx
 rw [List.drop_eq_getElem_cons hk]
 rfl
def okC (c : Entry) : Prop := c = blank ∨ checkE c = 0
theorem checkCs_iff {l : List Entry} : checkCs l = 0 ↔ ∀ c ∈ l, okC c := by
 induction l with
 | nil => simp [checkCs]
 | cons c l ih =>
   simp only [checkCs, List.forall_mem_cons]
   by_cases h : c = blank
   · rw [if_pos h, ih]; simp [okC, h]
   · rw [if_neg h]
     by_cases h2 : checkE c = 0
     · rw [if_neg (by simp [h2]), ih]; simp [okC, h2]
     · rw [if_pos h2]; simp [okC, h, h2]
structure GoodU (ep : Int) (cs : List Entry) : Prop where
 e1 : 1 ≤ ep
 e2 : ep ≤ 20
 len : cs.length = 60
 ok : ∀ c ∈ cs, okC c
theorem checkU_iff {ep : Int} {cs : List Entry} : checkU ep cs = 0 ↔ GoodU ep cs := by
 unfold checkU
 constructor
 · intro h
   split at h
   · cases h
   · split at h
     · cases h
     · exact ⟨by omega, by omega, by omega, checkCs_iff.1 h⟩
 · intro h
   have h1 := h.e1; have h2 := h.e2; have h3 := h.len
   rw [if_neg (by omega), if_neg (by omega)]
   exact checkCs_iff.2 h.ok
theorem checkE_kd {e : Entry} (h : checkE e = 0) : 0 ≤ e.kind ∧ e.kind ≤ 3 := by
 unfold checkE at h
 split at h
 · cases h
 · omega
theorem GoodU.new : GoodU 1 newU.cells := ⟨by omega, by omega, by simp [newU], fun c hc => by simp [newU] at hc; exact .inl hc⟩
theorem checkR_write {r : Rec} (h : checkR r = 0) (hk : r.kind ≠ 2) : r.kind = 1 ∧ 0 ≤ r.at_ ∧ r.at_ < 60 ∧ r.epoch = 0 ∧ checkE r.e = 0 := by
 unfold checkR at h
 by_cases h1 : r.kind = 1
 · rw [if_pos h1] at h
   by_cases h2 : r.at_ < 0 ∨ 60 ≤ r.at_
   · rw [if_pos h2] at h; cases h
   · rw [if_neg h2] at h
     by_cases h3 : r.epoch ≠ 0
     · rw [if_pos h3] at h; cases h
     · rw [if_neg h3] at h
       exact ⟨h1, by omega, by omega, by omega, h⟩
 · rw [if_neg h1, if_neg hk] at h
   cases h
theorem checkR_seal {r : Rec} (h : checkR r = 0) (hk : r.kind = 2) : 1 ≤ r.epoch ∧ r.epoch ≤ 20 ∧ r.at_ = 0 ∧ r.e = zeroE := by
 unfold checkR at h
 rw [if_neg (by omega), if_pos hk] at h
 split at h
 · cases h
 · split at h
   · cases h
   · exact ⟨by omega, by omega, by omega, by simp_all⟩
theorem nextU_good {u : Uni} {r : Rec} (h : (nextU u r).2 = 0) : GoodU u.ep u.cells ∧ checkR r = 0 ∧ GoodU (nextU u r).1.ep (nextU u r).1.cells := by
 unfold nextU at h ⊢
 split at h
 · rename_i h1; exact absurd h h1
 · rename_i h1
   have hg := checkU_iff.1 (Decidable.byContradiction h1)
   rw [if_neg h1]
   split at h
   · rename_i h2; exact absurd h h2
   · rename_i h2
     have hr : checkR r = 0 := Decidable.byContradiction h2
     rw [if_neg h2]
     refine ⟨hg, hr, ?_⟩
     split at h
     · rename_i h3
       obtain ⟨e1, e2, _, _⟩ := checkR_seal hr h3
       split at h
       · cases h
       · rename_i h4
         rw [if_pos h3, if_neg h4]
         exact ⟨e1, e2, hg.len, hg.ok⟩
     · rename_i h3
       obtain ⟨_, e1, e2, _, e3⟩ := checkR_write hr h3
       split at h
       · cases h
       · rename_i h4
         rw [if_neg h3, if_neg h4]
         refine ⟨hg.e1, hg.e2, by simp [hg.len], fun c hc => ?_⟩
         rcases List.mem_or_eq_of_mem_set hc with h5 | rfl
         · exact hg.ok c h5
         · exact .inr e3
end
section
set_option linter.unusedSimpArgs false
set_option linter.unusedVariables false
/-! ### A text in pieces, at each c -/
def cutc (c : UInt8) : List UInt8 → List (List UInt8)
 | [] => [[]]
 | b :: l => if b = c then [] :: cutc c l else (b :: (cutc c l).headD []) :: (cutc c l).tail
def joinc (c : UInt8) : List (List UInt8) → List UInt8
 | [] => []
 | [p] => p
 | p :: q :: r => p ++ c :: joinc c (q :: r)
theorem cutc_ne (c : UInt8) (l : List UInt8) : cutc c l ≠ [] := by
 cases l with
 | nil => simp [cutc]
 | cons b l => unfold cutc; split <;> simp
theorem cutc_eta (c : UInt8) (l : List UInt8) : cutc c l = (cutc c l).headD [] :: (cutc c l).tail := by
 have := cutc_ne c l
 cases h : cutc c l with
 | nil => exact absurd h this
 | cons a t => rfl
theorem cutc_self {c : UInt8} : ∀ {p : List UInt8}, c ∉ p → cutc c p = [p]
 | [], _ => rfl
 | b :: p, h => by
   have h1 : b ≠ c := fun e => h (by simp [e])
   have h2 : c ∉ p := fun e => h (by simp [e])
   rw [cutc, if_neg h1, cutc_self h2]; rfl
theorem cutc_append {c : UInt8} {s : List UInt8} : ∀ {p : List UInt8}, c ∉ p → cutc c (p ++ c :: s) = p :: cutc c s
 | [], _ => by simp [cutc]
 | b :: p, h => by
   have h1 : b ≠ c := fun e => h (by simp [e])
   have h2 : c ∉ p := fun e => h (by simp [e])
   rw [List.cons_append, cutc, if_neg h1, cutc_append h2]; rfl
theorem cutc_joinc {c : UInt8} : ∀ {ws : List (List UInt8)}, ws ≠ [] → (∀ w ∈ ws, c ∉ w) → cutc c (joinc c ws) = ws
 | [], h, _ => absurd rfl h
 | [p], _, h => cutc_self (h p (by simp))
 | p :: q :: r, _, h => by
   rw [joinc, cutc_append (h p (by simp)), cutc_joinc (by simp) (fun w hw => h w (by simp at hw ⊢; exact Or.inr hw))]
theorem joinc_cons {c : UInt8} {p : List UInt8} {ps : List (List UInt8)} (h : ps ≠ []) : joinc c (p :: ps) = p ++ c :: joinc c ps := by
 cases ps with
 | nil => exact absurd rfl h
 | cons q r => rfl
theorem joinc_cutc (c : UInt8) : ∀ l : List UInt8, joinc c (cutc c l) = l
 | [] => rfl
 | b :: l => by
   have ih := joinc_cutc c l
   rw [cutc]
   split
   · rename_i h
     rw [joinc_cons (cutc_ne c l), ih, h]; rfl
   · rw [cutc_eta] at ih
     cases ht : (cutc c l).tail with
     | nil => rw [ht] at ih; simp only [joinc] at ih ⊢; rw [ih]
     | cons q r =>
       rw [ht] at ih
       simp only [joinc] at ih ⊢
       rw [List.cons_append, ih]
theorem split_one (c : UInt8) : ∀ s : List UInt8, Lib.split s [c] = cutc c s
 | [] => by unfold Lib.split; rw [Lib.count_one]; rfl
 | b :: l => by
   have ih := split_one c l
   unfold Lib.split at ih ⊢
   rw [cutc]
   by_cases h : b = c
   · subst h
     rw [if_pos rfl, Lib.count_cons_eq, Nat.add_comm 1, Lib.splitK]
     have hix : Lib.index (b :: l) [b] = 0 := by rw [Lib.index]; simp [List.isPrefixOf]
     rw [hix, if_neg (by decide)]
     show _ = [] :: _
     rw [← ih]; rfl
   · rw [if_neg h, Lib.count_cons_ne b c l h, ← ih]
     cases hk : Lib.count l [c] with
     | zero => rfl
     | succ k =>
       have hne : Lib.index l [c] ≠ -1 := fun e => by rw [Lib.count_miss e] at hk; cases hk
       have hge := Lib.index_ge l [c]
       have hp : ([c] : List UInt8).isPrefixOf (b :: l) = false := by simp [List.isPrefixOf, Ne.symm h]
       have hix : Lib.index (b :: l) [c] = Lib.index l [c] + 1 := by rw [Lib.index, hp]; simp [hne]
       rw [Lib.splitK, Lib.splitK, hix, if_neg (by simpa using (by omega : ¬ Lib.index l [c] + 1 = -1)), if_neg (by simpa using hne)]
       obtain ⟨j, hj⟩ : ∃ j : Nat, Lib.index l [c] = j := ⟨(Lib.index l [c]).toNat, by omega⟩
       rw [hj, show (((j : Nat) : Int) + 1).toNat = j + 1 by omega, show ((j : Nat) : Int).toNat = j by omega]
       rfl
/-! ### Whole numbers -/
def num (t : List UInt8) : Option Int :=
 match Lib.atoiAll t with
 | .ok v => if Lib.itoa v = t then some v else none
 | _ => none
theorem num_some {t : List UInt8} {v : Int} (h : num t = some v) : t = Lib.itoa v ∧ -9223372036854775808 ≤ v ∧ v ≤ 9223372036854775807 := by
 unfold num at h
 split at h
 · rename_i u hu
   split at h
   · rename_i e
     injection h with h
     subst h
     exact ⟨e.symm, Lib.atoiAll_bounds hu⟩
   · cases h
 · cases h
theorem toNat_dig {k : Nat} (h : k < 10) : (UInt8.ofNat (48 + k)).toNat = 48 + k := by
 rw [UInt8.toNat_ofNat']; omega
theorem dec_digit : ∀ (u : Nat) (b : UInt8), b ∈ Lib.decDigits u → 48 ≤ b.toNat ∧ b.toNat ≤ 57 := by
 intro u
 induction u using Nat.strongRecOn with
 | _ u ih =>
   intro b hb
   rw [Lib.decDigits] at hb
   split at hb
   · rename_i h
     rw [List.mem_singleton.1 hb, toNat_dig h]
     omega
   · rename_i h
     rcases List.mem_append.1 hb with hb | hb
     · exact ih (u / 10) (by omega) b hb
     · rw [List.mem_singleton.1 hb, toNat_dig (by omega)]
       omega
theorem dec_ne (u : Nat) : Lib.decDigits u ≠ [] := by
 rw [Lib.decDigits]; split <;> simp
theorem parse_append : ∀ (l r : List UInt8) (acc a : Nat), Lib.parseUint10 acc l = .ok a → Lib.parseUint10 acc (l ++ r) = Lib.parseUint10 a r
 | [], r, acc, a, h => by simp only [Lib.parseUint10] at h; injection h with h; rw [h]; rfl
 | c :: l, r, acc, a, h => by
   simp only [Lib.parseUint10, List.cons_append] at h ⊢
   split at h
   · rename_i h1
     rw [if_pos h1]
     split at h
     · cases h
     · rename_i h2
       rw [if_neg h2]
       split at h
       · cases h
       · rename_i h3
         rw [if_neg h3]
         exact parse_append l r _ a h
   · cases h
theorem parse_dec : ∀ (u : Nat), u < 9223372036854775808 → Lib.parseUint10 0 (Lib.decDigits u) = .ok u := by
 intro u
 induction u using Nat.strongRecOn with
 | _ u ih =>
   intro hu
   rw [Lib.decDigits]
   split
   · rename_i h
     have e : (UInt8.ofNat (48 + u)).toNat = 48 + u := toNat_dig h
     simp only [Lib.parseUint10, e]
     rw [if_pos (by omega), if_neg (by omega), if_neg (by omega)]
     congr 1; omega
   · rename_i h
     rw [parse_append _ _ _ _ (ih (u / 10) (by omega) (by omega))]
     have e : (UInt8.ofNat (48 + u % 10)).toNat = 48 + u % 10 := toNat_dig (by omega)
     simp only [Lib.parseUint10, e]
     rw [if_pos (by omega), if_neg (by omega), if_neg (by omega)]
     congr 1; omega
theorem itoa_dec {n : Int} (h : 0 ≤ n) : Lib.itoa n = Lib.decDigits n.toNat := by unfold Lib.itoa; rw [if_neg (by omega)]
theorem itoa_digit {n : Int} (h : 0 ≤ n) {b : UInt8} (hb : b ∈ Lib.itoa n) : 48 ≤ b.toNat ∧ b.toNat ≤ 57 := by
 rw [itoa_dec h] at hb; exact dec_digit _ b hb
theorem itoa_ne {n : Int} (h : 0 ≤ n) : Lib.itoa n ≠ [] := by rw [itoa_dec h]; exact dec_ne _
theorem itoa_no {n : Int} (h : 0 ≤ n) {c : UInt8} (hc : c.toNat < 48 ∨ 57 < c.toNat) : c ∉ Lib.itoa n := fun hb => by
 have := itoa_digit h hb; omega
theorem num_itoa {n : Int} (h : 0 ≤ n) (h2 : n < 9223372036854775808) : num (Lib.itoa n) = some n := by
 have e : Lib.atoiAll (Lib.itoa n) = .ok n := by
  have hd := itoa_dec h
  cases hl : Lib.itoa n with
  | nil => exact absurd hl (itoa_ne h)
  | cons c r =>
    have hc := itoa_digit h (b := c) (by rw [hl]; simp)
    rw [Lib.atoiAll_plain c r (by omega) (by omega), ← hl, hd]
    have hp : Lib.parseMag (Lib.decDigits n.toNat) = .ok n.toNat := by
     unfold Lib.parseMag
     rw [if_neg (dec_ne _), parse_dec _ (by omega)]
    rw [hp]
    unfold Lib.signless
    simp only
    rw [if_neg (by omega)]
    congr 1; omega
 unfold num
 rw [e]
 simp
/-! ### Entries -/
def junkW : List UInt8 := [106, 117, 110, 107]
def putW : List UInt8 := [112, 117, 116]
def dropW : List UInt8 := [100, 114, 111, 112]
def ringW : List UInt8 := [114, 105, 110, 103]
def numsE (x : Entry) : List Int := if x.kind = 1 then [x.job, x.every, x.time] else if x.kind = 2 then [x.job] else if x.kind = 3 then [x.job, x.time, x.client] else []
def headE (x : Entry) : List UInt8 := if x.kind = 1 then putW else if x.kind = 2 then dropW else if x.kind = 3 then ringW else junkW
def tailB (l : List Int) : List UInt8 := (l.map fun n => 32 :: Lib.itoa n).flatten
def textE (x : Entry) : List UInt8 := headE x ++ tailB (numsE x)
def printE (x : Entry) : List UInt8 × Int := if checkE x ≠ 0 then ([], checkE x) else (textE x, 0)
def kindW (w : List UInt8) : Option (Int × Nat) := if w = junkW then some (0, 0) else if w = putW then some (1, 3) else if w = dropW then some (2, 1) else if w = ringW then some (3, 3) else none
def numsL : List (List UInt8) → Option (List Int)
 | [] => some []
 | t :: l => match num t with
   | some v => (match numsL l with
     | some r => some (v :: r)
     | none => none)
   | none => none
def entE (k : Int) (l : List Int) : Entry := ⟨k, l.getD 0 0, if k = 1 then l.getD 1 0 else 0, if k = 1 then l.getD 2 0 else if k = 3 then l.getD 1 0 else 0, if k = 3 then l.getD 2 0 else 0⟩
def readWs (ws : List (List UInt8)) : Entry × Int :=
 match kindW (ws.headD []) with
 | none => (zeroE, 1)
 | some (k, many) =>
   if ws.tail.length ≠ many then (zeroE, 1) else
   match numsL ws.tail with
   | none => (zeroE, 1)
   | some l => if checkE (entE k l) ≠ 0 then (zeroE, checkE (entE k l)) else (entE k l, 0)
def parseE (s : List UInt8) : Entry × Int := if 30000 < s.length then (zeroE, 2) else readWs (cutc 32 s)
theorem numsL_some : ∀ {ts : List (List UInt8)} {l : List Int}, numsL ts = some l → ts = l.map Lib.itoa
 | [], l, h => by simp [numsL] at h; simp [← h]
 | t :: ts, l, h => by
   simp only [numsL] at h
   cases hn : num t with
   | none => rw [hn] at h; cases h
   | some v =>
     rw [hn] at h
     cases hr : numsL ts with
     | none => rw [hr] at h; cases h
     | some r =>
       rw [hr] at h
       injection h with h
       subst h
       rw [List.map_cons, ← numsL_some hr, ← (num_some hn).1]
theorem numsL_itoa : ∀ {l : List Int}, (∀ n ∈ l, 0 ≤ n ∧ n < 9223372036854775808) → numsL (l.map Lib.itoa) = some l
 | [], _ => rfl
 | n :: l, h => by
   rw [List.map_cons, numsL, num_itoa (h n (by simp)).1 (h n (by simp)).2, numsL_itoa (fun m hm => h m (by simp [hm]))]
theorem tailB_join (w : List UInt8) : ∀ l : List Int, w ++ tailB l = joinc 32 (w :: l.map Lib.itoa)
 | [] => by simp [tailB, joinc]
 | n :: l => by
   have := tailB_join (Lib.itoa n) l
   rw [List.map_cons, joinc, ← this]
   simp [tailB]
theorem numsE_bounds {x : Entry} (h : checkE x = 0) : ∀ n ∈ numsE x, 0 ≤ n ∧ n < 9223372036854775808 := by
 intro n hn
 unfold checkE at h
 split at h
 · cases h
 · split at h
   · cases h
   · rename_i h2
     unfold numsE at hn
     (repeat' split at hn) <;> simp at hn <;> omega
theorem tailB_len (l : List Int) (h : ∀ n ∈ l, -9223372036854775808 ≤ n ∧ n ≤ 9223372036854775807) : (tailB l).length ≤ 22 * l.length := by
 induction l with
 | nil => simp [tailB]
 | cons n l ih =>
   have h1 := Lib.itoa_length_le n (h n (by simp)).1 (h n (by simp)).2
   have h2 := ih (fun m hm => h m (by simp [hm]))
   unfold tailB at h2 ⊢
   simp only [List.map_cons, List.flatten_cons, List.length_append, List.length_cons]
   omega
theorem textE_len {x : Entry} (h : checkE x = 0) : (textE x).length ≤ 70 := by
 have h1 := tailB_len (numsE x) (fun n hn => by have := numsE_bounds h n hn; omega)
 have h2 : (headE x).length ≤ 4 := by unfold headE; (repeat' split) <;> decide
 have h3 : (numsE x).length ≤ 3 := by unfold numsE; (repeat' split) <;> simp
 unfold textE
 rw [List.length_append]; omega
theorem headE_no (x : Entry) {c : UInt8} (h : c ∈ headE x) : 100 ≤ c.toNat := by
 unfold headE at h
 have a1 : ∀ c ∈ putW, 100 ≤ c.toNat := by decide
 have a2 : ∀ c ∈ dropW, 100 ≤ c.toNat := by decide
 have a3 : ∀ c ∈ ringW, 100 ≤ c.toNat := by decide
 have a4 : ∀ c ∈ junkW, 100 ≤ c.toNat := by decide
 (repeat' split at h) <;> first | exact a1 c h | exact a2 c h | exact a3 c h | exact a4 c h
theorem cut_textE {x : Entry} (h : checkE x = 0) : cutc 32 (textE x) = headE x :: (numsE x).map Lib.itoa := by
 unfold textE
 rw [tailB_join, cutc_joinc (by simp)]
 intro w hw
 rcases List.mem_cons.1 hw with rfl | hw
 · exact fun hc => by have := headE_no x hc; simp at this
 · obtain ⟨n, hn, rfl⟩ := List.mem_map.1 hw
   exact itoa_no (numsE_bounds h n hn).1 (by decide)
theorem read_textE {x : Entry} (h : checkE x = 0) : readWs (cutc 32 (textE x)) = (x, 0) := by
 rw [cut_textE h]
 have hb := numsL_itoa (numsE_bounds h)
 obtain ⟨k, j, v, t, c⟩ := x
 have hk : k = 0 ∨ k = 1 ∨ k = 2 ∨ k = 3 := by
  unfold checkE at h
  split at h
  · cases h
  · simp at *; omega
 have key : entE k (numsE ⟨k, j, v, t, c⟩) = ⟨k, j, v, t, c⟩ := by
  unfold checkE at h
  dsimp only at h
  rcases hk with rfl | rfl | rfl | rfl <;> simp [entE, numsE] <;> simp at h <;> omega
 unfold readWs
 simp only [List.headD_cons, List.tail_cons, List.length_map]
 rcases hk with rfl | rfl | rfl | rfl
 all_goals
  rw [show kindW _ = some _ from rfl]
  simp only
  rw [if_neg (by simp [numsE]), hb]
  simp only
  rw [key, if_neg (by simp [h])]
theorem readWs_ok {s : List UInt8} {z : Entry} (h : readWs (cutc 32 s) = (z, 0)) : checkE z = 0 ∧ textE z = s := by
 unfold readWs at h
 cases hk : kindW ((cutc 32 s).headD []) with
 | none => rw [hk] at h; simp at h
 | some km =>
   obtain ⟨k, many⟩ := km
   rw [hk] at h
   simp only at h
   by_cases hm : (cutc 32 s).tail.length ≠ many
   · rw [if_pos hm] at h; simp at h
   · rw [if_neg hm] at h
     have hm := Decidable.not_not.1 hm
     cases hn : numsL (cutc 32 s).tail with
     | none => rw [hn] at h; simp at h
     | some l =>
       rw [hn] at h
       simp only at h
       by_cases hc : checkE (entE k l) ≠ 0
       · rw [if_pos hc] at h
         simp only [Prod.mk.injEq] at h
         exact absurd h.2 hc
       · rw [if_neg hc] at h
         simp only [Prod.mk.injEq] at h
         have hc := Decidable.not_not.1 hc
         obtain ⟨rfl, _⟩ := h
         refine ⟨hc, ?_⟩
         have ht := numsL_some hn
         have hs : s = joinc 32 ((cutc 32 s).headD [] :: l.map Lib.itoa) := by rw [← ht, ← cutc_eta, joinc_cutc]
         rw [← tailB_join] at hs
         rw [ht, List.length_map] at hm
         unfold kindW at hk
         split at hk
         · rename_i e; injection hk with hk; simp only [Prod.mk.injEq] at hk; obtain ⟨rfl, rfl⟩ := hk
           rw [e] at hs; rw [hs]
           match l, hm with
           | [], _ => rfl
         · split at hk
           · rename_i e; injection hk with hk; simp only [Prod.mk.injEq] at hk; obtain ⟨rfl, rfl⟩ := hk
             rw [e] at hs; rw [hs]
             match l, hm with
             | [a, b, c], _ => rfl
           · split at hk
             · rename_i e; injection hk with hk; simp only [Prod.mk.injEq] at hk; obtain ⟨rfl, rfl⟩ := hk
               rw [e] at hs; rw [hs]
               match l, hm with
               | [a], _ => rfl
             · split at hk
               · rename_i e; injection hk with hk; simp only [Prod.mk.injEq] at hk; obtain ⟨rfl, rfl⟩ := hk
                 rw [e] at hs; rw [hs]
                 match l, hm with
                 | [a, b, c], _ => rfl
               · cases hk
end
section
set_option linter.unusedSimpArgs false
set_option linter.unusedVariables false
/-! ### Records -/
def sealW : List UInt8 := [115, 101, 97, 108, 32]
def colonW : List UInt8 := [58, 32]
def textR (r : Rec) : List UInt8 := if r.kind = 2 then sealW ++ Lib.itoa r.epoch else Lib.itoa r.at_ ++ colonW ++ textE r.e
def printR (r : Rec) : List UInt8 × Int := if checkR r ≠ 0 then ([], checkR r) else (textR r, 0)
def finR (r : Rec) : Rec × Int := if checkR r ≠ 0 then (zeroR, checkR r) else (r, 0)
def readR (s : List UInt8) : Rec × Int :=
 if sealW.isPrefixOf s then
  match num (s.drop 5) with
  | none => (zeroR, 1)
  | some n => finR ⟨2, 0, n, zeroE⟩
 else if (Lib.cut s colonW).2.2 = false then (zeroR, 1) else
  match num (Lib.cut s colonW).1 with
  | none => (zeroR, 1)
  | some n => if (readWs (cutc 32 (Lib.cut s colonW).2.1)).2 ≠ 0 then (zeroR, (readWs (cutc 32 (Lib.cut s colonW).2.1)).2) else finR ⟨1, n, 0, (readWs (cutc 32 (Lib.cut s colonW).2.1)).1⟩
def parseR (s : List UInt8) : Rec × Int := if 30000 < s.length then (zeroR, 2) else readR s
theorem cut_app : ∀ {a : List UInt8} (b : List UInt8), 58 ∉ a → Lib.index (a ++ 58 :: 32 :: b) colonW = (a.length : Int)
 | [], b, _ => by rw [List.nil_append, Lib.index]; rfl
 | c :: a, b, h => by
   have h1 : c ≠ 58 := fun e => h (by simp [e])
   have h2 : (58 : UInt8) ∉ a := fun e => h (by simp [e])
   rw [List.cons_append, Lib.index, cut_app b h2]
   have hp : colonW.isPrefixOf (c :: (a ++ 58 :: 32 :: b)) = false := by simp [colonW, List.isPrefixOf, Ne.symm h1]
   rw [hp]
   simp only [Bool.false_eq_true, if_false, List.length_cons]
   have : ((a.length : Int) == -1) = false := by rw [beq_eq_false_iff_ne]; omega
   rw [this]
   simp
theorem cut_colon {a : List UInt8} (b : List UInt8) (h : 58 ∉ a) : Lib.cut (a ++ colonW ++ b) colonW = (a, b, true) := by
 have e : a ++ colonW ++ b = a ++ 58 :: 32 :: b := by simp [colonW]
 rw [e]
 unfold Lib.cut
 rw [cut_app b h, if_pos (by omega)]
 simp [colonW, List.take_append, List.drop_append]
theorem cut_true {s sep : List UInt8} (h : (Lib.cut s sep).2.2 = true) : s = (Lib.cut s sep).1 ++ sep ++ (Lib.cut s sep).2.1 := by
 unfold Lib.cut at h ⊢
 split
 · rename_i hi
   rcases Lib.index_spec s sep with ⟨h1, _⟩ | ⟨i, h1, h2, h3, _⟩
   · omega
   · simp only [h1, show ((i : Nat) : Int).toNat = i by omega]
     unfold Lib.occAt at h3
     obtain ⟨r, hr⟩ := List.isPrefixOf_iff_prefix.1 h3
     have : s.drop (i + sep.length) = r := by
      rw [← List.drop_drop, ← hr]; simp
     rw [this, List.append_assoc, hr, List.take_append_drop]
 · rename_i hi
   rw [if_neg hi] at h
   cases h
theorem cR_write {r : Rec} (h : checkR r = 0) (hk : r.kind ≠ 2) : r.kind = 1 ∧ 0 ≤ r.at_ ∧ r.at_ < 60 ∧ r.epoch = 0 ∧ checkE r.e = 0 := by
 unfold checkR at h
 by_cases h1 : r.kind = 1
 · rw [if_pos h1] at h
   split at h
   · cases h
   · split at h
     · cases h
     · rename_i a b
       exact ⟨h1, by omega, by omega, by omega, h⟩
 · rw [if_neg h1, if_neg hk] at h; cases h
theorem cR_seal {r : Rec} (h : checkR r = 0) (hk : r.kind = 2) : 1 ≤ r.epoch ∧ r.epoch ≤ 20 ∧ r.at_ = 0 ∧ r.e = zeroE := by
 unfold checkR at h
 rw [if_neg (by omega), if_pos hk] at h
 split at h
 · cases h
 · split at h
   · cases h
   · rename_i a b
     exact ⟨by omega, by omega, by omega, Decidable.not_not.1 fun e => b (Or.inr e)⟩
theorem textR_len {r : Rec} (h : checkR r = 0) : (textR r).length ≤ 100 := by
 unfold textR
 split
 · rename_i hk
   obtain ⟨h1, h2, _⟩ := cR_seal h hk
   have := Lib.itoa_length_le r.epoch (by omega) (by omega)
   rw [List.length_append, show sealW.length = 5 from rfl]; omega
 · rename_i hk
   obtain ⟨_, h1, h2, _, h3⟩ := cR_write h hk
   have := Lib.itoa_length_le r.at_ (by omega) (by omega)
   have := textE_len h3
   simp only [List.length_append, show colonW.length = 2 from rfl]; omega
theorem seal_no {n : Int} (h : 0 ≤ n) (b : List UInt8) : sealW.isPrefixOf (Lib.itoa n ++ b) = false := by
 cases hl : Lib.itoa n with
 | nil => exact absurd hl (itoa_ne h)
 | cons c r =>
   have hc := itoa_digit h (b := c) (by rw [hl]; simp)
   have : (115 : UInt8) ≠ c := fun e => by subst e; simp at hc
   simp [sealW, List.isPrefixOf, this]
theorem read_textR {r : Rec} (h : checkR r = 0) : readR (textR r) = (r, 0) := by
 obtain ⟨k, p, ep, e⟩ := r
 unfold textR
 by_cases hk : k = 2
 · obtain ⟨h1, h2, h3, h4⟩ := cR_seal h hk
   dsimp only at h1 h2 h3 h4
   subst hk h3 h4
   rw [if_pos rfl]
   unfold readR
   rw [if_pos (by simp [sealW, List.isPrefixOf])]
   rw [show (sealW ++ Lib.itoa ep).drop 5 = Lib.itoa ep from rfl, num_itoa (by omega) (by omega)]
   simp only
   unfold finR
   rw [if_neg (by simp [h])]
 · obtain ⟨h0, h1, h2, h3, h4⟩ := cR_write h hk
   dsimp only at h0 h1 h2 h3 h4
   subst h0 h3
   rw [if_neg (by simp)]
   unfold readR
   rw [List.append_assoc, if_neg (by rw [seal_no h1]; simp), ← List.append_assoc]
   rw [cut_colon _ (itoa_no h1 (by decide))]
   simp only [num_itoa h1 (by omega), read_textE h4]
   unfold finR
   rw [if_neg (by simp), if_neg (by simp), if_neg (by simp [h])]
theorem parse_textR {r : Rec} (h : checkR r = 0) : parseR (textR r) = (r, 0) := by
 have := textR_len h
 unfold parseR
 rw [if_neg (by omega), read_textR h]
theorem finR_ok {r z : Rec} (h : finR r = (z, 0)) : checkR z = 0 ∧ r = z := by
 unfold finR at h
 split at h
 · rename_i hc
   simp only [Prod.mk.injEq] at h
   exact absurd h.2 hc
 · rename_i hc
   simp only [Prod.mk.injEq] at h
   exact ⟨h.1 ▸ Decidable.not_not.1 hc, h.1⟩
theorem readR_ok {s : List UInt8} {z : Rec} (h : readR s = (z, 0)) : checkR z = 0 ∧ textR z = s := by
 unfold readR at h
 split at h
 · rename_i hp
   obtain ⟨t, rfl⟩ := List.isPrefixOf_iff_prefix.1 hp
   rw [show (sealW ++ t).drop 5 = t from rfl] at h
   cases hn : num t with
   | none => rw [hn] at h; simp at h
   | some n =>
     rw [hn] at h
     obtain ⟨h1, rfl⟩ := finR_ok h
     exact ⟨h1, by unfold textR; rw [if_pos rfl, ← (num_some hn).1]⟩
 · split at h
   · simp at h
   · rename_i hc
     have hc : (Lib.cut s colonW).2.2 = true := by simpa using hc
     have hs := cut_true hc
     cases hn : num (Lib.cut s colonW).1 with
     | none => rw [hn] at h; simp at h
     | some n =>
       rw [hn] at h
       simp only at h
       split at h
       · rename_i hb
         simp only [Prod.mk.injEq] at h
         exact absurd h.2 hb
       · rename_i hb
         have hb := Decidable.not_not.1 hb
         obtain ⟨h1, rfl⟩ := finR_ok h
         refine ⟨h1, ?_⟩
         have he := readWs_ok (s := (Lib.cut s colonW).2.1) (z := (readWs (cutc 32 (Lib.cut s colonW).2.1)).1) (by rw [← hb])
         unfold textR
         rw [if_neg (by simp)]
         simp only
         rw [he.2, ← (num_some hn).1]
         exact hs.symm
theorem parseR_ok {s : List UInt8} {z : Rec} (h : parseR s = (z, 0)) : checkR z = 0 ∧ textR z = s := by
 unfold parseR at h
 split at h
 · simp at h
 · exact readR_ok h
end
section
set_option linter.unusedSimpArgs false
set_option linter.unusedVariables false
section
variable {α : Type}
def linesP (p : List UInt8 → α × Int) (most : Nat) (acc : List α) (n : Nat) : List (List UInt8) → List α × Nat × Int
 | [] => (acc, n, 0)
 | [t] => (acc, n, if t = [] then 0 else 9)
 | t :: u :: r => if (p t).2 ≠ 0 then (acc, n, (p t).2) else if most ≤ acc.length then (acc, n, 2) else linesP p most (acc ++ [(p t).1]) (n + t.length + 1) (u :: r)
theorem linesP_cons {p : List UInt8 → α × Int} {most : Nat} {acc : List α} {n : Nat} {t : List UInt8} {r : List (List UInt8)} (h : r ≠ []) :
    linesP p most acc n (t :: r) = if (p t).2 ≠ 0 then (acc, n, (p t).2) else if most ≤ acc.length then (acc, n, 2) else linesP p most (acc ++ [(p t).1]) (n + t.length + 1) r := by
 cases r with
 | nil => exact absurd rfl h
 | cons u r => rfl
theorem linesP_one {p : List UInt8 → α × Int} {most : Nat} {acc : List α} {n : Nat} {t : List UInt8} : linesP p most acc n [t] = (acc, n, if t = [] then 0 else 9) := rfl
def textP (text : α → List UInt8) (l : List α) : List UInt8 := (l.map fun x => text x ++ [10]).flatten
theorem textP_cons (text : α → List UInt8) (x : α) (l : List α) : textP text (x :: l) = text x ++ 10 :: textP text l := by simp [textP]
theorem textP_append (text : α → List UInt8) (l m : List α) : textP text (l ++ m) = textP text l ++ textP text m := by simp [textP]
theorem cut_textP {text : α → List UInt8} (s : List UInt8) : ∀ {l : List α}, (∀ x ∈ l, 10 ∉ text x) → cutc 10 (textP text l ++ s) = l.map text ++ cutc 10 s
 | [], _ => rfl
 | x :: l, h => by
   rw [textP_cons, List.append_assoc, List.cons_append, cutc_append (h x (by simp)), cut_textP s (fun y hy => h y (by simp [hy]))]; rfl
theorem linesP_text {p : List UInt8 → α × Int} {text : α → List UInt8} {most : Nat} {r : List (List UInt8)} (hr : r ≠ []) : ∀ {l : List α} {acc : List α} {n : Nat}, (∀ x ∈ l, p (text x) = (x, 0)) → acc.length + l.length ≤ most →
    linesP p most acc n (l.map text ++ r) = linesP p most (acc ++ l) (n + (textP text l).length) r
 | [], acc, n, _, _ => by simp [textP]
 | x :: l, acc, n, h, hm => by
   simp only [List.length_cons] at hm
   rw [List.map_cons, List.cons_append, linesP_cons (by simp [hr]), h x (by simp), if_neg (by simp), if_neg (by omega)]
   rw [linesP_text hr (fun y hy => h y (by simp [hy])) (by simp; omega), textP_cons]
   simp only [List.length_append, List.length_cons, List.append_assoc, List.singleton_append, List.cons_append, List.nil_append]
   congr 1
   omega
theorem linesP_read {p : List UInt8 → α × Int} {text : α → List UInt8} {ok : α → Prop} {most : Nat} (hp : ∀ t x, p t = (x, 0) → ok x ∧ text x = t) : ∀ {r : List (List UInt8)} {acc l : List α} {n m : Nat} {e : Int}, r ≠ [] → linesP p most acc n r = (l, m, e) → acc.length ≤ most →
    ∃ l' s, l = acc ++ l' ∧ l.length ≤ most ∧ (∀ x ∈ l', ok x) ∧ m = n + (textP text l').length ∧ joinc 10 r = textP text l' ++ s ∧ (e = 0 → s = [])
 | [], acc, l, n, m, e, hr, _, _ => absurd rfl hr
 | [t], acc, l, n, m, e, _, h, hm => by
   simp only [linesP, Prod.mk.injEq] at h
   obtain ⟨rfl, rfl, h⟩ := h
   refine ⟨[], t, by simp, hm, by simp, by simp [textP], by simp [textP, joinc], fun he => ?_⟩
   subst he
   split at h
   · assumption
   · cases h
 | t :: u :: r, acc, l, n, m, e, _, h, hm => by
   rw [linesP_cons (by simp)] at h
   split at h
   · rename_i hb
     simp only [Prod.mk.injEq] at h
     obtain ⟨rfl, rfl, h⟩ := h
     exact ⟨[], joinc 10 (t :: u :: r), by simp, hm, by simp, by simp [textP], by simp [textP], fun he => absurd (h.trans he) hb⟩
   · rename_i hb
     have hb := Decidable.not_not.1 hb
     split at h
     · simp only [Prod.mk.injEq] at h
       obtain ⟨rfl, rfl, h⟩ := h
       exact ⟨[], joinc 10 (t :: u :: r), by simp, hm, by simp, by simp [textP], by simp [textP], fun he => by rw [he] at h; cases h⟩
     · obtain ⟨l', s, h1, h2, h3, h4, h5, h6⟩ := linesP_read hp (by simp) h (by simp; omega)
       obtain ⟨hx, ht⟩ := hp t (p t).1 (by rw [← hb])
       refine ⟨(p t).1 :: l', s, by rw [h1]; simp, h2, ?_, ?_, ?_, h6⟩
       · intro y hy
         rcases List.mem_cons.1 hy with rfl | hy
         · exact hx
         · exact h3 y hy
       · rw [h4, textP_cons, ht, List.length_append, List.length_cons]; omega
       · rw [joinc_cons (by simp), h5, textP_cons, ht]; simp
theorem textP_part {text : α → List UInt8} : ∀ {l : List α} {k : Nat}, (∀ x ∈ l, 10 ∉ text x) → k ≤ (textP text l).length →
    ∃ j s, j ≤ l.length ∧ cutc 10 ((textP text l).take k) = (l.take j).map text ++ [s] ∧ (textP text (l.take j)) ++ s = (textP text l).take k ∧ 10 ∉ s
 | [], k, _, _ => ⟨0, [], by simp, by simp [textP, cutc], by simp [textP], by simp⟩
 | x :: l, k, h, hk => by
   rw [textP_cons] at hk ⊢
   have hx := h x (by simp)
   by_cases hlt : k ≤ (text x).length
   · refine ⟨0, (text x).take k, by simp, ?_, ?_, fun hc => hx (List.mem_of_mem_take hc)⟩
     · rw [List.take_append_of_le_length hlt, cutc_self (fun hc => hx (List.mem_of_mem_take hc))]; rfl
     · rw [List.take_append_of_le_length hlt]; simp [textP]
   · obtain ⟨d, rfl⟩ : ∃ d, k = (text x).length + (d + 1) := ⟨k - (text x).length - 1, by omega⟩
     have hd : d ≤ (textP text l).length := by simp only [List.length_append, List.length_cons] at hk; omega
     obtain ⟨j, s, h1, h2, h3, h4⟩ := textP_part (fun y hy => h y (by simp [hy])) hd
     refine ⟨j + 1, s, by simp; omega, ?_, ?_, h4⟩
     · rw [List.take_length_add_append, List.take_succ_cons, cutc_append hx, h2]; rfl
     · rw [List.take_length_add_append, List.take_succ_cons, List.take_succ_cons, textP_cons, List.append_assoc, List.cons_append, h3]
end
/-! ### A ledger -/
theorem textE_no {x : Entry} (h : checkE x = 0) : (10 : UInt8) ∉ textE x := by
 unfold textE tailB
 intro hc
 rcases List.mem_append.1 hc with hc | hc
 · have := headE_no x hc; simp at this
 · obtain ⟨b, hb, hc⟩ := List.mem_flatten.1 hc
   obtain ⟨n, hn, rfl⟩ := List.mem_map.1 hb
   rcases List.mem_cons.1 hc with hc | hc
   · simp at hc
   · exact itoa_no (numsE_bounds h n hn).1 (by decide) hc
theorem textR_no {x : Rec} (h : checkR x = 0) : (10 : UInt8) ∉ textR x := by
 unfold textR
 split
 · rename_i hk
   have := cR_seal h hk
   intro hc
   rcases List.mem_append.1 hc with hc | hc
   · simp [sealW] at hc
   · exact itoa_no (by omega) (by decide) hc
 · rename_i hk
   have := cR_write h hk
   intro hc
   rcases List.mem_append.1 hc with hc | hc
   · rcases List.mem_append.1 hc with hc | hc
     · exact itoa_no (by omega) (by decide) hc
     · simp [colonW] at hc
   · exact textE_no this.2.2.2.2 hc
theorem textRs_len {l : List Rec} (h : ∀ x ∈ l, checkR x = 0) : (textP textR l).length ≤ 101 * l.length := by
 induction l with
 | nil => simp [textP]
 | cons x l ih =>
   have := ih (fun y hy => h y (by simp [hy]))
   have := textR_len (h x (by simp))
   rw [textP_cons, List.length_append, List.length_cons, List.length_cons]; omega
end
section
set_option linter.unusedSimpArgs false
set_option linter.unusedVariables false
open Go.RowKit
abbrev str (l : List UInt8) : Value := .string ⟨l.toArray⟩
def encS (l : List UInt8) : List Value := [str l]
theorem str_of (s : ByteArray) : s = ⟨s.data.toList.toArray⟩ := by cases s; simp
theorem str_size (l : List UInt8) : (⟨l.toArray⟩ : ByteArray).size = l.length := rfl
theorem Itoa_calls (n : Int) (h0 : -9223372036854775808 ≤ n) (h1 : n ≤ 9223372036854775807) (w : World) (E : Env w) :
    Calls Tryz.prog 139 #[.int .i64 n] w fun e w' => e = .returned (str (Lib.itoa n)) ∧ Onto w w' :=
 (Any.strconv_Itoa Tryz.laysM171 n h0 h1 w E.tab).mono fun e w' ⟨he, k, os, hw⟩ => ⟨he, hw ▸ onto_grow w k os⟩
theorem num_case (t : List UInt8) : (∃ v, Lib.atoiAll t = .ok v ∧ num t = (if Lib.itoa v = t then some v else none) ∧ -9223372036854775808 ≤ v ∧ v ≤ 9223372036854775807) ∨ ((∀ v, Lib.atoiAll t ≠ .ok v) ∧ num t = none) := by
 unfold num
 cases h : Lib.atoiAll t with
 | ok v => exact .inl ⟨v, rfl, rfl, Lib.atoiAll_bounds h⟩
 | _ => exact .inr ⟨by simp, rfl⟩
theorem Atoi_calls (s : List UInt8) (hs : s.length ≤ 281474976710656) (w : World) (E : Env w) :
    Calls Tryz.prog 143 #[str s] w fun e w' => ∃ v er, e = .returned (.tuple #[.int .i64 v, er]) ∧ Onto w w' ∧
     ((er = .nilIface ∧ Lib.atoiAll s = .ok v ∧ -9223372036854775808 ≤ v ∧ v ≤ 9223372036854775807) ∨ ((∃ t p, er = .iface t p) ∧ ∀ v, Lib.atoiAll s ≠ .ok v)) := by
 obtain ⟨t1, p1, c1⟩ := E.syn
 obtain ⟨t2, p2, c2⟩ := E.rng
 cases h : Lib.atoiAll s with
 | ok v =>
   refine (Any.strconv_Atoi_ok Tryz.laysC172 ⟨s.toArray⟩ (by rw [str_size]; omega) v (by simpa using h) w).mono ?_
   rintro e w' ⟨rfl, hw⟩
   refine ⟨v, _, rfl, ?_, .inl ⟨rfl, rfl, Lib.atoiAll_bounds h⟩⟩
   rcases hw with rfl | ⟨t, rfl⟩
   · exact Onto.rfl' _
   · exact Lib.bytesWorld_below _ _ _
 | range =>
   refine (Any.strconv_Atoi_range Tryz.laysC172 ⟨s.toArray⟩ (by rw [str_size]; omega) (by simpa using h) _ w c2 (.inr ⟨_, _, rfl⟩)).mono ?_
   rintro e w' ⟨N, rfl, _, _, hw⟩
   exact ⟨_, _, rfl, hw, .inr ⟨⟨_, _, rfl⟩, by simp⟩⟩
 | _ =>
   refine (Any.strconv_Atoi_syntax Tryz.laysC172 ⟨s.toArray⟩ (by rw [str_size]; omega) (by simpa using h) _ w c1 (.inr ⟨_, _, rfl⟩)).mono ?_
   rintro e w' ⟨N, rfl, _, _, hw⟩
   exact ⟨_, _, rfl, hw, .inr ⟨⟨_, _, rfl⟩, by simp⟩⟩
theorem cutc_len (c : UInt8) : ∀ s : List UInt8, (cutc c s).length = s.count c + 1
 | [] => rfl
 | b :: l => by
   have ih := cutc_len c l
   have hne := cutc_ne c l
   rw [cutc]
   split
   · rename_i h; subst h; rw [List.length_cons, ih, List.count_cons_self]
   · rename_i h
     rw [List.length_cons, List.length_tail, ih, List.count_cons_of_ne (Ne.symm (Ne.symm h))]
     omega
theorem count_b (c : UInt8) (s : List UInt8) : Lib.countB ⟨s.toArray⟩ ⟨#[c]⟩ + 1 = (cutc c s).length := by
 rw [cutc_len]
 show Lib.count _ _ + 1 = _
 have := Lib.count_one c s
 simpa using this
theorem pieces_b (c : UInt8) (s : List UInt8) : (Lib.splitB ⟨#[c]⟩ 0 (Lib.countB ⟨s.toArray⟩ ⟨#[c]⟩) ⟨s.toArray⟩).map Value.string = (cutc c s).map str := by
 have h := Lib.splitB_data ⟨#[c]⟩ 0 (Lib.countB ⟨s.toArray⟩ ⟨#[c]⟩) ⟨s.toArray⟩
 have e : Lib.splitK (⟨#[c]⟩ : ByteArray).data.toList 0 (Lib.countB ⟨s.toArray⟩ ⟨#[c]⟩) (⟨s.toArray⟩ : ByteArray).data.toList = cutc c s := by
  rw [← split_one]
  unfold Lib.split
  rfl
 rw [e] at h
 rw [← h, List.map_map]
 apply List.map_congr_left
 intro x _
 show Value.string x = str x.data.toList
 rw [str, ← str_of]
theorem Split_calls (c : UInt8) (s : List UInt8) (hs : s.length ≤ 4000000000) (w : World) (E : Env w) :
    Calls Tryz.prog 144 #[str s, str [c]] w fun e w' => ∃ A, e = .returned (.slice A (cutc c s).length (cutc c s).length) ∧ S w' 1 A (cutc c s).length ((cutc c s).map encS) ∧ Onto w w' := by
 obtain ⟨m, hm⟩ := E.big
 refine (Any.strings_Split Tryz.lays146 (by kernel_rfl) ⟨s.toArray⟩ ⟨#[c]⟩ m w (by rw [str_size]; omega) hm (Nat.le_refl 1)).mono ?_
 rintro e w' ⟨rfl, rfl⟩
 rw [count_b, pieces_b]
 refine ⟨_, rfl, ?_, (Onto.rfl' w).new _⟩
 have := Sl.block (k := 1) ((cutc c s).map encS) (hNew (w := w) (o := .cells ((cutc c s).map str).toArray 9) rfl) (by
  intro r hr
  obtain ⟨x, _, rfl⟩ := List.mem_map.1 hr
  rfl) (by
  generalize cutc c s = l
  induction l with
  | nil => rfl
  | cons a l ih => simp [encS] at ih ⊢; exact ih)
 rw [List.length_map] at this
 exact this
theorem index_one (c : UInt8) : ∀ s : List UInt8, (c ∉ s → Lib.index s [c] = -1) ∧ (∀ p r, s = p ++ c :: r → c ∉ p → Lib.index s [c] = p.length)
 | [] => ⟨fun _ => by rw [Lib.index]; rfl, fun p r h => by simp at h⟩
 | b :: l => by
   have ih := index_one c l
   refine ⟨fun h => ?_, fun p r h hp => ?_⟩
   · have h1 : b ≠ c := fun e => h (by simp [e])
     have h2 : c ∉ l := fun e => h (by simp [e])
     rw [Lib.index, ih.1 h2]
     simp [List.isPrefixOf, Ne.symm h1]
   · cases p with
     | nil =>
       simp at h
       obtain ⟨rfl, rfl⟩ := h
       rw [Lib.index]
       simp [List.isPrefixOf]
     | cons a p =>
       simp only [List.cons_append, List.cons.injEq] at h
       obtain ⟨rfl, h⟩ := h
       have h1 : b ≠ c := fun e => hp (by simp [e])
       have h2 : c ∉ p := fun e => hp (by simp [e])
       rw [Lib.index, ih.2 p r h h2]
       have : ((p.length : Int) == -1) = false := by rw [beq_eq_false_iff_ne]; omega
       simp [List.isPrefixOf, Ne.symm h1, this]
theorem cut_one (c : UInt8) (s : List UInt8) : Lib.cut s [c] = if c ∈ s then ((cutc c s).headD [], joinc c (cutc c s).tail, true) else (s, [], false) := by
 by_cases h : c ∈ s
 · rw [if_pos h]
   obtain ⟨p, r, rfl, hp⟩ := List.eq_append_cons_of_mem h
   unfold Lib.cut
   rw [(index_one c _).2 p r rfl hp, cutc_append hp, if_pos (by omega)]
   simp [joinc_cutc]
 · rw [if_neg h]
   unfold Lib.cut
   rw [(index_one c s).1 h]
   rfl
theorem Cut_calls (s sep : List UInt8) (hs : s.length ≤ 4000000000) (w : World) (E : Env w) :
    Calls Tryz.prog 125 #[str s, str sep] w fun e w' => e = .returned (.tuple #[str (Lib.cut s sep).1, str (Lib.cut s sep).2.1, .bool (Lib.cut s sep).2.2]) ∧ Onto w w' := by
 obtain ⟨m, hm⟩ := E.big
 refine (Any.strings_Cut Tryz.lays145 ⟨s.toArray⟩ ⟨sep.toArray⟩ m w (by rw [str_size]; omega) hm).mono ?_
 rintro e w' ⟨rfl, q, rfl⟩
 exact ⟨rfl, (Onto.rfl' w).draws q⟩
theorem CutPrefix_calls (s p : List UInt8) (w : World) :
    Calls Tryz.prog 135 #[str s, str p] w fun e w' => e = .returned (.tuple #[str (if p.isPrefixOf s then s.drop p.length else s), .bool (p.isPrefixOf s)]) ∧ Onto w w' :=
 (Any.strings_CutPrefix Tryz.lays103 ⟨s.toArray⟩ ⟨p.toArray⟩ w).mono fun e w' ⟨he, hw⟩ => ⟨he, hw ▸ Onto.rfl' w⟩
end
section
set_option linter.unusedSimpArgs false
set_option linter.unusedVariables false
open Go.RowKit
def encB (b : UInt8) : List Value := [.int .u8 b.toNat]
theorem encB_one (l : List UInt8) : ∀ r ∈ l.map encB, ∀ u ∈ r, u.oneCell' = true := by
 intro r hr u hu
 obtain ⟨x, _, rfl⟩ := List.mem_map.1 hr
 simp [encB] at hu
 rcases hu with rfl <;> rfl
theorem strOf (l : List UInt8) : strOfNums (l.map fun b => (b.toNat : Int)) = ⟨l.toArray⟩ := by
 unfold strOfNums
 simp only [List.map_map]
 rw [show ((fun n : Int => UInt8.ofNat n.toNat) ∘ fun b : UInt8 => (b.toNat : Int)) = id from by funext b; simp, List.map_id]
theorem conv_bytes {w : World} {B n c : Nat} {A : Option Addr} {l : List UInt8} (h : Sl w B 1 A n (l.map encB)) : (convert 45 9 (.slice A n c)).run Tryz.prog w = .ok (str l) w := by
 have hl : l.length = n := by have := h.1; simpa using this
 rcases Nat.eq_zero_or_pos n with h0 | h0
 · subst h0
   have hl0 : l = [] := List.eq_nil_of_length_eq_zero hl
   subst hl0
   cases A with
   | none => exact run_convert_bytes_nil w 45 5 Tryz.underlying45 Tryz.underlying5 0 c 9 Tryz.underlying9
   | some a =>
     rw [run_convert_bytes_string w 45 9 5 _ 0 c Tryz.underlying45 Tryz.underlying5 Tryz.underlying9, run_bytesToString w a 0 c [] (by simpa using run_loadCells_list (P := Tryz.prog) w a [] (by simp))]
     rfl
 · obtain ⟨b, off, e, _, hc⟩ := h.2.2 h0
   subst e
   have := run_convert_bytes_arg (P := Tryz.prog) w 45 5 Tryz.underlying45 Tryz.underlying5 b off n c (l.map fun b => (b.toNat : Int)) (by simp [hl]) (fun i hi => by
    have hi' : i < l.length := by omega
    have := hc i 0 (encB l[i]) (.int .u8 l[i].toNat) (by simp [List.getElem?_eq_getElem hi']) rfl
    simpa [List.getD, List.getElem?_eq_getElem hi'] using this) 9 Tryz.underlying9
   rw [this, strOf]
end
section
set_option linter.unusedSimpArgs false
set_option linter.unusedVariables false
open Go.RowKit
theorem ok_value {α : Type} {a b : α} {w w' : World} (h : Result.ok a w = Result.ok b w') : a = b := by injection h
theorem strC : ∀ s : List UInt8, (s.map encB).flatten = Lib.strCells ⟨s.toArray⟩
 | [] => rfl
 | b :: s => by
   rw [List.map_cons, List.flatten_cons, strC s]
   rfl
section
variable {P : Program} (w : World)
theorem run_app_str (base : Nat) (t u ty e : TypeId) (i : TypeInfo) (ht : P.underlying t = some (.slice e)) (hu : P.underlying u = some .string) (hi : P.info? e = some i) (hz : i.zero = some (.int .u8 0))
    (hsize : i.size = 1) (hby : i.bytes = 1) (v : Value) (n : Nat) (rows : List (List Value)) (hown : Own w base e 1 v n rows) (s : List UInt8)
    (h63 : n + s.length ≤ maxLen) (hbytes : n + s.length ≤ 140737488355328) (hbase : base ≤ w.heap.size) :
    ∃ v' w', (Builtin.append_ #[t, u] ty #[v, str s]).run P w = .ok v' w' ∧ Own w' base e 1 v' (n + s.length) (rows ++ s.map encB) ∧ w.grownBy w' v.ownBlock ∧ (v'.ownBlock = v.ownBlock ∨ v'.ownBlock = some w.heap.size) := by
 have hsz : (⟨s.toArray⟩ : ByteArray).size = s.length := rfl
 obtain ⟨v', w', hr, h2, h3, h4⟩ := Lib.run_append_own_string (P := P) w base t u ty e i ht hu hi hz hsize hby v n rows.flatten hown.1 ⟨s.toArray⟩ (by rw [hsz]; exact h63) (by rw [hsz]; exact hbytes) hbase
 rw [hsz] at h2 h4
 refine ⟨v', w', hr, ⟨?_, by simp [hown.2.1], ?_⟩, h3, ?_⟩
 · have e : (rows ++ s.map encB).flatten = rows.flatten ++ Lib.strCells ⟨s.toArray⟩ := by
    rw [List.flatten_append]
    rw [strC]
   rw [e]; exact h2
 · intro r hr
   rcases List.mem_append.1 hr with hr | hr
   · exact hown.2.2 r hr
   · obtain ⟨b, _, rfl⟩ := List.mem_map.1 hr
     rfl
 · rcases hown.1.2 with ⟨rfl, rfl⟩ | ⟨g, cap, cur, rfl, hbg, hg, hnc, hcm, hcs, htake⟩
   · by_cases hm : s.length = 0
     · left; rw [h4.2 ⟨rfl, hm⟩]
     · right
       have hr2 := run_append_nil_string (P := P) w t u ty e i (.int .u8 0) ht hu hi hz ⟨s.toArray⟩ (by rw [hsz]; omega) (by rw [hsz]; omega) (by rw [hby, hsz]; omega)
       rw [hr] at hr2
       rw [ok_value hr2]; rfl
   · by_cases hroom : n + s.length ≤ cap
     · left
       have hr2 := Lib.run_append_room_string (P := P) w t u ty e i ht hu hi hsize g n cap cur hg ⟨s.toArray⟩ (by rw [hsz]; exact hroom) (by rw [hsz, hcs]; omega)
       rw [hr] at hr2
       rw [ok_value hr2]; rfl
     · right
       have holds : ∀ j u, rows.flatten[j]? = some u → w.cell? ((⟨g, 0, none⟩ : Addr).add j) = some u := hown.1.cells (g := g) rfl
       have hr2 := Lib.run_append_grow_string (P := P) w t u ty e i (.int .u8 0) ht hu hi hz ⟨g, 0, none⟩ n cap rows.flatten (by rw [hsize]; simpa using hown.1.1) holds ⟨s.toArray⟩ (by rw [hsz]; omega) (by rw [hsz]; unfold maxLen at h63; omega) (by rw [hby, hsz]; exact growslice_fits (by omega) (by omega))
       rw [hr] at hr2
       rw [ok_value hr2]; rfl
theorem step_app_str {ops : Array Oper} {o : Oper} {a : Act} {K : Act → World → Prop} {Q : Exit → Act → World → Prop} {F : Prop} (hgd : o.guard = none) (sl x : Operand) (t u : TypeId)
    (ho : o.op = .call { callee := .builtin .append, args := #[sl, x], argTypes := #[t, u] })
    (base : Nat) (e : TypeId) (i : TypeInfo) (ht : P.underlying t = some (.slice e)) (hu : P.underlying u = some .string) (hi : P.info? e = some i) (hz : i.zero = some (.int .u8 0))
    (hsize : i.size = 1) (hby : i.bytes = 1) (v : Value) (n : Nat) (rows : List (List Value)) (hs : a.eval sl = v) (hown : Own w base e 1 v n rows) (s : List UInt8) (hx : a.eval x = str s)
    (h63 : n + s.length ≤ maxLen) (hbytes : n + s.length ≤ 140737488355328) (hbase : base ≤ w.heap.size)
    (h : ∀ v' w', Own w' base e 1 v' (n + s.length) (rows ++ s.map encB) → w.grownBy w' v.ownBlock → (v'.ownBlock = v.ownBlock ∨ v'.ownBlock = some w.heap.size) → K (a.put o.dst v') w') :
    if Region.wanted o (yielded ops a.tmps) = true then Oper.wp P o a w K Q else F := by
 rw [if_pos (by simp [Region.wanted, hgd])]
 obtain ⟨v', w', hrun, h2, h3, h4⟩ := run_app_str (P := P) w base t u o.type e i ht hu hi hz hsize hby v n rows hown s h63 hbytes hbase
 unfold Oper.wp execOp
 simp only [ho, resolve, invoke, builtin, Sem.run_bind, Sem.run_pure, Result.andThen_ok, List.map_toArray, List.map_cons, List.map_nil, hs, hx, hrun]
 exact h v' w' h2 h3 h4
theorem step_app_sl {ops : Array Oper} {o : Oper} {a : Act} {K : Act → World → Prop} {Q : Exit → Act → World → Prop} {F : Prop} (hgd : o.guard = none) (s x : Operand) (t : TypeId)
    (ho : o.op = .call { callee := .builtin .append, args := #[s, x], argTypes := #[t, t] })
    (base : Nat) (e : TypeId) (i : TypeInfo) (z : Value) (size bytes : Nat) (ht : P.underlying t = some (.slice e)) (hi : P.info? e = some i) (hz : i.zero = some z)
    (hsize : i.size = size) (hby : i.bytes = bytes) (hzs : z.cells.size = size) (hsz : 0 < size)
    (v : Value) (n : Nat) (rows : List (List Value)) (hs : a.eval s = v) (hown : Own w base e size v n rows)
    (B : Nat) (A : Option Addr) (m c : Nat) (news : List (List Value)) (hx : a.eval x = .slice A m c) (hr : Sl w B size A m news) (h1 : ∀ r ∈ news, ∀ u ∈ r, u.oneCell' = true)
    (h63 : n + m ≤ maxLen) (hbytes : (n + m) * bytes ≤ 140737488355328) (hbase : base ≤ w.heap.size)
    (h : ∀ v' w', Own w' base e size v' (n + m) (rows ++ news) → w.grownBy w' v.ownBlock → (v'.ownBlock = v.ownBlock ∨ v'.ownBlock = some w.heap.size) → K (a.put o.dst v') w') :
    if Region.wanted o (yielded ops a.tmps) = true then Oper.wp P o a w K Q else F := by
 rw [if_pos (by simp [Region.wanted, hgd])]
 exact wp_append_sl w s x t ho base e i z size bytes ht hi hz hsize hby hzs hsz v n rows hs hown B A m c news hx hr h1 h63 hbytes hbase h
end
theorem Own.kept1 {w w' : World} {base E k n : Nat} {v : Value} {rows : List (List Value)} {row : Option Nat} (h : Own w base E k v n rows) (hg : w.grownBy w' row) (hne : ∀ b, v.ownBlock = some b → row ≠ some b) : Own w' base E k v n rows :=
 h.kept hg (by
  cases e : v.ownBlock with
  | none => exact .inl rfl
  | some b => exact .inr fun e' => hne b e e'.symm)
theorem Own.lt {w : World} {base E k n : Nat} {v : Value} {rows : List (List Value)} (h : Own w base E k v n rows) : ∀ b, v.ownBlock = some b → base ≤ b ∧ b < w.heap.size := h.1.lt
end
section
set_option linter.unusedSimpArgs false
set_option linter.unusedVariables false
open Go.RowKit
theorem rinfoB : (Tryz.prog.info? 5).map (fun i => (i.zero, i.size, i.bytes)) = some (some (.int .u8 0), 1, 1) := by kernel_rfl
set_option maxHeartbeats 1000000 in
theorem CloneB_calls (w : World) (A : Option Addr) (n c B : Nat) (hB : B ≤ w.heap.size) (rows : List (List Value)) (h : Sl w B 1 A n rows) (h1 : ∀ r ∈ rows, ∀ u ∈ r, u.oneCell' = true) (hn : n * 1 ≤ 140737488355328) :
    Calls Tryz.prog 82 #[.slice A n c] w fun e w' => ∃ A' c', e = .returned (.slice A' n c') ∧ Own w' w.heap.size 5 1 (.slice A' n c') n rows ∧ Onto w w' := by
 obtain ⟨i0, hi0, hz0, hz1, hz2⟩ := info_parts rinfoB
 have hnm : n ≤ maxLen := by unfold maxLen; omega
 cases A with
 | none =>
   have h0 : n = 0 := by
    rcases Nat.eq_zero_or_pos n with h0 | h0
    · exact h0
    · obtain ⟨b, off, e, _⟩ := h.2.2 h0
      cases e
   subst h0
   have hr : rows = [] := List.eq_nil_of_length_eq_zero h.1
   subst hr
   clear h h1 hi0 hz0 hz1 hz2 hnm hn
   have hs : ∀ w, (binOp .eql 45 (.slice none 0 c) (.slice none 0 0)).run Tryz.prog w = .ok (.bool true) w := fun w => by kernel_rfl
   go_enter Tryz.func82, Tryz.ntmps82
   go_wp2
   go_ret
   exact ⟨none, 0, rfl, Own.nil _ _ _ _, Below.refl _ _⟩
 | some a =>
   have hs : ∀ w, (binOp .eql 45 (.slice (some a) n c) (.slice none 0 0)).run Tryz.prog w = .ok (.bool false) w := fun w => by kernel_rfl
   have HN := Lib.hid hn; have HM := Lib.hid hnm; have H1 := Lib.hid h1; have H := Lib.hid h; clear hn hnm h1 h
   have HI := Lib.hid hi0; have HZ0 := Lib.hid hz0; have HZ1 := Lib.hid hz1; have HZ2 := Lib.hid hz2; clear hi0 hz0 hz1 hz2
   go_enter Tryz.func82, Tryz.ntmps82
   go_wp2_with (at_builtin; refine wpList_append_sl _ rfl _ _ 45 rfl w.heap.size 5 i0 _ 1 1 Tryz.underlying45 HI.out HZ0.out HZ1.out HZ2.out rfl (by decide) _ 0 [] rfl ?c1 B (some a) n c rows rfl ?c2 H1.out ?c3 ?c4 ?c5 ?_)
   case c1 => exact ⟨World.ownsRow_made _ _ _ (Nat.le_refl _) (by simp [maxLen]) (by simp), rfl, by simp⟩
   case c2 => exact H.out.keep fun p hp => World.cell?_alloc_lt w _ p (by omega)
   case c3 => rw [Nat.zero_add]; exact HM.out
   case c4 => rw [Nat.zero_add]; exact HN.out
   case c5 => simp
   intro v' w' hown hgrow hblk
   obtain ⟨A', c', rfl, _, _⟩ := hown.slice
   go_wp2
   go_ret
   refine ⟨A', c', rfl, hown, ?_⟩
   exact ((Below.refl _ _).alloc (Nat.le_refl _) _).grown hgrow (by simp) (by simp [Value.ownBlock])
theorem zerosB (n : Nat) : (Builtin.zeroCells ((.int .u8 0 : Value)).cells n).size = n * 1 := by simp [Builtin.zeroCells, Value.cells]
set_option maxHeartbeats 2000000 in
theorem GrowB_calls (w : World) (n : Nat) (hn : n * 1 ≤ 140737488355328) :
    Calls Tryz.prog 127 #[.slice none 0 0, .int .i64 n] w fun e w' => ∃ A' c', e = .returned (.slice A' 0 c') ∧ Own w' w.heap.size 5 1 (.slice A' 0 c') 0 [] ∧ Onto w w' := by
 obtain ⟨i0, hi0, hz0, hz1, hz2⟩ := info_parts rinfoB
 have h1 : ¬ ((n : Int) < 0) := by omega
 have h3 : wrap64 ((n : Int) - 0) = (n : Int) := by unfold wrap64; omega
 rcases Nat.eq_zero_or_pos n with hn0 | hn0
 · subst hn0
   clear hi0 hz0 hz1 hz2 hn
   go_enter Tryz.func127, Tryz.ntmps127
   go_wp2
   go_ret
   exact ⟨none, 0, rfl, Own.nil _ _ _ _, Below.refl _ _⟩
 · have hd : (0 : Int) < (n : Int) := by omega
   have hgc : n ≤ grownCap w n 0 5 := grownCap_ge w _ _ _
   have hgm : grownCap w n 0 5 ≤ maxLen := grownCap_le_maxLen w n 0 5 (by unfold maxLen; omega)
   have hrz : ∀ ty, (Builtin.append_ #[45, 3] ty #[.slice none 0 0, .int .i64 (n : Int)]).run Tryz.prog w =
       .ok (.slice (some ⟨w.heap.size, 0, none⟩) n (grownCap w n 0 5)) (w.drew.alloc (.cells (#[] ++ Builtin.zeroCells ((.int .u8 0 : Value)).cells n ++ Builtin.zeroCells ((.int .u8 0 : Value)).cells (grownCap w n 0 5 - n)) 5)) := fun ty => by
    have h := Lib.run_append_grow_zeros w 45 3 ty 5 i0 _ .i64 .i64 Tryz.underlying45 Tryz.underlying3 hi0 hz0 none 0 0 [] (run_firstCells_none w.drew i0.size 0 0 0) n hn0 (by omega) (by omega) (by omega)
     (by rw [hz2]; omega) (by rw [Nat.zero_add, hz2]; exact growslice_fits (by omega) (by omega))
    rw [Nat.zero_add] at h
    exact h
   have hown : (w.drew.alloc (.cells (#[] ++ Builtin.zeroCells ((.int .u8 0 : Value)).cells n ++ Builtin.zeroCells ((.int .u8 0 : Value)).cells (grownCap w n 0 5 - n)) 5)).ownsRow w.heap.size 5 1 (.slice (some ⟨w.drew.heap.size, 0, none⟩) 0 (grownCap w n 0 5)) 0 [] := World.ownsRow_made w.drew _ _ (Nat.le_refl _) hgm (by
    simp only [Array.size_append, zerosB]
    simp
    omega)
   have HOWN := Lib.hid hown
   have hon : Onto w (w.drew.alloc (.cells (#[] ++ Builtin.zeroCells ((.int .u8 0 : Value)).cells n ++ Builtin.zeroCells ((.int .u8 0 : Value)).cells (grownCap w n 0 5 - n)) 5)) := (Onto.draw (Onto.rfl' w)).new _
   have HON := Lib.hid hon
   unfold maxLen at hgm
   clear hi0 hz0 hz1 hz2 hn hown hon
   generalize (w.drew.alloc (.cells (#[] ++ Builtin.zeroCells ((.int .u8 0 : Value)).cells n ++ Builtin.zeroCells ((.int .u8 0 : Value)).cells (grownCap w n 0 5 - n)) 5)) = w1 at *
   generalize grownCap w n 0 5 = G at *
   go_enter Tryz.func127, Tryz.ntmps127
   go_wp2_with (at_builtin; refine Lib.wpList_append_run _ rfl _ _ _ _ rfl _ _ rfl rfl _ _ (hrz _) ?_)
   all_goals (go_ret; exact ⟨some ⟨w.heap.size, 0, none⟩, G, rfl, ⟨HOWN.out, rfl, by simp⟩, HON.out⟩)
set_option maxHeartbeats 4000000 in
set_option maxRecDepth 100000 in
theorem ConcatB_calls (w : World) (A A' : Option Addr) (n c m d Z y : Nat) (rows rows' : List (List Value)) (hz0 : w.cell? ⟨Z, 0, none⟩ = some (.slice A n c)) (hz1 : w.cell? ⟨Z, 1, none⟩ = some (.slice A' m d))
    (h : Sl w w.heap.size 1 A n rows) (h' : Sl w w.heap.size 1 A' m rows') (h1 : ∀ r ∈ rows, ∀ u ∈ r, u.oneCell' = true) (h1' : ∀ r ∈ rows', ∀ u ∈ r, u.oneCell' = true) (hn : (n + m) * 1 ≤ 140737488355328) :
    Calls Tryz.prog 113 #[.slice (some ⟨Z, 0, none⟩) 2 y] w fun e w' => ∃ A1 c1, e = .returned (.slice A1 (n + m) c1) ∧ Own w' w.heap.size 5 1 (.slice A1 (n + m) c1) (n + m) (rows ++ rows') ∧ Onto w w' := by
 have HH := Lib.hid h; have HH' := Lib.hid h'; have H1 := Lib.hid h1; have H1' := Lib.hid h1'; have HN := Lib.hid hn
 have hZ : Z < w.heap.size := World.block_lt_of_cell? w _ hz0
 have hn0 : n ≤ 140737488355328 := by omega
 have hm0 : m ≤ 140737488355328 := by omega
 have hnm : n + m ≤ maxLen := by unfold maxLen; omega
 have HNM := Lib.hid hnm
 clear h h' h1 h1' hn hnm
 obtain ⟨i0, hi0, hq0, hq1, hq2⟩ := info_parts rinfoB
 have HI := Lib.hid hi0; have HQ0 := Lib.hid hq0; have HQ1 := Lib.hid hq1; have HQ2 := Lib.hid hq2; clear hi0 hq0 hq1 hq2
 go_enter Tryz.func113, Tryz.ntmps113
 go_wp2_with fail
 go_loopg [3, 11] 2 (fun g s3 s11 wr => w = wr ∧ ((s11 = .int .i64 0 ∧ s3 = .int .i64 0 ∧ 2 ≤ g) ∨ (s11 = .int .i64 1 ∧ s3 = .int .i64 n ∧ 1 ≤ g) ∨ (s11 = .int .i64 2 ∧ s3 = .int .i64 ((n + m : Nat) : Int))))
 case atStart => exact ⟨rfl, .inl ⟨rfl, rfl, by omega⟩⟩
 case round =>
  obtain ⟨rfl, ⟨rfl, rfl, hg⟩ | ⟨rfl, rfl, hg⟩ | ⟨rfl, rfl⟩⟩ := hrel
  · go_wp2_with fail
    go_roundg 1
    case measure => omega
    case rel => exact ⟨rfl, .inr (.inl ⟨by go_num, by go_num, by omega⟩)⟩
  · have hlt : ¬ ((n : Int) + (m : Int) < 0) := by omega
    go_wp2_with fail
    go_roundg 0
    case measure => omega
    case rel => exact ⟨rfl, .inr (.inr ⟨by go_num, by go_num⟩)⟩
  · go_wp2_with fail
    refine Calls.mono (GrowB_calls _ (n + m) HN.out) ?_
    rintro e w1 ⟨A1, c1, rfl, ow, on⟩
    have y0 : w1.cell? ⟨Z, 0, none⟩ = some (.slice A n c) := by rw [on.cell hZ]; exact hz0
    have y1 : w1.cell? ⟨Z, 1, none⟩ = some (.slice A' m d) := by rw [on.cell hZ]; exact hz1
    clear hz0 hz1
    have HOW := Lib.hid ow
    clear ow
    go_wp2_with fail
    go_loopg [6, 27] 2 (fun g s6 s27 wr => Onto w wr ∧ ((s27 = .int .i64 0 ∧ 2 ≤ g ∧ ∃ A2 c2, s6 = .slice A2 0 c2 ∧ Hid (Own wr w.heap.size 5 1 (.slice A2 0 c2) 0 [])) ∨ (s27 = .int .i64 1 ∧ 1 ≤ g ∧ ∃ A2 c2, s6 = .slice A2 n c2 ∧ Hid (Own wr w.heap.size 5 1 (.slice A2 n c2) n rows)) ∨ (s27 = .int .i64 2 ∧ ∃ A2 c2, s6 = .slice A2 (n + m) c2 ∧ Hid (Own wr w.heap.size 5 1 (.slice A2 (n + m) c2) (n + m) (rows ++ rows')))))
    case atStart => exact ⟨on, .inl ⟨rfl, by omega, A1, c1, rfl, HOW⟩⟩
    case round =>
     obtain ⟨on2, ⟨rfl, hg, A2, c2, rfl, HO⟩ | ⟨rfl, hg, A2, c2, rfl, HO⟩ | ⟨rfl, A2, c2, rfl, HO⟩⟩ := hrel
     · have u0 : wr.cell? ⟨Z, 0, none⟩ = some (.slice A n c) := by rw [on2.cell hZ, ← on.cell hZ]; exact y0
       go_wp2_with (at_builtin; refine wpList_append_sl _ rfl _ _ 45 rfl w.heap.size 5 i0 _ 1 1 Tryz.underlying45 HI.out HQ0.out HQ1.out HQ2.out rfl (by decide) _ 0 [] rfl HO.out w.heap.size A n c rows rfl (Sl.under HH.out (Nat.le_refl _) on2) H1.out (by have := HNM.out; omega) (by have := HN.out; omega) on2.size ?_)
       intro v8 w8 own8 grow8 hv8
       obtain ⟨A8, c8, rfl, _, _⟩ := own8.slice
       have hB8 : Onto w w8 := below_grown on2 on2.size grow8 (fun g hg => by have := (HO.out.1.lt g hg).1; omega)
       have HO8 := Lib.hid own8
       clear grow8 hv8 own8 HO u0 on2 y0 y1
       go_wp2_with fail
       go_roundg 1
       case measure => omega
       case rel => exact ⟨hB8, .inr (.inl ⟨by go_num, by omega, A8, c8, rfl, HO8⟩)⟩
     · have u0 : wr.cell? ⟨Z, 1, none⟩ = some (.slice A' m d) := by rw [on2.cell hZ, ← on.cell hZ]; exact y1
       go_wp2_with (at_builtin; refine wpList_append_sl _ rfl _ _ 45 rfl w.heap.size 5 i0 _ 1 1 Tryz.underlying45 HI.out HQ0.out HQ1.out HQ2.out rfl (by decide) _ n rows rfl HO.out w.heap.size A' m d rows' rfl (Sl.under HH'.out (Nat.le_refl _) on2) H1'.out (by have := HNM.out; omega) (by have := HN.out; omega) on2.size ?_)
       intro v8 w8 own8 grow8 hv8
       obtain ⟨A8, c8, rfl, _, _⟩ := own8.slice
       have hB8 : Onto w w8 := below_grown on2 on2.size grow8 (fun g hg => by have := (HO.out.1.lt g hg).1; omega)
       have HO8 := Lib.hid own8
       clear grow8 hv8 own8 HO u0 on2 y0 y1
       go_wp2_with fail
       go_roundg 0
       case measure => omega
       case rel => exact ⟨hB8, .inr (.inr ⟨by go_num, A8, c8, rfl, HO8⟩)⟩
     · have HB2 := Lib.hid on2
       clear on2 y0 y1
       go_wp2_with fail
       go_ret
       exact ⟨A2, c2, rfl, HO.out, HB2.out⟩
end
section
set_option linter.unusedSimpArgs false
set_option linter.unusedVariables false
open Go.RowKit
structure Ent where
 v : Value
 e : Nat
 k : Nat
 n : Nat
 rows : List (List Value)
structure Live (w0 w : World) (L : List (Option Ent)) : Prop where
 own : ∀ (i : Nat) (x : Ent), L[i]? = some (some x) → Own w w0.heap.size x.e x.k x.v x.n x.rows
 apart : ∀ (i j : Nat) (x y : Ent) (b : Nat), i ≠ j → L[i]? = some (some x) → L[j]? = some (some y) → x.v.ownBlock = some b → y.v.ownBlock ≠ some b
 on : Onto w0 w
section
variable {w0 w w' : World} {L : List (Option Ent)}
theorem Live.start (w0 : World) (k : Nat) : Live w0 w0 (List.replicate k none) :=
 ⟨fun i x h => by rw [List.getElem?_replicate] at h; split at h <;> simp at h, fun i j x y b _ h => by rw [List.getElem?_replicate] at h; split at h <;> simp at h, Onto.rfl' _⟩
theorem Live.to (h : Live w0 w L) (hb : Onto w w') : Live w0 w' L := ⟨fun i x hx => (h.own i x hx).below hb, h.apart, h.on.to hb⟩
theorem Live.draw (h : Live w0 w L) : Live w0 w.drew L := h.to (Onto.rfl' w).draw
theorem Live.lt (h : Live w0 w L) {i : Nat} {x : Ent} (hx : L[i]? = some (some x)) {b : Nat} (hb : x.v.ownBlock = some b) : w0.heap.size ≤ b ∧ b < w.heap.size := (h.own i x hx).lt b hb
theorem Live.put (h : Live w0 w L) {i : Nat} (hi : i < L.length) {x : Ent} (ho : Own w' w0.heap.size x.e x.k x.v x.n x.rows) (hk : ∀ (j : Nat) (y : Ent), j ≠ i → L[j]? = some (some y) → Own w' w0.heap.size y.e y.k y.v y.n y.rows)
    (hd : ∀ (j : Nat) (y : Ent) (b : Nat), j ≠ i → L[j]? = some (some y) → x.v.ownBlock = some b → y.v.ownBlock ≠ some b) (ht : Onto w0 w') : Live w0 w' (L.set i (some x)) := by
 refine ⟨fun j y hy => ?_, fun j k y z b hjk hy hz hb => ?_, ht⟩
 · rw [List.getElem?_set] at hy
   by_cases e : i = j
   · subst e
     rw [if_pos rfl, if_pos hi] at hy
     injection hy with hy; injection hy with hy; subst hy
     exact ho
   · rw [if_neg e] at hy
     exact hk j y (fun e' => e e'.symm) hy
 · rw [List.getElem?_set] at hy hz
   by_cases e : i = j
   · subst e
     rw [if_pos rfl, if_pos hi] at hy
     injection hy with hy; injection hy with hy; subst hy
     rw [if_neg hjk] at hz
     exact hd k z b (fun e' => hjk e'.symm) hz hb
   · rw [if_neg e] at hy
     by_cases e' : i = k
     · subst e'
       rw [if_pos rfl, if_pos hi] at hz
       injection hz with hz; injection hz with hz; subst hz
       intro hc
       exact hd j y b (fun e' => e e'.symm) hy hc hb
     · rw [if_neg e'] at hz
       exact h.apart j k y z b hjk hy hz hb
theorem Live.add (h : Live w0 w L) {i : Nat} (hi : i < L.length) {E k n : Nat} {v : Value} {rows : List (List Value)} (ho : Own w' w.heap.size E k v n rows) (hb : Onto w w') : Live w0 w' (L.set i (some ⟨v, E, k, n, rows⟩)) :=
 h.put hi (ho.lower h.on.size) (fun j y _ hy => (h.own j y hy).below hb) (fun j y b _ hy e hc => by have h1 := (ho.lt b e).1; have h2 := (h.lt hy hc).2; omega) (h.on.to hb)
theorem Live.app (h : Live w0 w L) {i : Nat} {x : Ent} (hx : L[i]? = some (some x)) {E k n : Nat} {v : Value} {rows : List (List Value)} (ho : Own w' w0.heap.size E k v n rows) (hg : w.grownBy w' x.v.ownBlock)
    (hv : v.ownBlock = x.v.ownBlock ∨ v.ownBlock = some w.heap.size) : Live w0 w' (L.set i (some ⟨v, E, k, n, rows⟩)) :=
 h.put (List.getElem?_eq_some_iff.1 hx).1 ho (fun j y e hy => (h.own j y hy).kept1 hg fun b hb hc => h.apart i j x y b (fun e' => e e'.symm) hx hy hc hb)
  (fun j y b e hy hb hc => by
   rcases hv with hv | hv
   · rw [hv] at hb; exact h.apart i j x y b (fun e' => e e'.symm) hx hy hb hc
   · rw [hv] at hb; injection hb with hb; subst hb; have := (h.lt hy hc).2; omega)
  (below_grown h.on h.on.size hg fun g hgg => (h.lt hx hgg).1)
theorem Live.lit (h : Live w0 w L) {i : Nat} (hi : i < L.length) (E k n : Nat) (rows : List (List Value)) (cs : Array Value) (hc : cs.toList = rows.flatten) (hn : rows.length = n) (hk : ∀ r ∈ rows, r.length = k) (hm : n ≤ maxLen) :
    Live w0 (w.alloc (.cells cs E)) (L.set i (some ⟨.slice (some ⟨w.heap.size, 0, none⟩) n n, E, k, n, rows⟩)) := by
 have hl : rows.flatten.length = n * k := by rw [flatten_length hk, hn]
 have hcs : cs.size = n * k := by rw [← Array.length_toList, hc, hl]
 exact h.add hi ⟨⟨hl, .inr ⟨w.heap.size, n, cs, rfl, Nat.le_refl _, heap_alloc_new w _, Nat.le_refl _, hm, hcs, by rw [hc, ← hl]; exact List.take_length⟩⟩, hn, hk⟩ ((Onto.rfl' w).new _)
theorem Live.litB (h : Live w0 w L) {i : Nat} (hi : i < L.length) (b : UInt8) : Live w0 (w.alloc (.cells #[.int .u8 b.toNat] 5)) (L.set i (some ⟨.slice (some ⟨w.heap.size, 0, none⟩) 1 1, 5, 1, 1, [encB b]⟩)) :=
 h.lit hi _ _ _ _ _ (by simp [encB]) rfl (by simp [encB]) (by simp [maxLen])
theorem Live.sl (h : Live w0 w L) {i : Nat} {A : Option Addr} {E k m c : Nat} {rows : List (List Value)} (hx : L[i]? = some (some ⟨.slice A m c, E, k, m, rows⟩)) : S w k A m rows := (h.own i _ hx).sl
end
theorem CloneB_live {w0 w : World} {L : List (Option Ent)} (LV : Live w0 w L) (i : Nat) (hi : i < L.length) (A : Option Addr) (n c : Nat) (l : List UInt8) (h : S w0 1 A n (l.map encB)) (hn : n ≤ 140737488355328) :
    Calls Tryz.prog 82 #[.slice A n c] w fun e w' => ∃ A1 c1, e = .returned (.slice A1 n c1) ∧ Live w0 w' (L.set i (some ⟨.slice A1 n c1, 5, 1, n, l.map encB⟩)) := by
 refine Calls.mono (CloneB_calls w A n c _ (Nat.le_refl _) (l.map encB) (h.onto LV.on) (encB_one _) (by omega)) ?_
 rintro e w' ⟨A1, c1, rfl, ho, hb⟩
 exact ⟨A1, c1, rfl, LV.add hi ho hb⟩
section
variable {ops : Array Oper} {o : Oper} {a : Act} {K : Act → World → Prop} {Q : Exit → Act → World → Prop} {F : Prop} {w0 w : World} {L : List (Option Ent)}
theorem step_app_str_live (LV : Live w0 w L) (hgd : o.guard = none) (sl x : Operand) (ho : o.op = .call { callee := .builtin .append, args := #[sl, x], argTypes := #[45, 9] })
    (i : Nat) (v : Value) (n : Nat) (rows : List (List Value)) (hs : a.eval sl = v) (hi : L[i]? = some (some ⟨v, 5, 1, n, rows⟩)) (s : List UInt8) (hx : a.eval x = str s) (hbytes : n + s.length ≤ 140737488355328)
    (h : ∀ A1 c1 w', Live w0 w' (L.set i (some ⟨.slice A1 (n + s.length) c1, 5, 1, n + s.length, rows ++ s.map encB⟩)) → K (a.put o.dst (.slice A1 (n + s.length) c1)) w') :
    if Region.wanted o (yielded ops a.tmps) = true then Oper.wp Tryz.prog o a w K Q else F := by
 obtain ⟨i0, hi0, hz0, hz1, hz2⟩ := info_parts rinfoB
 refine step_app_str w hgd sl x 45 9 ho w0.heap.size 5 i0 Tryz.underlying45 Tryz.underlying9 hi0 hz0 hz1 hz2 v n rows hs (LV.own i _ hi) s hx (by unfold maxLen; omega) hbytes LV.on.size ?_
 intro v' w' own grow hv
 obtain ⟨A1, c1, rfl, _, _⟩ := own.slice
 exact h A1 c1 w' (LV.app hi own grow hv)
theorem step_app_sl_live (LV : Live w0 w L) (hgd : o.guard = none) (sl x : Operand) (t : TypeId) (ho : o.op = .call { callee := .builtin .append, args := #[sl, x], argTypes := #[t, t] })
    (E k by_ : Nat) (z : Value) (hinfo : (Tryz.prog.info? E).map (fun i => (i.zero, i.size, i.bytes)) = some (some z, k, by_)) (ht : Tryz.prog.underlying t = some (.slice E)) (hzs : z.cells.size = k) (hk : 0 < k)
    (i : Nat) (v : Value) (n : Nat) (rows : List (List Value)) (hs : a.eval sl = v) (hi : L[i]? = some (some ⟨v, E, k, n, rows⟩)) (A : Option Addr) (m c : Nat) (news : List (List Value)) (hx : a.eval x = .slice A m c) (hr : S w k A m news) (h1 : ∀ r ∈ news, ∀ u ∈ r, u.oneCell' = true)
    (h63 : n + m ≤ maxLen) (hbytes : (n + m) * by_ ≤ 140737488355328)
    (h : ∀ A1 c1 w', Live w0 w' (L.set i (some ⟨.slice A1 (n + m) c1, E, k, n + m, rows ++ news⟩)) → K (a.put o.dst (.slice A1 (n + m) c1)) w') :
    if Region.wanted o (yielded ops a.tmps) = true then Oper.wp Tryz.prog o a w K Q else F := by
 obtain ⟨i0, hi0, hz0, hz1, hz2⟩ := info_parts hinfo
 refine step_app_sl w hgd sl x t ho w0.heap.size E i0 z k by_ ht hi0 hz0 hz1 hz2 hzs hk v n rows hs (LV.own i _ hi) w.heap.size A m c news hx hr h1 h63 hbytes LV.on.size ?_
 intro v' w' own grow hv
 obtain ⟨A1, c1, rfl, _, _⟩ := own.slice
 exact h A1 c1 w' (LV.app hi own grow hv)
end
end
section
set_option linter.unusedSimpArgs false
set_option linter.unusedVariables false
open Go.RowKit
theorem neqE (a0 a1 a2 a3 a4 b0 b1 b2 b3 b4 : Int) (w : World) : (binOp .neq 27 (.agg #[.int .i64 a0, .int .i64 a1, .int .i64 a2, .int .i64 a3, .int .i64 a4]) (.agg #[.int .i64 b0, .int .i64 b1, .int .i64 b2, .int .i64 b3, .int .i64 b4])).run Tryz.prog w = .ok (.bool (!((a0 == b0) && (a1 == b1) && (a2 == b2) && (a3 == b3) && (a4 == b4)))) w := by
 have hu3 := Tryz.underlying3; have ha3 := Tryz.isAgg3; have hz3 := Tryz.sizeOf3
 have hS : Tryz.prog.underlying 27 = some (.struct (Tryz.prog.fieldsOf 27)) := by kernel_rfl
 have hp : Tryz.prog.stoodInHeld 27 = false := by kernel_rfl
 rw [run_neq_struct, show (10000 : Nat) = 9999 + 1 from rfl, run_equalIn_agg w 9999 27 _ _ hS hp]
 simp only [Program.fieldsOf, Tryz.underlying27]
 go_simp
 by_cases h0 : a0 = b0 <;> by_cases h1 : a1 = b1 <;> by_cases h2 : a2 = b2 <;> by_cases h3 : a3 = b3 <;> by_cases h4 : a4 = b4 <;> simp [h0, h1, h2, h3, h4]
theorem eqlE (a0 a1 a2 a3 a4 b0 b1 b2 b3 b4 : Int) (w : World) : (binOp .eql 27 (.agg #[.int .i64 a0, .int .i64 a1, .int .i64 a2, .int .i64 a3, .int .i64 a4]) (.agg #[.int .i64 b0, .int .i64 b1, .int .i64 b2, .int .i64 b3, .int .i64 b4])).run Tryz.prog w = .ok (.bool (((a0 == b0) && (a1 == b1) && (a2 == b2) && (a3 == b3) && (a4 == b4)))) w := by
 have hu3 := Tryz.underlying3; have ha3 := Tryz.isAgg3; have hz3 := Tryz.sizeOf3
 have hS : Tryz.prog.underlying 27 = some (.struct (Tryz.prog.fieldsOf 27)) := by kernel_rfl
 have hp : Tryz.prog.stoodInHeld 27 = false := by kernel_rfl
 rw [run_eql_struct, show (10000 : Nat) = 9999 + 1 from rfl, run_equalIn_agg w 9999 27 _ _ hS hp]
 simp only [Program.fieldsOf, Tryz.underlying27]
 go_simp
 by_cases h0 : a0 = b0 <;> by_cases h1 : a1 = b1 <;> by_cases h2 : a2 = b2 <;> by_cases h3 : a3 = b3 <;> by_cases h4 : a4 = b4 <;> simp [h0, h1, h2, h3, h4]
set_option maxHeartbeats 1000000 in
theorem EqualE_calls (A A' : Option Addr) (n m c d B : Nat) (l l' : List Entry) (w : World) (h : Sl w B 5 A n (l.map encE)) (h' : Sl w B 5 A' m (l'.map encE)) (hn : n ≤ 9223372036854775807) :
    Calls Tryz.prog 27 #[.slice A n c, .slice A' m d] w fun e w' => e = .returned (.bool (decide (l = l'))) ∧ ∃ q, w' = w.drewN q := by
 by_cases hnm : n = m
 · subst hnm
   go_enter Tryz.func27, Tryz.ntmps27
   go_wp2
   go_loopg [13] n (fun g s13 wr => ∃ kk q : Nat, kk ≤ n ∧ n - kk ≤ g ∧ s13 = .int .i64 kk ∧ wr = w.drewN q ∧ Hid (∀ j, j < kk → l[j]? = l'[j]?))
   case atStart => exact ⟨0, 0, Nat.zero_le _, by omega, rfl, rfl, fun j hj => absurd hj (Nat.not_lt_zero _)⟩
   case round =>
    obtain ⟨kk, q, hkk, hg, rfl, rfl, H⟩ := hrel
    by_cases hlt : kk < n
    · obtain ⟨b, off, x, rfl, hb, hx, c0, c1, c2, c3, c4⟩ := h.atE hlt
      obtain ⟨b', off', x', rfl, hb', hx', d0, d1, d2, d3, d4⟩ := h'.atE hlt
      have HX := Lib.hid hx; have HX' := Lib.hid hx'; clear hx hx'
      clear h h'
      have hne := neqE
      go_wp2_with fail
      go_quiet (fail)
      go_wp2
      · go_ret
        refine ⟨?_, q + nq, by simp⟩
        have hd : l ≠ l' := by
         rintro rfl
         have := HX.out.symm.trans HX'.out
         simp at this; subst this; simp_all
        simp [hd]
      · go_roundg (n - (kk + 1))
        case measure => omega
        case rel =>
         refine ⟨kk + 1, q + nq, by omega, by omega, by go_num, by simp, ?_⟩
         intro j hj
         by_cases e : j = kk
         · subst e
           rw [HX.out, HX'.out]; congr 1; rw [entry_eq_iff]; simp_all
         · exact H.out j (by omega)
    · have : kk = n := by omega
      subst this
      have hl := h.len; have hl' := h'.len
      simp at hl hl'
      have he : l = l' := list_eq_of (by omega) (fun j hj => H.out j (by omega))
      clear h h' hl hl'
      go_wp2
      go_ret
      refine ⟨by simp [he], q, rfl⟩
 · have hnm' : ¬ (n : Int) = (m : Int) := by omega
   have hd : l ≠ l' := by
    rintro rfl
    exact hnm (h.len.symm.trans h'.len)
   clear h h'
   go_enter Tryz.func27, Tryz.ntmps27
   go_wp2
   go_ret
   exact ⟨by simp [hd], 0, rfl⟩
end
section
set_option linter.unusedSimpArgs false
set_option linter.unusedVariables false
open Go.RowKit
theorem infoE : (Tryz.prog.info? 27).map (fun i => (i.zero, i.size, i.bytes)) = some (some (.agg #[.int .i64 0, .int .i64 0, .int .i64 0, .int .i64 0, .int .i64 0]), 5, 40) := by kernel_rfl
set_option maxHeartbeats 1000000 in
theorem CloneE_calls (w : World) (A : Option Addr) (n c B : Nat) (hB : B ≤ w.heap.size) (rows : List (List Value)) (h : Sl w B 5 A n rows) (h1 : ∀ r ∈ rows, ∀ u ∈ r, u.oneCell' = true) (hn : n * 40 ≤ 140737488355328) :
    Calls Tryz.prog 100 #[.slice A n c] w fun e w' => ∃ A' c', e = .returned (.slice A' n c') ∧ Own w' w.heap.size 27 5 (.slice A' n c') n rows ∧ Below w.heap.size w w' := by
 obtain ⟨i0, hi0, hz0, hz1, hz2⟩ := info_parts infoE
 have hnm : n ≤ maxLen := by unfold maxLen; omega
 cases A with
 | none =>
   have h0 : n = 0 := by
    rcases Nat.eq_zero_or_pos n with h0 | h0
    · exact h0
    · obtain ⟨b, off, e, _⟩ := h.2.2 h0
      cases e
   subst h0
   have hr : rows = [] := List.eq_nil_of_length_eq_zero h.1
   subst hr
   clear h h1 hi0 hz0 hz1 hz2 hnm hn
   have hs : ∀ w, (binOp .eql 42 (.slice none 0 c) (.slice none 0 0)).run Tryz.prog w = .ok (.bool true) w := fun w => by kernel_rfl
   go_enter Tryz.func100, Tryz.ntmps100
   go_wp2
   go_ret
   exact ⟨none, 0, rfl, Own.nil _ _ _ _, Below.refl _ _⟩
 | some a =>
   have hs : ∀ w, (binOp .eql 42 (.slice (some a) n c) (.slice none 0 0)).run Tryz.prog w = .ok (.bool false) w := fun w => by kernel_rfl
   have HN := Lib.hid hn; have HM := Lib.hid hnm; have H1 := Lib.hid h1; have H := Lib.hid h; clear hn hnm h1 h
   have HI := Lib.hid hi0; have HZ0 := Lib.hid hz0; have HZ1 := Lib.hid hz1; have HZ2 := Lib.hid hz2; clear hi0 hz0 hz1 hz2
   go_enter Tryz.func100, Tryz.ntmps100
   go_wp2_with (at_builtin; refine wpList_append_sl _ rfl _ _ 42 rfl w.heap.size 27 i0 _ 5 40 Tryz.underlying42 HI.out HZ0.out HZ1.out HZ2.out rfl (by decide) _ 0 [] rfl ?c1 B (some a) n c rows rfl ?c2 H1.out ?c3 ?c4 ?c5 ?_)
   case c1 => exact ⟨World.ownsRow_made _ _ _ (Nat.le_refl _) (by simp [maxLen]) (by simp), rfl, by simp⟩
   case c2 => exact H.out.keep fun p hp => World.cell?_alloc_lt w _ p (by omega)
   case c3 => rw [Nat.zero_add]; exact HM.out
   case c4 => rw [Nat.zero_add]; exact HN.out
   case c5 => simp
   intro v' w' hown hgrow hblk
   obtain ⟨A', c', rfl, _, _⟩ := hown.slice
   go_wp2
   go_ret
   refine ⟨A', c', rfl, hown, ?_⟩
   exact ((Below.refl _ _).alloc (Nat.le_refl _) _).grown hgrow (by simp) (by simp [Value.ownBlock])
end
end Go.Proofs.YtmppkaoonncddaaGreatDoor
