/- What the library's variables hold when a law is called; that it stays so. -/
import Derived.Test.YtdcegdonppfbkaaDoorProg
import Derived.Test.YtdcegdonppfbkaaDoorSee
import Derived.Lib.LaidTab
import Derived.Lib.AppendIntMem
import Derived.Lib.AtoiErrMem
namespace Go.Proofs.YtdcegdonppfbkaaDoor
set_option linter.unusedSimpArgs false
set_option linter.unusedVariables false
open Go.RowKit

structure Env (w : World) : Prop where
  tab : Lib.TabIs Tryd.prog w "internal/strconv.uint64pow10" .u64 Lib.pow10Tab
  big : ∃ m, w.cell? ⟨0, 0, none⟩ = some (.int .i64 m)
  syn : ∃ t p, w.cell? ⟨1, 0, none⟩ = some (.iface t p)
  rng : ∃ t p, w.cell? ⟨2, 0, none⟩ = some (.iface t p)
section
variable {w w' : World}
theorem Env.onto (h : Env w) (hb : Onto w w') : Env w' :=
  ⟨Lib.tabBelow_of_tabIs h.tab w' hb, let ⟨m, hm⟩ := h.big; ⟨m, cellB hb hm⟩, let ⟨t, p, hm⟩ := h.syn; ⟨t, p, cellB hb hm⟩, let ⟨t, p, hm⟩ := h.rng; ⟨t, p, cellB hb hm⟩⟩
theorem Env.draws (h : Env w) (q : Nat) : Env (w.drewN q) := h.onto ((Onto.rfl' w).draws q)
theorem Env.draw (h : Env w) : Env w.drew := h.onto ((Onto.rfl' w).draw)
theorem Env.new (h : Env w) (o : Obj) : Env (w.alloc o) := h.onto ((Onto.rfl' w).new o)
theorem onto_grow (w : World) (k : Nat) (os : Array Obj) : Onto w (Sort.grow (w.drewN k) os) := Lib.below_grow w.heap.size w (Nat.le_refl _) k os
end
end Go.Proofs.YtdcegdonppfbkaaDoor
