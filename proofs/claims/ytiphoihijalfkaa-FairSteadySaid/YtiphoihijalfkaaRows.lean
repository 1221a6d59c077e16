/-
  No cell of these rows narrows 'for every input' (looked for: loops, veiled, ifaces, maps, wideKeys, modest, calm, conditions, laid).
  DERIVED. THE GIVEN ROWS OF THIS SEAT. 11 by the template 'for every input the law returns true; each argument reads behind the call as it read before'; 0 by the template 'total and deterministic' (their statements: YtiphoihijalfkaaTotals.lean).
  GIVEN WITH THE SEED: the statements are not yours to turn. If you find one false, say at which input.
  Laid BY PROGRAM, IN A SANDBOX (cutbox-rows.mjs): the forced cells as the released guide's own fill.sh prints them over the translation c3a889632e6e5e92… (all of the seat's roots in one cut). By AI agents, Wed Nov 11 2026. No macro, syntax, notation, axiom, sorry.
-/
import Derived.Test.YtiphoihijalfkaaChecked
import GoSem.Claim
import GoSem.ClaimJoined
import GoSem.ClaimMapViews
import Derived.JoinedTies
import Derived.KernelRfl
namespace Go.Proofs.Ytiphoihijalfkaa
/- THE CELL 'sum', in the pinned program and in every row, IS THE sha256 OF THE DUMP (.gsa) THAT YtiphoihijalfkaaProg.lean LOADS. Nothing in Lean hashes anything: it is a label: what it is worth is what the hold of that sum in a sandbox is worth. -/
noncomputable def Try.pinned : Pinned := { name := "ytiphoihijalfkaa", sum := "c3a889632e6e5e922e1cee278de5d0eacf64cc9e5115adc5a9ba2840ef921202", checked := Try.checked }
namespace Rows
def none {H : Type} : Left H := { results := [], args := [] }

/-- 'carillonlaw.Names': WHATEVER THE INPUT: true; the input reads as it did. -/
def namesSpec : ChangeSpec := { name := "names", fn := fun _ => fun
  | [] => { results := [.lit (.bool true)], args := [] }
  | _ => none }
def namesRow : OpenClaim := { program := "ytiphoihijalfkaa", sum := "c3a889632e6e5e922e1cee278de5d0eacf64cc9e5115adc5a9ba2840ef921202", func := "carillon/carillonlaw.Names", spec := "names", apart := false }
def NamesSaid : Prop := namesRow.holds Try.pinned (OpenSpec.ofChange namesSpec)

/-- ITS FALSE NEIGHBOUR: 'it returns false'. Refute it at one input. -/
def namesWrong : ChangeSpec := { name := "names", fn := fun _ => fun
  | [] => { results := [.lit (.bool false)], args := [] }
  | _ => none }
def NamesWrongFalsely : Prop := namesRow.holds Try.pinned (OpenSpec.ofChange namesWrong)

/-- 'carillonlaw.FairSays': WHATEVER THE INPUT: true; the input reads as it did. -/
def fairSaysSpec : ChangeSpec := { name := "fairSays", fn := fun _ => fun
  | [d] => { results := [.lit (.bool true)], args := [d] }
  | _ => none }
def fairSaysRow : OpenClaim := { program := "ytiphoihijalfkaa", sum := "c3a889632e6e5e922e1cee278de5d0eacf64cc9e5115adc5a9ba2840ef921202", func := "carillon/carillonlaw.FairSays", spec := "fairSays", inPlace := ["internal/bytealg.IndexByteString", "internal/bytealg.IndexString"], unfollowed := true, recurses := true, named := ["internal/bytealg.MaxLen"], apart := false }
def FairSaysSaid : Prop := fairSaysRow.holds Try.pinned (OpenSpec.ofChange fairSaysSpec)

/-- ITS FALSE NEIGHBOUR: 'it returns false'. Refute it at one input. -/
def fairSaysWrong : ChangeSpec := { name := "fairSays", fn := fun _ => fun
  | [d] => { results := [.lit (.bool false)], args := [d] }
  | _ => none }
def FairSaysWrongFalsely : Prop := fairSaysRow.holds Try.pinned (OpenSpec.ofChange fairSaysWrong)

/-- 'carillonlaw.DueLater': WHATEVER THE INPUT: true; the input reads as it did. -/
def dueLaterSpec : ChangeSpec := { name := "dueLater", fn := fun _ => fun
  | [d1, d2, d3] => { results := [.lit (.bool true)], args := [d1, d2, d3] }
  | _ => none }
def dueLaterRow : OpenClaim := { program := "ytiphoihijalfkaa", sum := "c3a889632e6e5e922e1cee278de5d0eacf64cc9e5115adc5a9ba2840ef921202", func := "carillon/carillonlaw.DueLater", spec := "dueLater", unfollowed := true, recurses := true, apart := false }
def DueLaterSaid : Prop := dueLaterRow.holds Try.pinned (OpenSpec.ofChange dueLaterSpec)

/-- ITS FALSE NEIGHBOUR: 'it returns false'. Refute it at one input. -/
def dueLaterWrong : ChangeSpec := { name := "dueLater", fn := fun _ => fun
  | [d1, d2, d3] => { results := [.lit (.bool false)], args := [d1, d2, d3] }
  | _ => none }
def DueLaterWrongFalsely : Prop := dueLaterRow.holds Try.pinned (OpenSpec.ofChange dueLaterWrong)

/-- 'carillonlaw.BookOnce': WHATEVER THE INPUT: true; the input reads as it did. -/
def bookOnceSpec : ChangeSpec := { name := "bookOnce", fn := fun _ => fun
  | [d1, d2] => { results := [.lit (.bool true)], args := [d1, d2] }
  | _ => none }
def bookOnceRow : OpenClaim := { program := "ytiphoihijalfkaa", sum := "c3a889632e6e5e922e1cee278de5d0eacf64cc9e5115adc5a9ba2840ef921202", func := "carillon/carillonlaw.BookOnce", spec := "bookOnce", inPlace := ["slices.overlaps[carillon/api.Job]"], unfollowed := true, recurses := true, apart := false }
def BookOnceSaid : Prop := bookOnceRow.holds Try.pinned (OpenSpec.ofChange bookOnceSpec)

/-- ITS FALSE NEIGHBOUR: 'it returns false'. Refute it at one input. -/
def bookOnceWrong : ChangeSpec := { name := "bookOnce", fn := fun _ => fun
  | [d1, d2] => { results := [.lit (.bool false)], args := [d1, d2] }
  | _ => none }
def BookOnceWrongFalsely : Prop := bookOnceRow.holds Try.pinned (OpenSpec.ofChange bookOnceWrong)

/-- 'carillonlaw.BookParts': WHATEVER THE INPUT: true; the input reads as it did. -/
def bookPartsSpec : ChangeSpec := { name := "bookParts", fn := fun _ => fun
  | [d1, d2] => { results := [.lit (.bool true)], args := [d1, d2] }
  | _ => none }
def bookPartsRow : OpenClaim := { program := "ytiphoihijalfkaa", sum := "c3a889632e6e5e922e1cee278de5d0eacf64cc9e5115adc5a9ba2840ef921202", func := "carillon/carillonlaw.BookParts", spec := "bookParts", inPlace := ["slices.overlaps[carillon/api.Job]"], unfollowed := true, recurses := true, apart := false }
def BookPartsSaid : Prop := bookPartsRow.holds Try.pinned (OpenSpec.ofChange bookPartsSpec)

/-- ITS FALSE NEIGHBOUR: 'it returns false'. Refute it at one input. -/
def bookPartsWrong : ChangeSpec := { name := "bookParts", fn := fun _ => fun
  | [d1, d2] => { results := [.lit (.bool false)], args := [d1, d2] }
  | _ => none }
def BookPartsWrongFalsely : Prop := bookPartsRow.holds Try.pinned (OpenSpec.ofChange bookPartsWrong)

/-- 'carillonlaw.FairSteady': WHATEVER THE INPUT: true; the input reads as it did. -/
def fairSteadySpec : ChangeSpec := { name := "fairSteady", fn := fun _ => fun
  | [d] => { results := [.lit (.bool true)], args := [d] }
  | _ => none }
def fairSteadyRow : OpenClaim := { program := "ytiphoihijalfkaa", sum := "c3a889632e6e5e922e1cee278de5d0eacf64cc9e5115adc5a9ba2840ef921202", func := "carillon/carillonlaw.FairSteady", spec := "fairSteady", inPlace := ["slices.overlaps[carillon/api.Job]"], unfollowed := true, recurses := true, apart := false }
def FairSteadySaid : Prop := fairSteadyRow.holds Try.pinned (OpenSpec.ofChange fairSteadySpec)

/-- ITS FALSE NEIGHBOUR: 'it returns false'. Refute it at one input. -/
def fairSteadyWrong : ChangeSpec := { name := "fairSteady", fn := fun _ => fun
  | [d] => { results := [.lit (.bool false)], args := [d] }
  | _ => none }
def FairSteadyWrongFalsely : Prop := fairSteadyRow.holds Try.pinned (OpenSpec.ofChange fairSteadyWrong)

/-- 'carillonlaw.FairBook': WHATEVER THE INPUT: true; the input reads as it did. -/
def fairBookSpec : ChangeSpec := { name := "fairBook", fn := fun _ => fun
  | [d] => { results := [.lit (.bool true)], args := [d] }
  | _ => none }
def fairBookRow : OpenClaim := { program := "ytiphoihijalfkaa", sum := "c3a889632e6e5e922e1cee278de5d0eacf64cc9e5115adc5a9ba2840ef921202", func := "carillon/carillonlaw.FairBook", spec := "fairBook", inPlace := ["slices.overlaps[carillon/api.Job]"], unfollowed := true, recurses := true, apart := false }
def FairBookSaid : Prop := fairBookRow.holds Try.pinned (OpenSpec.ofChange fairBookSpec)

/-- ITS FALSE NEIGHBOUR: 'it returns false'. Refute it at one input. -/
def fairBookWrong : ChangeSpec := { name := "fairBook", fn := fun _ => fun
  | [d] => { results := [.lit (.bool false)], args := [d] }
  | _ => none }
def FairBookWrongFalsely : Prop := fairBookRow.holds Try.pinned (OpenSpec.ofChange fairBookWrong)

/-- 'carillonlaw.BookSays': WHATEVER THE INPUT: true; the input reads as it did. -/
def bookSaysSpec : ChangeSpec := { name := "bookSays", fn := fun _ => fun
  | [d1, d2, d3, d4] => { results := [.lit (.bool true)], args := [d1, d2, d3, d4] }
  | _ => none }
def bookSaysRow : OpenClaim := { program := "ytiphoihijalfkaa", sum := "c3a889632e6e5e922e1cee278de5d0eacf64cc9e5115adc5a9ba2840ef921202", func := "carillon/carillonlaw.BookSays", spec := "bookSays", inPlace := ["slices.overlaps[carillon/api.Job]", "internal/bytealg.IndexByteString", "internal/bytealg.IndexString"], unfollowed := true, recurses := true, named := ["internal/bytealg.MaxLen"], apart := false }
def BookSaysSaid : Prop := bookSaysRow.holds Try.pinned (OpenSpec.ofChange bookSaysSpec)

/-- ITS FALSE NEIGHBOUR: 'it returns false'. Refute it at one input. -/
def bookSaysWrong : ChangeSpec := { name := "bookSays", fn := fun _ => fun
  | [d1, d2, d3, d4] => { results := [.lit (.bool false)], args := [d1, d2, d3, d4] }
  | _ => none }
def BookSaysWrongFalsely : Prop := bookSaysRow.holds Try.pinned (OpenSpec.ofChange bookSaysWrong)

/-- 'carillonlaw.BookReplays': WHATEVER THE INPUT: true; the input reads as it did. -/
def bookReplaysSpec : ChangeSpec := { name := "bookReplays", fn := fun _ => fun
  | [d] => { results := [.lit (.bool true)], args := [d] }
  | _ => none }
def bookReplaysRow : OpenClaim := { program := "ytiphoihijalfkaa", sum := "c3a889632e6e5e922e1cee278de5d0eacf64cc9e5115adc5a9ba2840ef921202", func := "carillon/carillonlaw.BookReplays", spec := "bookReplays", inPlace := ["slices.overlaps[carillon/api.Job]", "internal/bytealg.IndexByteString", "internal/bytealg.IndexString"], unfollowed := true, recurses := true, named := ["internal/bytealg.MaxLen"], apart := false }
def BookReplaysSaid : Prop := bookReplaysRow.holds Try.pinned (OpenSpec.ofChange bookReplaysSpec)

/-- ITS FALSE NEIGHBOUR: 'it returns false'. Refute it at one input. -/
def bookReplaysWrong : ChangeSpec := { name := "bookReplays", fn := fun _ => fun
  | [d] => { results := [.lit (.bool false)], args := [d] }
  | _ => none }
def BookReplaysWrongFalsely : Prop := bookReplaysRow.holds Try.pinned (OpenSpec.ofChange bookReplaysWrong)

/-- 'carillonlaw.DueRings': WHATEVER THE INPUT: true; the input reads as it did. -/
def dueRingsSpec : ChangeSpec := { name := "dueRings", fn := fun _ => fun
  | [d1, d2] => { results := [.lit (.bool true)], args := [d1, d2] }
  | _ => none }
def dueRingsRow : OpenClaim := { program := "ytiphoihijalfkaa", sum := "c3a889632e6e5e922e1cee278de5d0eacf64cc9e5115adc5a9ba2840ef921202", func := "carillon/carillonlaw.DueRings", spec := "dueRings", inPlace := ["slices.overlaps[carillon/api.Job]"], unfollowed := true, recurses := true, apart := false }
def DueRingsSaid : Prop := dueRingsRow.holds Try.pinned (OpenSpec.ofChange dueRingsSpec)

/-- ITS FALSE NEIGHBOUR: 'it returns false'. Refute it at one input. -/
def dueRingsWrong : ChangeSpec := { name := "dueRings", fn := fun _ => fun
  | [d1, d2] => { results := [.lit (.bool false)], args := [d1, d2] }
  | _ => none }
def DueRingsWrongFalsely : Prop := dueRingsRow.holds Try.pinned (OpenSpec.ofChange dueRingsWrong)

/-- 'carillonlaw.DueSays': WHATEVER THE INPUT: true; the input reads as it did. -/
def dueSaysSpec : ChangeSpec := { name := "dueSays", fn := fun _ => fun
  | [d1, d2] => { results := [.lit (.bool true)], args := [d1, d2] }
  | _ => none }
def dueSaysRow : OpenClaim := { program := "ytiphoihijalfkaa", sum := "c3a889632e6e5e922e1cee278de5d0eacf64cc9e5115adc5a9ba2840ef921202", func := "carillon/carillonlaw.DueSays", spec := "dueSays", unfollowed := true, recurses := true, apart := false }
def DueSaysSaid : Prop := dueSaysRow.holds Try.pinned (OpenSpec.ofChange dueSaysSpec)

/-- ITS FALSE NEIGHBOUR: 'it returns false'. Refute it at one input. -/
def dueSaysWrong : ChangeSpec := { name := "dueSays", fn := fun _ => fun
  | [d1, d2] => { results := [.lit (.bool false)], args := [d1, d2] }
  | _ => none }
def DueSaysWrongFalsely : Prop := dueSaysRow.holds Try.pinned (OpenSpec.ofChange dueSaysWrong)

/- THE SECOND FORM. 'bulk': how many values and letters a reading holds, each counted each time it is reached (what is shared counts as often as it is met; a slice's spare places count too). A statement '..UptoSaid' is the law's where the arguments, and the package variables that the reading takes, are together of bulk at most 1048576: NARROWER than '..Said'. Prove '..Said' where nothing that the law and all that it calls make is longer than what came in: it says more and counts as full. Else prove '..UptoSaid'. A law counts once. -/
mutual
def uptoBulk {H : Type} : DataW H → Nat
  | .lit (.string bytes) => bytes.length + 1
  | .lit _ => 1
  | .nil => 1
  | .ptr d => uptoBulk d + 1
  | .slice elems spare => uptoBulkAll elems + uptoBulkAll spare + 1
  | .agg parts => uptoBulkAll parts + 1
  | .iface _ d => uptoBulk d + 1
  | .map entries => uptoBulkEntries entries + 1
  | .held _ => 1
def uptoBulkAll {H : Type} : List (DataW H) → Nat
  | [] => 0
  | d :: r => uptoBulk d + uptoBulkAll r
def uptoBulkEntries {H : Type} : List (Lit × DataW H) → Nat
  | [] => 0
  | x :: r => uptoBulkEntry x + uptoBulkEntries r
def uptoBulkEntry {H : Type} : Lit × DataW H → Nat
  | (.string bytes, d) => bytes.length + uptoBulk d + 1
  | (_, d) => uptoBulk d + 1
 end
def uptoSmall : (H : Type) → List (DataW H) → Bool := fun _ ds => decide (uptoBulkAll ds ≤ 1048576)
def OpenSpec.upto (s : _root_.Go.ChangeSpec) : _root_.Go.OpenSpec := { _root_.Go.OpenSpec.ofChange s with cond := some uptoSmall }

/-- 'carillonlaw.Names', WHERE WHAT IT READS IS OF BULK AT MOST 1048576: true; the input reads as it did. -/
def namesUptoRow : OpenClaim := { program := "ytiphoihijalfkaa", sum := "c3a889632e6e5e922e1cee278de5d0eacf64cc9e5115adc5a9ba2840ef921202", func := "carillon/carillonlaw.Names", spec := "names", apart := false, narrowed := true }
def NamesUptoSaid : Prop := namesUptoRow.holds Try.pinned (OpenSpec.upto namesSpec)

/-- 'carillonlaw.FairSays', WHERE WHAT IT READS IS OF BULK AT MOST 1048576: true; the input reads as it did. -/
def fairSaysUptoRow : OpenClaim := { program := "ytiphoihijalfkaa", sum := "c3a889632e6e5e922e1cee278de5d0eacf64cc9e5115adc5a9ba2840ef921202", func := "carillon/carillonlaw.FairSays", spec := "fairSays", inPlace := ["internal/bytealg.IndexByteString", "internal/bytealg.IndexString"], unfollowed := true, recurses := true, named := ["internal/bytealg.MaxLen"], apart := false, narrowed := true }
def FairSaysUptoSaid : Prop := fairSaysUptoRow.holds Try.pinned (OpenSpec.upto fairSaysSpec)

/-- 'carillonlaw.DueLater', WHERE WHAT IT READS IS OF BULK AT MOST 1048576: true; the input reads as it did. -/
def dueLaterUptoRow : OpenClaim := { program := "ytiphoihijalfkaa", sum := "c3a889632e6e5e922e1cee278de5d0eacf64cc9e5115adc5a9ba2840ef921202", func := "carillon/carillonlaw.DueLater", spec := "dueLater", unfollowed := true, recurses := true, apart := false, narrowed := true }
def DueLaterUptoSaid : Prop := dueLaterUptoRow.holds Try.pinned (OpenSpec.upto dueLaterSpec)

/-- 'carillonlaw.BookOnce', WHERE WHAT IT READS IS OF BULK AT MOST 1048576: true; the input reads as it did. -/
def bookOnceUptoRow : OpenClaim := { program := "ytiphoihijalfkaa", sum := "c3a889632e6e5e922e1cee278de5d0eacf64cc9e5115adc5a9ba2840ef921202", func := "carillon/carillonlaw.BookOnce", spec := "bookOnce", inPlace := ["slices.overlaps[carillon/api.Job]"], unfollowed := true, recurses := true, apart := false, narrowed := true }
def BookOnceUptoSaid : Prop := bookOnceUptoRow.holds Try.pinned (OpenSpec.upto bookOnceSpec)

/-- 'carillonlaw.BookParts', WHERE WHAT IT READS IS OF BULK AT MOST 1048576: true; the input reads as it did. -/
def bookPartsUptoRow : OpenClaim := { program := "ytiphoihijalfkaa", sum := "c3a889632e6e5e922e1cee278de5d0eacf64cc9e5115adc5a9ba2840ef921202", func := "carillon/carillonlaw.BookParts", spec := "bookParts", inPlace := ["slices.overlaps[carillon/api.Job]"], unfollowed := true, recurses := true, apart := false, narrowed := true }
def BookPartsUptoSaid : Prop := bookPartsUptoRow.holds Try.pinned (OpenSpec.upto bookPartsSpec)

/-- 'carillonlaw.FairSteady', WHERE WHAT IT READS IS OF BULK AT MOST 1048576: true; the input reads as it did. -/
def fairSteadyUptoRow : OpenClaim := { program := "ytiphoihijalfkaa", sum := "c3a889632e6e5e922e1cee278de5d0eacf64cc9e5115adc5a9ba2840ef921202", func := "carillon/carillonlaw.FairSteady", spec := "fairSteady", inPlace := ["slices.overlaps[carillon/api.Job]"], unfollowed := true, recurses := true, apart := false, narrowed := true }
def FairSteadyUptoSaid : Prop := fairSteadyUptoRow.holds Try.pinned (OpenSpec.upto fairSteadySpec)

/-- 'carillonlaw.FairBook', WHERE WHAT IT READS IS OF BULK AT MOST 1048576: true; the input reads as it did. -/
def fairBookUptoRow : OpenClaim := { program := "ytiphoihijalfkaa", sum := "c3a889632e6e5e922e1cee278de5d0eacf64cc9e5115adc5a9ba2840ef921202", func := "carillon/carillonlaw.FairBook", spec := "fairBook", inPlace := ["slices.overlaps[carillon/api.Job]"], unfollowed := true, recurses := true, apart := false, narrowed := true }
def FairBookUptoSaid : Prop := fairBookUptoRow.holds Try.pinned (OpenSpec.upto fairBookSpec)

/-- 'carillonlaw.BookSays', WHERE WHAT IT READS IS OF BULK AT MOST 1048576: true; the input reads as it did. -/
def bookSaysUptoRow : OpenClaim := { program := "ytiphoihijalfkaa", sum := "c3a889632e6e5e922e1cee278de5d0eacf64cc9e5115adc5a9ba2840ef921202", func := "carillon/carillonlaw.BookSays", spec := "bookSays", inPlace := ["slices.overlaps[carillon/api.Job]", "internal/bytealg.IndexByteString", "internal/bytealg.IndexString"], unfollowed := true, recurses := true, named := ["internal/bytealg.MaxLen"], apart := false, narrowed := true }
def BookSaysUptoSaid : Prop := bookSaysUptoRow.holds Try.pinned (OpenSpec.upto bookSaysSpec)

/-- 'carillonlaw.BookReplays', WHERE WHAT IT READS IS OF BULK AT MOST 1048576: true; the input reads as it did. -/
def bookReplaysUptoRow : OpenClaim := { program := "ytiphoihijalfkaa", sum := "c3a889632e6e5e922e1cee278de5d0eacf64cc9e5115adc5a9ba2840ef921202", func := "carillon/carillonlaw.BookReplays", spec := "bookReplays", inPlace := ["slices.overlaps[carillon/api.Job]", "internal/bytealg.IndexByteString", "internal/bytealg.IndexString"], unfollowed := true, recurses := true, named := ["internal/bytealg.MaxLen"], apart := false, narrowed := true }
def BookReplaysUptoSaid : Prop := bookReplaysUptoRow.holds Try.pinned (OpenSpec.upto bookReplaysSpec)

/-- 'carillonlaw.DueRings', WHERE WHAT IT READS IS OF BULK AT MOST 1048576: true; the input reads as it did. -/
def dueRingsUptoRow : OpenClaim := { program := "ytiphoihijalfkaa", sum := "c3a889632e6e5e922e1cee278de5d0eacf64cc9e5115adc5a9ba2840ef921202", func := "carillon/carillonlaw.DueRings", spec := "dueRings", inPlace := ["slices.overlaps[carillon/api.Job]"], unfollowed := true, recurses := true, apart := false, narrowed := true }
def DueRingsUptoSaid : Prop := dueRingsUptoRow.holds Try.pinned (OpenSpec.upto dueRingsSpec)

/-- 'carillonlaw.DueSays', WHERE WHAT IT READS IS OF BULK AT MOST 1048576: true; the input reads as it did. -/
def dueSaysUptoRow : OpenClaim := { program := "ytiphoihijalfkaa", sum := "c3a889632e6e5e922e1cee278de5d0eacf64cc9e5115adc5a9ba2840ef921202", func := "carillon/carillonlaw.DueSays", spec := "dueSays", unfollowed := true, recurses := true, apart := false, narrowed := true }
def DueSaysUptoSaid : Prop := dueSaysUptoRow.holds Try.pinned (OpenSpec.upto dueSaysSpec)

end Rows
end Go.Proofs.Ytiphoihijalfkaa
