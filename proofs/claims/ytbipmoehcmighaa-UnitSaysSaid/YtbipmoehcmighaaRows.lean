/-
  No cell of these rows narrows 'for every input' (looked for: loops, veiled, ifaces, maps, wideKeys, modest, calm, conditions, laid).
  DERIVED. THE GIVEN ROWS OF THIS SEAT. 9 by the template 'for every input the law returns true; each argument reads behind the call as it read before'; 0 by the template 'total and deterministic' (their statements: YtbipmoehcmighaaTotals.lean).
  GIVEN WITH THE SEED: the statements are not yours to turn. If you find one false, say at which input.
  Laid BY PROGRAM, IN A SANDBOX (cutbox-rows.mjs): the forced cells as the released guide's own fill.sh prints them over the translation 25de1724f139c040… (all of the seat's roots in one cut). By AI agents, Wed Nov 11 2026. No macro, syntax, notation, axiom, sorry.
-/
import Derived.Test.YtbipmoehcmighaaChecked
import GoSem.Claim
import GoSem.ClaimJoined
import GoSem.ClaimMapViews
import Derived.JoinedTies
import Derived.KernelRfl
namespace Go.Proofs.Ytbipmoehcmighaa
/- THE CELL 'sum', in the pinned program and in every row, IS THE sha256 OF THE DUMP (.gsa) THAT YtbipmoehcmighaaProg.lean LOADS. Nothing in Lean hashes anything: it is a label: what it is worth is what the hold of that sum in a sandbox is worth. -/
noncomputable def Try.pinned : Pinned := { name := "ytbipmoehcmighaa", sum := "25de1724f139c0406fbe868b18951826e591e1b8272e610cc6b01f858e0ef6ea", checked := Try.checked }
namespace Rows
def none {H : Type} : Left H := { results := [], args := [] }

/-- 'carillonlaw.ChainStands': WHATEVER THE INPUT: true; the input reads as it did. -/
def chainStandsSpec : ChangeSpec := { name := "chainStands", fn := fun _ => fun
  | [d1, d2, d3, d4, d5] => { results := [.lit (.bool true)], args := [d1, d2, d3, d4, d5] }
  | _ => none }
def chainStandsRow : OpenClaim := { program := "ytbipmoehcmighaa", sum := "25de1724f139c0406fbe868b18951826e591e1b8272e610cc6b01f858e0ef6ea", func := "carillon/carillonlaw.ChainStands", spec := "chainStands", apart := false }
def ChainStandsSaid : Prop := chainStandsRow.holds Try.pinned (OpenSpec.ofChange chainStandsSpec)

/-- ITS FALSE NEIGHBOUR: 'it returns false'. Refute it at one input. -/
def chainStandsWrong : ChangeSpec := { name := "chainStands", fn := fun _ => fun
  | [d1, d2, d3, d4, d5] => { results := [.lit (.bool false)], args := [d1, d2, d3, d4, d5] }
  | _ => none }
def ChainStandsWrongFalsely : Prop := chainStandsRow.holds Try.pinned (OpenSpec.ofChange chainStandsWrong)

/-- 'carillonlaw.ChainAlong': WHATEVER THE INPUT: true; the input reads as it did. -/
def chainAlongSpec : ChangeSpec := { name := "chainAlong", fn := fun _ => fun
  | [d1, d2, d3] => { results := [.lit (.bool true)], args := [d1, d2, d3] }
  | _ => none }
def chainAlongRow : OpenClaim := { program := "ytbipmoehcmighaa", sum := "25de1724f139c0406fbe868b18951826e591e1b8272e610cc6b01f858e0ef6ea", func := "carillon/carillonlaw.ChainAlong", spec := "chainAlong", apart := false }
def ChainAlongSaid : Prop := chainAlongRow.holds Try.pinned (OpenSpec.ofChange chainAlongSpec)

/-- ITS FALSE NEIGHBOUR: 'it returns false'. Refute it at one input. -/
def chainAlongWrong : ChangeSpec := { name := "chainAlong", fn := fun _ => fun
  | [d1, d2, d3] => { results := [.lit (.bool false)], args := [d1, d2, d3] }
  | _ => none }
def ChainAlongWrongFalsely : Prop := chainAlongRow.holds Try.pinned (OpenSpec.ofChange chainAlongWrong)

/-- 'carillonlaw.ChainSays': WHATEVER THE INPUT: true; the input reads as it did. -/
def chainSaysSpec : ChangeSpec := { name := "chainSays", fn := fun _ => fun
  | [d1, d2, d3, d4, d5] => { results := [.lit (.bool true)], args := [d1, d2, d3, d4, d5] }
  | _ => none }
def chainSaysRow : OpenClaim := { program := "ytbipmoehcmighaa", sum := "25de1724f139c0406fbe868b18951826e591e1b8272e610cc6b01f858e0ef6ea", func := "carillon/carillonlaw.ChainSays", spec := "chainSays", inPlace := ["internal/bytealg.IndexByteString", "internal/bytealg.IndexString"], unfollowed := true, recurses := true, named := ["internal/bytealg.MaxLen"], apart := false }
def ChainSaysSaid : Prop := chainSaysRow.holds Try.pinned (OpenSpec.ofChange chainSaysSpec)

/-- ITS FALSE NEIGHBOUR: 'it returns false'. Refute it at one input. -/
def chainSaysWrong : ChangeSpec := { name := "chainSays", fn := fun _ => fun
  | [d1, d2, d3, d4, d5] => { results := [.lit (.bool false)], args := [d1, d2, d3, d4, d5] }
  | _ => none }
def ChainSaysWrongFalsely : Prop := chainSaysRow.holds Try.pinned (OpenSpec.ofChange chainSaysWrong)

/-- 'carillonlaw.UnitReplays': WHATEVER THE INPUT: true; the input reads as it did. -/
def unitReplaysSpec : ChangeSpec := { name := "unitReplays", fn := fun _ => fun
  | [d] => { results := [.lit (.bool true)], args := [d] }
  | _ => none }
def unitReplaysRow : OpenClaim := { program := "ytbipmoehcmighaa", sum := "25de1724f139c0406fbe868b18951826e591e1b8272e610cc6b01f858e0ef6ea", func := "carillon/carillonlaw.UnitReplays", spec := "unitReplays", inPlace := ["internal/bytealg.IndexByteString", "internal/bytealg.IndexString"], unfollowed := true, recurses := true, named := ["internal/bytealg.MaxLen"], apart := false }
def UnitReplaysSaid : Prop := unitReplaysRow.holds Try.pinned (OpenSpec.ofChange unitReplaysSpec)

/-- ITS FALSE NEIGHBOUR: 'it returns false'. Refute it at one input. -/
def unitReplaysWrong : ChangeSpec := { name := "unitReplays", fn := fun _ => fun
  | [d] => { results := [.lit (.bool false)], args := [d] }
  | _ => none }
def UnitReplaysWrongFalsely : Prop := unitReplaysRow.holds Try.pinned (OpenSpec.ofChange unitReplaysWrong)

/-- 'carillonlaw.UnitSays': WHATEVER THE INPUT: true; the input reads as it did. -/
def unitSaysSpec : ChangeSpec := { name := "unitSays", fn := fun _ => fun
  | [d1, d2, d3] => { results := [.lit (.bool true)], args := [d1, d2, d3] }
  | _ => none }
def unitSaysRow : OpenClaim := { program := "ytbipmoehcmighaa", sum := "25de1724f139c0406fbe868b18951826e591e1b8272e610cc6b01f858e0ef6ea", func := "carillon/carillonlaw.UnitSays", spec := "unitSays", inPlace := ["internal/bytealg.IndexByteString", "internal/bytealg.IndexString"], unfollowed := true, recurses := true, named := ["internal/bytealg.MaxLen"], apart := false }
def UnitSaysSaid : Prop := unitSaysRow.holds Try.pinned (OpenSpec.ofChange unitSaysSpec)

/-- ITS FALSE NEIGHBOUR: 'it returns false'. Refute it at one input. -/
def unitSaysWrong : ChangeSpec := { name := "unitSays", fn := fun _ => fun
  | [d1, d2, d3] => { results := [.lit (.bool false)], args := [d1, d2, d3] }
  | _ => none }
def UnitSaysWrongFalsely : Prop := unitSaysRow.holds Try.pinned (OpenSpec.ofChange unitSaysWrong)

/-- 'carillonlaw.ClientKeeps': WHATEVER THE INPUT: true; the input reads as it did. -/
def clientKeepsSpec : ChangeSpec := { name := "clientKeeps", fn := fun _ => fun
  | [d1, d2, d3] => { results := [.lit (.bool true)], args := [d1, d2, d3] }
  | _ => none }
def clientKeepsRow : OpenClaim := { program := "ytbipmoehcmighaa", sum := "25de1724f139c0406fbe868b18951826e591e1b8272e610cc6b01f858e0ef6ea", func := "carillon/carillonlaw.ClientKeeps", spec := "clientKeeps", inPlace := ["slices.overlaps[carillon/api.Job]"], unfollowed := true, recurses := true, apart := false }
def ClientKeepsSaid : Prop := clientKeepsRow.holds Try.pinned (OpenSpec.ofChange clientKeepsSpec)

/-- ITS FALSE NEIGHBOUR: 'it returns false'. Refute it at one input. -/
def clientKeepsWrong : ChangeSpec := { name := "clientKeeps", fn := fun _ => fun
  | [d1, d2, d3] => { results := [.lit (.bool false)], args := [d1, d2, d3] }
  | _ => none }
def ClientKeepsWrongFalsely : Prop := clientKeepsRow.holds Try.pinned (OpenSpec.ofChange clientKeepsWrong)

/-- 'carillonlaw.ClientHears': WHATEVER THE INPUT: true; the input reads as it did. -/
def clientHearsSpec : ChangeSpec := { name := "clientHears", fn := fun _ => fun
  | [d1, d2, d3] => { results := [.lit (.bool true)], args := [d1, d2, d3] }
  | _ => none }
def clientHearsRow : OpenClaim := { program := "ytbipmoehcmighaa", sum := "25de1724f139c0406fbe868b18951826e591e1b8272e610cc6b01f858e0ef6ea", func := "carillon/carillonlaw.ClientHears", spec := "clientHears", inPlace := ["slices.overlaps[carillon/api.Job]", "internal/bytealg.IndexByteString", "internal/bytealg.IndexString"], unfollowed := true, recurses := true, named := ["internal/bytealg.MaxLen"], apart := false }
def ClientHearsSaid : Prop := clientHearsRow.holds Try.pinned (OpenSpec.ofChange clientHearsSpec)

/-- ITS FALSE NEIGHBOUR: 'it returns false'. Refute it at one input. -/
def clientHearsWrong : ChangeSpec := { name := "clientHears", fn := fun _ => fun
  | [d1, d2, d3] => { results := [.lit (.bool false)], args := [d1, d2, d3] }
  | _ => none }
def ClientHearsWrongFalsely : Prop := clientHearsRow.holds Try.pinned (OpenSpec.ofChange clientHearsWrong)

/-- 'carillonlaw.ClientSays': WHATEVER THE INPUT: true; the input reads as it did. -/
def clientSaysSpec : ChangeSpec := { name := "clientSays", fn := fun _ => fun
  | [d1, d2, d3, d4, d5, d6, d7] => { results := [.lit (.bool true)], args := [d1, d2, d3, d4, d5, d6, d7] }
  | _ => none }
def clientSaysRow : OpenClaim := { program := "ytbipmoehcmighaa", sum := "25de1724f139c0406fbe868b18951826e591e1b8272e610cc6b01f858e0ef6ea", func := "carillon/carillonlaw.ClientSays", spec := "clientSays", inPlace := ["internal/bytealg.IndexByteString", "internal/bytealg.IndexString"], unfollowed := true, recurses := true, named := ["internal/bytealg.MaxLen"], apart := false }
def ClientSaysSaid : Prop := clientSaysRow.holds Try.pinned (OpenSpec.ofChange clientSaysSpec)

/-- ITS FALSE NEIGHBOUR: 'it returns false'. Refute it at one input. -/
def clientSaysWrong : ChangeSpec := { name := "clientSays", fn := fun _ => fun
  | [d1, d2, d3, d4, d5, d6, d7] => { results := [.lit (.bool false)], args := [d1, d2, d3, d4, d5, d6, d7] }
  | _ => none }
def ClientSaysWrongFalsely : Prop := clientSaysRow.holds Try.pinned (OpenSpec.ofChange clientSaysWrong)

/-- 'carillonlaw.ClientRings': WHATEVER THE INPUT: true; the input reads as it did. -/
def clientRingsSpec : ChangeSpec := { name := "clientRings", fn := fun _ => fun
  | [d1, d2, d3, d4] => { results := [.lit (.bool true)], args := [d1, d2, d3, d4] }
  | _ => none }
def clientRingsRow : OpenClaim := { program := "ytbipmoehcmighaa", sum := "25de1724f139c0406fbe868b18951826e591e1b8272e610cc6b01f858e0ef6ea", func := "carillon/carillonlaw.ClientRings", spec := "clientRings", inPlace := ["slices.overlaps[carillon/api.Job]"], unfollowed := true, recurses := true, apart := false }
def ClientRingsSaid : Prop := clientRingsRow.holds Try.pinned (OpenSpec.ofChange clientRingsSpec)

/-- ITS FALSE NEIGHBOUR: 'it returns false'. Refute it at one input. -/
def clientRingsWrong : ChangeSpec := { name := "clientRings", fn := fun _ => fun
  | [d1, d2, d3, d4] => { results := [.lit (.bool false)], args := [d1, d2, d3, d4] }
  | _ => none }
def ClientRingsWrongFalsely : Prop := clientRingsRow.holds Try.pinned (OpenSpec.ofChange clientRingsWrong)

/- THE SECOND FORM. 'bulk': how many values and letters a reading holds, each counted each time it is reached (what is shared counts as often as it is met; a slice's spare places count too). A statement '..UptoSaid' is the law's where the arguments, and the package variables that the reading takes, are together of bulk at most 1048576: NARROWER than '..Said'. Prove '..Said' where nothing that the law and all that it calls make is longer than what came in: it says more and counts as full. Else prove '..UptoSaid'. A law counts once. -/
mutual
def uptoBulk {H : Type} : DataW H → Nat
  | .lit (.string bytes) => bytes.length + 1
  | .lit _ => 1
  | .nil => 1
  | .ptr d => uptoBulk d + 1
  | .slice elems spare => uptoBulkAll elems + uptoBulkAll spare + 1
  | .agg parts => uptoBulkAll parts + 1
  | .iface _ d => uptoBulk d + 1
  | .map entries => uptoBulkEntries entries + 1
  | .held _ => 1
def uptoBulkAll {H : Type} : List (DataW H) → Nat
  | [] => 0
  | d :: r => uptoBulk d + uptoBulkAll r
def uptoBulkEntries {H : Type} : List (Lit × DataW H) → Nat
  | [] => 0
  | x :: r => uptoBulkEntry x + uptoBulkEntries r
def uptoBulkEntry {H : Type} : Lit × DataW H → Nat
  | (.string bytes, d) => bytes.length + uptoBulk d + 1
  | (_, d) => uptoBulk d + 1
 end
def uptoSmall : (H : Type) → List (DataW H) → Bool := fun _ ds => decide (uptoBulkAll ds ≤ 1048576)
def OpenSpec.upto (s : _root_.Go.ChangeSpec) : _root_.Go.OpenSpec := { _root_.Go.OpenSpec.ofChange s with cond := some uptoSmall }

/-- 'carillonlaw.ChainStands', WHERE WHAT IT READS IS OF BULK AT MOST 1048576: true; the input reads as it did. -/
def chainStandsUptoRow : OpenClaim := { program := "ytbipmoehcmighaa", sum := "25de1724f139c0406fbe868b18951826e591e1b8272e610cc6b01f858e0ef6ea", func := "carillon/carillonlaw.ChainStands", spec := "chainStands", apart := false, narrowed := true }
def ChainStandsUptoSaid : Prop := chainStandsUptoRow.holds Try.pinned (OpenSpec.upto chainStandsSpec)

/-- 'carillonlaw.ChainAlong', WHERE WHAT IT READS IS OF BULK AT MOST 1048576: true; the input reads as it did. -/
def chainAlongUptoRow : OpenClaim := { program := "ytbipmoehcmighaa", sum := "25de1724f139c0406fbe868b18951826e591e1b8272e610cc6b01f858e0ef6ea", func := "carillon/carillonlaw.ChainAlong", spec := "chainAlong", apart := false, narrowed := true }
def ChainAlongUptoSaid : Prop := chainAlongUptoRow.holds Try.pinned (OpenSpec.upto chainAlongSpec)

/-- 'carillonlaw.ChainSays', WHERE WHAT IT READS IS OF BULK AT MOST 1048576: true; the input reads as it did. -/
def chainSaysUptoRow : OpenClaim := { program := "ytbipmoehcmighaa", sum := "25de1724f139c0406fbe868b18951826e591e1b8272e610cc6b01f858e0ef6ea", func := "carillon/carillonlaw.ChainSays", spec := "chainSays", inPlace := ["internal/bytealg.IndexByteString", "internal/bytealg.IndexString"], unfollowed := true, recurses := true, named := ["internal/bytealg.MaxLen"], apart := false, narrowed := true }
def ChainSaysUptoSaid : Prop := chainSaysUptoRow.holds Try.pinned (OpenSpec.upto chainSaysSpec)

/-- 'carillonlaw.UnitReplays', WHERE WHAT IT READS IS OF BULK AT MOST 1048576: true; the input reads as it did. -/
def unitReplaysUptoRow : OpenClaim := { program := "ytbipmoehcmighaa", sum := "25de1724f139c0406fbe868b18951826e591e1b8272e610cc6b01f858e0ef6ea", func := "carillon/carillonlaw.UnitReplays", spec := "unitReplays", inPlace := ["internal/bytealg.IndexByteString", "internal/bytealg.IndexString"], unfollowed := true, recurses := true, named := ["internal/bytealg.MaxLen"], apart := false, narrowed := true }
def UnitReplaysUptoSaid : Prop := unitReplaysUptoRow.holds Try.pinned (OpenSpec.upto unitReplaysSpec)

/-- 'carillonlaw.UnitSays', WHERE WHAT IT READS IS OF BULK AT MOST 1048576: true; the input reads as it did. -/
def unitSaysUptoRow : OpenClaim := { program := "ytbipmoehcmighaa", sum := "25de1724f139c0406fbe868b18951826e591e1b8272e610cc6b01f858e0ef6ea", func := "carillon/carillonlaw.UnitSays", spec := "unitSays", inPlace := ["internal/bytealg.IndexByteString", "internal/bytealg.IndexString"], unfollowed := true, recurses := true, named := ["internal/bytealg.MaxLen"], apart := false, narrowed := true }
def UnitSaysUptoSaid : Prop := unitSaysUptoRow.holds Try.pinned (OpenSpec.upto unitSaysSpec)

/-- 'carillonlaw.ClientKeeps', WHERE WHAT IT READS IS OF BULK AT MOST 1048576: true; the input reads as it did. -/
def clientKeepsUptoRow : OpenClaim := { program := "ytbipmoehcmighaa", sum := "25de1724f139c0406fbe868b18951826e591e1b8272e610cc6b01f858e0ef6ea", func := "carillon/carillonlaw.ClientKeeps", spec := "clientKeeps", inPlace := ["slices.overlaps[carillon/api.Job]"], unfollowed := true, recurses := true, apart := false, narrowed := true }
def ClientKeepsUptoSaid : Prop := clientKeepsUptoRow.holds Try.pinned (OpenSpec.upto clientKeepsSpec)

/-- 'carillonlaw.ClientHears', WHERE WHAT IT READS IS OF BULK AT MOST 1048576: true; the input reads as it did. -/
def clientHearsUptoRow : OpenClaim := { program := "ytbipmoehcmighaa", sum := "25de1724f139c0406fbe868b18951826e591e1b8272e610cc6b01f858e0ef6ea", func := "carillon/carillonlaw.ClientHears", spec := "clientHears", inPlace := ["slices.overlaps[carillon/api.Job]", "internal/bytealg.IndexByteString", "internal/bytealg.IndexString"], unfollowed := true, recurses := true, named := ["internal/bytealg.MaxLen"], apart := false, narrowed := true }
def ClientHearsUptoSaid : Prop := clientHearsUptoRow.holds Try.pinned (OpenSpec.upto clientHearsSpec)

/-- 'carillonlaw.ClientSays', WHERE WHAT IT READS IS OF BULK AT MOST 1048576: true; the input reads as it did. -/
def clientSaysUptoRow : OpenClaim := { program := "ytbipmoehcmighaa", sum := "25de1724f139c0406fbe868b18951826e591e1b8272e610cc6b01f858e0ef6ea", func := "carillon/carillonlaw.ClientSays", spec := "clientSays", inPlace := ["internal/bytealg.IndexByteString", "internal/bytealg.IndexString"], unfollowed := true, recurses := true, named := ["internal/bytealg.MaxLen"], apart := false, narrowed := true }
def ClientSaysUptoSaid : Prop := clientSaysUptoRow.holds Try.pinned (OpenSpec.upto clientSaysSpec)

/-- 'carillonlaw.ClientRings', WHERE WHAT IT READS IS OF BULK AT MOST 1048576: true; the input reads as it did. -/
def clientRingsUptoRow : OpenClaim := { program := "ytbipmoehcmighaa", sum := "25de1724f139c0406fbe868b18951826e591e1b8272e610cc6b01f858e0ef6ea", func := "carillon/carillonlaw.ClientRings", spec := "clientRings", inPlace := ["slices.overlaps[carillon/api.Job]"], unfollowed := true, recurses := true, apart := false, narrowed := true }
def ClientRingsUptoSaid : Prop := clientRingsUptoRow.holds Try.pinned (OpenSpec.upto clientRingsSpec)

end Rows
end Go.Proofs.Ytbipmoehcmighaa
