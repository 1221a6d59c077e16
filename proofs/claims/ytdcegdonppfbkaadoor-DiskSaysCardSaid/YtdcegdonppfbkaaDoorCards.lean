/-
  DERIVED. GIVEN WITH THE SEED: THE CARDS: each row of YtdcegdonppfbkaaDoorRows.lean that lists a variable, with what it lists TIED to the program's text (the seventh form; the later family's looks); each row that meets fmt, with fmt's text TOLD by the authors' own Lean function (tested against real Go, not proved from fmt's source: count such statements apart). THE CARD IS WHAT COUNTS. Prove the row's statement (the work); the ties are given (YtdcegdonppfbkaaDoorTie.lean); close each card by the builder's one call (the guide's Derived/Test/ToyasCard.lean, 'card_holds'). Laid BY PROGRAM, IN A SANDBOX (cutbox-door.mjs). By AI agents, Wed Nov 11 2026. No macro, syntax, notation, axiom, sorry.
-/
import Derived.Test.YtdcegdonppfbkaaDoorRows
import GoSem.ClaimSeven
namespace Go.Proofs.YtdcegdonppfbkaaDoor
namespace Rows

/-- THE TIED CARD OF 'carillonlaw.EntryBack'. -/
def entryBackCard : Claim7 := { stood := { row := entryBackRow, standIns := [], harness := (true, "d7e10d47560f05f5fe4fe639a5d7144a277412691334c65904d830c45d99a51b"), looks := true }, kinds := [], alts := [], laidByText := true, laidKinds := [.data, .data, .data, .data, .sentinel, .sentinel, .pinned], laidTests := true, laidLooks := .later }
def EntryBackCardSaid : Prop := Claim7.holds Tryd.pinned (.plain (OpenSpec.ofChange entryBackSpec)) entryBackCard

/-- THE TIED CARD OF 'carillonlaw.EntrySays'. -/
def entrySaysCard : Claim7 := { stood := { row := entrySaysRow, standIns := [], harness := (true, "d7e10d47560f05f5fe4fe639a5d7144a277412691334c65904d830c45d99a51b"), looks := true }, kinds := [], alts := [], laidByText := true, laidKinds := [.data, .data, .data, .data, .sentinel, .sentinel, .pinned], laidTests := true, laidLooks := .later }
def EntrySaysCardSaid : Prop := Claim7.holds Tryd.pinned (.plain (OpenSpec.ofChange entrySaysSpec)) entrySaysCard

/-- THE TIED CARD OF 'carillonlaw.NoteBack'. -/
def noteBackCard : Claim7 := { stood := { row := noteBackRow, standIns := [], harness := (true, "d7e10d47560f05f5fe4fe639a5d7144a277412691334c65904d830c45d99a51b"), looks := true }, kinds := [], alts := [], laidByText := true, laidKinds := [.data, .data, .data, .data, .sentinel, .sentinel, .pinned], laidTests := true, laidLooks := .later }
def NoteBackCardSaid : Prop := Claim7.holds Tryd.pinned (.plain (OpenSpec.ofChange noteBackSpec)) noteBackCard

/-- THE TIED CARD OF 'carillonlaw.LedgerSays'. -/
def ledgerSaysCard : Claim7 := { stood := { row := ledgerSaysRow, standIns := [], harness := (true, "d7e10d47560f05f5fe4fe639a5d7144a277412691334c65904d830c45d99a51b"), looks := true }, kinds := [], alts := [], laidByText := true, laidKinds := [.data, .data, .data, .data, .sentinel, .sentinel, .pinned], laidTests := true, laidLooks := .later }
def LedgerSaysCardSaid : Prop := Claim7.holds Tryd.pinned (.plain (OpenSpec.ofChange ledgerSaysSpec)) ledgerSaysCard

/-- THE TIED CARD OF 'carillonlaw.NoteSays'. -/
def noteSaysCard : Claim7 := { stood := { row := noteSaysRow, standIns := [], harness := (true, "d7e10d47560f05f5fe4fe639a5d7144a277412691334c65904d830c45d99a51b"), looks := true }, kinds := [], alts := [], laidByText := true, laidKinds := [.data, .data, .data, .data, .sentinel, .sentinel, .pinned], laidTests := true, laidLooks := .later }
def NoteSaysCardSaid : Prop := Claim7.holds Tryd.pinned (.plain (OpenSpec.ofChange noteSaysSpec)) noteSaysCard

/-- THE TIED CARD OF 'carillonlaw.LedgerBack'. -/
def ledgerBackCard : Claim7 := { stood := { row := ledgerBackRow, standIns := [], harness := (true, "d7e10d47560f05f5fe4fe639a5d7144a277412691334c65904d830c45d99a51b"), looks := true }, kinds := [], alts := [], laidByText := true, laidKinds := [.data, .data, .data, .data, .sentinel, .sentinel, .pinned], laidTests := true, laidLooks := .later }
def LedgerBackCardSaid : Prop := Claim7.holds Tryd.pinned (.plain (OpenSpec.ofChange ledgerBackSpec)) ledgerBackCard

/-- THE TIED CARD OF 'carillonlaw.DiskKeeps'. -/
def diskKeepsCard : Claim7 := { stood := { row := diskKeepsRow, standIns := [], harness := (true, "d7e10d47560f05f5fe4fe639a5d7144a277412691334c65904d830c45d99a51b"), looks := true }, kinds := [], alts := [], laidByText := true, laidKinds := [.data, .data, .data, .data, .sentinel, .sentinel, .pinned], laidTests := true, laidLooks := .later }
def DiskKeepsCardSaid : Prop := Claim7.holds Tryd.pinned (.plain (OpenSpec.ofChange diskKeepsSpec)) diskKeepsCard

/-- THE TIED CARD OF 'carillonlaw.DiskSays'. -/
def diskSaysCard : Claim7 := { stood := { row := diskSaysRow, standIns := [], harness := (true, "d7e10d47560f05f5fe4fe639a5d7144a277412691334c65904d830c45d99a51b"), looks := true }, kinds := [], alts := [], laidByText := true, laidKinds := [.data, .data, .data, .data, .sentinel, .sentinel, .pinned], laidTests := true, laidLooks := .later }
def DiskSaysCardSaid : Prop := Claim7.holds Tryd.pinned (.plain (OpenSpec.ofChange diskSaysSpec)) diskSaysCard

/-- THE TIED CARD OF 'carillonlaw.UnitOnce'. -/
def unitOnceCard : Claim7 := { stood := { row := unitOnceRow, standIns := [], harness := (true, "d7e10d47560f05f5fe4fe639a5d7144a277412691334c65904d830c45d99a51b"), looks := true }, kinds := [], alts := [], laidByText := true, laidKinds := [.data, .data, .data, .data, .sentinel, .sentinel, .pinned], laidTests := true, laidLooks := .later }
def UnitOnceCardSaid : Prop := Claim7.holds Tryd.pinned (.plain (OpenSpec.ofChange unitOnceSpec)) unitOnceCard

/-- THE SECOND FORM's CARD OF 'carillonlaw.EntryBack'. -/
def entryBackUptoCard : Claim7 := { stood := { row := entryBackUptoRow, standIns := [], harness := (true, "d7e10d47560f05f5fe4fe639a5d7144a277412691334c65904d830c45d99a51b"), looks := true }, kinds := [], alts := [], laidByText := true, laidKinds := [.data, .data, .data, .data, .sentinel, .sentinel, .pinned], laidTests := true, laidLooks := .later }
def EntryBackUptoCardSaid : Prop := Claim7.holds Tryd.pinned (.plain (OpenSpec.upto entryBackSpec)) entryBackUptoCard

/-- THE SECOND FORM's CARD OF 'carillonlaw.EntrySays'. -/
def entrySaysUptoCard : Claim7 := { stood := { row := entrySaysUptoRow, standIns := [], harness := (true, "d7e10d47560f05f5fe4fe639a5d7144a277412691334c65904d830c45d99a51b"), looks := true }, kinds := [], alts := [], laidByText := true, laidKinds := [.data, .data, .data, .data, .sentinel, .sentinel, .pinned], laidTests := true, laidLooks := .later }
def EntrySaysUptoCardSaid : Prop := Claim7.holds Tryd.pinned (.plain (OpenSpec.upto entrySaysSpec)) entrySaysUptoCard

/-- THE SECOND FORM's CARD OF 'carillonlaw.NoteBack'. -/
def noteBackUptoCard : Claim7 := { stood := { row := noteBackUptoRow, standIns := [], harness := (true, "d7e10d47560f05f5fe4fe639a5d7144a277412691334c65904d830c45d99a51b"), looks := true }, kinds := [], alts := [], laidByText := true, laidKinds := [.data, .data, .data, .data, .sentinel, .sentinel, .pinned], laidTests := true, laidLooks := .later }
def NoteBackUptoCardSaid : Prop := Claim7.holds Tryd.pinned (.plain (OpenSpec.upto noteBackSpec)) noteBackUptoCard

/-- THE SECOND FORM's CARD OF 'carillonlaw.LedgerSays'. -/
def ledgerSaysUptoCard : Claim7 := { stood := { row := ledgerSaysUptoRow, standIns := [], harness := (true, "d7e10d47560f05f5fe4fe639a5d7144a277412691334c65904d830c45d99a51b"), looks := true }, kinds := [], alts := [], laidByText := true, laidKinds := [.data, .data, .data, .data, .sentinel, .sentinel, .pinned], laidTests := true, laidLooks := .later }
def LedgerSaysUptoCardSaid : Prop := Claim7.holds Tryd.pinned (.plain (OpenSpec.upto ledgerSaysSpec)) ledgerSaysUptoCard

/-- THE SECOND FORM's CARD OF 'carillonlaw.NoteSays'. -/
def noteSaysUptoCard : Claim7 := { stood := { row := noteSaysUptoRow, standIns := [], harness := (true, "d7e10d47560f05f5fe4fe639a5d7144a277412691334c65904d830c45d99a51b"), looks := true }, kinds := [], alts := [], laidByText := true, laidKinds := [.data, .data, .data, .data, .sentinel, .sentinel, .pinned], laidTests := true, laidLooks := .later }
def NoteSaysUptoCardSaid : Prop := Claim7.holds Tryd.pinned (.plain (OpenSpec.upto noteSaysSpec)) noteSaysUptoCard

/-- THE SECOND FORM's CARD OF 'carillonlaw.LedgerBack'. -/
def ledgerBackUptoCard : Claim7 := { stood := { row := ledgerBackUptoRow, standIns := [], harness := (true, "d7e10d47560f05f5fe4fe639a5d7144a277412691334c65904d830c45d99a51b"), looks := true }, kinds := [], alts := [], laidByText := true, laidKinds := [.data, .data, .data, .data, .sentinel, .sentinel, .pinned], laidTests := true, laidLooks := .later }
def LedgerBackUptoCardSaid : Prop := Claim7.holds Tryd.pinned (.plain (OpenSpec.upto ledgerBackSpec)) ledgerBackUptoCard

/-- THE SECOND FORM's CARD OF 'carillonlaw.DiskKeeps'. -/
def diskKeepsUptoCard : Claim7 := { stood := { row := diskKeepsUptoRow, standIns := [], harness := (true, "d7e10d47560f05f5fe4fe639a5d7144a277412691334c65904d830c45d99a51b"), looks := true }, kinds := [], alts := [], laidByText := true, laidKinds := [.data, .data, .data, .data, .sentinel, .sentinel, .pinned], laidTests := true, laidLooks := .later }
def DiskKeepsUptoCardSaid : Prop := Claim7.holds Tryd.pinned (.plain (OpenSpec.upto diskKeepsSpec)) diskKeepsUptoCard

/-- THE SECOND FORM's CARD OF 'carillonlaw.DiskSays'. -/
def diskSaysUptoCard : Claim7 := { stood := { row := diskSaysUptoRow, standIns := [], harness := (true, "d7e10d47560f05f5fe4fe639a5d7144a277412691334c65904d830c45d99a51b"), looks := true }, kinds := [], alts := [], laidByText := true, laidKinds := [.data, .data, .data, .data, .sentinel, .sentinel, .pinned], laidTests := true, laidLooks := .later }
def DiskSaysUptoCardSaid : Prop := Claim7.holds Tryd.pinned (.plain (OpenSpec.upto diskSaysSpec)) diskSaysUptoCard

/-- THE SECOND FORM's CARD OF 'carillonlaw.UnitOnce'. -/
def unitOnceUptoCard : Claim7 := { stood := { row := unitOnceUptoRow, standIns := [], harness := (true, "d7e10d47560f05f5fe4fe639a5d7144a277412691334c65904d830c45d99a51b"), looks := true }, kinds := [], alts := [], laidByText := true, laidKinds := [.data, .data, .data, .data, .sentinel, .sentinel, .pinned], laidTests := true, laidLooks := .later }
def UnitOnceUptoCardSaid : Prop := Claim7.holds Tryd.pinned (.plain (OpenSpec.upto unitOnceSpec)) unitOnceUptoCard
end Rows
end Go.Proofs.YtdcegdonppfbkaaDoor
