/-
  DERIVED. GIVEN WITH THE SEED: THE CARDS: each row of YtmppkaoonncddaaGreatDoorRows.lean that lists a variable, with what it lists TIED to the program's text (the seventh form; the later family's looks); each row that meets fmt, with fmt's text TOLD by the authors' own Lean function (tested against real Go, not proved from fmt's source: count such statements apart). THE CARD IS WHAT COUNTS. Prove the row's statement (the work); the ties are given (YtmppkaoonncddaaGreatDoorTie.lean); close each card by the builder's one call (the guide's Derived/Test/ToyasCard.lean, 'card_holds'). Laid BY PROGRAM, IN A SANDBOX (cutbox-door.mjs). By AI agents, Wed Nov 11 2026. No macro, syntax, notation, axiom, sorry.
-/
import Derived.Test.YtmppkaoonncddaaGreatDoorRows
import GoSem.ClaimSeven
namespace Go.Proofs.YtmppkaoonncddaaGreatDoor
namespace Rows

/-- THE TIED CARD OF 'carillonlaw.WorldKeeps'. -/
def worldKeepsCard : Claim7 := { stood := { row := worldKeepsRow, standIns := [], harness := (true, "15e5a1d8a4f79e6974eeac4262485eae7c42c3ee59857e2eb441acac3af17d6b"), looks := true }, kinds := [], alts := [], laidByText := true, laidKinds := [.data, .data, .data, .data, .sentinel, .sentinel, .pinned], laidTests := true, laidLooks := .later }
def WorldKeepsCardSaid : Prop := Claim7.holds Tryz.pinned (.plain (OpenSpec.ofChange worldKeepsSpec)) worldKeepsCard

/-- THE TIED CARD OF 'carillonlaw.WorldParts'. -/
def worldPartsCard : Claim7 := { stood := { row := worldPartsRow, standIns := [], harness := (true, "15e5a1d8a4f79e6974eeac4262485eae7c42c3ee59857e2eb441acac3af17d6b"), looks := true }, kinds := [], alts := [], laidByText := true, laidKinds := [.data, .data, .data, .data, .sentinel, .sentinel, .pinned], laidTests := true, laidLooks := .later }
def WorldPartsCardSaid : Prop := Claim7.holds Tryz.pinned (.plain (OpenSpec.ofChange worldPartsSpec)) worldPartsCard

/-- THE TIED CARD OF 'carillonlaw.WorldStands'. -/
def worldStandsCard : Claim7 := { stood := { row := worldStandsRow, standIns := [], harness := (true, "15e5a1d8a4f79e6974eeac4262485eae7c42c3ee59857e2eb441acac3af17d6b"), looks := true }, kinds := [], alts := [], laidByText := true, laidKinds := [.data, .data, .data, .data, .sentinel, .sentinel, .pinned], laidTests := true, laidLooks := .later }
def WorldStandsCardSaid : Prop := Claim7.holds Tryz.pinned (.plain (OpenSpec.ofChange worldStandsSpec)) worldStandsCard

/-- THE TIED CARD OF 'carillonlaw.WorldDeaf'. -/
def worldDeafCard : Claim7 := { stood := { row := worldDeafRow, standIns := [], harness := (true, "15e5a1d8a4f79e6974eeac4262485eae7c42c3ee59857e2eb441acac3af17d6b"), looks := true }, kinds := [], alts := [], laidByText := true, laidKinds := [.data, .data, .data, .data, .sentinel, .sentinel, .pinned], laidTests := true, laidLooks := .later }
def WorldDeafCardSaid : Prop := Claim7.holds Tryz.pinned (.plain (OpenSpec.ofChange worldDeafSpec)) worldDeafCard

/-- THE TIED CARD OF 'carillonlaw.WorldTorn'. -/
def worldTornCard : Claim7 := { stood := { row := worldTornRow, standIns := [], harness := (true, "15e5a1d8a4f79e6974eeac4262485eae7c42c3ee59857e2eb441acac3af17d6b"), looks := true }, kinds := [], alts := [], laidByText := true, laidKinds := [.data, .data, .data, .data, .sentinel, .sentinel, .pinned], laidTests := true, laidLooks := .later }
def WorldTornCardSaid : Prop := Claim7.holds Tryz.pinned (.plain (OpenSpec.ofChange worldTornSpec)) worldTornCard

/-- THE TIED CARD OF 'carillonlaw.StoryGrows'. -/
def storyGrowsCard : Claim7 := { stood := { row := storyGrowsRow, standIns := [], harness := (true, "15e5a1d8a4f79e6974eeac4262485eae7c42c3ee59857e2eb441acac3af17d6b"), looks := true }, kinds := [], alts := [], laidByText := true, laidKinds := [.data, .data, .data, .data, .sentinel, .sentinel, .pinned], laidTests := true, laidLooks := .later }
def StoryGrowsCardSaid : Prop := Claim7.holds Tryz.pinned (.plain (OpenSpec.ofChange storyGrowsSpec)) storyGrowsCard

/-- THE TIED CARD OF 'carillonlaw.StoryOnce'. -/
def storyOnceCard : Claim7 := { stood := { row := storyOnceRow, standIns := [], harness := (true, "15e5a1d8a4f79e6974eeac4262485eae7c42c3ee59857e2eb441acac3af17d6b"), looks := true }, kinds := [], alts := [], laidByText := true, laidKinds := [.data, .data, .data, .data, .sentinel, .sentinel, .pinned], laidTests := true, laidLooks := .later }
def StoryOnceCardSaid : Prop := Claim7.holds Tryz.pinned (.plain (OpenSpec.ofChange storyOnceSpec)) storyOnceCard

/-- THE TIED CARD OF 'carillonlaw.StoryBooks'. -/
def storyBooksCard : Claim7 := { stood := { row := storyBooksRow, standIns := [], harness := (true, "15e5a1d8a4f79e6974eeac4262485eae7c42c3ee59857e2eb441acac3af17d6b"), looks := true }, kinds := [], alts := [], laidByText := true, laidKinds := [.data, .data, .data, .data, .sentinel, .sentinel, .pinned], laidTests := true, laidLooks := .later }
def StoryBooksCardSaid : Prop := Claim7.holds Tryz.pinned (.plain (OpenSpec.ofChange storyBooksSpec)) storyBooksCard

/-- THE TIED CARD OF 'carillonlaw.StoryComes'. -/
def storyComesCard : Claim7 := { stood := { row := storyComesRow, standIns := [], harness := (true, "15e5a1d8a4f79e6974eeac4262485eae7c42c3ee59857e2eb441acac3af17d6b"), looks := true }, kinds := [], alts := [], laidByText := true, laidKinds := [.data, .data, .data, .data, .sentinel, .sentinel, .pinned], laidTests := true, laidLooks := .later }
def StoryComesCardSaid : Prop := Claim7.holds Tryz.pinned (.plain (OpenSpec.ofChange storyComesSpec)) storyComesCard

/-- THE TIED CARD OF 'carillonlaw.StoryHoles'. -/
def storyHolesCard : Claim7 := { stood := { row := storyHolesRow, standIns := [], harness := (true, "15e5a1d8a4f79e6974eeac4262485eae7c42c3ee59857e2eb441acac3af17d6b"), looks := true }, kinds := [], alts := [], laidByText := true, laidKinds := [.data, .data, .data, .data, .sentinel, .sentinel, .pinned], laidTests := true, laidLooks := .later }
def StoryHolesCardSaid : Prop := Claim7.holds Tryz.pinned (.plain (OpenSpec.ofChange storyHolesSpec)) storyHolesCard

/-- THE SECOND FORM's CARD OF 'carillonlaw.WorldKeeps'. -/
def worldKeepsUptoCard : Claim7 := { stood := { row := worldKeepsUptoRow, standIns := [], harness := (true, "15e5a1d8a4f79e6974eeac4262485eae7c42c3ee59857e2eb441acac3af17d6b"), looks := true }, kinds := [], alts := [], laidByText := true, laidKinds := [.data, .data, .data, .data, .sentinel, .sentinel, .pinned], laidTests := true, laidLooks := .later }
def WorldKeepsUptoCardSaid : Prop := Claim7.holds Tryz.pinned (.plain (OpenSpec.upto worldKeepsSpec)) worldKeepsUptoCard

/-- THE SECOND FORM's CARD OF 'carillonlaw.WorldParts'. -/
def worldPartsUptoCard : Claim7 := { stood := { row := worldPartsUptoRow, standIns := [], harness := (true, "15e5a1d8a4f79e6974eeac4262485eae7c42c3ee59857e2eb441acac3af17d6b"), looks := true }, kinds := [], alts := [], laidByText := true, laidKinds := [.data, .data, .data, .data, .sentinel, .sentinel, .pinned], laidTests := true, laidLooks := .later }
def WorldPartsUptoCardSaid : Prop := Claim7.holds Tryz.pinned (.plain (OpenSpec.upto worldPartsSpec)) worldPartsUptoCard

/-- THE SECOND FORM's CARD OF 'carillonlaw.WorldStands'. -/
def worldStandsUptoCard : Claim7 := { stood := { row := worldStandsUptoRow, standIns := [], harness := (true, "15e5a1d8a4f79e6974eeac4262485eae7c42c3ee59857e2eb441acac3af17d6b"), looks := true }, kinds := [], alts := [], laidByText := true, laidKinds := [.data, .data, .data, .data, .sentinel, .sentinel, .pinned], laidTests := true, laidLooks := .later }
def WorldStandsUptoCardSaid : Prop := Claim7.holds Tryz.pinned (.plain (OpenSpec.upto worldStandsSpec)) worldStandsUptoCard

/-- THE SECOND FORM's CARD OF 'carillonlaw.WorldDeaf'. -/
def worldDeafUptoCard : Claim7 := { stood := { row := worldDeafUptoRow, standIns := [], harness := (true, "15e5a1d8a4f79e6974eeac4262485eae7c42c3ee59857e2eb441acac3af17d6b"), looks := true }, kinds := [], alts := [], laidByText := true, laidKinds := [.data, .data, .data, .data, .sentinel, .sentinel, .pinned], laidTests := true, laidLooks := .later }
def WorldDeafUptoCardSaid : Prop := Claim7.holds Tryz.pinned (.plain (OpenSpec.upto worldDeafSpec)) worldDeafUptoCard

/-- THE SECOND FORM's CARD OF 'carillonlaw.WorldTorn'. -/
def worldTornUptoCard : Claim7 := { stood := { row := worldTornUptoRow, standIns := [], harness := (true, "15e5a1d8a4f79e6974eeac4262485eae7c42c3ee59857e2eb441acac3af17d6b"), looks := true }, kinds := [], alts := [], laidByText := true, laidKinds := [.data, .data, .data, .data, .sentinel, .sentinel, .pinned], laidTests := true, laidLooks := .later }
def WorldTornUptoCardSaid : Prop := Claim7.holds Tryz.pinned (.plain (OpenSpec.upto worldTornSpec)) worldTornUptoCard

/-- THE SECOND FORM's CARD OF 'carillonlaw.StoryGrows'. -/
def storyGrowsUptoCard : Claim7 := { stood := { row := storyGrowsUptoRow, standIns := [], harness := (true, "15e5a1d8a4f79e6974eeac4262485eae7c42c3ee59857e2eb441acac3af17d6b"), looks := true }, kinds := [], alts := [], laidByText := true, laidKinds := [.data, .data, .data, .data, .sentinel, .sentinel, .pinned], laidTests := true, laidLooks := .later }
def StoryGrowsUptoCardSaid : Prop := Claim7.holds Tryz.pinned (.plain (OpenSpec.upto storyGrowsSpec)) storyGrowsUptoCard

/-- THE SECOND FORM's CARD OF 'carillonlaw.StoryOnce'. -/
def storyOnceUptoCard : Claim7 := { stood := { row := storyOnceUptoRow, standIns := [], harness := (true, "15e5a1d8a4f79e6974eeac4262485eae7c42c3ee59857e2eb441acac3af17d6b"), looks := true }, kinds := [], alts := [], laidByText := true, laidKinds := [.data, .data, .data, .data, .sentinel, .sentinel, .pinned], laidTests := true, laidLooks := .later }
def StoryOnceUptoCardSaid : Prop := Claim7.holds Tryz.pinned (.plain (OpenSpec.upto storyOnceSpec)) storyOnceUptoCard

/-- THE SECOND FORM's CARD OF 'carillonlaw.StoryBooks'. -/
def storyBooksUptoCard : Claim7 := { stood := { row := storyBooksUptoRow, standIns := [], harness := (true, "15e5a1d8a4f79e6974eeac4262485eae7c42c3ee59857e2eb441acac3af17d6b"), looks := true }, kinds := [], alts := [], laidByText := true, laidKinds := [.data, .data, .data, .data, .sentinel, .sentinel, .pinned], laidTests := true, laidLooks := .later }
def StoryBooksUptoCardSaid : Prop := Claim7.holds Tryz.pinned (.plain (OpenSpec.upto storyBooksSpec)) storyBooksUptoCard

/-- THE SECOND FORM's CARD OF 'carillonlaw.StoryComes'. -/
def storyComesUptoCard : Claim7 := { stood := { row := storyComesUptoRow, standIns := [], harness := (true, "15e5a1d8a4f79e6974eeac4262485eae7c42c3ee59857e2eb441acac3af17d6b"), looks := true }, kinds := [], alts := [], laidByText := true, laidKinds := [.data, .data, .data, .data, .sentinel, .sentinel, .pinned], laidTests := true, laidLooks := .later }
def StoryComesUptoCardSaid : Prop := Claim7.holds Tryz.pinned (.plain (OpenSpec.upto storyComesSpec)) storyComesUptoCard

/-- THE SECOND FORM's CARD OF 'carillonlaw.StoryHoles'. -/
def storyHolesUptoCard : Claim7 := { stood := { row := storyHolesUptoRow, standIns := [], harness := (true, "15e5a1d8a4f79e6974eeac4262485eae7c42c3ee59857e2eb441acac3af17d6b"), looks := true }, kinds := [], alts := [], laidByText := true, laidKinds := [.data, .data, .data, .data, .sentinel, .sentinel, .pinned], laidTests := true, laidLooks := .later }
def StoryHolesUptoCardSaid : Prop := Claim7.holds Tryz.pinned (.plain (OpenSpec.upto storyHolesSpec)) storyHolesUptoCard
end Rows
end Go.Proofs.YtmppkaoonncddaaGreatDoor
