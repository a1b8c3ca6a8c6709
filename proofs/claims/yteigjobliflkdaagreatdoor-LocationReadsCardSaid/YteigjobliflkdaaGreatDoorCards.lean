/-
  DERIVED. GIVEN WITH THE SEED: THE CARDS: each row of YteigjobliflkdaaGreatDoorRows.lean that lists a variable, with what it lists TIED to the program's text (the seventh form; the later family's looks); each row that meets fmt, with fmt's text TOLD by the authors' own Lean function (tested against real Go, not proved from fmt's source: count such statements apart). THE CARD IS WHAT COUNTS. Prove the row's statement (the work); the ties are given (YteigjobliflkdaaGreatDoorTie.lean); close each card by the builder's one call (the guide's Derived/Test/ToyasCard.lean, 'card_holds'). Laid BY PROGRAM, IN A SANDBOX (cutbox-door.mjs). By AI agents, Wed Nov 11 2026. No macro, syntax, notation, axiom, sorry.
-/
import Derived.Test.YteigjobliflkdaaGreatDoorRows
import GoSem.ClaimSeven
namespace Go.Proofs.YteigjobliflkdaaGreatDoor
namespace Rows

/-- THE TIED CARD OF 'waypostlaw15.HostTwos'. -/
def hostTwosCard : Claim7 := { stood := { row := hostTwosRow, standIns := [], harness := (true, "5ecb001ed499d91a6cdb44a2ead0ede46ba26b0a4712d29b6f82851583174cf3"), looks := true }, kinds := [], alts := [], laidByText := true, laidKinds := [.data, .data, .data, .data, .sentinel, .sentinel, .pinned], laidTests := true, laidLooks := .later }
def HostTwosCardSaid : Prop := Claim7.holds Tryz.pinned (.plain (OpenSpec.ofChange hostTwosSpec)) hostTwosCard

/-- THE TIED CARD OF 'waypostlaw15.HostOnes'. -/
def hostOnesCard : Claim7 := { stood := { row := hostOnesRow, standIns := [], harness := (true, "5ecb001ed499d91a6cdb44a2ead0ede46ba26b0a4712d29b6f82851583174cf3"), looks := true }, kinds := [], alts := [], laidByText := true, laidKinds := [.data, .data, .data, .data, .sentinel, .sentinel, .pinned], laidTests := true, laidLooks := .later }
def HostOnesCardSaid : Prop := Claim7.holds Tryz.pinned (.plain (OpenSpec.ofChange hostOnesSpec)) hostOnesCard

/-- THE TIED CARD OF 'waypostlaw15.HostKnown'. -/
def hostKnownCard : Claim7 := { stood := { row := hostKnownRow, standIns := [], harness := (true, "5ecb001ed499d91a6cdb44a2ead0ede46ba26b0a4712d29b6f82851583174cf3"), looks := true }, kinds := [], alts := [], laidByText := true, laidKinds := [.data, .data, .data, .data, .sentinel, .sentinel, .pinned], laidTests := true, laidLooks := .later }
def HostKnownCardSaid : Prop := Claim7.holds Tryz.pinned (.plain (OpenSpec.ofChange hostKnownSpec)) hostKnownCard

/-- THE TIED CARD OF 'waypostlaw15.HostUnder'. -/
def hostUnderCard : Claim7 := { stood := { row := hostUnderRow, standIns := [], harness := (true, "5ecb001ed499d91a6cdb44a2ead0ede46ba26b0a4712d29b6f82851583174cf3"), looks := true }, kinds := [], alts := [], laidByText := true, laidKinds := [.data, .data, .data, .data, .sentinel, .sentinel, .pinned], laidTests := true, laidLooks := .later }
def HostUnderCardSaid : Prop := Claim7.holds Tryz.pinned (.plain (OpenSpec.ofChange hostUnderSpec)) hostUnderCard

/-- THE TIED CARD OF 'waypostlaw18.TargetBack'. -/
def targetBackCard : Claim7 := { stood := { row := targetBackRow, standIns := [], harness := (true, "5ecb001ed499d91a6cdb44a2ead0ede46ba26b0a4712d29b6f82851583174cf3"), looks := true }, kinds := [], alts := [], laidByText := true, laidKinds := [.data, .data, .data, .data, .sentinel, .sentinel, .pinned], laidTests := true, laidLooks := .later }
def TargetBackCardSaid : Prop := Claim7.holds Tryz.pinned (.plain (OpenSpec.ofChange targetBackSpec)) targetBackCard

/-- THE TIED CARD OF 'waypostlaw15.HostNormal'. -/
def hostNormalCard : Claim7 := { stood := { row := hostNormalRow, standIns := [], harness := (true, "5ecb001ed499d91a6cdb44a2ead0ede46ba26b0a4712d29b6f82851583174cf3"), looks := true }, kinds := [], alts := [], laidByText := true, laidKinds := [.data, .data, .data, .data, .sentinel, .sentinel, .pinned], laidTests := true, laidLooks := .later }
def HostNormalCardSaid : Prop := Claim7.holds Tryz.pinned (.plain (OpenSpec.ofChange hostNormalSpec)) hostNormalCard

/-- THE TIED CARD OF 'waypostlaw18.TargetPaths'. -/
def targetPathsCard : Claim7 := { stood := { row := targetPathsRow, standIns := [], harness := (true, "5ecb001ed499d91a6cdb44a2ead0ede46ba26b0a4712d29b6f82851583174cf3"), looks := true }, kinds := [], alts := [], laidByText := true, laidKinds := [.data, .data, .data, .data, .sentinel, .sentinel, .pinned], laidTests := true, laidLooks := .later }
def TargetPathsCardSaid : Prop := Claim7.holds Tryz.pinned (.plain (OpenSpec.ofChange targetPathsSpec)) targetPathsCard

/-- THE TIED CARD OF 'waypostlaw15.HostOrder'. -/
def hostOrderCard : Claim7 := { stood := { row := hostOrderRow, standIns := [], harness := (true, "5ecb001ed499d91a6cdb44a2ead0ede46ba26b0a4712d29b6f82851583174cf3"), looks := true }, kinds := [], alts := [], laidByText := true, laidKinds := [.data, .data, .data, .data, .sentinel, .sentinel, .pinned], laidTests := true, laidLooks := .later }
def HostOrderCardSaid : Prop := Claim7.holds Tryz.pinned (.plain (OpenSpec.ofChange hostOrderSpec)) hostOrderCard

/-- THE TIED CARD OF 'waypostlaw17.LocationReads'. -/
def locationReadsCard : Claim7 := { stood := { row := locationReadsRow, standIns := [], harness := (true, "5ecb001ed499d91a6cdb44a2ead0ede46ba26b0a4712d29b6f82851583174cf3"), looks := true }, kinds := [], alts := [], laidByText := true, laidKinds := [.data, .data, .data, .data, .sentinel, .sentinel, .pinned], laidTests := true, laidLooks := .later }
def LocationReadsCardSaid : Prop := Claim7.holds Tryz.pinned (.plain (OpenSpec.ofChange locationReadsSpec)) locationReadsCard

/-- THE TIED CARD OF 'waypostlaw17.LocationBuilds'. -/
def locationBuildsCard : Claim7 := { stood := { row := locationBuildsRow, standIns := [], harness := (true, "5ecb001ed499d91a6cdb44a2ead0ede46ba26b0a4712d29b6f82851583174cf3"), looks := true }, kinds := [], alts := [], laidByText := true, laidKinds := [.data, .data, .data, .data, .sentinel, .sentinel, .pinned], laidTests := true, laidLooks := .later }
def LocationBuildsCardSaid : Prop := Claim7.holds Tryz.pinned (.plain (OpenSpec.ofChange locationBuildsSpec)) locationBuildsCard

/-- THE TIED CARD OF 'waypostlaw17.LocationKnown'. -/
def locationKnownCard : Claim7 := { stood := { row := locationKnownRow, standIns := [], harness := (true, "5ecb001ed499d91a6cdb44a2ead0ede46ba26b0a4712d29b6f82851583174cf3"), looks := true }, kinds := [], alts := [], laidByText := true, laidKinds := [.data, .data, .data, .data, .sentinel, .sentinel, .pinned], laidTests := true, laidLooks := .later }
def LocationKnownCardSaid : Prop := Claim7.holds Tryz.pinned (.plain (OpenSpec.ofChange locationKnownSpec)) locationKnownCard

/-- THE TIED CARD OF 'waypostlaw17.LocationBack'. -/
def locationBackCard : Claim7 := { stood := { row := locationBackRow, standIns := [], harness := (true, "5ecb001ed499d91a6cdb44a2ead0ede46ba26b0a4712d29b6f82851583174cf3"), looks := true }, kinds := [], alts := [], laidByText := true, laidKinds := [.data, .data, .data, .data, .sentinel, .sentinel, .pinned], laidTests := true, laidLooks := .later }
def LocationBackCardSaid : Prop := Claim7.holds Tryz.pinned (.plain (OpenSpec.ofChange locationBackSpec)) locationBackCard

/-- THE TIED CARD OF 'waypostlaw17.LocationApart'. -/
def locationApartCard : Claim7 := { stood := { row := locationApartRow, standIns := [], harness := (true, "5ecb001ed499d91a6cdb44a2ead0ede46ba26b0a4712d29b6f82851583174cf3"), looks := true }, kinds := [], alts := [], laidByText := true, laidKinds := [.data, .data, .data, .data, .sentinel, .sentinel, .pinned], laidTests := true, laidLooks := .later }
def LocationApartCardSaid : Prop := Claim7.holds Tryz.pinned (.plain (OpenSpec.ofChange locationApartSpec)) locationApartCard

/-- THE TIED CARD OF 'waypostlaw18.TargetReads'. -/
def targetReadsCard : Claim7 := { stood := { row := targetReadsRow, standIns := [], harness := (true, "5ecb001ed499d91a6cdb44a2ead0ede46ba26b0a4712d29b6f82851583174cf3"), looks := true }, kinds := [], alts := [], laidByText := true, laidKinds := [.data, .data, .data, .data, .sentinel, .sentinel, .pinned], laidTests := true, laidLooks := .later }
def TargetReadsCardSaid : Prop := Claim7.holds Tryz.pinned (.plain (OpenSpec.ofChange targetReadsSpec)) targetReadsCard

/-- THE TIED CARD OF 'waypostlaw18.TargetWrites'. -/
def targetWritesCard : Claim7 := { stood := { row := targetWritesRow, standIns := [], harness := (true, "5ecb001ed499d91a6cdb44a2ead0ede46ba26b0a4712d29b6f82851583174cf3"), looks := true }, kinds := [], alts := [], laidByText := true, laidKinds := [.data, .data, .data, .data, .sentinel, .sentinel, .pinned], laidTests := true, laidLooks := .later }
def TargetWritesCardSaid : Prop := Claim7.holds Tryz.pinned (.plain (OpenSpec.ofChange targetWritesSpec)) targetWritesCard

/-- THE TIED CARD OF 'waypostlaw18.TargetKnown'. -/
def targetKnownCard : Claim7 := { stood := { row := targetKnownRow, standIns := [], harness := (true, "5ecb001ed499d91a6cdb44a2ead0ede46ba26b0a4712d29b6f82851583174cf3"), looks := true }, kinds := [], alts := [], laidByText := true, laidKinds := [.data, .data, .data, .data, .sentinel, .sentinel, .pinned], laidTests := true, laidLooks := .later }
def TargetKnownCardSaid : Prop := Claim7.holds Tryz.pinned (.plain (OpenSpec.ofChange targetKnownSpec)) targetKnownCard

/-- THE SECOND FORM's CARD OF 'waypostlaw15.HostTwos'. -/
def hostTwosUptoCard : Claim7 := { stood := { row := hostTwosUptoRow, standIns := [], harness := (true, "5ecb001ed499d91a6cdb44a2ead0ede46ba26b0a4712d29b6f82851583174cf3"), looks := true }, kinds := [], alts := [], laidByText := true, laidKinds := [.data, .data, .data, .data, .sentinel, .sentinel, .pinned], laidTests := true, laidLooks := .later }
def HostTwosUptoCardSaid : Prop := Claim7.holds Tryz.pinned (.plain (OpenSpec.upto hostTwosSpec)) hostTwosUptoCard

/-- THE SECOND FORM's CARD OF 'waypostlaw15.HostOnes'. -/
def hostOnesUptoCard : Claim7 := { stood := { row := hostOnesUptoRow, standIns := [], harness := (true, "5ecb001ed499d91a6cdb44a2ead0ede46ba26b0a4712d29b6f82851583174cf3"), looks := true }, kinds := [], alts := [], laidByText := true, laidKinds := [.data, .data, .data, .data, .sentinel, .sentinel, .pinned], laidTests := true, laidLooks := .later }
def HostOnesUptoCardSaid : Prop := Claim7.holds Tryz.pinned (.plain (OpenSpec.upto hostOnesSpec)) hostOnesUptoCard

/-- THE SECOND FORM's CARD OF 'waypostlaw15.HostKnown'. -/
def hostKnownUptoCard : Claim7 := { stood := { row := hostKnownUptoRow, standIns := [], harness := (true, "5ecb001ed499d91a6cdb44a2ead0ede46ba26b0a4712d29b6f82851583174cf3"), looks := true }, kinds := [], alts := [], laidByText := true, laidKinds := [.data, .data, .data, .data, .sentinel, .sentinel, .pinned], laidTests := true, laidLooks := .later }
def HostKnownUptoCardSaid : Prop := Claim7.holds Tryz.pinned (.plain (OpenSpec.upto hostKnownSpec)) hostKnownUptoCard

/-- THE SECOND FORM's CARD OF 'waypostlaw15.HostUnder'. -/
def hostUnderUptoCard : Claim7 := { stood := { row := hostUnderUptoRow, standIns := [], harness := (true, "5ecb001ed499d91a6cdb44a2ead0ede46ba26b0a4712d29b6f82851583174cf3"), looks := true }, kinds := [], alts := [], laidByText := true, laidKinds := [.data, .data, .data, .data, .sentinel, .sentinel, .pinned], laidTests := true, laidLooks := .later }
def HostUnderUptoCardSaid : Prop := Claim7.holds Tryz.pinned (.plain (OpenSpec.upto hostUnderSpec)) hostUnderUptoCard

/-- THE SECOND FORM's CARD OF 'waypostlaw18.TargetBack'. -/
def targetBackUptoCard : Claim7 := { stood := { row := targetBackUptoRow, standIns := [], harness := (true, "5ecb001ed499d91a6cdb44a2ead0ede46ba26b0a4712d29b6f82851583174cf3"), looks := true }, kinds := [], alts := [], laidByText := true, laidKinds := [.data, .data, .data, .data, .sentinel, .sentinel, .pinned], laidTests := true, laidLooks := .later }
def TargetBackUptoCardSaid : Prop := Claim7.holds Tryz.pinned (.plain (OpenSpec.upto targetBackSpec)) targetBackUptoCard

/-- THE SECOND FORM's CARD OF 'waypostlaw15.HostNormal'. -/
def hostNormalUptoCard : Claim7 := { stood := { row := hostNormalUptoRow, standIns := [], harness := (true, "5ecb001ed499d91a6cdb44a2ead0ede46ba26b0a4712d29b6f82851583174cf3"), looks := true }, kinds := [], alts := [], laidByText := true, laidKinds := [.data, .data, .data, .data, .sentinel, .sentinel, .pinned], laidTests := true, laidLooks := .later }
def HostNormalUptoCardSaid : Prop := Claim7.holds Tryz.pinned (.plain (OpenSpec.upto hostNormalSpec)) hostNormalUptoCard

/-- THE SECOND FORM's CARD OF 'waypostlaw18.TargetPaths'. -/
def targetPathsUptoCard : Claim7 := { stood := { row := targetPathsUptoRow, standIns := [], harness := (true, "5ecb001ed499d91a6cdb44a2ead0ede46ba26b0a4712d29b6f82851583174cf3"), looks := true }, kinds := [], alts := [], laidByText := true, laidKinds := [.data, .data, .data, .data, .sentinel, .sentinel, .pinned], laidTests := true, laidLooks := .later }
def TargetPathsUptoCardSaid : Prop := Claim7.holds Tryz.pinned (.plain (OpenSpec.upto targetPathsSpec)) targetPathsUptoCard

/-- THE SECOND FORM's CARD OF 'waypostlaw15.HostOrder'. -/
def hostOrderUptoCard : Claim7 := { stood := { row := hostOrderUptoRow, standIns := [], harness := (true, "5ecb001ed499d91a6cdb44a2ead0ede46ba26b0a4712d29b6f82851583174cf3"), looks := true }, kinds := [], alts := [], laidByText := true, laidKinds := [.data, .data, .data, .data, .sentinel, .sentinel, .pinned], laidTests := true, laidLooks := .later }
def HostOrderUptoCardSaid : Prop := Claim7.holds Tryz.pinned (.plain (OpenSpec.upto hostOrderSpec)) hostOrderUptoCard

/-- THE SECOND FORM's CARD OF 'waypostlaw17.LocationReads'. -/
def locationReadsUptoCard : Claim7 := { stood := { row := locationReadsUptoRow, standIns := [], harness := (true, "5ecb001ed499d91a6cdb44a2ead0ede46ba26b0a4712d29b6f82851583174cf3"), looks := true }, kinds := [], alts := [], laidByText := true, laidKinds := [.data, .data, .data, .data, .sentinel, .sentinel, .pinned], laidTests := true, laidLooks := .later }
def LocationReadsUptoCardSaid : Prop := Claim7.holds Tryz.pinned (.plain (OpenSpec.upto locationReadsSpec)) locationReadsUptoCard

/-- THE SECOND FORM's CARD OF 'waypostlaw17.LocationBuilds'. -/
def locationBuildsUptoCard : Claim7 := { stood := { row := locationBuildsUptoRow, standIns := [], harness := (true, "5ecb001ed499d91a6cdb44a2ead0ede46ba26b0a4712d29b6f82851583174cf3"), looks := true }, kinds := [], alts := [], laidByText := true, laidKinds := [.data, .data, .data, .data, .sentinel, .sentinel, .pinned], laidTests := true, laidLooks := .later }
def LocationBuildsUptoCardSaid : Prop := Claim7.holds Tryz.pinned (.plain (OpenSpec.upto locationBuildsSpec)) locationBuildsUptoCard

/-- THE SECOND FORM's CARD OF 'waypostlaw17.LocationKnown'. -/
def locationKnownUptoCard : Claim7 := { stood := { row := locationKnownUptoRow, standIns := [], harness := (true, "5ecb001ed499d91a6cdb44a2ead0ede46ba26b0a4712d29b6f82851583174cf3"), looks := true }, kinds := [], alts := [], laidByText := true, laidKinds := [.data, .data, .data, .data, .sentinel, .sentinel, .pinned], laidTests := true, laidLooks := .later }
def LocationKnownUptoCardSaid : Prop := Claim7.holds Tryz.pinned (.plain (OpenSpec.upto locationKnownSpec)) locationKnownUptoCard

/-- THE SECOND FORM's CARD OF 'waypostlaw17.LocationBack'. -/
def locationBackUptoCard : Claim7 := { stood := { row := locationBackUptoRow, standIns := [], harness := (true, "5ecb001ed499d91a6cdb44a2ead0ede46ba26b0a4712d29b6f82851583174cf3"), looks := true }, kinds := [], alts := [], laidByText := true, laidKinds := [.data, .data, .data, .data, .sentinel, .sentinel, .pinned], laidTests := true, laidLooks := .later }
def LocationBackUptoCardSaid : Prop := Claim7.holds Tryz.pinned (.plain (OpenSpec.upto locationBackSpec)) locationBackUptoCard

/-- THE SECOND FORM's CARD OF 'waypostlaw17.LocationApart'. -/
def locationApartUptoCard : Claim7 := { stood := { row := locationApartUptoRow, standIns := [], harness := (true, "5ecb001ed499d91a6cdb44a2ead0ede46ba26b0a4712d29b6f82851583174cf3"), looks := true }, kinds := [], alts := [], laidByText := true, laidKinds := [.data, .data, .data, .data, .sentinel, .sentinel, .pinned], laidTests := true, laidLooks := .later }
def LocationApartUptoCardSaid : Prop := Claim7.holds Tryz.pinned (.plain (OpenSpec.upto locationApartSpec)) locationApartUptoCard

/-- THE SECOND FORM's CARD OF 'waypostlaw18.TargetReads'. -/
def targetReadsUptoCard : Claim7 := { stood := { row := targetReadsUptoRow, standIns := [], harness := (true, "5ecb001ed499d91a6cdb44a2ead0ede46ba26b0a4712d29b6f82851583174cf3"), looks := true }, kinds := [], alts := [], laidByText := true, laidKinds := [.data, .data, .data, .data, .sentinel, .sentinel, .pinned], laidTests := true, laidLooks := .later }
def TargetReadsUptoCardSaid : Prop := Claim7.holds Tryz.pinned (.plain (OpenSpec.upto targetReadsSpec)) targetReadsUptoCard

/-- THE SECOND FORM's CARD OF 'waypostlaw18.TargetWrites'. -/
def targetWritesUptoCard : Claim7 := { stood := { row := targetWritesUptoRow, standIns := [], harness := (true, "5ecb001ed499d91a6cdb44a2ead0ede46ba26b0a4712d29b6f82851583174cf3"), looks := true }, kinds := [], alts := [], laidByText := true, laidKinds := [.data, .data, .data, .data, .sentinel, .sentinel, .pinned], laidTests := true, laidLooks := .later }
def TargetWritesUptoCardSaid : Prop := Claim7.holds Tryz.pinned (.plain (OpenSpec.upto targetWritesSpec)) targetWritesUptoCard

/-- THE SECOND FORM's CARD OF 'waypostlaw18.TargetKnown'. -/
def targetKnownUptoCard : Claim7 := { stood := { row := targetKnownUptoRow, standIns := [], harness := (true, "5ecb001ed499d91a6cdb44a2ead0ede46ba26b0a4712d29b6f82851583174cf3"), looks := true }, kinds := [], alts := [], laidByText := true, laidKinds := [.data, .data, .data, .data, .sentinel, .sentinel, .pinned], laidTests := true, laidLooks := .later }
def TargetKnownUptoCardSaid : Prop := Claim7.holds Tryz.pinned (.plain (OpenSpec.upto targetKnownSpec)) targetKnownUptoCard
end Rows
end Go.Proofs.YteigjobliflkdaaGreatDoor
