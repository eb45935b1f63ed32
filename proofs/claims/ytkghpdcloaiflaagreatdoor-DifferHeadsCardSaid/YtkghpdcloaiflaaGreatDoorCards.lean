/-
  DERIVED. GIVEN WITH THE SEED: THE CARDS: each row of YtkghpdcloaiflaaGreatDoorRows.lean that lists a variable, with what it lists TIED to the program's text (the seventh form; the later family's looks); each row that meets fmt, with fmt's text TOLD by the authors' own Lean function (tested against real Go, not proved from fmt's source: count such statements apart). THE CARD IS WHAT COUNTS. Prove the row's statement (the work); the ties are given (YtkghpdcloaiflaaGreatDoorTie.lean); close each card by the builder's one call (the guide's Derived/Test/ToyasCard.lean, 'card_holds'). Laid BY PROGRAM, IN A SANDBOX (cutbox-door.mjs). By AI agents, Wed Nov 11 2026. No macro, syntax, notation, axiom, sorry.
-/
import Derived.Test.YtkghpdcloaiflaaGreatDoorRows
import GoSem.ClaimSeven
namespace Go.Proofs.YtkghpdcloaiflaaGreatDoor
namespace Rows

/-- THE TIED CARD OF 'stillagelaw19.DifferRecords'. -/
def differRecordsCard : Claim7 := { stood := { row := differRecordsRow, standIns := [], harness := (true, "43964ceebf884285e6320cdfcfded29cc17529cf80b5dd9d3ad1adcc4966284d"), looks := true }, kinds := [], alts := [], laidByText := true, laidKinds := [.data, .data, .data, .data, .handle, .sentinel, .sentinel, .pinned], laidTests := true, laidLooks := .later }
def DifferRecordsCardSaid : Prop := Claim7.holds Tryz.pinned (.plain (OpenSpec.ofChange differRecordsSpec)) differRecordsCard

/-- THE TIED CARD OF 'stillagelaw19.DifferPlans'. -/
def differPlansCard : Claim7 := { stood := { row := differPlansRow, standIns := [], harness := (true, "43964ceebf884285e6320cdfcfded29cc17529cf80b5dd9d3ad1adcc4966284d"), looks := true }, kinds := [], alts := [], laidByText := true, laidKinds := [.data, .data, .data, .data, .handle, .sentinel, .sentinel, .pinned], laidTests := true, laidLooks := .later }
def DifferPlansCardSaid : Prop := Claim7.holds Tryz.pinned (.plain (OpenSpec.ofChange differPlansSpec)) differPlansCard

/-- THE TIED CARD OF 'stillagelaw19.DifferStays'. -/
def differStaysCard : Claim7 := { stood := { row := differStaysRow, standIns := [], harness := (true, "43964ceebf884285e6320cdfcfded29cc17529cf80b5dd9d3ad1adcc4966284d"), looks := true }, kinds := [], alts := [], laidByText := true, laidKinds := [.data, .data, .data, .data, .handle, .sentinel, .sentinel, .pinned], laidTests := true, laidLooks := .later }
def DifferStaysCardSaid : Prop := Claim7.holds Tryz.pinned (.plain (OpenSpec.ofChange differStaysSpec)) differStaysCard

/-- THE TIED CARD OF 'stillagelaw19.DifferChain'. -/
def differChainCard : Claim7 := { stood := { row := differChainRow, standIns := [], harness := (true, "43964ceebf884285e6320cdfcfded29cc17529cf80b5dd9d3ad1adcc4966284d"), looks := true }, kinds := [], alts := [], laidByText := true, laidKinds := [.data, .data, .data, .data, .handle, .sentinel, .sentinel, .pinned], laidTests := true, laidLooks := .later }
def DifferChainCardSaid : Prop := Claim7.holds Tryz.pinned (.plain (OpenSpec.ofChange differChainSpec)) differChainCard

/-- THE TIED CARD OF 'stillagelaw19.DifferHeads'. -/
def differHeadsCard : Claim7 := { stood := { row := differHeadsRow, standIns := [], harness := (true, "43964ceebf884285e6320cdfcfded29cc17529cf80b5dd9d3ad1adcc4966284d"), looks := true }, kinds := [], alts := [], laidByText := true, laidKinds := [.data, .data, .data, .data, .handle, .sentinel, .sentinel, .pinned], laidTests := true, laidLooks := .later }
def DifferHeadsCardSaid : Prop := Claim7.holds Tryz.pinned (.plain (OpenSpec.ofChange differHeadsSpec)) differHeadsCard

/-- THE TIED CARD OF 'stillagelaw19.DifferWhole'. -/
def differWholeCard : Claim7 := { stood := { row := differWholeRow, standIns := [], harness := (true, "43964ceebf884285e6320cdfcfded29cc17529cf80b5dd9d3ad1adcc4966284d"), looks := true }, kinds := [], alts := [], laidByText := true, laidKinds := [.data, .data, .data, .data, .handle, .sentinel, .sentinel, .pinned], laidTests := true, laidLooks := .later }
def DifferWholeCardSaid : Prop := Claim7.holds Tryz.pinned (.plain (OpenSpec.ofChange differWholeSpec)) differWholeCard

/-- THE SECOND FORM's CARD OF 'stillagelaw19.DifferRecords'. -/
def differRecordsUptoCard : Claim7 := { stood := { row := differRecordsUptoRow, standIns := [], harness := (true, "43964ceebf884285e6320cdfcfded29cc17529cf80b5dd9d3ad1adcc4966284d"), looks := true }, kinds := [], alts := [], laidByText := true, laidKinds := [.data, .data, .data, .data, .handle, .sentinel, .sentinel, .pinned], laidTests := true, laidLooks := .later }
def DifferRecordsUptoCardSaid : Prop := Claim7.holds Tryz.pinned (.plain (OpenSpec.upto differRecordsSpec)) differRecordsUptoCard

/-- THE SECOND FORM's CARD OF 'stillagelaw19.DifferPlans'. -/
def differPlansUptoCard : Claim7 := { stood := { row := differPlansUptoRow, standIns := [], harness := (true, "43964ceebf884285e6320cdfcfded29cc17529cf80b5dd9d3ad1adcc4966284d"), looks := true }, kinds := [], alts := [], laidByText := true, laidKinds := [.data, .data, .data, .data, .handle, .sentinel, .sentinel, .pinned], laidTests := true, laidLooks := .later }
def DifferPlansUptoCardSaid : Prop := Claim7.holds Tryz.pinned (.plain (OpenSpec.upto differPlansSpec)) differPlansUptoCard

/-- THE SECOND FORM's CARD OF 'stillagelaw19.DifferStays'. -/
def differStaysUptoCard : Claim7 := { stood := { row := differStaysUptoRow, standIns := [], harness := (true, "43964ceebf884285e6320cdfcfded29cc17529cf80b5dd9d3ad1adcc4966284d"), looks := true }, kinds := [], alts := [], laidByText := true, laidKinds := [.data, .data, .data, .data, .handle, .sentinel, .sentinel, .pinned], laidTests := true, laidLooks := .later }
def DifferStaysUptoCardSaid : Prop := Claim7.holds Tryz.pinned (.plain (OpenSpec.upto differStaysSpec)) differStaysUptoCard

/-- THE SECOND FORM's CARD OF 'stillagelaw19.DifferChain'. -/
def differChainUptoCard : Claim7 := { stood := { row := differChainUptoRow, standIns := [], harness := (true, "43964ceebf884285e6320cdfcfded29cc17529cf80b5dd9d3ad1adcc4966284d"), looks := true }, kinds := [], alts := [], laidByText := true, laidKinds := [.data, .data, .data, .data, .handle, .sentinel, .sentinel, .pinned], laidTests := true, laidLooks := .later }
def DifferChainUptoCardSaid : Prop := Claim7.holds Tryz.pinned (.plain (OpenSpec.upto differChainSpec)) differChainUptoCard

/-- THE SECOND FORM's CARD OF 'stillagelaw19.DifferHeads'. -/
def differHeadsUptoCard : Claim7 := { stood := { row := differHeadsUptoRow, standIns := [], harness := (true, "43964ceebf884285e6320cdfcfded29cc17529cf80b5dd9d3ad1adcc4966284d"), looks := true }, kinds := [], alts := [], laidByText := true, laidKinds := [.data, .data, .data, .data, .handle, .sentinel, .sentinel, .pinned], laidTests := true, laidLooks := .later }
def DifferHeadsUptoCardSaid : Prop := Claim7.holds Tryz.pinned (.plain (OpenSpec.upto differHeadsSpec)) differHeadsUptoCard

/-- THE SECOND FORM's CARD OF 'stillagelaw19.DifferWhole'. -/
def differWholeUptoCard : Claim7 := { stood := { row := differWholeUptoRow, standIns := [], harness := (true, "43964ceebf884285e6320cdfcfded29cc17529cf80b5dd9d3ad1adcc4966284d"), looks := true }, kinds := [], alts := [], laidByText := true, laidKinds := [.data, .data, .data, .data, .handle, .sentinel, .sentinel, .pinned], laidTests := true, laidLooks := .later }
def DifferWholeUptoCardSaid : Prop := Claim7.holds Tryz.pinned (.plain (OpenSpec.upto differWholeSpec)) differWholeUptoCard
end Rows
end Go.Proofs.YtkghpdcloaiflaaGreatDoor
