/-
  DERIVED. GIVEN WITH THE SEED: THE CARDS: each row of YthmpblccplphfaaGreatDoorRows.lean that lists a variable, with what it lists TIED to the program's text (the seventh form; the later family's looks); each row that meets fmt, with fmt's text TOLD by the authors' own Lean function (tested against real Go, not proved from fmt's source: count such statements apart). THE CARD IS WHAT COUNTS. Prove the row's statement (the work); the ties are given (YthmpblccplphfaaGreatDoorTie.lean); close each card by the builder's one call (the guide's Derived/Test/ToyasCard.lean, 'card_holds'). Laid BY PROGRAM, IN A SANDBOX (cutbox-door.mjs). By AI agents, Wed Nov 11 2026. No macro, syntax, notation, axiom, sorry.
-/
import Derived.Test.YthmpblccplphfaaGreatDoorRows
import GoSem.ClaimSeven
namespace Go.Proofs.YthmpblccplphfaaGreatDoor
namespace Rows

/-- THE TIED CARD OF 'stillagelaw14.FileFrom'. -/
def fileFromCard : Claim7 := { stood := { row := fileFromRow, standIns := [], harness := (true, "59f07d15a3075ed4c93731b9ede5d21fe4902dae990d87a5d15b91b67975908c"), looks := true }, kinds := [], alts := [], laidByText := true, laidKinds := [.data, .data, .data, .data, .handle, .sentinel, .sentinel, .pinned], laidTests := true, laidLooks := .later }
def FileFromCardSaid : Prop := Claim7.holds Tryz.pinned (.plain (OpenSpec.ofChange fileFromSpec)) fileFromCard

/-- THE TIED CARD OF 'stillagelaw14.FileBack'. -/
def fileBackCard : Claim7 := { stood := { row := fileBackRow, standIns := [], harness := (true, "59f07d15a3075ed4c93731b9ede5d21fe4902dae990d87a5d15b91b67975908c"), looks := true }, kinds := [], alts := [], laidByText := true, laidKinds := [.data, .data, .data, .data, .handle, .sentinel, .sentinel, .pinned], laidTests := true, laidLooks := .later }
def FileBackCardSaid : Prop := Claim7.holds Tryz.pinned (.plain (OpenSpec.ofChange fileBackSpec)) fileBackCard

/-- THE TIED CARD OF 'stillagelaw14.FileNone'. -/
def fileNoneCard : Claim7 := { stood := { row := fileNoneRow, standIns := [], harness := (true, "59f07d15a3075ed4c93731b9ede5d21fe4902dae990d87a5d15b91b67975908c"), looks := true }, kinds := [], alts := [], laidByText := true, laidKinds := [.data, .data, .data, .data, .handle, .sentinel, .sentinel, .pinned], laidTests := true, laidLooks := .later }
def FileNoneCardSaid : Prop := Claim7.holds Tryz.pinned (.plain (OpenSpec.ofChange fileNoneSpec)) fileNoneCard

/-- THE TIED CARD OF 'stillagelaw14.FileLinks'. -/
def fileLinksCard : Claim7 := { stood := { row := fileLinksRow, standIns := [], harness := (true, "59f07d15a3075ed4c93731b9ede5d21fe4902dae990d87a5d15b91b67975908c"), looks := true }, kinds := [], alts := [], laidByText := true, laidKinds := [.data, .data, .data, .data, .handle, .sentinel, .sentinel, .pinned], laidTests := true, laidLooks := .later }
def FileLinksCardSaid : Prop := Claim7.holds Tryz.pinned (.plain (OpenSpec.ofChange fileLinksSpec)) fileLinksCard

/-- THE TIED CARD OF 'stillagelaw14.FileCuts'. -/
def fileCutsCard : Claim7 := { stood := { row := fileCutsRow, standIns := [], harness := (true, "59f07d15a3075ed4c93731b9ede5d21fe4902dae990d87a5d15b91b67975908c"), looks := true }, kinds := [], alts := [], laidByText := true, laidKinds := [.data, .data, .data, .data, .handle, .sentinel, .sentinel, .pinned], laidTests := true, laidLooks := .later }
def FileCutsCardSaid : Prop := Claim7.holds Tryz.pinned (.plain (OpenSpec.ofChange fileCutsSpec)) fileCutsCard

/-- THE TIED CARD OF 'stillagelaw14.FileNames'. -/
def fileNamesCard : Claim7 := { stood := { row := fileNamesRow, standIns := [], harness := (true, "59f07d15a3075ed4c93731b9ede5d21fe4902dae990d87a5d15b91b67975908c"), looks := true }, kinds := [], alts := [], laidByText := true, laidKinds := [.data, .data, .data, .data, .handle, .sentinel, .sentinel, .pinned], laidTests := true, laidLooks := .later }
def FileNamesCardSaid : Prop := Claim7.holds Tryz.pinned (.plain (OpenSpec.ofChange fileNamesSpec)) fileNamesCard

/-- THE TIED CARD OF 'stillagelaw14.FileDoes'. -/
def fileDoesCard : Claim7 := { stood := { row := fileDoesRow, standIns := [], harness := (true, "59f07d15a3075ed4c93731b9ede5d21fe4902dae990d87a5d15b91b67975908c"), looks := true }, kinds := [], alts := [], laidByText := true, laidKinds := [.data, .data, .data, .data, .handle, .sentinel, .sentinel, .pinned], laidTests := true, laidLooks := .later }
def FileDoesCardSaid : Prop := Claim7.holds Tryz.pinned (.plain (OpenSpec.ofChange fileDoesSpec)) fileDoesCard

/-- THE TIED CARD OF 'stillagelaw14.FileMoves'. -/
def fileMovesCard : Claim7 := { stood := { row := fileMovesRow, standIns := [], harness := (true, "59f07d15a3075ed4c93731b9ede5d21fe4902dae990d87a5d15b91b67975908c"), looks := true }, kinds := [], alts := [], laidByText := true, laidKinds := [.data, .data, .data, .data, .handle, .sentinel, .sentinel, .pinned], laidTests := true, laidLooks := .later }
def FileMovesCardSaid : Prop := Claim7.holds Tryz.pinned (.plain (OpenSpec.ofChange fileMovesSpec)) fileMovesCard

/-- THE SECOND FORM's CARD OF 'stillagelaw14.FileFrom'. -/
def fileFromUptoCard : Claim7 := { stood := { row := fileFromUptoRow, standIns := [], harness := (true, "59f07d15a3075ed4c93731b9ede5d21fe4902dae990d87a5d15b91b67975908c"), looks := true }, kinds := [], alts := [], laidByText := true, laidKinds := [.data, .data, .data, .data, .handle, .sentinel, .sentinel, .pinned], laidTests := true, laidLooks := .later }
def FileFromUptoCardSaid : Prop := Claim7.holds Tryz.pinned (.plain (OpenSpec.upto fileFromSpec)) fileFromUptoCard

/-- THE SECOND FORM's CARD OF 'stillagelaw14.FileBack'. -/
def fileBackUptoCard : Claim7 := { stood := { row := fileBackUptoRow, standIns := [], harness := (true, "59f07d15a3075ed4c93731b9ede5d21fe4902dae990d87a5d15b91b67975908c"), looks := true }, kinds := [], alts := [], laidByText := true, laidKinds := [.data, .data, .data, .data, .handle, .sentinel, .sentinel, .pinned], laidTests := true, laidLooks := .later }
def FileBackUptoCardSaid : Prop := Claim7.holds Tryz.pinned (.plain (OpenSpec.upto fileBackSpec)) fileBackUptoCard

/-- THE SECOND FORM's CARD OF 'stillagelaw14.FileNone'. -/
def fileNoneUptoCard : Claim7 := { stood := { row := fileNoneUptoRow, standIns := [], harness := (true, "59f07d15a3075ed4c93731b9ede5d21fe4902dae990d87a5d15b91b67975908c"), looks := true }, kinds := [], alts := [], laidByText := true, laidKinds := [.data, .data, .data, .data, .handle, .sentinel, .sentinel, .pinned], laidTests := true, laidLooks := .later }
def FileNoneUptoCardSaid : Prop := Claim7.holds Tryz.pinned (.plain (OpenSpec.upto fileNoneSpec)) fileNoneUptoCard

/-- THE SECOND FORM's CARD OF 'stillagelaw14.FileLinks'. -/
def fileLinksUptoCard : Claim7 := { stood := { row := fileLinksUptoRow, standIns := [], harness := (true, "59f07d15a3075ed4c93731b9ede5d21fe4902dae990d87a5d15b91b67975908c"), looks := true }, kinds := [], alts := [], laidByText := true, laidKinds := [.data, .data, .data, .data, .handle, .sentinel, .sentinel, .pinned], laidTests := true, laidLooks := .later }
def FileLinksUptoCardSaid : Prop := Claim7.holds Tryz.pinned (.plain (OpenSpec.upto fileLinksSpec)) fileLinksUptoCard

/-- THE SECOND FORM's CARD OF 'stillagelaw14.FileCuts'. -/
def fileCutsUptoCard : Claim7 := { stood := { row := fileCutsUptoRow, standIns := [], harness := (true, "59f07d15a3075ed4c93731b9ede5d21fe4902dae990d87a5d15b91b67975908c"), looks := true }, kinds := [], alts := [], laidByText := true, laidKinds := [.data, .data, .data, .data, .handle, .sentinel, .sentinel, .pinned], laidTests := true, laidLooks := .later }
def FileCutsUptoCardSaid : Prop := Claim7.holds Tryz.pinned (.plain (OpenSpec.upto fileCutsSpec)) fileCutsUptoCard

/-- THE SECOND FORM's CARD OF 'stillagelaw14.FileNames'. -/
def fileNamesUptoCard : Claim7 := { stood := { row := fileNamesUptoRow, standIns := [], harness := (true, "59f07d15a3075ed4c93731b9ede5d21fe4902dae990d87a5d15b91b67975908c"), looks := true }, kinds := [], alts := [], laidByText := true, laidKinds := [.data, .data, .data, .data, .handle, .sentinel, .sentinel, .pinned], laidTests := true, laidLooks := .later }
def FileNamesUptoCardSaid : Prop := Claim7.holds Tryz.pinned (.plain (OpenSpec.upto fileNamesSpec)) fileNamesUptoCard

/-- THE SECOND FORM's CARD OF 'stillagelaw14.FileDoes'. -/
def fileDoesUptoCard : Claim7 := { stood := { row := fileDoesUptoRow, standIns := [], harness := (true, "59f07d15a3075ed4c93731b9ede5d21fe4902dae990d87a5d15b91b67975908c"), looks := true }, kinds := [], alts := [], laidByText := true, laidKinds := [.data, .data, .data, .data, .handle, .sentinel, .sentinel, .pinned], laidTests := true, laidLooks := .later }
def FileDoesUptoCardSaid : Prop := Claim7.holds Tryz.pinned (.plain (OpenSpec.upto fileDoesSpec)) fileDoesUptoCard

/-- THE SECOND FORM's CARD OF 'stillagelaw14.FileMoves'. -/
def fileMovesUptoCard : Claim7 := { stood := { row := fileMovesUptoRow, standIns := [], harness := (true, "59f07d15a3075ed4c93731b9ede5d21fe4902dae990d87a5d15b91b67975908c"), looks := true }, kinds := [], alts := [], laidByText := true, laidKinds := [.data, .data, .data, .data, .handle, .sentinel, .sentinel, .pinned], laidTests := true, laidLooks := .later }
def FileMovesUptoCardSaid : Prop := Claim7.holds Tryz.pinned (.plain (OpenSpec.upto fileMovesSpec)) fileMovesUptoCard
end Rows
end Go.Proofs.YthmpblccplphfaaGreatDoor
