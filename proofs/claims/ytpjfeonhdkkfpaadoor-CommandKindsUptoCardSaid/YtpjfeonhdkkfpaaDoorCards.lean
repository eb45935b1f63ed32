/-
  DERIVED. GIVEN WITH THE SEED: THE CARDS: each row of YtpjfeonhdkkfpaaDoorRows.lean that lists a variable, with what it lists TIED to the program's text (the seventh form; the later family's looks); each row that meets fmt, with fmt's text TOLD by the authors' own Lean function (tested against real Go, not proved from fmt's source: count such statements apart). THE CARD IS WHAT COUNTS. Prove the row's statement (the work); the ties are given (YtpjfeonhdkkfpaaDoorTie.lean); close each card by the builder's one call (the guide's Derived/Test/ToyasCard.lean, 'card_holds'). Laid BY PROGRAM, IN A SANDBOX (cutbox-door.mjs). By AI agents, Wed Nov 11 2026. No macro, syntax, notation, axiom, sorry.
-/
import Derived.Test.YtpjfeonhdkkfpaaDoorRows
import GoSem.ClaimSeven
namespace Go.Proofs.YtpjfeonhdkkfpaaDoor
namespace Rows

/-- THE TIED CARD OF 'stillagelaw13.CommandPaths'. -/
def commandPathsCard : Claim7 := { stood := { row := commandPathsRow, standIns := [], harness := (true, "6fe499f755c6d045b6947dfbedc9e35167b4eb65e2e71bc0bdec632719d84669"), looks := true }, kinds := [], alts := [], laidByText := true, laidKinds := [.data, .data, .data, .data, .sentinel, .sentinel, .pinned], laidTests := true, laidLooks := .later }
def CommandPathsCardSaid : Prop := Claim7.holds Tryd.pinned (.plain (OpenSpec.ofChange commandPathsSpec)) commandPathsCard

/-- THE TIED CARD OF 'stillagelaw13.CommandPrints'. -/
def commandPrintsCard : Claim7 := { stood := { row := commandPrintsRow, standIns := [], harness := (true, "6fe499f755c6d045b6947dfbedc9e35167b4eb65e2e71bc0bdec632719d84669"), looks := true }, kinds := [], alts := [], laidByText := true, laidKinds := [.data, .data, .data, .data, .sentinel, .sentinel, .pinned], laidTests := true, laidLooks := .later }
def CommandPrintsCardSaid : Prop := Claim7.holds Tryd.pinned (.plain (OpenSpec.ofChange commandPrintsSpec)) commandPrintsCard

/-- THE TIED CARD OF 'stillagelaw13.CommandParses'. -/
def commandParsesCard : Claim7 := { stood := { row := commandParsesRow, standIns := [], harness := (true, "6fe499f755c6d045b6947dfbedc9e35167b4eb65e2e71bc0bdec632719d84669"), looks := true }, kinds := [], alts := [], laidByText := true, laidKinds := [.data, .data, .data, .data, .sentinel, .sentinel, .pinned], laidTests := true, laidLooks := .later }
def CommandParsesCardSaid : Prop := Claim7.holds Tryd.pinned (.plain (OpenSpec.ofChange commandParsesSpec)) commandParsesCard

/-- THE TIED CARD OF 'stillagelaw13.CommandBack'. -/
def commandBackCard : Claim7 := { stood := { row := commandBackRow, standIns := [], harness := (true, "6fe499f755c6d045b6947dfbedc9e35167b4eb65e2e71bc0bdec632719d84669"), looks := true }, kinds := [], alts := [], laidByText := true, laidKinds := [.data, .data, .data, .data, .sentinel, .sentinel, .pinned], laidTests := true, laidLooks := .later }
def CommandBackCardSaid : Prop := Claim7.holds Tryd.pinned (.plain (OpenSpec.ofChange commandBackSpec)) commandBackCard

/-- THE TIED CARD OF 'stillagelaw13.CommandJoins'. -/
def commandJoinsCard : Claim7 := { stood := { row := commandJoinsRow, standIns := [], harness := (true, "6fe499f755c6d045b6947dfbedc9e35167b4eb65e2e71bc0bdec632719d84669"), looks := true }, kinds := [], alts := [], laidByText := true, laidKinds := [.data, .data, .data, .data, .sentinel, .sentinel, .pinned], laidTests := true, laidLooks := .later }
def CommandJoinsCardSaid : Prop := Claim7.holds Tryd.pinned (.plain (OpenSpec.ofChange commandJoinsSpec)) commandJoinsCard

/-- THE TIED CARD OF 'stillagelaw13.CommandKinds'. -/
def commandKindsCard : Claim7 := { stood := { row := commandKindsRow, standIns := [], harness := (true, "6fe499f755c6d045b6947dfbedc9e35167b4eb65e2e71bc0bdec632719d84669"), looks := true }, kinds := [], alts := [], laidByText := true, laidKinds := [.data, .data, .data, .data, .sentinel, .sentinel, .pinned], laidTests := true, laidLooks := .later }
def CommandKindsCardSaid : Prop := Claim7.holds Tryd.pinned (.plain (OpenSpec.ofChange commandKindsSpec)) commandKindsCard

/-- THE SECOND FORM's CARD OF 'stillagelaw13.CommandPaths'. -/
def commandPathsUptoCard : Claim7 := { stood := { row := commandPathsUptoRow, standIns := [], harness := (true, "6fe499f755c6d045b6947dfbedc9e35167b4eb65e2e71bc0bdec632719d84669"), looks := true }, kinds := [], alts := [], laidByText := true, laidKinds := [.data, .data, .data, .data, .sentinel, .sentinel, .pinned], laidTests := true, laidLooks := .later }
def CommandPathsUptoCardSaid : Prop := Claim7.holds Tryd.pinned (.plain (OpenSpec.upto commandPathsSpec)) commandPathsUptoCard

/-- THE SECOND FORM's CARD OF 'stillagelaw13.CommandPrints'. -/
def commandPrintsUptoCard : Claim7 := { stood := { row := commandPrintsUptoRow, standIns := [], harness := (true, "6fe499f755c6d045b6947dfbedc9e35167b4eb65e2e71bc0bdec632719d84669"), looks := true }, kinds := [], alts := [], laidByText := true, laidKinds := [.data, .data, .data, .data, .sentinel, .sentinel, .pinned], laidTests := true, laidLooks := .later }
def CommandPrintsUptoCardSaid : Prop := Claim7.holds Tryd.pinned (.plain (OpenSpec.upto commandPrintsSpec)) commandPrintsUptoCard

/-- THE SECOND FORM's CARD OF 'stillagelaw13.CommandParses'. -/
def commandParsesUptoCard : Claim7 := { stood := { row := commandParsesUptoRow, standIns := [], harness := (true, "6fe499f755c6d045b6947dfbedc9e35167b4eb65e2e71bc0bdec632719d84669"), looks := true }, kinds := [], alts := [], laidByText := true, laidKinds := [.data, .data, .data, .data, .sentinel, .sentinel, .pinned], laidTests := true, laidLooks := .later }
def CommandParsesUptoCardSaid : Prop := Claim7.holds Tryd.pinned (.plain (OpenSpec.upto commandParsesSpec)) commandParsesUptoCard

/-- THE SECOND FORM's CARD OF 'stillagelaw13.CommandBack'. -/
def commandBackUptoCard : Claim7 := { stood := { row := commandBackUptoRow, standIns := [], harness := (true, "6fe499f755c6d045b6947dfbedc9e35167b4eb65e2e71bc0bdec632719d84669"), looks := true }, kinds := [], alts := [], laidByText := true, laidKinds := [.data, .data, .data, .data, .sentinel, .sentinel, .pinned], laidTests := true, laidLooks := .later }
def CommandBackUptoCardSaid : Prop := Claim7.holds Tryd.pinned (.plain (OpenSpec.upto commandBackSpec)) commandBackUptoCard

/-- THE SECOND FORM's CARD OF 'stillagelaw13.CommandJoins'. -/
def commandJoinsUptoCard : Claim7 := { stood := { row := commandJoinsUptoRow, standIns := [], harness := (true, "6fe499f755c6d045b6947dfbedc9e35167b4eb65e2e71bc0bdec632719d84669"), looks := true }, kinds := [], alts := [], laidByText := true, laidKinds := [.data, .data, .data, .data, .sentinel, .sentinel, .pinned], laidTests := true, laidLooks := .later }
def CommandJoinsUptoCardSaid : Prop := Claim7.holds Tryd.pinned (.plain (OpenSpec.upto commandJoinsSpec)) commandJoinsUptoCard

/-- THE SECOND FORM's CARD OF 'stillagelaw13.CommandKinds'. -/
def commandKindsUptoCard : Claim7 := { stood := { row := commandKindsUptoRow, standIns := [], harness := (true, "6fe499f755c6d045b6947dfbedc9e35167b4eb65e2e71bc0bdec632719d84669"), looks := true }, kinds := [], alts := [], laidByText := true, laidKinds := [.data, .data, .data, .data, .sentinel, .sentinel, .pinned], laidTests := true, laidLooks := .later }
def CommandKindsUptoCardSaid : Prop := Claim7.holds Tryd.pinned (.plain (OpenSpec.upto commandKindsSpec)) commandKindsUptoCard
end Rows
end Go.Proofs.YtpjfeonhdkkfpaaDoor
