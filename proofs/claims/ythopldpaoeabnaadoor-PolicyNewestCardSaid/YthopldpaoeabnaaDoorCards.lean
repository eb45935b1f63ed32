/-
  DERIVED. GIVEN WITH THE SEED: THE CARDS: each row of YthopldpaoeabnaaDoorRows.lean that lists a variable, with what it lists TIED to the program's text (the seventh form; the later family's looks); each row that meets fmt, with fmt's text TOLD by the authors' own Lean function (tested against real Go, not proved from fmt's source: count such statements apart). THE CARD IS WHAT COUNTS. Prove the row's statement (the work); the ties are given (YthopldpaoeabnaaDoorTie.lean); close each card by the builder's one call (the guide's Derived/Test/ToyasCard.lean, 'card_holds'). Laid BY PROGRAM, IN A SANDBOX (cutbox-door.mjs). By AI agents, Wed Nov 11 2026. No macro, syntax, notation, axiom, sorry.
-/
import Derived.Test.YthopldpaoeabnaaDoorRows
import GoSem.ClaimSeven
namespace Go.Proofs.YthopldpaoeabnaaDoor
namespace Rows

/-- THE TIED CARD OF 'stillagelaw22.PolicyTexts'. -/
def policyTextsCard : Claim7 := { stood := { row := policyTextsRow, standIns := [], harness := (true, "e14b9df82fd0cc2daa725911f8773a528365b18202f128041fbc769b15d34c51"), looks := true }, kinds := [], alts := [], laidByText := true, laidKinds := [.data, .data, .data, .data, .sentinel, .sentinel, .pinned], laidTests := true, laidLooks := .later }
def PolicyTextsCardSaid : Prop := Claim7.holds Tryd.pinned (.plain (OpenSpec.ofChange policyTextsSpec)) policyTextsCard

/-- THE TIED CARD OF 'stillagelaw22.PolicyNames'. -/
def policyNamesCard : Claim7 := { stood := { row := policyNamesRow, standIns := [], harness := (true, "e14b9df82fd0cc2daa725911f8773a528365b18202f128041fbc769b15d34c51"), looks := true }, kinds := [], alts := [], laidByText := true, laidKinds := [.data, .data, .data, .data, .sentinel, .sentinel, .pinned], laidTests := true, laidLooks := .later }
def PolicyNamesCardSaid : Prop := Claim7.holds Tryd.pinned (.plain (OpenSpec.ofChange policyNamesSpec)) policyNamesCard

/-- THE TIED CARD OF 'stillagelaw22.PolicyDue'. -/
def policyDueCard : Claim7 := { stood := { row := policyDueRow, standIns := [], harness := (true, "e14b9df82fd0cc2daa725911f8773a528365b18202f128041fbc769b15d34c51"), looks := true }, kinds := [], alts := [], laidByText := true, laidKinds := [.data, .data, .data, .data, .sentinel, .sentinel, .pinned], laidTests := true, laidLooks := .later }
def PolicyDueCardSaid : Prop := Claim7.holds Tryd.pinned (.plain (OpenSpec.ofChange policyDueSpec)) policyDueCard

/-- THE TIED CARD OF 'stillagelaw22.PolicyKeeps'. -/
def policyKeepsCard : Claim7 := { stood := { row := policyKeepsRow, standIns := [], harness := (true, "e14b9df82fd0cc2daa725911f8773a528365b18202f128041fbc769b15d34c51"), looks := true }, kinds := [], alts := [], laidByText := true, laidKinds := [.data, .data, .data, .data, .sentinel, .sentinel, .pinned], laidTests := true, laidLooks := .later }
def PolicyKeepsCardSaid : Prop := Claim7.holds Tryd.pinned (.plain (OpenSpec.ofChange policyKeepsSpec)) policyKeepsCard

/-- THE TIED CARD OF 'stillagelaw22.PolicyNewest'. -/
def policyNewestCard : Claim7 := { stood := { row := policyNewestRow, standIns := [], harness := (true, "e14b9df82fd0cc2daa725911f8773a528365b18202f128041fbc769b15d34c51"), looks := true }, kinds := [], alts := [], laidByText := true, laidKinds := [.data, .data, .data, .data, .sentinel, .sentinel, .pinned], laidTests := true, laidLooks := .later }
def PolicyNewestCardSaid : Prop := Claim7.holds Tryd.pinned (.plain (OpenSpec.ofChange policyNewestSpec)) policyNewestCard

/-- THE TIED CARD OF 'stillagelaw22.PolicyBack'. -/
def policyBackCard : Claim7 := { stood := { row := policyBackRow, standIns := [], harness := (true, "e14b9df82fd0cc2daa725911f8773a528365b18202f128041fbc769b15d34c51"), looks := true }, kinds := [], alts := [], laidByText := true, laidKinds := [.data, .data, .data, .data, .sentinel, .sentinel, .pinned], laidTests := true, laidLooks := .later }
def PolicyBackCardSaid : Prop := Claim7.holds Tryd.pinned (.plain (OpenSpec.ofChange policyBackSpec)) policyBackCard

/-- THE TIED CARD OF 'stillagelaw22.PolicyOften'. -/
def policyOftenCard : Claim7 := { stood := { row := policyOftenRow, standIns := [], harness := (true, "e14b9df82fd0cc2daa725911f8773a528365b18202f128041fbc769b15d34c51"), looks := true }, kinds := [], alts := [], laidByText := true, laidKinds := [.data, .data, .data, .data, .sentinel, .sentinel, .pinned], laidTests := true, laidLooks := .later }
def PolicyOftenCardSaid : Prop := Claim7.holds Tryd.pinned (.plain (OpenSpec.ofChange policyOftenSpec)) policyOftenCard

/-- THE SECOND FORM's CARD OF 'stillagelaw22.PolicyTexts'. -/
def policyTextsUptoCard : Claim7 := { stood := { row := policyTextsUptoRow, standIns := [], harness := (true, "e14b9df82fd0cc2daa725911f8773a528365b18202f128041fbc769b15d34c51"), looks := true }, kinds := [], alts := [], laidByText := true, laidKinds := [.data, .data, .data, .data, .sentinel, .sentinel, .pinned], laidTests := true, laidLooks := .later }
def PolicyTextsUptoCardSaid : Prop := Claim7.holds Tryd.pinned (.plain (OpenSpec.upto policyTextsSpec)) policyTextsUptoCard

/-- THE SECOND FORM's CARD OF 'stillagelaw22.PolicyNames'. -/
def policyNamesUptoCard : Claim7 := { stood := { row := policyNamesUptoRow, standIns := [], harness := (true, "e14b9df82fd0cc2daa725911f8773a528365b18202f128041fbc769b15d34c51"), looks := true }, kinds := [], alts := [], laidByText := true, laidKinds := [.data, .data, .data, .data, .sentinel, .sentinel, .pinned], laidTests := true, laidLooks := .later }
def PolicyNamesUptoCardSaid : Prop := Claim7.holds Tryd.pinned (.plain (OpenSpec.upto policyNamesSpec)) policyNamesUptoCard

/-- THE SECOND FORM's CARD OF 'stillagelaw22.PolicyDue'. -/
def policyDueUptoCard : Claim7 := { stood := { row := policyDueUptoRow, standIns := [], harness := (true, "e14b9df82fd0cc2daa725911f8773a528365b18202f128041fbc769b15d34c51"), looks := true }, kinds := [], alts := [], laidByText := true, laidKinds := [.data, .data, .data, .data, .sentinel, .sentinel, .pinned], laidTests := true, laidLooks := .later }
def PolicyDueUptoCardSaid : Prop := Claim7.holds Tryd.pinned (.plain (OpenSpec.upto policyDueSpec)) policyDueUptoCard

/-- THE SECOND FORM's CARD OF 'stillagelaw22.PolicyKeeps'. -/
def policyKeepsUptoCard : Claim7 := { stood := { row := policyKeepsUptoRow, standIns := [], harness := (true, "e14b9df82fd0cc2daa725911f8773a528365b18202f128041fbc769b15d34c51"), looks := true }, kinds := [], alts := [], laidByText := true, laidKinds := [.data, .data, .data, .data, .sentinel, .sentinel, .pinned], laidTests := true, laidLooks := .later }
def PolicyKeepsUptoCardSaid : Prop := Claim7.holds Tryd.pinned (.plain (OpenSpec.upto policyKeepsSpec)) policyKeepsUptoCard

/-- THE SECOND FORM's CARD OF 'stillagelaw22.PolicyNewest'. -/
def policyNewestUptoCard : Claim7 := { stood := { row := policyNewestUptoRow, standIns := [], harness := (true, "e14b9df82fd0cc2daa725911f8773a528365b18202f128041fbc769b15d34c51"), looks := true }, kinds := [], alts := [], laidByText := true, laidKinds := [.data, .data, .data, .data, .sentinel, .sentinel, .pinned], laidTests := true, laidLooks := .later }
def PolicyNewestUptoCardSaid : Prop := Claim7.holds Tryd.pinned (.plain (OpenSpec.upto policyNewestSpec)) policyNewestUptoCard

/-- THE SECOND FORM's CARD OF 'stillagelaw22.PolicyBack'. -/
def policyBackUptoCard : Claim7 := { stood := { row := policyBackUptoRow, standIns := [], harness := (true, "e14b9df82fd0cc2daa725911f8773a528365b18202f128041fbc769b15d34c51"), looks := true }, kinds := [], alts := [], laidByText := true, laidKinds := [.data, .data, .data, .data, .sentinel, .sentinel, .pinned], laidTests := true, laidLooks := .later }
def PolicyBackUptoCardSaid : Prop := Claim7.holds Tryd.pinned (.plain (OpenSpec.upto policyBackSpec)) policyBackUptoCard

/-- THE SECOND FORM's CARD OF 'stillagelaw22.PolicyOften'. -/
def policyOftenUptoCard : Claim7 := { stood := { row := policyOftenUptoRow, standIns := [], harness := (true, "e14b9df82fd0cc2daa725911f8773a528365b18202f128041fbc769b15d34c51"), looks := true }, kinds := [], alts := [], laidByText := true, laidKinds := [.data, .data, .data, .data, .sentinel, .sentinel, .pinned], laidTests := true, laidLooks := .later }
def PolicyOftenUptoCardSaid : Prop := Claim7.holds Tryd.pinned (.plain (OpenSpec.upto policyOftenSpec)) policyOftenUptoCard
end Rows
end Go.Proofs.YthopldpaoeabnaaDoor
