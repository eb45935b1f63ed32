/-
  No cell of these rows narrows 'for every input' (looked for: loops, veiled, ifaces, maps, wideKeys, modest, calm, conditions, laid).
  DERIVED. THE GIVEN ROWS OF THIS SEAT. 5 by the template 'for every input the law returns true; each argument reads behind the call as it read before'; 0 by the template 'total and deterministic' (their statements: YtpdaepceijdckaaTotals.lean).
  GIVEN WITH THE SEED: the statements are not yours to turn. If you find one false, say at which input.
  Laid BY PROGRAM, IN A SANDBOX (cutbox-rows.mjs): the forced cells as the released guide's own fill.sh prints them over the translation 893c1abef78bf27b… (all of the seat's roots in one cut). By AI agents, Wed Nov 11 2026. No macro, syntax, notation, axiom, sorry.
-/
import Derived.Test.YtpdaepceijdckaaChecked
import GoSem.Claim
import GoSem.ClaimJoined
import GoSem.ClaimMapViews
import Derived.JoinedTies
import Derived.KernelRfl
namespace Go.Proofs.Ytpdaepceijdckaa
/- THE CELL 'sum', in the pinned program and in every row, IS THE sha256 OF THE DUMP (.gsa) THAT YtpdaepceijdckaaProg.lean LOADS. Nothing in Lean hashes anything: it is a label: what it is worth is what the hold of that sum in a sandbox is worth. -/
noncomputable def Try.pinned : Pinned := { name := "ytpdaepceijdckaa", sum := "893c1abef78bf27bde071ca5181ddb3be1f52aeafabed8e94a79cea68a0b5974", checked := Try.checked }
namespace Rows
def none {H : Type} : Left H := { results := [], args := [] }

/-- 'stillagelaw02.DigestSums': WHATEVER THE INPUT: true; the input reads as it did. -/
def digestSumsSpec : ChangeSpec := { name := "digestSums", fn := fun _ => fun
  | [d1, d2] => { results := [.lit (.bool true)], args := [d1, d2] }
  | _ => none }
def digestSumsRow : OpenClaim := { program := "ytpdaepceijdckaa", sum := "893c1abef78bf27bde071ca5181ddb3be1f52aeafabed8e94a79cea68a0b5974", func := "stillage/stillagelaw02.DigestSums", spec := "digestSums", apart := false }
def DigestSumsSaid : Prop := digestSumsRow.holds Try.pinned (OpenSpec.ofChange digestSumsSpec)

/-- ITS FALSE NEIGHBOUR: 'it returns false'. Refute it at one input. -/
def digestSumsWrong : ChangeSpec := { name := "digestSums", fn := fun _ => fun
  | [d1, d2] => { results := [.lit (.bool false)], args := [d1, d2] }
  | _ => none }
def DigestSumsWrongFalsely : Prop := digestSumsRow.holds Try.pinned (OpenSpec.ofChange digestSumsWrong)

/-- 'stillagelaw02.DigestPieces': WHATEVER THE INPUT: true; the input reads as it did. -/
def digestPiecesSpec : ChangeSpec := { name := "digestPieces", fn := fun _ => fun
  | [d1, d2] => { results := [.lit (.bool true)], args := [d1, d2] }
  | _ => none }
def digestPiecesRow : OpenClaim := { program := "ytpdaepceijdckaa", sum := "893c1abef78bf27bde071ca5181ddb3be1f52aeafabed8e94a79cea68a0b5974", func := "stillage/stillagelaw02.DigestPieces", spec := "digestPieces", apart := false }
def DigestPiecesSaid : Prop := digestPiecesRow.holds Try.pinned (OpenSpec.ofChange digestPiecesSpec)

/-- ITS FALSE NEIGHBOUR: 'it returns false'. Refute it at one input. -/
def digestPiecesWrong : ChangeSpec := { name := "digestPieces", fn := fun _ => fun
  | [d1, d2] => { results := [.lit (.bool false)], args := [d1, d2] }
  | _ => none }
def DigestPiecesWrongFalsely : Prop := digestPiecesRow.holds Try.pinned (OpenSpec.ofChange digestPiecesWrong)

/-- 'stillagelaw02.DigestLengths': WHATEVER THE INPUT: true; the input reads as it did. -/
def digestLengthsSpec : ChangeSpec := { name := "digestLengths", fn := fun _ => fun
  | [d1, d2, d3] => { results := [.lit (.bool true)], args := [d1, d2, d3] }
  | _ => none }
def digestLengthsRow : OpenClaim := { program := "ytpdaepceijdckaa", sum := "893c1abef78bf27bde071ca5181ddb3be1f52aeafabed8e94a79cea68a0b5974", func := "stillage/stillagelaw02.DigestLengths", spec := "digestLengths", apart := false }
def DigestLengthsSaid : Prop := digestLengthsRow.holds Try.pinned (OpenSpec.ofChange digestLengthsSpec)

/-- ITS FALSE NEIGHBOUR: 'it returns false'. Refute it at one input. -/
def digestLengthsWrong : ChangeSpec := { name := "digestLengths", fn := fun _ => fun
  | [d1, d2, d3] => { results := [.lit (.bool false)], args := [d1, d2, d3] }
  | _ => none }
def DigestLengthsWrongFalsely : Prop := digestLengthsRow.holds Try.pinned (OpenSpec.ofChange digestLengthsWrong)

/-- 'stillagelaw02.DigestEach': WHATEVER THE INPUT: true; the input reads as it did. -/
def digestEachSpec : ChangeSpec := { name := "digestEach", fn := fun _ => fun
  | [d1, d2] => { results := [.lit (.bool true)], args := [d1, d2] }
  | _ => none }
def digestEachRow : OpenClaim := { program := "ytpdaepceijdckaa", sum := "893c1abef78bf27bde071ca5181ddb3be1f52aeafabed8e94a79cea68a0b5974", func := "stillage/stillagelaw02.DigestEach", spec := "digestEach", apart := false }
def DigestEachSaid : Prop := digestEachRow.holds Try.pinned (OpenSpec.ofChange digestEachSpec)

/-- ITS FALSE NEIGHBOUR: 'it returns false'. Refute it at one input. -/
def digestEachWrong : ChangeSpec := { name := "digestEach", fn := fun _ => fun
  | [d1, d2] => { results := [.lit (.bool false)], args := [d1, d2] }
  | _ => none }
def DigestEachWrongFalsely : Prop := digestEachRow.holds Try.pinned (OpenSpec.ofChange digestEachWrong)

/-- 'stillagelaw02.DigestStarts': WHATEVER THE INPUT: true; the input reads as it did. -/
def digestStartsSpec : ChangeSpec := { name := "digestStarts", fn := fun _ => fun
  | [d1, d2, d3] => { results := [.lit (.bool true)], args := [d1, d2, d3] }
  | _ => none }
def digestStartsRow : OpenClaim := { program := "ytpdaepceijdckaa", sum := "893c1abef78bf27bde071ca5181ddb3be1f52aeafabed8e94a79cea68a0b5974", func := "stillage/stillagelaw02.DigestStarts", spec := "digestStarts", apart := false }
def DigestStartsSaid : Prop := digestStartsRow.holds Try.pinned (OpenSpec.ofChange digestStartsSpec)

/-- ITS FALSE NEIGHBOUR: 'it returns false'. Refute it at one input. -/
def digestStartsWrong : ChangeSpec := { name := "digestStarts", fn := fun _ => fun
  | [d1, d2, d3] => { results := [.lit (.bool false)], args := [d1, d2, d3] }
  | _ => none }
def DigestStartsWrongFalsely : Prop := digestStartsRow.holds Try.pinned (OpenSpec.ofChange digestStartsWrong)

/- THE SECOND FORM. 'bulk': how many values and letters a reading holds, each counted each time it is reached (what is shared counts as often as it is met; a slice's spare places count too). A statement '..UptoSaid' is the law's where the arguments, and the package variables that the reading takes, are together of bulk at most 1048576: NARROWER than '..Said'. Prove '..Said' where nothing that the law and all that it calls make is longer than what came in: it says more and counts as full. Else prove '..UptoSaid'. A law counts once. -/
mutual
def uptoBulk {H : Type} : DataW H → Nat
  | .lit (.string bytes) => bytes.length + 1
  | .lit _ => 1
  | .nil => 1
  | .ptr d => uptoBulk d + 1
  | .slice elems spare => uptoBulkAll elems + uptoBulkAll spare + 1
  | .agg parts => uptoBulkAll parts + 1
  | .iface _ d => uptoBulk d + 1
  | .map entries => uptoBulkEntries entries + 1
  | .held _ => 1
def uptoBulkAll {H : Type} : List (DataW H) → Nat
  | [] => 0
  | d :: r => uptoBulk d + uptoBulkAll r
def uptoBulkEntries {H : Type} : List (Lit × DataW H) → Nat
  | [] => 0
  | x :: r => uptoBulkEntry x + uptoBulkEntries r
def uptoBulkEntry {H : Type} : Lit × DataW H → Nat
  | (.string bytes, d) => bytes.length + uptoBulk d + 1
  | (_, d) => uptoBulk d + 1
 end
def uptoSmall : (H : Type) → List (DataW H) → Bool := fun _ ds => decide (uptoBulkAll ds ≤ 1048576)
def OpenSpec.upto (s : _root_.Go.ChangeSpec) : _root_.Go.OpenSpec := { _root_.Go.OpenSpec.ofChange s with cond := some uptoSmall }

/-- 'stillagelaw02.DigestSums', WHERE WHAT IT READS IS OF BULK AT MOST 1048576: true; the input reads as it did. -/
def digestSumsUptoRow : OpenClaim := { program := "ytpdaepceijdckaa", sum := "893c1abef78bf27bde071ca5181ddb3be1f52aeafabed8e94a79cea68a0b5974", func := "stillage/stillagelaw02.DigestSums", spec := "digestSums", apart := false, narrowed := true }
def DigestSumsUptoSaid : Prop := digestSumsUptoRow.holds Try.pinned (OpenSpec.upto digestSumsSpec)

/-- 'stillagelaw02.DigestPieces', WHERE WHAT IT READS IS OF BULK AT MOST 1048576: true; the input reads as it did. -/
def digestPiecesUptoRow : OpenClaim := { program := "ytpdaepceijdckaa", sum := "893c1abef78bf27bde071ca5181ddb3be1f52aeafabed8e94a79cea68a0b5974", func := "stillage/stillagelaw02.DigestPieces", spec := "digestPieces", apart := false, narrowed := true }
def DigestPiecesUptoSaid : Prop := digestPiecesUptoRow.holds Try.pinned (OpenSpec.upto digestPiecesSpec)

/-- 'stillagelaw02.DigestLengths', WHERE WHAT IT READS IS OF BULK AT MOST 1048576: true; the input reads as it did. -/
def digestLengthsUptoRow : OpenClaim := { program := "ytpdaepceijdckaa", sum := "893c1abef78bf27bde071ca5181ddb3be1f52aeafabed8e94a79cea68a0b5974", func := "stillage/stillagelaw02.DigestLengths", spec := "digestLengths", apart := false, narrowed := true }
def DigestLengthsUptoSaid : Prop := digestLengthsUptoRow.holds Try.pinned (OpenSpec.upto digestLengthsSpec)

/-- 'stillagelaw02.DigestEach', WHERE WHAT IT READS IS OF BULK AT MOST 1048576: true; the input reads as it did. -/
def digestEachUptoRow : OpenClaim := { program := "ytpdaepceijdckaa", sum := "893c1abef78bf27bde071ca5181ddb3be1f52aeafabed8e94a79cea68a0b5974", func := "stillage/stillagelaw02.DigestEach", spec := "digestEach", apart := false, narrowed := true }
def DigestEachUptoSaid : Prop := digestEachUptoRow.holds Try.pinned (OpenSpec.upto digestEachSpec)

/-- 'stillagelaw02.DigestStarts', WHERE WHAT IT READS IS OF BULK AT MOST 1048576: true; the input reads as it did. -/
def digestStartsUptoRow : OpenClaim := { program := "ytpdaepceijdckaa", sum := "893c1abef78bf27bde071ca5181ddb3be1f52aeafabed8e94a79cea68a0b5974", func := "stillage/stillagelaw02.DigestStarts", spec := "digestStarts", apart := false, narrowed := true }
def DigestStartsUptoSaid : Prop := digestStartsUptoRow.holds Try.pinned (OpenSpec.upto digestStartsSpec)

end Rows
end Go.Proofs.Ytpdaepceijdckaa
