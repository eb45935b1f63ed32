import Derived.Test.YtkghpdcloaiflaaGreatDoorC01
import Derived.Test.YtkghpdcloaiflaaGreatDoorRows
import Derived.Test.YtkghpdcloaiflaaGreatDoorCards
import Derived.JoinedCond
set_option maxRecDepth 100000
section
namespace Go.Proofs.YtkghpdcloaiflaaGreatDoor.lawChain
open _root_.Go.Proofs.Tryz
open Go.ChangeShapes Go.WideShapes Go.ChangeAt
theorem gN {a b:Bool}(h:a=true)(k:b=true):(a&&b)=true:=by rw[h,k];rfl
theorem abW:(Rows.differChainUptoRow.wf (OpenSpec.ofChange (Rows.OpenSpec.upto Rows.differChainSpec).bare))=true:=by kernel_rfl
theorem abX:(laidOutB prog)=true:=by kernel_rfl
theorem abY:(mapsRowed prog)=true:=by kernel_rfl
theorem abZ:(Tryz.f6.params.all (prog.readableRec ·))=true:=by kernel_rfl
theorem ab0:(namedTie prog Rows.differChainUptoRow.named (Rows.OpenSpec.upto Rows.differChainSpec).bare.vars)=true:=by kernel_rfl
theorem ab1:((Rows.differChainUptoRow.stops==[]))=true:=by kernel_rfl
theorem ab2:((prog.stops==[]))=true:=by kernel_rfl
theorem ab3:((Rows.differChainUptoRow.knobs==[]))=true:=by kernel_rfl
theorem ab4:((prog.stopKnobs==[]))=true:=by kernel_rfl
theorem ab5:((Rows.differChainUptoRow.inPlace==prog.inPlace 6))=true:=by kernel_rfl
theorem YI:((Rows.differChainUptoRow.unfollowed==prog.unfollowed 6))=true:=by kernel_rfl
theorem YJ:((Rows.differChainUptoRow.recurses==prog.recurses 6))=true:=by kernel_rfl
theorem YK:((Rows.differChainUptoRow.named==prog.varsNamed 6))=true:=by kernel_rfl
theorem YL:((Rows.differChainUptoRow.maps==(Tryz.f6.params.toList++(Rows.OpenSpec.upto Rows.differChainSpec).bare.plain.varTypes prog).any (prog.mapsRec ·)))=true:=by kernel_rfl
theorem YM:((Rows.differChainUptoRow.ifaces==(Tryz.f6.params.toList++(Rows.OpenSpec.upto Rows.differChainSpec).bare.plain.varTypes prog).any (prog.ifacesRec ·)))=true:=by kernel_rfl
theorem YN:((Rows.differChainUptoRow.mapsOut==prog.mapsAmong Tryz.f6.resultTypes.toList))=true:=by kernel_rfl
theorem YO:((Rows.differChainUptoRow.loops==(Tryz.f6.params.toList++(Rows.OpenSpec.upto Rows.differChainSpec).bare.plain.varTypes prog).any (prog.loopsFrom ·)))=true:=by kernel_rfl
theorem YP:((Rows.differChainUptoRow.wideKeys==(Tryz.f6.params.toList++(Rows.OpenSpec.upto Rows.differChainSpec).bare.plain.varTypes prog++Tryz.f6.resultTypes.toList).any (prog.wideKeysFrom ·)))=true:=by kernel_rfl
theorem YQ:((Rows.OpenSpec.upto Rows.differChainSpec).bare.vars.all (prog.varReadable ·))=true:=by kernel_rfl
theorem YR:(Tryz.f6.resultTypes.all (fun t=>prog.readableRec t&&decide (t<prog.types.size)))=true:=by kernel_rfl
theorem YS:((Rows.differChainUptoRow.ifacesOut==Tryz.f6.resultTypes.toList.any (prog.ifacesRec ·)))=true:=by kernel_rfl
theorem YT:((Rows.differChainUptoRow.loopsOut==Tryz.f6.resultTypes.toList.any (prog.loopsFrom ·)))=true:=by kernel_rfl
theorem YU:((Rows.differChainUptoRow.plainKeys==prog.plainKeys))=true:=by kernel_rfl
theorem YV:(Rows.differChainUptoRow.shortTexts.isNone)=true:=by kernel_rfl
theorem YW:(prog.stopsHeard)=true:=by kernel_rfl
theorem YX:(prog.mayEnter)=true:=by kernel_rfl
theorem YY:((Rows.differChainUptoRow.lifted==prog.liftsFinal))=true:=by kernel_rfl
theorem YZ:((prog.make==some Rows.differChainUptoRow.make))=true:=by kernel_rfl
theorem Y0:((Rows.differChainUptoRow.kinds==(if Rows.differChainUptoRow.domain.isEmpty then []else Tryz.f6.params.toList.map fun t=>match prog.underlying t with|some (.int k)=>some k|_=>none)))=true:=by kernel_rfl
theorem Y1:((Rows.differChainUptoRow.pinned==Rows.differChainUptoRow.pinnedBy))=true:=by kernel_rfl
theorem Y2:((Rows.differChainUptoRow.veiled==(Tryz.f6.params.toList++(Rows.OpenSpec.upto Rows.differChainSpec).bare.plain.varTypes prog++Tryz.f6.resultTypes.toList).any (prog.veiledRec ·)))=true:=by kernel_rfl
theorem Y3:(Rows.differChainUptoRow.veiledFits prog Tryz.f6.params.toList (Tryz.f6.params.toList++(Rows.OpenSpec.upto Rows.differChainSpec).bare.plain.varTypes prog++Tryz.f6.resultTypes.toList))=true:=by kernel_rfl
theorem ab6:joinedFacts prog 6 Tryz.f6 (Rows.OpenSpec.upto Rows.differChainSpec).bare Rows.differChainUptoRow=true:=by
 unfold joinedFacts;exact gN (gN (gN (gN (gN (gN (gN (gN (gN (gN (gN (gN (gN (gN (gN (gN (gN (gN (gN (gN (gN (gN (gN (gN (gN (gN (gN (gN (gN (gN (gN abW abX) abY) abZ) ab0) ab1) ab2) ab3) ab4) ab5) YI) YJ) YK) YL) YM) YN) YO) YP) YQ) YR) YS) YT) YU) YV) YW) YX) YY) YZ) Y0) Y1) Y2) Y3
theorem ab7:prog.funcNamed Rows.differChainUptoRow.func=some 6:=by kernel_rfl
theorem ab8:Tryz.f6.isInstance prog Rows.differChainUptoRow.origin Rows.differChainUptoRow.targs:=of_decide_eq_true (by kernel_rfl)
theorem ab9:Tryz.f6.isWrapper prog Rows.differChainUptoRow.wrapper Rows.differChainUptoRow.mainSum:=by unfold Func.isWrapper;first|(rw[atP (by decide +kernel)];kernel_rfl)|(rw[atR (by decide +kernel)];exact⟨rfl,rfl⟩)
theorem aca:Rows.differChainUptoRow.wfByText (Rows.OpenSpec.upto Rows.differChainSpec)=true:=by kernel_rfl
theorem acb:prog.mainIs=some (Rows.differChainUptoCard.stood.harness.1,Rows.differChainUptoCard.stood.harness.2.toList):=by kernel_rfl
theorem acd:false=Rows.differChainUptoRow.goesBy prog:=by kernel_rfl
end Go.Proofs.YtkghpdcloaiflaaGreatDoor.lawChain
end
