import Derived.Test.YtkghpdcloaiflaaGreatDoorB01
import Derived.Test.YtkghpdcloaiflaaGreatDoorCards
import Derived.JoinedCond
set_option maxRecDepth 100000
section
namespace Go.Proofs.YtkghpdcloaiflaaGreatDoor.lawRecords
open _root_.Go.Proofs.Tryz
open Go.ChangeShapes Go.WideShapes Go.ChangeAt
theorem gP {a b:Bool}(h:a=true)(k:b=true):(a&&b)=true:=by rw[h,k];rfl
theorem acS:(Rows.differRecordsRow.wf (OpenSpec.ofChange (OpenSpec.ofChange Rows.differRecordsSpec).bare))=true:=by kernel_rfl
theorem acT:(laidOutB prog)=true:=by kernel_rfl
theorem acU:(mapsRowed prog)=true:=by kernel_rfl
theorem acV:(Tryz.f3.params.all (prog.readableRec ·))=true:=by kernel_rfl
theorem acW:(namedTie prog Rows.differRecordsRow.named (OpenSpec.ofChange Rows.differRecordsSpec).bare.vars)=true:=by kernel_rfl
theorem acX:((Rows.differRecordsRow.stops==[]))=true:=by kernel_rfl
theorem acY:((prog.stops==[]))=true:=by kernel_rfl
theorem acZ:((Rows.differRecordsRow.knobs==[]))=true:=by kernel_rfl
theorem ac0:((prog.stopKnobs==[]))=true:=by kernel_rfl
theorem ac1:((Rows.differRecordsRow.inPlace==prog.inPlace 3))=true:=by kernel_rfl
theorem Zx:((Rows.differRecordsRow.unfollowed==prog.unfollowed 3))=true:=by kernel_rfl
theorem Zy:((Rows.differRecordsRow.recurses==prog.recurses 3))=true:=by kernel_rfl
theorem Zz:((Rows.differRecordsRow.named==prog.varsNamed 3))=true:=by kernel_rfl
theorem ZA:((Rows.differRecordsRow.maps==(Tryz.f3.params.toList++(OpenSpec.ofChange Rows.differRecordsSpec).bare.plain.varTypes prog).any (prog.mapsRec ·)))=true:=by kernel_rfl
theorem ZB:((Rows.differRecordsRow.ifaces==(Tryz.f3.params.toList++(OpenSpec.ofChange Rows.differRecordsSpec).bare.plain.varTypes prog).any (prog.ifacesRec ·)))=true:=by kernel_rfl
theorem ZC:((Rows.differRecordsRow.mapsOut==prog.mapsAmong Tryz.f3.resultTypes.toList))=true:=by kernel_rfl
theorem ZD:((Rows.differRecordsRow.loops==(Tryz.f3.params.toList++(OpenSpec.ofChange Rows.differRecordsSpec).bare.plain.varTypes prog).any (prog.loopsFrom ·)))=true:=by kernel_rfl
theorem ZE:((Rows.differRecordsRow.wideKeys==(Tryz.f3.params.toList++(OpenSpec.ofChange Rows.differRecordsSpec).bare.plain.varTypes prog++Tryz.f3.resultTypes.toList).any (prog.wideKeysFrom ·)))=true:=by kernel_rfl
theorem ZF:((OpenSpec.ofChange Rows.differRecordsSpec).bare.vars.all (prog.varReadable ·))=true:=by kernel_rfl
theorem ZG:(Tryz.f3.resultTypes.all (fun t=>prog.readableRec t&&decide (t<prog.types.size)))=true:=by kernel_rfl
theorem ZH:((Rows.differRecordsRow.ifacesOut==Tryz.f3.resultTypes.toList.any (prog.ifacesRec ·)))=true:=by kernel_rfl
theorem ZI:((Rows.differRecordsRow.loopsOut==Tryz.f3.resultTypes.toList.any (prog.loopsFrom ·)))=true:=by kernel_rfl
theorem ZJ:((Rows.differRecordsRow.plainKeys==prog.plainKeys))=true:=by kernel_rfl
theorem ZK:(Rows.differRecordsRow.shortTexts.isNone)=true:=by kernel_rfl
theorem ZL:(prog.stopsHeard)=true:=by kernel_rfl
theorem ZM:(prog.mayEnter)=true:=by kernel_rfl
theorem ZN:((Rows.differRecordsRow.lifted==prog.liftsFinal))=true:=by kernel_rfl
theorem ZO:((prog.make==some Rows.differRecordsRow.make))=true:=by kernel_rfl
theorem ZP:((Rows.differRecordsRow.kinds==(if Rows.differRecordsRow.domain.isEmpty then []else Tryz.f3.params.toList.map fun t=>match prog.underlying t with|some (.int k)=>some k|_=>none)))=true:=by kernel_rfl
theorem ZQ:((Rows.differRecordsRow.pinned==Rows.differRecordsRow.pinnedBy))=true:=by kernel_rfl
theorem ZS:((Rows.differRecordsRow.veiled==(Tryz.f3.params.toList++(OpenSpec.ofChange Rows.differRecordsSpec).bare.plain.varTypes prog++Tryz.f3.resultTypes.toList).any (prog.veiledRec ·)))=true:=by kernel_rfl
theorem ZT:(Rows.differRecordsRow.veiledFits prog Tryz.f3.params.toList (Tryz.f3.params.toList++(OpenSpec.ofChange Rows.differRecordsSpec).bare.plain.varTypes prog++Tryz.f3.resultTypes.toList))=true:=by kernel_rfl
theorem ac2:joinedFacts prog 3 Tryz.f3 (OpenSpec.ofChange Rows.differRecordsSpec).bare Rows.differRecordsRow=true:=by
 unfold joinedFacts;exact gP (gP (gP (gP (gP (gP (gP (gP (gP (gP (gP (gP (gP (gP (gP (gP (gP (gP (gP (gP (gP (gP (gP (gP (gP (gP (gP (gP (gP (gP (gP acS acT) acU) acV) acW) acX) acY) acZ) ac0) ac1) Zx) Zy) Zz) ZA) ZB) ZC) ZD) ZE) ZF) ZG) ZH) ZI) ZJ) ZK) ZL) ZM) ZN) ZO) ZP) ZQ) ZS) ZT
theorem ac3:prog.funcNamed Rows.differRecordsRow.func=some 3:=by kernel_rfl
theorem ac4:Tryz.f3.isInstance prog Rows.differRecordsRow.origin Rows.differRecordsRow.targs:=of_decide_eq_true (by kernel_rfl)
theorem ac5:Tryz.f3.isWrapper prog Rows.differRecordsRow.wrapper Rows.differRecordsRow.mainSum:=by unfold Func.isWrapper;first|(rw[au8 (by decide +kernel)];kernel_rfl)|(rw[ava (by decide +kernel)];exact⟨rfl,rfl⟩)
theorem ac6:Rows.differRecordsRow.wfByText (OpenSpec.ofChange Rows.differRecordsSpec)=true:=by kernel_rfl
theorem ac7:prog.mainIs=some (Rows.differRecordsCard.stood.harness.1,Rows.differRecordsCard.stood.harness.2.toList):=by kernel_rfl
theorem ac8:false=Rows.differRecordsRow.goesBy prog:=by kernel_rfl
end Go.Proofs.YtkghpdcloaiflaaGreatDoor.lawRecords
end
