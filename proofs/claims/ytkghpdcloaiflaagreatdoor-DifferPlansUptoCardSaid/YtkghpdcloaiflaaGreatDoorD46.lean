import Derived.Test.YtkghpdcloaiflaaGreatDoorD01
import Derived.Test.YtkghpdcloaiflaaGreatDoorRows
import Derived.Test.YtkghpdcloaiflaaGreatDoorCards
import Derived.JoinedCond
set_option maxRecDepth 100000
section
namespace Go.Proofs.YtkghpdcloaiflaaGreatDoor.lawPlans
open _root_.Go.Proofs.Tryz
open Go.ChangeShapes Go.WideShapes Go.ChangeAt
theorem gV {a b:Bool}(h:a=true)(k:b=true):(a&&b)=true:=by rw[h,k];rfl
theorem acK:(Rows.differPlansUptoRow.wf (OpenSpec.ofChange (Rows.OpenSpec.upto Rows.differPlansSpec).bare))=true:=by kernel_rfl
theorem acL:(laidOutB prog)=true:=by kernel_rfl
theorem acM:(mapsRowed prog)=true:=by kernel_rfl
theorem acN:(Tryz.f4.params.all (prog.readableRec ·))=true:=by kernel_rfl
theorem acO:(namedTie prog Rows.differPlansUptoRow.named (Rows.OpenSpec.upto Rows.differPlansSpec).bare.vars)=true:=by kernel_rfl
theorem acP:((Rows.differPlansUptoRow.stops==[]))=true:=by kernel_rfl
theorem acQ:((prog.stops==[]))=true:=by kernel_rfl
theorem acR:((Rows.differPlansUptoRow.knobs==[]))=true:=by kernel_rfl
theorem acS:((prog.stopKnobs==[]))=true:=by kernel_rfl
theorem acT:((Rows.differPlansUptoRow.inPlace==prog.inPlace 4))=true:=by kernel_rfl
theorem Zu:((Rows.differPlansUptoRow.unfollowed==prog.unfollowed 4))=true:=by kernel_rfl
theorem Zv:((Rows.differPlansUptoRow.recurses==prog.recurses 4))=true:=by kernel_rfl
theorem Zw:((Rows.differPlansUptoRow.named==prog.varsNamed 4))=true:=by kernel_rfl
theorem Zx:((Rows.differPlansUptoRow.maps==(Tryz.f4.params.toList++(Rows.OpenSpec.upto Rows.differPlansSpec).bare.plain.varTypes prog).any (prog.mapsRec ·)))=true:=by kernel_rfl
theorem Zy:((Rows.differPlansUptoRow.ifaces==(Tryz.f4.params.toList++(Rows.OpenSpec.upto Rows.differPlansSpec).bare.plain.varTypes prog).any (prog.ifacesRec ·)))=true:=by kernel_rfl
theorem Zz:((Rows.differPlansUptoRow.mapsOut==prog.mapsAmong Tryz.f4.resultTypes.toList))=true:=by kernel_rfl
theorem ZA:((Rows.differPlansUptoRow.loops==(Tryz.f4.params.toList++(Rows.OpenSpec.upto Rows.differPlansSpec).bare.plain.varTypes prog).any (prog.loopsFrom ·)))=true:=by kernel_rfl
theorem ZB:((Rows.differPlansUptoRow.wideKeys==(Tryz.f4.params.toList++(Rows.OpenSpec.upto Rows.differPlansSpec).bare.plain.varTypes prog++Tryz.f4.resultTypes.toList).any (prog.wideKeysFrom ·)))=true:=by kernel_rfl
theorem ZC:((Rows.OpenSpec.upto Rows.differPlansSpec).bare.vars.all (prog.varReadable ·))=true:=by kernel_rfl
theorem ZD:(Tryz.f4.resultTypes.all (fun t=>prog.readableRec t&&decide (t<prog.types.size)))=true:=by kernel_rfl
theorem ZE:((Rows.differPlansUptoRow.ifacesOut==Tryz.f4.resultTypes.toList.any (prog.ifacesRec ·)))=true:=by kernel_rfl
theorem ZF:((Rows.differPlansUptoRow.loopsOut==Tryz.f4.resultTypes.toList.any (prog.loopsFrom ·)))=true:=by kernel_rfl
theorem ZG:((Rows.differPlansUptoRow.plainKeys==prog.plainKeys))=true:=by kernel_rfl
theorem ZH:(Rows.differPlansUptoRow.shortTexts.isNone)=true:=by kernel_rfl
theorem ZI:(prog.stopsHeard)=true:=by kernel_rfl
theorem ZJ:(prog.mayEnter)=true:=by kernel_rfl
theorem ZK:((Rows.differPlansUptoRow.lifted==prog.liftsFinal))=true:=by kernel_rfl
theorem ZL:((prog.make==some Rows.differPlansUptoRow.make))=true:=by kernel_rfl
theorem ZM:((Rows.differPlansUptoRow.kinds==(if Rows.differPlansUptoRow.domain.isEmpty then []else Tryz.f4.params.toList.map fun t=>match prog.underlying t with|some (.int k)=>some k|_=>none)))=true:=by kernel_rfl
theorem ZN:((Rows.differPlansUptoRow.pinned==Rows.differPlansUptoRow.pinnedBy))=true:=by kernel_rfl
theorem ZO:((Rows.differPlansUptoRow.veiled==(Tryz.f4.params.toList++(Rows.OpenSpec.upto Rows.differPlansSpec).bare.plain.varTypes prog++Tryz.f4.resultTypes.toList).any (prog.veiledRec ·)))=true:=by kernel_rfl
theorem ZP:(Rows.differPlansUptoRow.veiledFits prog Tryz.f4.params.toList (Tryz.f4.params.toList++(Rows.OpenSpec.upto Rows.differPlansSpec).bare.plain.varTypes prog++Tryz.f4.resultTypes.toList))=true:=by kernel_rfl
theorem acU:joinedFacts prog 4 Tryz.f4 (Rows.OpenSpec.upto Rows.differPlansSpec).bare Rows.differPlansUptoRow=true:=by
 unfold joinedFacts;exact gV (gV (gV (gV (gV (gV (gV (gV (gV (gV (gV (gV (gV (gV (gV (gV (gV (gV (gV (gV (gV (gV (gV (gV (gV (gV (gV (gV (gV (gV (gV acK acL) acM) acN) acO) acP) acQ) acR) acS) acT) Zu) Zv) Zw) Zx) Zy) Zz) ZA) ZB) ZC) ZD) ZE) ZF) ZG) ZH) ZI) ZJ) ZK) ZL) ZM) ZN) ZO) ZP
theorem acV:prog.funcNamed Rows.differPlansUptoRow.func=some 4:=by kernel_rfl
theorem acW:Tryz.f4.isInstance prog Rows.differPlansUptoRow.origin Rows.differPlansUptoRow.targs:=of_decide_eq_true (by kernel_rfl)
theorem acX:Tryz.f4.isWrapper prog Rows.differPlansUptoRow.wrapper Rows.differPlansUptoRow.mainSum:=by unfold Func.isWrapper;first|(rw[auT (by decide +kernel)];kernel_rfl)|(rw[auV (by decide +kernel)];exact⟨rfl,rfl⟩)
theorem acY:Rows.differPlansUptoRow.wfByText (Rows.OpenSpec.upto Rows.differPlansSpec)=true:=by kernel_rfl
theorem acZ:prog.mainIs=some (Rows.differPlansUptoCard.stood.harness.1,Rows.differPlansUptoCard.stood.harness.2.toList):=by kernel_rfl
theorem ac0:false=Rows.differPlansUptoRow.goesBy prog:=by kernel_rfl
end Go.Proofs.YtkghpdcloaiflaaGreatDoor.lawPlans
end
