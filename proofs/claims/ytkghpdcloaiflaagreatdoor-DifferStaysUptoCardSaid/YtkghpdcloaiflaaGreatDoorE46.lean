import Derived.Test.YtkghpdcloaiflaaGreatDoorE01
import Derived.Test.YtkghpdcloaiflaaGreatDoorRows
import Derived.Test.YtkghpdcloaiflaaGreatDoorCards
import Derived.JoinedCond
set_option maxRecDepth 100000
section
namespace Go.Proofs.YtkghpdcloaiflaaGreatDoor.lawStays
open _root_.Go.Proofs.Tryz
open Go.ChangeShapes Go.WideShapes Go.ChangeAt
theorem gU {a b:Bool}(h:a=true)(k:b=true):(a&&b)=true:=by rw[h,k];rfl
theorem acA:(Rows.differStaysUptoRow.wf (OpenSpec.ofChange (Rows.OpenSpec.upto Rows.differStaysSpec).bare))=true:=by kernel_rfl
theorem acB:(laidOutB prog)=true:=by kernel_rfl
theorem acC:(mapsRowed prog)=true:=by kernel_rfl
theorem acD:(Tryz.f5.params.all (prog.readableRec ·))=true:=by kernel_rfl
theorem acE:(namedTie prog Rows.differStaysUptoRow.named (Rows.OpenSpec.upto Rows.differStaysSpec).bare.vars)=true:=by kernel_rfl
theorem acF:((Rows.differStaysUptoRow.stops==[]))=true:=by kernel_rfl
theorem acG:((prog.stops==[]))=true:=by kernel_rfl
theorem acH:((Rows.differStaysUptoRow.knobs==[]))=true:=by kernel_rfl
theorem acI:((prog.stopKnobs==[]))=true:=by kernel_rfl
theorem acJ:((Rows.differStaysUptoRow.inPlace==prog.inPlace 5))=true:=by kernel_rfl
theorem Zd:((Rows.differStaysUptoRow.unfollowed==prog.unfollowed 5))=true:=by kernel_rfl
theorem Ze:((Rows.differStaysUptoRow.recurses==prog.recurses 5))=true:=by kernel_rfl
theorem Zf:((Rows.differStaysUptoRow.named==prog.varsNamed 5))=true:=by kernel_rfl
theorem Zg:((Rows.differStaysUptoRow.maps==(Tryz.f5.params.toList++(Rows.OpenSpec.upto Rows.differStaysSpec).bare.plain.varTypes prog).any (prog.mapsRec ·)))=true:=by kernel_rfl
theorem Zh:((Rows.differStaysUptoRow.ifaces==(Tryz.f5.params.toList++(Rows.OpenSpec.upto Rows.differStaysSpec).bare.plain.varTypes prog).any (prog.ifacesRec ·)))=true:=by kernel_rfl
theorem Zi:((Rows.differStaysUptoRow.mapsOut==prog.mapsAmong Tryz.f5.resultTypes.toList))=true:=by kernel_rfl
theorem Zj:((Rows.differStaysUptoRow.loops==(Tryz.f5.params.toList++(Rows.OpenSpec.upto Rows.differStaysSpec).bare.plain.varTypes prog).any (prog.loopsFrom ·)))=true:=by kernel_rfl
theorem Zk:((Rows.differStaysUptoRow.wideKeys==(Tryz.f5.params.toList++(Rows.OpenSpec.upto Rows.differStaysSpec).bare.plain.varTypes prog++Tryz.f5.resultTypes.toList).any (prog.wideKeysFrom ·)))=true:=by kernel_rfl
theorem Zl:((Rows.OpenSpec.upto Rows.differStaysSpec).bare.vars.all (prog.varReadable ·))=true:=by kernel_rfl
theorem Zm:(Tryz.f5.resultTypes.all (fun t=>prog.readableRec t&&decide (t<prog.types.size)))=true:=by kernel_rfl
theorem Zn:((Rows.differStaysUptoRow.ifacesOut==Tryz.f5.resultTypes.toList.any (prog.ifacesRec ·)))=true:=by kernel_rfl
theorem Zo:((Rows.differStaysUptoRow.loopsOut==Tryz.f5.resultTypes.toList.any (prog.loopsFrom ·)))=true:=by kernel_rfl
theorem Zp:((Rows.differStaysUptoRow.plainKeys==prog.plainKeys))=true:=by kernel_rfl
theorem Zq:(Rows.differStaysUptoRow.shortTexts.isNone)=true:=by kernel_rfl
theorem Zr:(prog.stopsHeard)=true:=by kernel_rfl
theorem Zs:(prog.mayEnter)=true:=by kernel_rfl
theorem Zt:((Rows.differStaysUptoRow.lifted==prog.liftsFinal))=true:=by kernel_rfl
theorem Zu:((prog.make==some Rows.differStaysUptoRow.make))=true:=by kernel_rfl
theorem Zv:((Rows.differStaysUptoRow.kinds==(if Rows.differStaysUptoRow.domain.isEmpty then []else Tryz.f5.params.toList.map fun t=>match prog.underlying t with|some (.int k)=>some k|_=>none)))=true:=by kernel_rfl
theorem Zw:((Rows.differStaysUptoRow.pinned==Rows.differStaysUptoRow.pinnedBy))=true:=by kernel_rfl
theorem Zx:((Rows.differStaysUptoRow.veiled==(Tryz.f5.params.toList++(Rows.OpenSpec.upto Rows.differStaysSpec).bare.plain.varTypes prog++Tryz.f5.resultTypes.toList).any (prog.veiledRec ·)))=true:=by kernel_rfl
theorem Zy:(Rows.differStaysUptoRow.veiledFits prog Tryz.f5.params.toList (Tryz.f5.params.toList++(Rows.OpenSpec.upto Rows.differStaysSpec).bare.plain.varTypes prog++Tryz.f5.resultTypes.toList))=true:=by kernel_rfl
theorem acK:joinedFacts prog 5 Tryz.f5 (Rows.OpenSpec.upto Rows.differStaysSpec).bare Rows.differStaysUptoRow=true:=by
 unfold joinedFacts;exact gU (gU (gU (gU (gU (gU (gU (gU (gU (gU (gU (gU (gU (gU (gU (gU (gU (gU (gU (gU (gU (gU (gU (gU (gU (gU (gU (gU (gU (gU (gU acA acB) acC) acD) acE) acF) acG) acH) acI) acJ) Zd) Ze) Zf) Zg) Zh) Zi) Zj) Zk) Zl) Zm) Zn) Zo) Zp) Zq) Zr) Zs) Zt) Zu) Zv) Zw) Zx) Zy
theorem acL:prog.funcNamed Rows.differStaysUptoRow.func=some 5:=by kernel_rfl
theorem acM:Tryz.f5.isInstance prog Rows.differStaysUptoRow.origin Rows.differStaysUptoRow.targs:=of_decide_eq_true (by kernel_rfl)
theorem acN:Tryz.f5.isWrapper prog Rows.differStaysUptoRow.wrapper Rows.differStaysUptoRow.mainSum:=by unfold Func.isWrapper;first|(rw[auI (by decide +kernel)];kernel_rfl)|(rw[auK (by decide +kernel)];exact⟨rfl,rfl⟩)
theorem acO:Rows.differStaysUptoRow.wfByText (Rows.OpenSpec.upto Rows.differStaysSpec)=true:=by kernel_rfl
theorem acP:prog.mainIs=some (Rows.differStaysUptoCard.stood.harness.1,Rows.differStaysUptoCard.stood.harness.2.toList):=by kernel_rfl
theorem acQ:false=Rows.differStaysUptoRow.goesBy prog:=by kernel_rfl
end Go.Proofs.YtkghpdcloaiflaaGreatDoor.lawStays
end
