import Derived.Test.YtkghpdcloaiflaaGreatDoorE01
import Derived.Test.YtkghpdcloaiflaaGreatDoorRows
import Derived.Test.YtkghpdcloaiflaaGreatDoorCards
import Derived.JoinedCond
set_option maxRecDepth 100000
section
namespace Go.Proofs.YtkghpdcloaiflaaGreatDoor.lawWhole
open _root_.Go.Proofs.Tryz
open Go.ChangeShapes Go.WideShapes Go.ChangeAt
theorem gU {a b:Bool}(h:a=true)(k:b=true):(a&&b)=true:=by rw[h,k];rfl
theorem acA:(Rows.differWholeUptoRow.wf (OpenSpec.ofChange (Rows.OpenSpec.upto Rows.differWholeSpec).bare))=true:=by kernel_rfl
theorem acB:(laidOutB prog)=true:=by kernel_rfl
theorem acC:(mapsRowed prog)=true:=by kernel_rfl
theorem acD:(Tryz.f8.params.all (prog.readableRec ·))=true:=by kernel_rfl
theorem acE:(namedTie prog Rows.differWholeUptoRow.named (Rows.OpenSpec.upto Rows.differWholeSpec).bare.vars)=true:=by kernel_rfl
theorem acF:((Rows.differWholeUptoRow.stops==[]))=true:=by kernel_rfl
theorem acG:((prog.stops==[]))=true:=by kernel_rfl
theorem acH:((Rows.differWholeUptoRow.knobs==[]))=true:=by kernel_rfl
theorem acI:((prog.stopKnobs==[]))=true:=by kernel_rfl
theorem acJ:((Rows.differWholeUptoRow.inPlace==prog.inPlace 8))=true:=by kernel_rfl
theorem Zd:((Rows.differWholeUptoRow.unfollowed==prog.unfollowed 8))=true:=by kernel_rfl
theorem Ze:((Rows.differWholeUptoRow.recurses==prog.recurses 8))=true:=by kernel_rfl
theorem Zf:((Rows.differWholeUptoRow.named==prog.varsNamed 8))=true:=by kernel_rfl
theorem Zg:((Rows.differWholeUptoRow.maps==(Tryz.f8.params.toList++(Rows.OpenSpec.upto Rows.differWholeSpec).bare.plain.varTypes prog).any (prog.mapsRec ·)))=true:=by kernel_rfl
theorem Zh:((Rows.differWholeUptoRow.ifaces==(Tryz.f8.params.toList++(Rows.OpenSpec.upto Rows.differWholeSpec).bare.plain.varTypes prog).any (prog.ifacesRec ·)))=true:=by kernel_rfl
theorem Zi:((Rows.differWholeUptoRow.mapsOut==prog.mapsAmong Tryz.f8.resultTypes.toList))=true:=by kernel_rfl
theorem Zj:((Rows.differWholeUptoRow.loops==(Tryz.f8.params.toList++(Rows.OpenSpec.upto Rows.differWholeSpec).bare.plain.varTypes prog).any (prog.loopsFrom ·)))=true:=by kernel_rfl
theorem Zk:((Rows.differWholeUptoRow.wideKeys==(Tryz.f8.params.toList++(Rows.OpenSpec.upto Rows.differWholeSpec).bare.plain.varTypes prog++Tryz.f8.resultTypes.toList).any (prog.wideKeysFrom ·)))=true:=by kernel_rfl
theorem Zl:((Rows.OpenSpec.upto Rows.differWholeSpec).bare.vars.all (prog.varReadable ·))=true:=by kernel_rfl
theorem Zm:(Tryz.f8.resultTypes.all (fun t=>prog.readableRec t&&decide (t<prog.types.size)))=true:=by kernel_rfl
theorem Zn:((Rows.differWholeUptoRow.ifacesOut==Tryz.f8.resultTypes.toList.any (prog.ifacesRec ·)))=true:=by kernel_rfl
theorem Zo:((Rows.differWholeUptoRow.loopsOut==Tryz.f8.resultTypes.toList.any (prog.loopsFrom ·)))=true:=by kernel_rfl
theorem Zp:((Rows.differWholeUptoRow.plainKeys==prog.plainKeys))=true:=by kernel_rfl
theorem Zq:(Rows.differWholeUptoRow.shortTexts.isNone)=true:=by kernel_rfl
theorem Zr:(prog.stopsHeard)=true:=by kernel_rfl
theorem Zs:(prog.mayEnter)=true:=by kernel_rfl
theorem Zt:((Rows.differWholeUptoRow.lifted==prog.liftsFinal))=true:=by kernel_rfl
theorem Zu:((prog.make==some Rows.differWholeUptoRow.make))=true:=by kernel_rfl
theorem Zv:((Rows.differWholeUptoRow.kinds==(if Rows.differWholeUptoRow.domain.isEmpty then []else Tryz.f8.params.toList.map fun t=>match prog.underlying t with|some (.int k)=>some k|_=>none)))=true:=by kernel_rfl
theorem Zw:((Rows.differWholeUptoRow.pinned==Rows.differWholeUptoRow.pinnedBy))=true:=by kernel_rfl
theorem Zx:((Rows.differWholeUptoRow.veiled==(Tryz.f8.params.toList++(Rows.OpenSpec.upto Rows.differWholeSpec).bare.plain.varTypes prog++Tryz.f8.resultTypes.toList).any (prog.veiledRec ·)))=true:=by kernel_rfl
theorem Zy:(Rows.differWholeUptoRow.veiledFits prog Tryz.f8.params.toList (Tryz.f8.params.toList++(Rows.OpenSpec.upto Rows.differWholeSpec).bare.plain.varTypes prog++Tryz.f8.resultTypes.toList))=true:=by kernel_rfl
theorem acK:joinedFacts prog 8 Tryz.f8 (Rows.OpenSpec.upto Rows.differWholeSpec).bare Rows.differWholeUptoRow=true:=by
 unfold joinedFacts;exact gU (gU (gU (gU (gU (gU (gU (gU (gU (gU (gU (gU (gU (gU (gU (gU (gU (gU (gU (gU (gU (gU (gU (gU (gU (gU (gU (gU (gU (gU (gU acA acB) acC) acD) acE) acF) acG) acH) acI) acJ) Zd) Ze) Zf) Zg) Zh) Zi) Zj) Zk) Zl) Zm) Zn) Zo) Zp) Zq) Zr) Zs) Zt) Zu) Zv) Zw) Zx) Zy
theorem acL:prog.funcNamed Rows.differWholeUptoRow.func=some 8:=by kernel_rfl
theorem acM:Tryz.f8.isInstance prog Rows.differWholeUptoRow.origin Rows.differWholeUptoRow.targs:=of_decide_eq_true (by kernel_rfl)
theorem acN:Tryz.f8.isWrapper prog Rows.differWholeUptoRow.wrapper Rows.differWholeUptoRow.mainSum:=by unfold Func.isWrapper;first|(rw[auI (by decide +kernel)];kernel_rfl)|(rw[auK (by decide +kernel)];exact⟨rfl,rfl⟩)
theorem acO:Rows.differWholeUptoRow.wfByText (Rows.OpenSpec.upto Rows.differWholeSpec)=true:=by kernel_rfl
theorem acP:prog.mainIs=some (Rows.differWholeUptoCard.stood.harness.1,Rows.differWholeUptoCard.stood.harness.2.toList):=by kernel_rfl
theorem acQ:false=Rows.differWholeUptoRow.goesBy prog:=by kernel_rfl
end Go.Proofs.YtkghpdcloaiflaaGreatDoor.lawWhole
end
