import Derived.Test.YtkghpdcloaiflaaGreatDoorH01
import Derived.Test.YtkghpdcloaiflaaGreatDoorRows
import Derived.Test.YtkghpdcloaiflaaGreatDoorCards
import Derived.JoinedCond
set_option maxRecDepth 100000
section
namespace Go.Proofs.YtkghpdcloaiflaaGreatDoor.lawHeads
open _root_.Go.Proofs.Tryz
open Go.ChangeShapes Go.WideShapes Go.ChangeAt
theorem gM {a b:Bool}(h:a=true)(k:b=true):(a&&b)=true:=by rw[h,k];rfl
theorem adv:(Rows.differHeadsRow.wf (OpenSpec.ofChange (OpenSpec.ofChange Rows.differHeadsSpec).bare))=true:=kr7
theorem adw:(laidOutB prog)=true:=kr7
theorem adx:(mapsRowed prog)=true:=kr7
theorem ady:(Tryz.f7.params.all (prog.readableRec ·))=true:=kr7
theorem adz:(namedTie prog Rows.differHeadsRow.named (OpenSpec.ofChange Rows.differHeadsSpec).bare.vars)=true:=kr7
theorem adA:((Rows.differHeadsRow.stops==[]))=true:=kr7
theorem adB:((prog.stops==[]))=true:=kr7
theorem adC:((Rows.differHeadsRow.knobs==[]))=true:=kr7
theorem adD:((prog.stopKnobs==[]))=true:=kr7
theorem adE:((Rows.differHeadsRow.inPlace==prog.inPlace 7))=true:=kr7
theorem aak:((Rows.differHeadsRow.unfollowed==prog.unfollowed 7))=true:=kr7
theorem aal:((Rows.differHeadsRow.recurses==prog.recurses 7))=true:=kr7
theorem aam:((Rows.differHeadsRow.named==prog.varsNamed 7))=true:=kr7
theorem aan:((Rows.differHeadsRow.maps==(Tryz.f7.params.toList++(OpenSpec.ofChange Rows.differHeadsSpec).bare.plain.varTypes prog).any (prog.mapsRec ·)))=true:=kr7
theorem aao:((Rows.differHeadsRow.ifaces==(Tryz.f7.params.toList++(OpenSpec.ofChange Rows.differHeadsSpec).bare.plain.varTypes prog).any (prog.ifacesRec ·)))=true:=kr7
theorem aap:((Rows.differHeadsRow.mapsOut==prog.mapsAmong Tryz.f7.resultTypes.toList))=true:=kr7
theorem aaq:((Rows.differHeadsRow.loops==(Tryz.f7.params.toList++(OpenSpec.ofChange Rows.differHeadsSpec).bare.plain.varTypes prog).any (prog.loopsFrom ·)))=true:=kr7
theorem aar:((Rows.differHeadsRow.wideKeys==(Tryz.f7.params.toList++(OpenSpec.ofChange Rows.differHeadsSpec).bare.plain.varTypes prog++Tryz.f7.resultTypes.toList).any (prog.wideKeysFrom ·)))=true:=kr7
theorem aas:((OpenSpec.ofChange Rows.differHeadsSpec).bare.vars.all (prog.varReadable ·))=true:=kr7
theorem aat:(Tryz.f7.resultTypes.all (λt=>prog.readableRec t&&decide (t<prog.types.size)))=true:=kr7
theorem aau:((Rows.differHeadsRow.ifacesOut==Tryz.f7.resultTypes.toList.any (prog.ifacesRec ·)))=true:=kr7
theorem aav:((Rows.differHeadsRow.loopsOut==Tryz.f7.resultTypes.toList.any (prog.loopsFrom ·)))=true:=kr7
theorem aaw:((Rows.differHeadsRow.plainKeys==prog.plainKeys))=true:=kr7
theorem aax:(Rows.differHeadsRow.shortTexts.isNone)=true:=kr7
theorem aay:(prog.stopsHeard)=true:=kr7
theorem aaz:(prog.mayEnter)=true:=kr7
theorem aaA:((Rows.differHeadsRow.lifted==prog.liftsFinal))=true:=kr7
theorem aaB:((prog.make==some Rows.differHeadsRow.make))=true:=kr7
theorem aaC:((Rows.differHeadsRow.kinds==(if Rows.differHeadsRow.domain.isEmpty then []else Tryz.f7.params.toList.map λt=>match prog.underlying t with|some (.int k)=>some k|_=>none)))=true:=kr7
theorem aaD:((Rows.differHeadsRow.pinned==Rows.differHeadsRow.pinnedBy))=true:=kr7
theorem aaE:((Rows.differHeadsRow.veiled==(Tryz.f7.params.toList++(OpenSpec.ofChange Rows.differHeadsSpec).bare.plain.varTypes prog++Tryz.f7.resultTypes.toList).any (prog.veiledRec ·)))=true:=kr7
theorem aaF:(Rows.differHeadsRow.veiledFits prog Tryz.f7.params.toList (Tryz.f7.params.toList++(OpenSpec.ofChange Rows.differHeadsSpec).bare.plain.varTypes prog++Tryz.f7.resultTypes.toList))=true:=kr7
theorem adF:joinedFacts prog 7 Tryz.f7 (OpenSpec.ofChange Rows.differHeadsSpec).bare Rows.differHeadsRow=true:=by
 unfold joinedFacts;exact gM (gM (gM (gM (gM (gM (gM (gM (gM (gM (gM (gM (gM (gM (gM (gM (gM (gM (gM (gM (gM (gM (gM (gM (gM (gM (gM (gM (gM (gM (gM adv adw) adx) ady) adz) adA) adB) adC) adD) adE) aak) aal) aam) aan) aao) aap) aaq) aar) aas) aat) aau) aav) aaw) aax) aay) aaz) aaA) aaB) aaC) aaD) aaE) aaF
theorem adG:prog.funcNamed Rows.differHeadsRow.func=some 7:=kr7
theorem adH:Tryz.f7.isInstance prog Rows.differHeadsRow.origin Rows.differHeadsRow.targs:=of_decide_eq_true kr7
theorem adI:Tryz.f7.isWrapper prog Rows.differHeadsRow.wrapper Rows.differHeadsRow.mainSum:=by unfold Func.isWrapper;first|(rw[awd (by decide +kernel)];kernel_rfl)|(rw[awf (by decide +kernel)];exact⟨rfl,rfl⟩)
theorem adJ:Rows.differHeadsRow.wfByText (OpenSpec.ofChange Rows.differHeadsSpec)=true:=kr7
theorem adK:prog.mainIs=some (Rows.differHeadsCard.stood.harness.1,Rows.differHeadsCard.stood.harness.2.toList):=kr7
theorem adL:false=Rows.differHeadsRow.goesBy prog:=kr7
end Go.Proofs.YtkghpdcloaiflaaGreatDoor.lawHeads
end
