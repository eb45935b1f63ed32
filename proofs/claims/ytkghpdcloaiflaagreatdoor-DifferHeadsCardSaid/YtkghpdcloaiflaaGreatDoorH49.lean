import Derived.Test.YtkghpdcloaiflaaGreatDoorH47
import Derived.Test.YtkghpdcloaiflaaGreatDoorH48
section
namespace Go.Proofs.YtkghpdcloaiflaaGreatDoor.lawHeads
open _root_.Go.Proofs.Tryz
open Go.ChangeShapes Go.WideShapes Go.ChangeAt Go.RowKit
open Go.ChangeMaps (open_string shut_string)
theorem aiJ:Rows.DifferHeadsSaid:=
 OpenClaim.holds_of_cond 7 Tryz.f7 rfl rfl rfl rfl rfl rfl rfl ⟨rfl,rfl,rfl,rfl,rfl⟩ rfl rfl rfl rfl rfl adG func7 adF
  adH adI
  (λos started H enc _ F=>by rw[OpenClaim.pre_eq_preRow];exact lifted os started H enc F)
theorem plain (f:FuncId)(fn:Func)(hf:Tryz.pinned.checked.prog.funcNamed Rows.differHeadsRow.func=some f)(TD:Tryz.pinned.checked.prog.funcs[f]?=some fn):
  true=Tryz.pinned.checked.prog.looks []/\∀(j:Nat) t,fn.params[j]?=some t->Tryz.pinned.checked.prog.wantsStandIn t=false:=by
 obtain rfl:f=7:=axa ((show prog.funcNamed Rows.differHeadsRow.func=some 7 by kernel_rfl).symm.trans hf) |>.symm;obtain rfl:fn=Tryz.f7:=(axa (func7.symm.trans TD)).symm;refine⟨by kernel_rfl,λj t ht=>?_⟩;rw[params7]at ht;have hm:=Array.mem_of_getElem? ht;simp only[List.mem_toArray,aws,List.not_mem_nil,or_false]at hm;rcases hm with h|h
 ·subst h;exact(show prog.wantsStandIn 44=false by kernel_rfl)
 ·subst h;exact(show prog.wantsStandIn 9=false by kernel_rfl)
theorem differHeads_card:Rows.DifferHeadsCardSaid:=
 Claim7.holds_tied_plain_at .later [] _ _ _ _ aiJ (λ_ h=>by cases h) adJ (λ_ h=>by cases h) differHeads_row_tie rfl ⟨rfl,rfl⟩ adK rfl plain adL
end Go.Proofs.YtkghpdcloaiflaaGreatDoor.lawHeads
end
