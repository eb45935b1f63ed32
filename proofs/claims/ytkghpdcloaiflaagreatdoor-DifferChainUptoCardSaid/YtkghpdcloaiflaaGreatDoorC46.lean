import Derived.Test.YtkghpdcloaiflaaGreatDoorC44
import Derived.Test.YtkghpdcloaiflaaGreatDoorC45
section
namespace Go.Proofs.YtkghpdcloaiflaaGreatDoor.lawChain
open _root_.Go.Proofs.Tryz
open Go.ChangeShapes Go.WideShapes Go.ChangeAt Go.RowKit
open Go.ChangeMaps (open_string shut_string)
theorem agW:Rows.DifferChainUptoSaid:=
 OpenClaim.holds_of_cond 6 Tryz.f6 rfl rfl rfl rfl rfl rfl rfl ⟨rfl,rfl,rfl,rfl,rfl⟩ rfl rfl rfl rfl rfl ab7 func6 ab6
  ab8 ab9
  (fun os started H enc _ F=>by rw[OpenClaim.pre_eq_preRow];exact lifted os started H enc F)
theorem plain (f:FuncId)(fn:Func)(hf:Tryz.pinned.checked.prog.funcNamed Rows.differChainUptoRow.func=some f)(Rn:Tryz.pinned.checked.prog.funcs[f]?=some fn):
  true=Tryz.pinned.checked.prog.looks []/\∀(j:Nat) t,fn.params[j]?=some t->Tryz.pinned.checked.prog.wantsStandIn t=false:=by
 obtain rfl:f=6:=auR ((show prog.funcNamed Rows.differChainUptoRow.func=some 6 by kernel_rfl).symm.trans hf) |>.symm;obtain rfl:fn=Tryz.f6:=(auR (func6.symm.trans Rn)).symm;refine⟨by kernel_rfl,fun j t ht=>?_⟩;rw[params6]at ht;have hm:=Array.mem_of_getElem? ht;simp only[List.mem_toArray,at9,List.not_mem_nil,or_false]at hm;rcases hm with h|h
 ·subst h;exact(show prog.wantsStandIn 31=false by kernel_rfl)
 ·subst h;exact(show prog.wantsStandIn 9=false by kernel_rfl)
theorem differChain_card:Rows.DifferChainUptoCardSaid:=
 Claim7.holds_tied_plain_at .later [] _ _ _ _ agW (fun _ h=>by cases h) aca (fun _ h=>by cases h) differChainUpto_row_tie rfl ⟨rfl,rfl⟩ acb rfl plain acd
end Go.Proofs.YtkghpdcloaiflaaGreatDoor.lawChain
end
