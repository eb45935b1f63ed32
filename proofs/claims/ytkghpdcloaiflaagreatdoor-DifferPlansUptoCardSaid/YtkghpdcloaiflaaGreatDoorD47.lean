import Derived.Test.YtkghpdcloaiflaaGreatDoorD45
import Derived.Test.YtkghpdcloaiflaaGreatDoorD46
section
namespace Go.Proofs.YtkghpdcloaiflaaGreatDoor.lawPlans
open _root_.Go.Proofs.Tryz
open Go.ChangeShapes Go.WideShapes Go.ChangeAt Go.RowKit
open Go.ChangeMaps (open_string shut_string)
theorem ahN:Rows.DifferPlansUptoSaid:=
 OpenClaim.holds_of_cond 4 Tryz.f4 rfl rfl rfl rfl rfl rfl rfl ⟨rfl,rfl,rfl,rfl,rfl⟩ rfl rfl rfl rfl rfl acV func4 acU
  acW acX
  (fun os started H enc _ F=>by rw[OpenClaim.pre_eq_preRow];exact lifted os started H enc F)
theorem plain (f:FuncId)(fn:Func)(hf:Tryz.pinned.checked.prog.funcNamed Rows.differPlansUptoRow.func=some f)(SJ:Tryz.pinned.checked.prog.funcs[f]?=some fn):
  true=Tryz.pinned.checked.prog.looks []/\∀(j:Nat) t,fn.params[j]?=some t->Tryz.pinned.checked.prog.wantsStandIn t=false:=by
 obtain rfl:f=4:=avR ((show prog.funcNamed Rows.differPlansUptoRow.func=some 4 by kernel_rfl).symm.trans hf) |>.symm;obtain rfl:fn=Tryz.f4:=(avR (func4.symm.trans SJ)).symm;refine⟨by kernel_rfl,fun j t ht=>?_⟩;rw[params4]at ht;have hm:=Array.mem_of_getElem? ht;simp only[List.mem_toArray,au8,List.not_mem_nil,or_false]at hm;have h:=hm
 ·subst h;exact(show prog.wantsStandIn 31=false by kernel_rfl)
theorem differPlans_card:Rows.DifferPlansUptoCardSaid:=
 Claim7.holds_tied_plain_at .later [] _ _ _ _ ahN (fun _ h=>by cases h) acY (fun _ h=>by cases h) differPlansUpto_row_tie rfl ⟨rfl,rfl⟩ acZ rfl plain ac0
end Go.Proofs.YtkghpdcloaiflaaGreatDoor.lawPlans
end
