import Derived.Test.YtkghpdcloaiflaaGreatDoorW03
import Derived.Test.YtkghpdcloaiflaaGreatDoorW04
section
namespace Go.Proofs.YtkghpdcloaiflaaGreatDoor.lawWhole
open _root_.Go.Proofs.Tryz
open Go.ChangeShapes Go.WideShapes Go.ChangeAt Go.RowKit
open Go.ChangeMaps (open_string shut_string)
theorem ahC:Rows.DifferWholeUptoSaid:=
 OpenClaim.holds_of_cond 8 Tryz.f8 rfl rfl rfl rfl rfl rfl rfl ⟨rfl,rfl,rfl,rfl,rfl⟩ rfl rfl rfl rfl rfl acL func8 acK
  acM acN
  (fun os started H enc _ F=>by rw[OpenClaim.pre_eq_preRow];exact lifted os started H enc F)
theorem plain (f:FuncId)(fn:Func)(hf:Tryz.pinned.checked.prog.funcNamed Rows.differWholeUptoRow.func=some f)(RJ:Tryz.pinned.checked.prog.funcs[f]?=some fn):
  true=Tryz.pinned.checked.prog.looks []/\∀(j:Nat) t,fn.params[j]?=some t->Tryz.pinned.checked.prog.wantsStandIn t=false:=by
 obtain rfl:f=8:=avG ((show prog.funcNamed Rows.differWholeUptoRow.func=some 8 by kernel_rfl).symm.trans hf) |>.symm;obtain rfl:fn=Tryz.f8:=(avG (func8.symm.trans RJ)).symm;refine⟨by kernel_rfl,fun j t ht=>?_⟩;rw[params8]at ht;have hm:=Array.mem_of_getElem? ht;simp only[List.mem_toArray,auX,List.not_mem_nil,or_false]at hm;have h:=hm
 ·subst h;exact(show prog.wantsStandIn 31=false by kernel_rfl)
theorem differWhole_card:Rows.DifferWholeUptoCardSaid:=
 Claim7.holds_tied_plain_at .later [] _ _ _ _ ahC (fun _ h=>by cases h) acO (fun _ h=>by cases h) differWholeUpto_row_tie rfl ⟨rfl,rfl⟩ acP rfl plain acQ
end Go.Proofs.YtkghpdcloaiflaaGreatDoor.lawWhole
end
