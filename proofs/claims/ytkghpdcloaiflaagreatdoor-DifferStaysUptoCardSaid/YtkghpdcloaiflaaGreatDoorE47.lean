import Derived.Test.YtkghpdcloaiflaaGreatDoorE45
import Derived.Test.YtkghpdcloaiflaaGreatDoorE46
section
namespace Go.Proofs.YtkghpdcloaiflaaGreatDoor.lawStays
open _root_.Go.Proofs.Tryz
open Go.ChangeShapes Go.WideShapes Go.ChangeAt Go.RowKit
open Go.ChangeMaps (open_string shut_string)
theorem ahC:Rows.DifferStaysUptoSaid:=
 OpenClaim.holds_of_cond 5 Tryz.f5 rfl rfl rfl rfl rfl rfl rfl ⟨rfl,rfl,rfl,rfl,rfl⟩ rfl rfl rfl rfl rfl acL func5 acK
  acM acN
  (fun os started H enc _ F=>by rw[OpenClaim.pre_eq_preRow];exact lifted os started H enc F)
theorem plain (f:FuncId)(fn:Func)(hf:Tryz.pinned.checked.prog.funcNamed Rows.differStaysUptoRow.func=some f)(RJ:Tryz.pinned.checked.prog.funcs[f]?=some fn):
  true=Tryz.pinned.checked.prog.looks []/\∀(j:Nat) t,fn.params[j]?=some t->Tryz.pinned.checked.prog.wantsStandIn t=false:=by
 obtain rfl:f=5:=avG ((show prog.funcNamed Rows.differStaysUptoRow.func=some 5 by kernel_rfl).symm.trans hf) |>.symm;obtain rfl:fn=Tryz.f5:=(avG (func5.symm.trans RJ)).symm;refine⟨by kernel_rfl,fun j t ht=>?_⟩;rw[params5]at ht;have hm:=Array.mem_of_getElem? ht;simp only[List.mem_toArray,auX,List.not_mem_nil,or_false]at hm;have h:=hm
 ·subst h;exact(show prog.wantsStandIn 31=false by kernel_rfl)
theorem differStays_card:Rows.DifferStaysUptoCardSaid:=
 Claim7.holds_tied_plain_at .later [] _ _ _ _ ahC (fun _ h=>by cases h) acO (fun _ h=>by cases h) differStaysUpto_row_tie rfl ⟨rfl,rfl⟩ acP rfl plain acQ
end Go.Proofs.YtkghpdcloaiflaaGreatDoor.lawStays
end
