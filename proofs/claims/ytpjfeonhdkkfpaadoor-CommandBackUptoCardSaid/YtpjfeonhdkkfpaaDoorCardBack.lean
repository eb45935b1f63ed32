/-
  CommandBack: the card.
-/
import Derived.Test.YtpjfeonhdkkfpaaDoorCmdOpen
import Derived.Test.YtpjfeonhdkkfpaaDoorCmdLawD
import Derived.Test.YtpjfeonhdkkfpaaDoorCmdSum
namespace Go.Proofs.YtpjfeonhdkkfpaaDoor.lawBack
open Go.ChangeShapes Go.WideShapes Go.ChangeAt Go.RowKit
open Go.ChangeMaps (open_string shut_string)
theorem own : ownKnob Tryd.prog.godebug = none := by kernel_rfl
theorem laidOut : laidOutB Tryd.prog = true := by kernel_rfl
noncomputable def world0 (os : Os) : World := World.laidAll Tryd.prog os Rows.commandBackUptoRow.laid
theorem laid_met (os : Os) : laidMet Tryd.prog Rows.commandBackUptoRow.laid ((world0 os).forCall (fun _ _ => 0) ⟨#[], #[.agg #[.int .i64 0, .string .empty, .string .empty, .int .i64 0, .string .empty], .agg #[.int .i64 0, .string .empty, .string .empty, .int .i64 0, .string .empty], .string .empty], []⟩).memory := laidMet_laidAll _ (by kernel_rfl) (by kernel_rfl)
theorem reads (os : Os) {H : Type} (enc : TypeId × Value → H) : ∃ places, DataW.whole enc Tryd.prog ((world0 os).forCall (fun _ _ => 0) ⟨#[], #[.agg #[.int .i64 0, .string .empty, .string .empty, .int .i64 0, .string .empty], .agg #[.int .i64 0, .string .empty, .string .empty, .int .i64 0, .string .empty], .string .empty], []⟩).memory Tryd.f6.params.toList Rows.commandBackSpec.vars false (#[.agg #[.int .i64 0, .string .empty, .string .empty, .int .i64 0, .string .empty], .agg #[.int .i64 0, .string .empty, .string .empty, .int .i64 0, .string .empty], .string .empty] : Array Value).toList 8 = some ([.agg [.lit (.int .i64 0), .lit (.string []), .lit (.string []), .lit (.int .i64 0), .lit (.string [])], .agg [.lit (.int .i64 0), .lit (.string []), .lit (.string []), .lit (.int .i64 0), .lit (.string [])], .lit (.string [])], [], places) :=
  ⟨[], by kernel_rfl⟩
set_option maxRecDepth 100000 in
theorem lifted (os : Os) (started : os.Started) (H : Type) (enc : TypeId × Value → H) (F : Stop.Interp) :
    ReturnsInHanded {} Tryd.checked os 6 .any ((Rows.OpenSpec.upto Rows.commandBackSpec).preRow enc Tryd.prog Tryd.f6 Rows.commandBackUptoRow.domain false Rows.commandBackUptoRow.laid) (((Rows.OpenSpec.upto Rows.commandBackSpec).at F).post enc Tryd.prog Tryd.f6 false true false false) := by
  obtain ⟨places, hx⟩ := reads os enc
  refine returnsInHanded_of_row (C := Tryd.checked) (s := Rows.OpenSpec.upto Rows.commandBackSpec) own started (by kernel_rfl) Tryd.func6
    (witness_row_atRef (enc := enc) (C := Tryd.checked) false (world0 os) #[.agg #[.int .i64 0, .string .empty, .string .empty, .int .i64 0, .string .empty], .agg #[.int .i64 0, .string .empty, .string .empty, .int .i64 0, .string .empty], .string .empty] (World.laidAll_os _ _ _) (by kernel_rfl) (by kernel_rfl) (by kernel_rfl)
      (OpenSpec.preRow_of_cond 8 hx (by kernel_rfl) (fun k hk => by cases hk; kernel_rfl) (by kernel_rfl) (laid_met os))) ?_
  intro W base args ds gs before hval0 hW _ hcond hsz0 hL hshape _
  have henv : Env W := env_of hshape (pow_of_laid hL (by kernel_rfl)) (syn_of_laid hL (by kernel_rfl)) (rng_of_laid hL (by kernel_rfl))
  have hsz : (DataW.weightsEach Tryd.prog (Tryd.f6.params.toList ++ Rows.commandBackSpec.plain.varTypes Tryd.prog) (ds ++ gs)).all (· ≤ reachBytes) = true := hsz0
  have hval : ∀ (j : Nat) t v, Tryd.f6.params[j]? = some t → args[j]? = some v → Value.okWide Tryd.prog W .any base t v := hval0
  clear hsz0 hval0
  have hW' := hW
  obtain ⟨p, q, hA0, hV, rfl, _, _⟩ := hW
  have hA : DataW.TrodAll enc Tryd.prog W 0 (fun _ => true) true Tryd.f6.params.toList args.toList ds p := hA0
  clear hA0
  rw [Tryd.params6] at hA hval hsz
  obtain ⟨v0, vs0, d0, ds0, p0, q0, hargs, rfl, rfl, h0, r0⟩ := trodAll_cons hA
  obtain ⟨v1, vs1, d1, ds1, p1, q1, rfl, rfl, rfl, h1, r1⟩ := trodAll_cons r0
  obtain ⟨v2, vs2, d2, ds2, p2, q2, rfl, rfl, rfl, h2, r2⟩ := trodAll_cons r1
  obtain ⟨rfl, rfl, rfl⟩ := trodAll_nil r2
  obtain rfl : args = #[v0, v1, v2] := by cases args; simp_all
  obtain ⟨rfl, rfl⟩ := trodVars_none hV
  have hbulk := hcond _ rfl
  obtain ⟨c0, rfl, rfl, hk0, hp0⟩ := open_cmd (hval 0 30 v0 rfl rfl) h0
  have z0 : c0.Small := upto_cmd hbulk (j := 0) rfl hp0
  have y0 := upto_sum hbulk (j := 0) rfl
  obtain ⟨c1, rfl, rfl, hk1, hp1⟩ := open_cmd (hval 1 30 v1 rfl rfl) h1
  have z1 : c1.Small := upto_cmd hbulk (j := 1) rfl hp1
  have y1 := upto_sum hbulk (j := 1) rfl
  obtain ⟨b2, rfl, rfl, rfl, _⟩ := open_string Tryd.underlying9 (hval 2 9 v2 rfl rfl) h2
  have z2 : b2.data.toList.length ≤ 140737488351232 := sized_string hsz (j := 2) (t := 9) rfl rfl
  have z2 : b2.data.toList.length ≤ 1048576 := upto_str hbulk (j := 2) rfl
  obtain ⟨l2, rfl⟩ : ∃ l : List UInt8, b2 = ⟨l.toArray⟩ := ⟨b2.data.toList, rfl⟩
  refine ((fun a b l W he ha sa hb _ hl => law_back a b l W he ha hb sa (Nat.lt_of_le_of_lt hl (by decide))) c0 c1 l2 W henv z0 y0 z1 y1 z2).mono fun e W' ⟨he, hk⟩ => ?_
  subst he
  exact ⟨_, rfl, law_close laidOut (by kernel_rfl) rfl rfl Tryd.underlying4 rfl hW' hk⟩
theorem said : Rows.CommandBackUptoSaid :=
  OpenClaim.holds_of_cond 6 Tryd.f6 rfl rfl rfl rfl rfl rfl rfl ⟨rfl, rfl, rfl, rfl, rfl⟩ rfl rfl rfl rfl rfl (by kernel_rfl) Tryd.func6 (by kernel_rfl)
    (of_decide_eq_true (by kernel_rfl)) (by unfold Func.isWrapper; first | (rw [if_pos (by decide +kernel)]; kernel_rfl) | (rw [if_neg (by decide +kernel)]; exact ⟨rfl, rfl⟩))
    (fun os started H enc _ F => by rw [OpenClaim.pre_eq_preRow]; exact lifted os started H enc F)
theorem plain (f : FuncId) (fn : Func) (hf : Tryd.pinned.checked.prog.funcNamed Rows.commandBackUptoRow.func = some f) (hfn : Tryd.pinned.checked.prog.funcs[f]? = some fn) :
    true = Tryd.pinned.checked.prog.looks [] ∧ ∀ (j : Nat) t, fn.params[j]? = some t → Tryd.pinned.checked.prog.wantsStandIn t = false := by
  obtain rfl : f = 6 := Option.some.inj ((show Tryd.prog.funcNamed Rows.commandBackUptoRow.func = some 6 by kernel_rfl).symm.trans hf) |>.symm
  obtain rfl : fn = Tryd.f6 := (Option.some.inj (Tryd.func6.symm.trans hfn)).symm
  refine ⟨by kernel_rfl, fun j t ht => ?_⟩
  rw [Tryd.params6] at ht
  have hm := Array.mem_of_getElem? ht
  simp only [List.mem_toArray, List.mem_cons, List.not_mem_nil, or_false] at hm
  rcases hm with h | h | h
  · subst h; exact (show Tryd.prog.wantsStandIn 30 = false by kernel_rfl)
  · subst h; exact (show Tryd.prog.wantsStandIn 30 = false by kernel_rfl)
  · subst h; exact (show Tryd.prog.wantsStandIn 9 = false by kernel_rfl)
/-- THE CARD. -/
theorem commandBack_card : Rows.CommandBackUptoCardSaid :=
  Claim7.holds_tied_plain_at .later [] _ _ _ _ said (fun _ h => by cases h) (by kernel_rfl) (fun _ h => by cases h) commandBackUpto_row_tie rfl ⟨rfl, rfl⟩ (by kernel_rfl) rfl plain (by kernel_rfl)
end Go.Proofs.YtpjfeonhdkkfpaaDoor.lawBack
