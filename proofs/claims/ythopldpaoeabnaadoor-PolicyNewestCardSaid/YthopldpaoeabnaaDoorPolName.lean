/-
  policy.Name, policy.Class.
-/
import Derived.Test.YthopldpaoeabnaaDoorPolPrint
namespace Go.Proofs.YthopldpaoeabnaaDoor
open Go.RowKit
def nameFits (c t : Int) : Prop := 0 ≤ c ∧ c ≤ 2 ∧ 1 ≤ t ∧ t ≤ 1073741824
instance (c t : Int) : Decidable (nameFits c t) := by unfold nameFits; infer_instance
def nameText (c t : Int) : List UInt8 := [letterOf c.toNat, 46] ++ Lib.itoa t
def nameOf (c t : Int) : List UInt8 × Int := if nameFits c t then (nameText c t, 0) else ([], 220)
def nameV (c t : Int) : Value := .tuple #[.string ⟨(nameOf c t).1.toArray⟩, .int .i64 (nameOf c t).2]
set_option maxRecDepth 100000 in
set_option maxHeartbeats 1000000 in
theorem name_any (c t : Int) (w : World) (he : Env w) :
    Calls Tryd.prog 15 #[.int .i64 c, .int .i64 t] w fun e w' => e = .returned (nameV c t) ∧ Keep w w' := by
  have He := Lib.hid he
  clear he
  go_enter Tryd.func15, Tryd.ntmps15
  by_cases hf : nameFits c t
  · have ht : -9223372036854775808 ≤ t ∧ t ≤ 9223372036854775807 := by unfold nameFits at hf; omega
    have Ht := Lib.hid ht
    have Hf := Lib.hid hf
    have hv : nameV c t = .tuple #[.string ⟨(letterOf c.toNat :: 46 :: Lib.itoa t).toArray⟩, .int .i64 0] := by rw [nameV, nameOf, if_pos hf]; rfl
    have Hv := Lib.hid hv
    obtain ⟨f0, f1, f2, f3⟩ := hf
    have n2 : ¬ t < 1 := by omega
    have n3 : ¬ t > 1073741824 := by omega
    have hl : (Lib.itoa t).length ≤ 21 := Go.Lib.itoa_length_le t ht.1 ht.2
    have hl2 : ¬ (9223372036854775807 < 2 + (Lib.itoa t).length) := by omega
    clear ht hv hl
    have q1 : IntKind.i64.wrap 1 = 1 := rfl
    have q2 : IntKind.i64.wrap 2 = 2 := rfl
    have q3 : IntKind.i64.wrap 3 = 3 := rfl
    rcases (by omega : c = 0 ∨ c = 1 ∨ c = 2) with rfl | rfl | rfl
    all_goals
      clear f0 f1 f2 f3
      go_wp2_with fail
      clear n2 n3
      refine wp_region_ke (by kernel_rfl) (by kernel_rfl) ?_
      repeat (quiet_step (refine quiet_keep (itoa_any _ Ht.out.1 Ht.out.2 _ (He.out.keep (keep_ext _ _)))))
      refine wpQuiet_nil ?_
      intro _ hw'
      obtain ⟨xq, rfl⟩ := hw'
      clear q1 q2 q3
      go_wp2_with fail
      go_ret2
      refine ⟨?_, keep_ext _ _⟩
      rw [Hv.out]; rfl
  · have hv : nameV c t = .tuple #[.string ⟨#[]⟩, .int .i64 220] := by rw [nameV, nameOf, if_neg hf]
    have Hv := Lib.hid hv
    have hn : c < 0 ∨ (¬ c < 0 ∧ c ≥ 3) ∨ (¬ c < 0 ∧ ¬ c ≥ 3 ∧ t < 1) ∨ (¬ c < 0 ∧ ¬ c ≥ 3 ∧ ¬ t < 1 ∧ t > 1073741824) := by unfold nameFits at hf; omega
    clear hf hv
    rcases hn with h | ⟨h, h1⟩ | ⟨h, h1, h2⟩ | ⟨h, h1, h2, h3⟩
    all_goals
      go_wp2_with fail
      go_ret2
      refine ⟨?_, Mod.refl _ _⟩
      rw [Hv.out]; rfl
end Go.Proofs.YthopldpaoeabnaaDoor
