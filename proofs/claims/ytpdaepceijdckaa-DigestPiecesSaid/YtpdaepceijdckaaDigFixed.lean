import Derived.Test.YtpdaepceijdckaaDigSumF
namespace Go.Proofs.Ytpdaepceijdckaa
open Go.RowKit

def key0 : List UInt8 := [0, 1, 2, 3, 4, 5, 6, 7, 8, 9, 10, 11, 12, 13, 14, 15]
theorem sip15 : sip key0 (key0.take 15) = [0xe5, 0x45, 0xbe, 0x49, 0x61, 0xca, 0x29, 0xa1] := by decide +kernel
theorem sip0 : sip key0 [] = [0x31, 0x0e, 0x0e, 0xdd, 0x47, 0xdb, 0x6f, 0x72] := by decide +kernel
set_option maxHeartbeats 400000 in
theorem fixed_any (w : World) : Calls Try.prog 10 #[] w fun e w' => e = .returned (.bool true) ∧ Keep w w' := by
  have s15 := sumf_yes key0 (key0.take 15)
  rw [sip15] at s15
  have S15 := Lib.hid s15
  have s0 := sumf_yes key0 []
  rw [sip0] at s0
  have S0 := Lib.hid s0
  clear s15 s0
  go_enter Try.func10, Try.ntmps10
  go_wp2_with fail
  refine (S15.out _ rfl (by decide)).mono ?_
  rintro e w1 ⟨rfl, hk1⟩
  have H1 := Lib.hid hk1
  clear hk1
  go_wp2_with fail
  refine (S0.out _ rfl (by decide)).mono ?_
  rintro e w2 ⟨rfl, hk2⟩
  have H2 := Lib.hid (H1.out.keep hk2)
  clear hk2
  go_wp2_with fail
  refine (sumf_no [120] [] _ (by decide)).mono ?_
  rintro e w3 ⟨rfl, rfl⟩
  go_wp2_with fail
  refine (new_no [] _ (by decide)).mono ?_
  rintro e w3 ⟨rfl, rfl⟩
  go_wp2_with fail
  go_ret
  exact ⟨rfl, H2.out⟩
end Go.Proofs.Ytpdaepceijdckaa
