import Derived.Test.YtpdaepceijdckaaDigTake
namespace Go.Proofs.Ytpdaepceijdckaa
open Go.RowKit
attribute [local go_sem] wrap_add_U bits_xor_U bits_or_U wrap_U

set_option maxHeartbeats 400000 in
theorem read_any (s : ByteArray) (w : World) (hs : s.size ≤ 8) :
    Calls Try.prog 16 #[.string s] w fun e w' => e = .returned (.int .u64 (word s.data.toList).toNat) ∧ w' = w := by
  go_enter Try.func16, Try.ntmps16
  go_wp2
  go_loop [3, 4, 7] (fun x i j => ∃ k : Nat, k ≤ s.size ∧ j = .int .i64 k ∧ x = .int .u64 (word (s.data.toList.take k)).toNat) (fun _ _ j => s.size - (intOf j).toNat)
  case atStart => exact ⟨0, Nat.zero_le _, rfl, rfl⟩
  case round =>
    obtain ⟨k, hk, rfl, rfl⟩ := hrel
    by_cases hlt : k < s.size
    · have hk' : k < s.data.toList.length := by simpa using hlt
      have hsn := word_snoc (s.data.toList.take k) s[k] (by simp; omega)
      rw [List.length_take_of_le (by omega), show s[k] = s.data.toList[k] from rfl, ← take_snoc _ k hk'] at hsn
      have Hsn := Lib.hid hsn
      clear hsn
      go_wp2
      refine ⟨⟨k + 1, by omega, by go_num, by rw [← Hsn.out]; rfl⟩, by simp [intOf]; omega⟩
    · obtain rfl : k = s.size := by omega
      have e : s.data.toList.take s.size = s.data.toList := List.take_of_length_le (by simp)
      rw [e]
      clear e
      go_wp2
      go_ret
      exact ⟨rfl, rfl⟩
theorem read_list (l : List UInt8) (w : World) (hs : l.length ≤ 8) :
    Calls Try.prog 16 #[.string ⟨l.toArray⟩] w fun e w' => e = .returned (.int .u64 (word l).toNat) ∧ w' = w :=
  read_any ⟨l.toArray⟩ w hs
end Go.Proofs.Ytpdaepceijdckaa
