import Derived.Test.YtpdaepceijdckaaDigSum
namespace Go.Proofs.Ytpdaepceijdckaa
open Go.RowKit
attribute [local go_sem] wrap_add_U bits_xor_U bits_or_U wrap_U

/-- The start. -/
def start (key : List UInt8) : St :=
  let k := word (key.take 8)
  let l := word (key.drop 8)
  ⟨xor k 8317987319222330741, xor l 7237128888997146477, xor k 7816392313619706465, xor l 8387220255154660723⟩
theorem new_no (key : List UInt8) (w : World) (hk : key.length ≠ 16) :
    Calls Try.prog 11 #[.string ⟨key.toArray⟩] w fun e w' => e = .returned (.tuple #[.pointer none, .int .i64 20]) ∧ w = w' := by
  have hk' : ((key.length : Int) != 16) = true := by rw [bne_iff_ne]; omega
  clear hk
  go_enter Try.func11, Try.ntmps11
  go_wp2_with fail
  go_ret2
  exact ⟨rfl, rfl⟩
theorem xlit (x y : UInt64) (n : Int) (h : n = (y.toNat : Int)) : bits .xor .u64 (x.toNat : Int) n = ((xor x y).toNat : Int) := by
  rw [h, bits_xor_U]
set_option maxHeartbeats 400000 in
theorem new_yes (key : List UInt8) (w : World) (hk : key.length = 16) :
    Calls Try.prog 11 #[.string ⟨key.toArray⟩] w fun e w' => e = .returned (.tuple #[.pointer (some ⟨w.heap.size, 0, none⟩), .int .i64 0]) ∧ ∃ n, (w.alloc (.cells (hcells (start key) [] 0) 45)).drewN n = w' := by
  have hk' : ((key.length : Int) != 16) = false := by rw [bne_eq_false_iff_eq]; omega
  have hk1 : (key.length : Int) ≤ 16 := by omega
  have hk2 : 16 ≤ (key.length : Int) := by omega
  have hk3 : key.length ≤ 16 := by omega
  have hk4 : 16 ≤ key.length := by omega
  clear hk
  go_enter Try.func11, Try.ntmps11
  go_wp2_with fail
  go_quiet ((exact Calls.quiet_of_same (read_list _ _ (by first | omega | (simp; done) | (simp; omega)))))
  go_wp2_with fail
  go_ret2
  refine ⟨rfl, nq, ?_⟩
  rw [xlit _ 8317987319222330741 8317987319222330741 rfl, xlit _ 7237128888997146477 7237128888997146477 rfl, xlit _ 7816392313619706465 7816392313619706465 rfl, xlit _ 8387220255154660723 8387220255154660723 rfl]
  rfl
end Go.Proofs.Ytpdaepceijdckaa
