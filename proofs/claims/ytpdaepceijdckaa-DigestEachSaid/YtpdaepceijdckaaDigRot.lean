import Derived.Test.YtpdaepceijdckaaU64
import Derived.Test.YtpdaepceijdckaaMem
import Derived.Test.YtpdaepceijdckaaOrder
namespace Go.Proofs.Ytpdaepceijdckaa
open Go.RowKit


theorem and63 (n : Nat) (h2 : n ≤ 63) : bits .and .u64 (n : Int) 63 = n := by
  have h : n &&& 63 = n := by rw [show (63 : Nat) = 2 ^ 6 - 1 from rfl, Nat.and_two_pow_sub_one_eq_mod]; omega
  have := bits_and_u64_nat n 63 (by omega) (by omega)
  rw [h] at this; simpa using this

set_option maxHeartbeats 400000 in
theorem rot_any (x : UInt64) (n : Int) (h1 : 1 ≤ n) (h2 : n ≤ 63) (w : World) :
    Calls Try.prog 20 #[.int .u64 x.toNat, .int .i64 n] w fun e w' => e = .returned (.int .u64 (rotl x n.toNat).toNat) ∧ w' = w := by
  obtain ⟨n, rfl⟩ := Int.eq_ofNat_of_zero_le (show 0 ≤ n by omega)
  have hb := and63 n (by omega)
  have hw : IntKind.u64.wrap (n : Int) = n := by rw [IntKind.wrap_u64]; omega
  go_enter Try.func20, Try.ntmps20
  go_wp2
  rw [wrap_shl_U x n (by omega), shr_U x (64 - n) (by omega), bits_or_U]
  go_ret
  exact ⟨rfl, rfl⟩

/-- The four words. -/
structure St where
  a : UInt64
  b : UInt64
  c : UInt64
  d : UInt64

def St.round (v : St) : St :=
  let a := add v.a v.b
  let c := add v.c v.d
  let b := xor (rotl v.b 13) a
  let d := xor (rotl v.d 16) c
  let a := rotl a 32
  let c := add c b
  let a := add a d
  let b := xor (rotl b 17) c
  let d := xor (rotl d 21) a
  let c := rotl c 32
  ⟨a, b, c, d⟩
attribute [local go_sem] wrap_add_U bits_xor_U bits_or_U
/-- The block of a state, alone or at a hash's head. -/
def St.cells (v : St) (more : List Value) : Array Value := (.int .u64 v.a.toNat :: .int .u64 v.b.toNat :: .int .u64 v.c.toNat :: .int .u64 v.d.toNat :: more).toArray
set_option maxHeartbeats 400000 in
theorem round_any (b : Nat) (v : St) (more : List Value) (t : TypeId) (w : World) (k : Nat) (hb : b < w.heap.size) :
    Calls Try.prog 18 #[.pointer (some ⟨b, 0, none⟩)] ((w.putB b (v.cells more) t).drewN k) fun e w' => e = .returned (.tuple #[]) ∧ ∃ n, (w.putB b (v.round.cells more) t).drewN n = w' := by
  unfold St.cells
  go_enter Try.func18, Try.ntmps18
  go_wp2_with fail
  refine wp_region_qd 11 (by kernel_rfl) (by kernel_rfl) ?_
  simp only [List.take_succ_cons, List.take_zero, List.drop_succ_cons, List.drop_zero]
  repeat (quiet_step (fail))
  refine wpQuiet_nil ?_
  intro _ hw'
  obtain ⟨nq, rfl⟩ := hw'
  go_wp2_with fail
  refine wp_region_qd 11 (by kernel_rfl) (by kernel_rfl) ?_
  simp only [List.take_succ_cons, List.take_zero, List.drop_succ_cons, List.drop_zero]
  repeat (quiet_step (fail))
  refine wpQuiet_nil ?_
  intro _ hw'
  obtain ⟨nq, rfl⟩ := hw'
  go_wp2_with fail
  refine wp_region_qd 13 (by kernel_rfl) (by kernel_rfl) ?_
  simp only [List.take_succ_cons, List.take_zero, List.drop_succ_cons, List.drop_zero]
  repeat (quiet_step ((exact Calls.quiet_of_same (rot_any _ _ (by omega) (by omega) _))))
  refine wpQuiet_nil ?_
  intro _ hw'
  obtain ⟨nq, rfl⟩ := hw'
  go_wp2_with fail
  refine wp_region_qd 13 (by kernel_rfl) (by kernel_rfl) ?_
  simp only [List.take_succ_cons, List.take_zero, List.drop_succ_cons, List.drop_zero]
  repeat (quiet_step ((exact Calls.quiet_of_same (rot_any _ _ (by omega) (by omega) _))))
  refine wpQuiet_nil ?_
  intro _ hw'
  obtain ⟨nq, rfl⟩ := hw'
  go_wp2_with fail
  refine wp_region_qd 8 (by kernel_rfl) (by kernel_rfl) ?_
  simp only [List.take_succ_cons, List.take_zero, List.drop_succ_cons, List.drop_zero]
  repeat (quiet_step ((exact Calls.quiet_of_same (rot_any _ _ (by omega) (by omega) _))))
  refine wpQuiet_nil ?_
  intro _ hw'
  obtain ⟨nq, rfl⟩ := hw'
  go_wp2_with fail
  refine wp_region_qd 11 (by kernel_rfl) (by kernel_rfl) ?_
  simp only [List.take_succ_cons, List.take_zero, List.drop_succ_cons, List.drop_zero]
  repeat (quiet_step (fail))
  refine wpQuiet_nil ?_
  intro _ hw'
  obtain ⟨nq, rfl⟩ := hw'
  go_wp2_with fail
  refine wp_region_qd 11 (by kernel_rfl) (by kernel_rfl) ?_
  simp only [List.take_succ_cons, List.take_zero, List.drop_succ_cons, List.drop_zero]
  repeat (quiet_step (fail))
  refine wpQuiet_nil ?_
  intro _ hw'
  obtain ⟨nq, rfl⟩ := hw'
  go_wp2_with fail
  refine wp_region_qd 13 (by kernel_rfl) (by kernel_rfl) ?_
  simp only [List.take_succ_cons, List.take_zero, List.drop_succ_cons, List.drop_zero]
  repeat (quiet_step ((exact Calls.quiet_of_same (rot_any _ _ (by omega) (by omega) _))))
  refine wpQuiet_nil ?_
  intro _ hw'
  obtain ⟨nq, rfl⟩ := hw'
  go_wp2_with fail
  refine wp_region_qd 13 (by kernel_rfl) (by kernel_rfl) ?_
  simp only [List.take_succ_cons, List.take_zero, List.drop_succ_cons, List.drop_zero]
  repeat (quiet_step ((exact Calls.quiet_of_same (rot_any _ _ (by omega) (by omega) _))))
  refine wpQuiet_nil ?_
  intro _ hw'
  obtain ⟨nq, rfl⟩ := hw'
  go_wp2_with fail
  refine wp_region_qd 8 (by kernel_rfl) (by kernel_rfl) ?_
  simp only [List.take_succ_cons, List.take_zero, List.drop_succ_cons, List.drop_zero]
  repeat (quiet_step ((exact Calls.quiet_of_same (rot_any _ _ (by omega) (by omega) _))))
  refine wpQuiet_nil ?_
  intro _ hw'
  obtain ⟨nq, rfl⟩ := hw'
  go_wp2_with fail
  go_end0
  exact ⟨rfl, _, rfl⟩
end Go.Proofs.Ytpdaepceijdckaa
