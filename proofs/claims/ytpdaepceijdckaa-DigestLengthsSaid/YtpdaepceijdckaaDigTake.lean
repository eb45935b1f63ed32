import Derived.Test.YtpdaepceijdckaaDigRot
namespace Go.Proofs.Ytpdaepceijdckaa
open Go.RowKit
attribute [local go_sem] wrap_add_U bits_xor_U bits_or_U wrap_U

def St.take (v : St) (m : UInt64) : St :=
  let r := St.round (St.round { v with d := xor v.d m })
  { r with a := xor r.a m }
set_option maxHeartbeats 400000 in
theorem take_any (b : Nat) (v : St) (m : UInt64) (more : List Value) (t : TypeId) (w : World) (k : Nat) (hb : b < w.heap.size) :
    Calls Try.prog 17 #[.pointer (some ⟨b, 0, none⟩), .int .u64 m.toNat] ((w.putB b (v.cells more) t).drewN k) fun e w' => e = .returned (.tuple #[]) ∧ ∃ n, (w.putB b ((v.take m).cells more) t).drewN n = w' := by
  have hc : ∀ v : St, v.cells more = (.int .u64 v.a.toNat :: .int .u64 v.b.toNat :: .int .u64 v.c.toNat :: .int .u64 v.d.toNat :: more).toArray := fun _ => rfl
  rw [hc v]
  go_enter Try.func17, Try.ntmps17
  go_wp2_with fail
  refine wp_region_qd 8 (by kernel_rfl) (by kernel_rfl) ?_
  simp only [List.take_succ_cons, List.take_zero, List.drop_succ_cons, List.drop_zero]
  repeat (quiet_step (fail))
  refine wpQuiet_nil ?_
  intro _ hw'
  obtain ⟨nq, rfl⟩ := hw'
  go_wp2_with fail
  refine (round_any b { v with d := xor v.d m } more t _ _ hb).mono ?_
  rintro e w1 ⟨rfl, n1, rfl⟩
  go_wp2_with fail
  refine (round_any b _ more t _ _ hb).mono ?_
  rintro e w1 ⟨rfl, n2, rfl⟩
  generalize hr : St.round (St.round { v with d := xor v.d m }) = r
  have Hr := Lib.hid hr
  clear hr
  rw [hc r]
  go_wp2_with fail
  refine wp_region_qd 8 (by kernel_rfl) (by kernel_rfl) ?_
  simp only [List.take_succ_cons, List.take_zero, List.drop_succ_cons, List.drop_zero]
  repeat (quiet_step (fail))
  refine wpQuiet_nil ?_
  intro _ hw'
  obtain ⟨nq, rfl⟩ := hw'
  go_wp2_with fail
  go_end0
  refine ⟨rfl, nq, ?_⟩
  rw [St.take, Hr.out]
  rfl
end Go.Proofs.Ytpdaepceijdckaa
