import Derived.Test.YtpdaepceijdckaaDigSumF
namespace Go.Proofs.Ytpdaepceijdckaa
open Go.RowKit
attribute [local go_sem] wrap_add_U bits_xor_U bits_or_U wrap_U

set_option maxHeartbeats 400000 in
theorem rrot_any (x : UInt64) (n : Int) (h1 : 1 ≤ n) (h2 : n ≤ 63) (w : World) :
    Calls Try.prog 19 #[.int .u64 x.toNat, .int .i64 n] w fun e w' => e = .returned (.int .u64 (rotl x n.toNat).toNat) ∧ ∃ k, w' = w.drewN k := by
  obtain ⟨n, rfl⟩ := Int.eq_ofNat_of_zero_le (show 0 ≤ n by omega)
  have e1 : IntKind.i64.wrap (64 - (n : Int)) = 64 - (n : Int) := IntWalk.i64_in _ (by omega)
  have e2 : 0 ≤ 64 - (n : Int) := by omega
  have e3 : 0 ≤ (n : Int) := by omega
  go_enter Try.func19, Try.ntmps19
  go_wp2_with fail
  go_quiet (fail)
  have e4 : IntKind.u64.wrap ((x.toNat : Int) * 2 ^ n) = ((shl x n).toNat : Int) := wrap_shl_U x n (by omega)
  have e5 : (x.toNat : Int) / 2 ^ (64 - n) = ((shr x (64 - n)).toNat : Int) := shr_U x (64 - n) (by omega)
  go_wp2_with fail
  rw [e4, e5, bits_or_U]
  go_ret
  exact ⟨rfl, nq, rfl⟩
set_option maxHeartbeats 1000000 in
theorem rround_any (v : St) (w : World) :
    Calls Try.prog 15 #[.agg (v.cells [])] w fun e w' => e = .returned (.agg (v.round.cells [])) ∧ Keep w w' := by
  have hc : ∀ v : St, v.cells [] = #[.int .u64 v.a.toNat, .int .u64 v.b.toNat, .int .u64 v.c.toNat, .int .u64 v.d.toNat] := fun _ => rfl
  rw [hc v]
  go_enter Try.func15, Try.ntmps15
  go_wp2_with fail
  refine wp_region_qd0 7 (by kernel_rfl) (by kernel_rfl) ?_
  simp only [List.take_succ_cons, List.take_zero, List.drop_succ_cons, List.drop_zero]
  repeat (quiet_step ((exact Calls.quiet_of (rrot_any _ _ (by omega) (by omega) _))))
  refine wpQuiet_nil ?_
  intro _ hw'
  obtain ⟨nq, rfl⟩ := hw'
  go_wp2_with fail
  refine (rrot_any _ _ (by omega) (by omega) _).mono ?_
  rintro e w' ⟨rfl, kk, rfl⟩
  go_wp2_with fail
  refine wp_region_qd 7 (by kernel_rfl) (by kernel_rfl) ?_
  simp only [List.take_succ_cons, List.take_zero, List.drop_succ_cons, List.drop_zero]
  repeat (quiet_step ((exact Calls.quiet_of (rrot_any _ _ (by omega) (by omega) _))))
  refine wpQuiet_nil ?_
  intro _ hw'
  obtain ⟨nq, rfl⟩ := hw'
  go_wp2_with fail
  refine wp_region_qd 7 (by kernel_rfl) (by kernel_rfl) ?_
  simp only [List.take_succ_cons, List.take_zero, List.drop_succ_cons, List.drop_zero]
  repeat (quiet_step ((exact Calls.quiet_of (rrot_any _ _ (by omega) (by omega) _))))
  refine wpQuiet_nil ?_
  intro _ hw'
  obtain ⟨nq, rfl⟩ := hw'
  go_wp2_with fail
  refine wp_region_qd 7 (by kernel_rfl) (by kernel_rfl) ?_
  simp only [List.take_succ_cons, List.take_zero, List.drop_succ_cons, List.drop_zero]
  repeat (quiet_step ((exact Calls.quiet_of (rrot_any _ _ (by omega) (by omega) _))))
  refine wpQuiet_nil ?_
  intro _ hw'
  obtain ⟨nq, rfl⟩ := hw'
  go_wp2_with fail
  refine (rrot_any _ _ (by omega) (by omega) _).mono ?_
  rintro e w' ⟨rfl, kk, rfl⟩
  go_wp2_with fail
  exact bodyPost_ret (v := .agg #[_, _, _, _]) (by simp [results, Try.results15, go_sem]; exact ⟨rfl, rfl, rfl, rfl⟩) rfl ⟨rfl, (((Mod.refl _ _).alloc _).alloc _).drewN _⟩

theorem rword_step (l : List UInt8) (k : Nat) (h1 : l.length = 8) (h : k < l.length) :
    IntKind.u64.wrap (IntKind.u64.wrap (256 * (leVal (l.drop (k + 1)) : Int)) + IntKind.u64.wrap (l[k].toNat : Int)) = (leVal (l.drop k) : Int) := by
  have e : leVal (l.drop k) = 256 * leVal (l.drop (k + 1)) + l[k].toNat := by rw [List.drop_eq_getElem_cons h]; rfl
  have hl := leVal_lt (l.drop k)
  have h2 : 256 ^ (l.drop k).length ≤ 256 ^ 8 := Nat.pow_le_pow_right (by omega) (by simp; omega)
  have hc := l[k].toNat_lt
  rw [IntKind.wrap_u64, IntKind.wrap_u64, IntKind.wrap_u64]
  omega
set_option maxHeartbeats 400000 in
/-- The reference's word: from the last byte to the first. -/
theorem rword_any (l : List UInt8) (w : World) (h : l.length = 8) :
    Calls Try.prog 14 #[.string ⟨l.toArray⟩] w fun e w' => e = .returned (.int .u64 (word l).toNat) ∧ w' = w := by
  have h1 : l.length ≤ 8 := by omega
  have h2 : 8 ≤ l.length := by omega
  have H := Lib.hid h
  clear h
  go_enter Try.func14, Try.ntmps14
  go_wp2_with fail
  go_loop [3, 4] (fun x i => ∃ k : Nat, k ≤ 8 ∧ i = .int .i64 ((k : Int) - 1) ∧ x = .int .u64 (leVal (l.drop k) : Nat)) (fun _ i => (intOf i + 1).toNat)
  case atStart => exact ⟨8, by omega, rfl, by rw [List.drop_of_length_le h1]; rfl⟩
  case round =>
    obtain ⟨k, hk, rfl, rfl⟩ := hrel
    by_cases h0 : 1 ≤ k
    · obtain ⟨k, rfl⟩ : ∃ j, k = j + 1 := ⟨k - 1, by omega⟩
      have hj : ((k + 1 : Nat) : Int) - 1 = (k : Int) := by omega
      rw [hj]
      clear hj
      go_wp2_with fail
      refine ⟨⟨k, by omega, rfl, ?_⟩, by simp [intOf]⟩
      exact congrArg _ (rword_step l k H.out (by assumption))
    · obtain rfl : k = 0 := by omega
      go_wp2_with fail
      go_ret
      exact ⟨by rw [word_toNat l h1]; rfl, rfl⟩
end Go.Proofs.Ytpdaepceijdckaa
