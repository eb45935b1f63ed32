import Derived.Test.YtpdaepceijdckaaDigNew
namespace Go.Proofs.Ytpdaepceijdckaa
open Go.RowKit

/-- The sum of s by the key. -/
def sip (key s : List UInt8) : List UInt8 := let r := absorb (start key) s; sumOf r.1 r.2 s.length
theorem absorb_rest (v : St) (s : List UInt8) : (absorb v s).2.length < 8 := by
  generalize hn : s.length = n
  induction n using Nat.strongRecOn generalizing v s with
  | _ n ih =>
    by_cases h : 8 ≤ s.length
    · rw [absorb_step v s h]; exact ih (s.length - 8) (by omega) _ _ (by simp)
    · rw [absorb_end v s h]; simp; omega
theorem sumf_no (key s : List UInt8) (w : World) (hk : key.length ≠ 16) :
    Calls Try.prog 8 #[.string ⟨key.toArray⟩, .string ⟨s.toArray⟩] w fun e w' => e = .returned (.tuple #[.string ⟨#[]⟩, .int .i64 20]) ∧ w = w' := by
  go_enter Try.func8, Try.ntmps8
  go_wp2_with fail
  refine (new_no key w hk).mono ?_
  rintro e w' ⟨rfl, rfl⟩
  clear hk
  go_wp2_with fail
  go_ret2
  exact ⟨rfl, rfl⟩
set_option maxHeartbeats 400000 in
theorem sumf_yes (key s : List UInt8) (w : World) (hk : key.length = 16) (hs : s.length ≤ 9223372036854775799) :
    Calls Try.prog 8 #[.string ⟨key.toArray⟩, .string ⟨s.toArray⟩] w fun e w' => e = .returned (.tuple #[.string ⟨(sip key s).toArray⟩, .int .i64 0]) ∧ Keep w w' := by
  go_enter Try.func8, Try.ntmps8
  go_wp2_with fail
  refine (new_yes key w hk).mono ?_
  rintro e w' ⟨rfl, n, rfl⟩
  clear hk
  have hb : w.heap.size < (w.alloc (.cells (hcells (start key) [] 0) 45)).heap.size := by simp
  have hW := write_any w.heap.size (start key) [] s 0 (w.alloc (.cells (hcells (start key) [] 0) 45)) n hb (by simp) (by omega)
  rw [alloc_putB, alloc_putB, List.nil_append, Nat.zero_add] at hW
  have HW := Lib.hid hW
  clear hW hb
  go_wp2_with fail
  refine HW.out.mono ?_
  rintro e w' ⟨rfl, n1, rfl⟩
  clear HW
  have hsip : sip key s = sumOf (absorb (start key) s).1 (absorb (start key) s).2 s.length := rfl
  have hr := absorb_rest (start key) s
  generalize hab : absorb (start key) s = r at *
  clear hab
  have hS := sum_any w.heap.size r.1 r.2 s.length _ (blk_drewN (blk_new w (hcells r.1 r.2 s.length) 45) n1) hr (by omega)
  rw [← hsip] at hS
  have HS := Lib.hid hS
  clear hS hsip hr
  go_wp2_with fail
  refine HS.out.mono ?_
  rintro e w' ⟨rfl, hk⟩
  have Hk := Lib.hid ((((Mod.refl (fun _ => False) w).alloc (.cells (hcells r.1 r.2 s.length) 45)).drewN n1).keep hk)
  clear HS hk
  go_wp2_with fail
  go_ret2
  exact ⟨rfl, Hk.out⟩
end Go.Proofs.Ytpdaepceijdckaa
