import Derived.Test.YtpdaepceijdckaaDigRead
import Derived.Test.YtpdaepceijdckaaStr
namespace Go.Proofs.Ytpdaepceijdckaa
open Go.RowKit
attribute [local go_sem] wrap_add_U bits_xor_U bits_or_U wrap_U

/-- The words of s one by one, as long as there are eight bytes; what is left. -/
def absorbN : Nat → St → List UInt8 → St × List UInt8
  | 0, v, s => (v, s)
  | f + 1, v, s => if 8 ≤ s.length then absorbN f (v.take (word (s.take 8))) (s.drop 8) else (v, s)
def absorb (v : St) (s : List UInt8) : St × List UInt8 := absorbN s.length v s
theorem absorbN_eq (f : Nat) : ∀ (g : Nat) (v : St) (s : List UInt8), s.length ≤ f → s.length ≤ g → absorbN f v s = absorbN g v s := by
  induction f with
  | zero =>
    intro g v s hf _
    have hn : ¬ 8 ≤ s.length := by omega
    cases g <;> simp [absorbN, hn]
  | succ f ih =>
    intro g v s hf hg
    by_cases h8 : 8 ≤ s.length
    · cases g with
      | zero => omega
      | succ g =>
        rw [absorbN, absorbN, if_pos h8, if_pos h8]
        exact ih g _ _ (by simp; omega) (by simp; omega)
    · cases g <;> simp [absorbN, h8]
theorem absorb_step (v : St) (s : List UInt8) (h : 8 ≤ s.length) : absorb v s = absorb (v.take (word (s.take 8))) (s.drop 8) := by
  unfold absorb
  rw [absorbN_eq s.length (s.length + 1) v s (Nat.le_refl _) (by omega), absorbN, if_pos h]
  exact absorbN_eq _ _ _ _ (by simp) (Nat.le_refl _)
theorem absorb_end (v : St) (s : List UInt8) (h : ¬ 8 ≤ s.length) : absorb v s = (v, s) := by
  unfold absorb
  rw [absorbN_eq s.length (s.length + 1) v s (Nat.le_refl _) (by omega), absorbN, if_neg h]
def hcells (v : St) (rest : List UInt8) (size : Nat) : Array Value := v.cells [.string ⟨rest.toArray⟩, .int .i64 size]

set_option maxHeartbeats 400000 in
theorem write_any (b : Nat) (v : St) (rest s : List UInt8) (size : Nat) (w : World) (k : Nat) (hb : b < w.heap.size) (hr : rest.length < 8) (hs : size + s.length + 8 ≤ 9223372036854775807) :
    Calls Try.prog 12 #[.pointer (some ⟨b, 0, none⟩), .string ⟨s.toArray⟩] ((w.putB b (hcells v rest size) 45).drewN k) fun e w' => e = .returned (.tuple #[]) ∧
      ∃ n, (w.putB b (hcells (absorb v (rest ++ s)).1 (absorb v (rest ++ s)).2 (size + s.length)) 45).drewN n = w' := by
  have hc : ∀ v rest size, hcells v rest size = #[.int .u64 v.a.toNat, .int .u64 v.b.toNat, .int .u64 v.c.toNat, .int .u64 v.d.toNat, .string ⟨rest.toArray⟩, .int .i64 size] := fun _ _ _ => rfl
  rw [hc v]
  go_enter Try.func12, Try.ntmps12
  go_wp2_with fail
  go_loopw [1] (fun x wr => ∃ (l : List UInt8) (u : St) (n : Nat), l.length ≤ rest.length + s.length ∧ absorb u l = absorb v (rest ++ s) ∧ x = .string ⟨l.toArray⟩ ∧ wr = (w.putB b (#[.int .u64 u.a.toNat, .int .u64 u.b.toNat, .int .u64 u.c.toNat, .int .u64 u.d.toNat, .string ⟨rest.toArray⟩, .int .i64 (size + s.length)]) 45).drewN n)
    (fun x _ => lenOf x)
  case atStart => exact ⟨rest ++ s, v, k, by simp, rfl, rfl, rfl⟩
  case round =>
    obtain ⟨l, u, n, hl, hab, rfl, rfl⟩ := hrel
    have Hab := Lib.hid hab
    clear hab
    by_cases h8 : 8 ≤ l.length
    · go_wp2_with fail
      refine wp_region_qd 6 (by kernel_rfl) (by kernel_rfl) ?_
      simp only [List.take_succ_cons, List.take_zero, List.drop_succ_cons, List.drop_zero]
      repeat (quiet_step ((exact Calls.quiet_of_same (read_list _ _ (by simp <;> omega)))))
      refine wpQuiet_nil ?_
      intro _ hw'
      obtain ⟨nq, rfl⟩ := hw'
      go_wp2_with fail
      refine (take_any b u (word (l.take 8)) [.string ⟨rest.toArray⟩, .int .i64 (size + s.length)] _ _ nq hb).mono ?_
      rintro e w1 ⟨rfl, n1, rfl⟩
      go_wp2_with fail
      go_roundw
      case rel => exact ⟨l.drop 8, u.take (word (l.take 8)), n1, by simp; omega, by rw [← absorb_step _ _ h8]; exact Hab.out, by simp, rfl⟩
      case measure => simp; omega
    · have hab := absorb_end u l h8
      rw [Hab.out] at hab
      have Hab2 := Lib.hid hab
      clear hab
      go_wp2_with fail
      go_end0
      refine ⟨rfl, n, ?_⟩
      rw [Hab2.out]
      rfl
end Go.Proofs.Ytpdaepceijdckaa
