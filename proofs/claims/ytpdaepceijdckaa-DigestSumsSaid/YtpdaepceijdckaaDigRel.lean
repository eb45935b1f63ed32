/-
  The digest's calls, said of a block that is known whole.
-/
import Derived.Test.YtpdaepceijdckaaDigSumF
namespace Go.Proofs.Ytpdaepceijdckaa
open Go.RowKit

theorem new_blk (key : List UInt8) (w : World) (hk : key.length = 16) :
    Calls Try.prog 11 #[.string ⟨key.toArray⟩] w fun e w' => e = .returned (.tuple #[.pointer (some ⟨w.heap.size, 0, none⟩), .int .i64 0]) ∧ World.blk w' w.heap.size (hcells (start key) [] 0) 45 ∧ Keep w w' :=
  (new_yes key w hk).mono fun _ _ ⟨he, n, hw⟩ => by
    subst hw
    exact ⟨he, blk_drewN (blk_new _ _ _) _, ((Mod.refl _ _).alloc _).drewN _⟩
theorem write_blk (b : Nat) (v : St) (rest s : List UInt8) (size : Nat) (w : World) (hB : World.blk w b (hcells v rest size) 45) (hr : rest.length < 8) (hs : size + s.length + 8 ≤ 9223372036854775807) :
    Calls Try.prog 12 #[.pointer (some ⟨b, 0, none⟩), .string ⟨s.toArray⟩] w fun e w' => e = .returned (.tuple #[]) ∧
      World.blk w' b (hcells (absorb v (rest ++ s)).1 (absorb v (rest ++ s)).2 (size + s.length)) 45 ∧ Mod (· = b) w w' := by
  have h := write_any b v rest s size w 0 (blk_lt hB) hr hs
  rw [putB_self hB, World.drewN_zero] at h
  refine h.mono fun _ _ ⟨he, n, hw⟩ => ?_
  subst hw
  exact ⟨he, blk_drewN (putB_blk (blk_lt hB)) _, ((Mod.refl (· = b) w).putB (Or.inl rfl) _ _).drewN _⟩
/-- A hash that has taken the bytes l. -/
def hashed (key l : List UInt8) : Array Value := hcells (absorb (start key) l).1 (absorb (start key) l).2 l.length
theorem absorb_more (s : List UInt8) : ∀ (v : St) (t : List UInt8), absorb v (s ++ t) = absorb (absorb v s).1 ((absorb v s).2 ++ t) := by
  generalize hn : s.length = n
  induction n using Nat.strongRecOn generalizing s with
  | _ n ih =>
    intro v t
    by_cases h : 8 ≤ s.length
    · have h2 : 8 ≤ (s ++ t).length := by simp; omega
      rw [absorb_step v (s ++ t) h2, absorb_step v s h, List.take_append_of_le_length h, List.drop_append_of_le_length h]
      exact ih (s.drop 8).length (by simp; omega) _ rfl _ _
    · rw [absorb_end v s h]
theorem new_hash (key : List UInt8) (w : World) (hk : key.length = 16) :
    Calls Try.prog 11 #[.string ⟨key.toArray⟩] w fun e w' => e = .returned (.tuple #[.pointer (some ⟨w.heap.size, 0, none⟩), .int .i64 0]) ∧ World.blk w' w.heap.size (hashed key []) 45 ∧ Keep w w' :=
  new_blk key w hk
theorem write_hash (b : Nat) (key l s : List UInt8) (w : World) (hB : World.blk w b (hashed key l) 45) (hs : l.length + s.length + 8 ≤ 9223372036854775807) :
    Calls Try.prog 12 #[.pointer (some ⟨b, 0, none⟩), .string ⟨s.toArray⟩] w fun e w' => e = .returned (.tuple #[]) ∧ World.blk w' b (hashed key (l ++ s)) 45 ∧ Mod (· = b) w w' := by
  refine (write_blk b _ _ s l.length w hB (absorb_rest _ _) hs).mono fun _ _ ⟨he, h, hm⟩ => ⟨he, ?_, hm⟩
  rw [hashed, absorb_more, List.length_append]; exact h
theorem sum_hash (b : Nat) (key l : List UInt8) (w : World) (hB : World.blk w b (hashed key l) 45) (hs : l.length ≤ 9223372036854775807) :
    Calls Try.prog 13 #[.pointer (some ⟨b, 0, none⟩)] w fun e w' => e = .returned (.string ⟨(sip key l).toArray⟩) ∧ Keep w w' :=
  sum_any b _ _ _ w hB (absorb_rest _ _) hs
theorem sip_len (key l : List UInt8) : (sip key l).length = 8 := rfl
end Go.Proofs.Ytpdaepceijdckaa
