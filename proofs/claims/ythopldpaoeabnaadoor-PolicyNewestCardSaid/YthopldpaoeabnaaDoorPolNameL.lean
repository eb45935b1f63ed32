/-
  A name's class is read back. No program here.
-/
import Derived.Test.YthopldpaoeabnaaDoorPolClass
import Derived.Test.YthopldpaoeabnaaDoorDec
namespace Go.Proofs.YthopldpaoeabnaaDoor
open Go.RowKit
theorem trim_name (c : Nat) (t : Int) : Lib.trimPrefix (nameText c t) [letterOf c, 46] = Lib.itoa t := by
  have h : Lib.hasPrefix (nameText c t) [letterOf c, 46] = true := by simp [nameText, Lib.hasPrefix, List.isPrefixOf]
  rw [Lib.trimPrefix, if_pos h]
  simp [nameText]
theorem hit_text {c : Nat} {t : Int} (h : nameFits c t) : hit (nameText c t) c ∧ tickOf (nameText c t) c = t := by
  have ht : tickOf (nameText c t) c = t := by
    rw [tickOf, trim_name]
    exact atoi_itoa t (by have := h.2.2.1; omega) (by have := h.2.2.2; omega)
  exact ⟨⟨by rw [ht]; exact h, by rw [ht]⟩, ht⟩
theorem hit_one {s : List UInt8} {c d : Nat} (hc : c < 3) (hd : d < 3) (h1 : hit s c) (h2 : hit s d) : c = d := by
  have e := h1.2.trans h2.2.symm
  simp only [nameText, Int.toNat_natCast, List.cons_append, List.cons.injEq] at e
  have e1 := e.1
  rcases (by omega : c = 0 ∨ c = 1 ∨ c = 2) with rfl | rfl | rfl <;> rcases (by omega : d = 0 ∨ d = 1 ∨ d = 2) with rfl | rfl | rfl <;> first | rfl | (exact absurd e1 (by decide))
theorem cls_text {c : Nat} {t : Int} (h : nameFits c t) : cls (nameText c t) = some (c, t) := by
  obtain ⟨h1, h2⟩ := hit_text h
  have hc : c < 3 := by have := h.2.1; omega
  have no : ∀ d, d < 3 → d ≠ c → ¬ hit (nameText c t) d := fun d hd hne hh => hne (hit_one hd hc hh h1)
  rcases (by omega : c = 0 ∨ c = 1 ∨ c = 2) with rfl | rfl | rfl
  · rw [cls, if_pos h1, h2]
  · rw [cls, if_neg (no 0 (by omega) (by omega)), if_pos h1, h2]
  · rw [cls, if_neg (no 0 (by omega) (by omega)), if_neg (no 1 (by omega) (by omega)), if_pos h1, h2]
end Go.Proofs.YthopldpaoeabnaaDoor
