/-
  The policy's text, a name, a class: what the document says, in plain Lean. No program here.
-/
import Derived.Test.YthopldpaoeabnaaDoorLibCalls
import Derived.Lib.ItoaLen
namespace Go.Proofs.YthopldpaoeabnaaDoor
open Go.RowKit Go.Sort Go.Lib
def letterOf : Nat → UInt8
  | 0 => 104
  | 1 => 100
  | _ => 119
/-- a policy as a value -/
def polV (E K : Nat → Int) : Value := .agg #[.int .i64 (E 0), .int .i64 (E 1), .int .i64 (E 2), .int .i64 (K 0), .int .i64 (K 1), .int .i64 (K 2)]
def fitsAt (E K : Nat → Int) (i : Nat) : Prop := 0 ≤ E i ∧ E i ≤ 1000 ∧ 0 ≤ K i ∧ K i ≤ 31
instance (E K : Nat → Int) (i : Nat) : Decidable (fitsAt E K i) := by unfold fitsAt; infer_instance
def polFits (E K : Nat → Int) : Prop := fitsAt E K 0 ∧ fitsAt E K 1 ∧ fitsAt E K 2
instance (E K : Nat → Int) : Decidable (polFits E K) := by unfold polFits; infer_instance
def polWords (E K : Nat → Int) : Nat → List (List UInt8)
  | 0 => []
  | n + 1 => polWords E K n ++ [[letterOf n], Lib.itoa (E n), Lib.itoa (K n)]
def polText (E K : Nat → Int) : List UInt8 := Lib.join (polWords E K 3) [32]
def printV (E K : Nat → Int) : Value := if polFits E K then .tuple #[.string ⟨(polText E K).toArray⟩, .int .i64 0] else .tuple #[.string ⟨#[]⟩, .int .i64 220]
theorem fits_upto {E K : Nat → Int} (h : polFits E K) : ∀ i, i < 3 → fitsAt E K i := fun i hi => by
  rcases (by omega : i = 0 ∨ i = 1 ∨ i = 2) with rfl | rfl | rfl
  · exact h.1
  · exact h.2.1
  · exact h.2.2
theorem fits_of {E K : Nat → Int} (h : ∀ i, i < 3 → fitsAt E K i) : polFits E K := ⟨h 0 (by omega), h 1 (by omega), h 2 (by omega)⟩
theorem polWords_len (E K : Nat → Int) (n : Nat) : (polWords E K n).length = 3 * n := by
  induction n with
  | zero => rfl
  | succ n ih => rw [polWords, List.length_append, ih]; simp; omega
theorem itoa_len {n : Int} (h0 : 0 ≤ n) (h1 : n ≤ 1000) : (Lib.itoa n).length ≤ 21 := Lib.itoa_length_le n (by omega) (by omega)
theorem polText_len {E K : Nat → Int} (h : polFits E K) : (polText E K).length ≤ 200 := by
  have h0 := h.1; have h1 := h.2.1; have h2 := h.2.2
  have a0 := itoa_len h0.1 h0.2.1
  have a1 := itoa_len h1.1 h1.2.1
  have a2 := itoa_len h2.1 h2.2.1
  have b0 := itoa_len h0.2.2.1 (by have := h0.2.2.2; omega)
  have b1 := itoa_len h1.2.2.1 (by have := h1.2.2.2; omega)
  have b2 := itoa_len h2.2.2.1 (by have := h2.2.2.2; omega)
  have e : polText E K = Lib.join ([letterOf 0] :: [Lib.itoa (E 0), Lib.itoa (K 0), [letterOf 1], Lib.itoa (E 1), Lib.itoa (K 1), [letterOf 2], Lib.itoa (E 2), Lib.itoa (K 2)]) [32] := rfl
  rw [e, Lib.join_length]
  simp [Lib.lens]
  omega
end Go.Proofs.YthopldpaoeabnaaDoor
