/-
  What the second form's bound gives: a string that comes in has at most so many letters. (From the seat's example text UptoLemmas.)
-/
import Derived.Test.YthopldpaoeabnaaDoorRows
namespace Go.Proofs.YthopldpaoeabnaaDoor
open Go
theorem bulk_part {H : Type} {d : DataW H} {l : List (DataW H)} (h : d ∈ l) : Rows.uptoBulk d ≤ Rows.uptoBulkAll l := by
  induction l with
  | nil => cases h
  | cons x r ih =>
    simp only [Rows.uptoBulkAll]
    cases List.mem_cons.1 h with
    | inl e => subst e; omega
    | inr e => have := ih e; omega
theorem upto_str {H : Type} {ds : List (DataW H)} (hk : Rows.uptoSmall H ds = true) {j : Nat} {l : List UInt8} (hj : ds[j]? = some (.lit (.string l))) : l.length ≤ 1048576 := by
  have h1 := bulk_part (List.mem_of_getElem? hj)
  have h2 : Rows.uptoBulkAll ds ≤ 1048576 := by simpa [Rows.uptoSmall] using hk
  have h3 : Rows.uptoBulk (DataW.lit (H := H) (.string l)) = l.length + 1 := by simp [Rows.uptoBulk]
  omega
end Go.Proofs.YthopldpaoeabnaaDoor
