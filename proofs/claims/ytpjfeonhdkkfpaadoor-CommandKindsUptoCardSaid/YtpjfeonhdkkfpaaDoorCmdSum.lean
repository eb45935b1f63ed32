/-
  What a command's strings come to together.
-/
import Derived.Test.YtpjfeonhdkkfpaaDoorCmdOpen
namespace Go.Proofs.YtpjfeonhdkkfpaaDoor
theorem upto_sum {H : Type} {ds : List (DataW H)} (hk : Rows.uptoSmall H ds = true) {j : Nat} {c : Cmd} (hj : ds[j]? = some (cmdD c)) : c.path.length + c.dest.length + c.data.length ≤ 1048576 := by
  have h1 := bulk_part (List.mem_of_getElem? hj)
  have h2 : Rows.uptoBulkAll ds ≤ 1048576 := by simpa [Rows.uptoSmall] using hk
  have h3 : Rows.uptoBulk (cmdD (H := H) c) = 1 + (c.path.length + 1 + (c.dest.length + 1 + (1 + (c.data.length + 1)))) + 1 := by simp [cmdD, Rows.uptoBulk, Rows.uptoBulkAll]
  omega
end Go.Proofs.YtpjfeonhdkkfpaaDoor
