/-
  A command that came in, opened; what it reads is of small bulk.
  A world in which the listed variables read as the rows say; one of them is a handle of a type.
  .. that world meets the rows' list.
-/
import Derived.Test.YthmpblccplphfaaGreatDoorRows
import Derived.Test.YthmpblccplphfaaGreatDoorCards
import Derived.Test.YthmpblccplphfaaGreatDoorTie
import Derived.Test.YthmpblccplphfaaGreatDoorClose
import Derived.Test.YthmpblccplphfaaGreatDoorFilFixed
import Derived.OpenShut
import Derived.Lay
import Derived.Deep.DeepHandedRow
import Derived.Deep.DeepWitnessRowRef
import Derived.LaidHandle
import Derived.LaidLaws
namespace Go.Proofs.YthmpblccplphfaaGreatDoor
section
open Go.ChangeShapes Go.WideShapes Go.ChangeAt Go.RowKit
theorem i64_of_wf {n : Int} (h : (Lit.int .i64 n).wf = true) : -9223372036854775808 ≤ n ∧ n ≤ 9223372036854775807 := bounds_i64 h
theorem bulk_part {H : Type} {d : DataW H} {l : List (DataW H)} (h : d ∈ l) : Rows.uptoBulk d ≤ Rows.uptoBulkAll l := by
  induction l with
  | nil => cases h
  | cons x r ih =>
    simp only [Rows.uptoBulkAll]
    cases List.mem_cons.1 h with
    | inl e => subst e; omega
    | inr e => have := ih e; omega
theorem upto_str {H : Type} {ds : List (DataW H)} (hk : Rows.uptoSmall H ds = true) {j : Nat} {l : List UInt8} (hj : ds[j]? = some (.lit (.string l))) : l.length ≤ 1048576 := by
  have h1 := bulk_part (List.mem_of_getElem? hj)
  have h2 : Rows.uptoBulkAll ds ≤ 1048576 := by simpa [Rows.uptoSmall] using hk
  have h3 : Rows.uptoBulk (DataW.lit (H := H) (.string l)) = l.length + 1 := by simp [Rows.uptoBulk]
  omega
section
variable {H : Type} {enc : TypeId × Value → H}
def cmdD (c : Cmd) : DataW H := .agg [.lit (.int .i64 c.kind), .lit (.string c.path), .lit (.string c.dest), .lit (.int .i64 c.pos), .lit (.string c.data)]
set_option maxRecDepth 100000 in
theorem open_cmd {W : World} {base : Nat} {v : Value} {d : DataW H} {p : List MemPlace} (hok : Value.okWide Tryz.prog W .any base 38 v) (h : DataW.Trod enc Tryz.prog W 0 (fun _ => true) true 38 v d p) :
    ∃ c : Cmd, v = cmdV c ∧ d = cmdD c ∧ (-9223372036854775808 ≤ c.kind ∧ c.kind ≤ 9223372036854775807) ∧ (-9223372036854775808 ≤ c.pos ∧ c.pos ≤ 9223372036854775807) := by
  obtain ⟨cs, rfl, hsz⟩ := okWide_struct Tryz.underlying38 hok
  obtain ⟨c0, c1, c2, c3, c4, rfl⟩ : ∃ c0 c1 c2 c3 c4, cs = #[c0, c1, c2, c3, c4] := by
    have hs : cs.size = 5 := hsz.trans (by kernel_rfl)
    obtain ⟨l⟩ := cs
    match l, hs with
    | [a, b, c, d, e], _ => exact ⟨a, b, c, d, e, rfl⟩
  obtain ⟨fuel, hf⟩ := h
  obtain ⟨xs, n, _, hx, _, hlen, hget⟩ := DataW.trod_struct Tryz.underlying38 hf
  have e3 : Tryz.prog.cellsOf 3 = 1 := by kernel_rfl
  have e9 : Tryz.prog.cellsOf 9 = 1 := by kernel_rfl
  obtain ⟨x0, x1, x2, x3, x4, rfl⟩ : ∃ x0 x1 x2 x3 x4, xs = [x0, x1, x2, x3, x4] := by
    match xs, hlen with
    | [a, b, c, d, e], _ => exact ⟨a, b, c, d, e, rfl⟩
  have h0 := hget 0 _ rfl
  have h1 := hget 1 _ rfl
  have h2 := hget 2 _ rfl
  have h3 := hget 3 _ rfl
  have h4 := hget 4 _ rfl
  obtain ⟨n0, f0, rfl, w0⟩ := DataW.trod_int Tryz.underlying3 h0
  obtain ⟨s1, f1, rfl, _⟩ := DataW.trod_string Tryz.underlying9 h1
  obtain ⟨s2, f2, rfl, _⟩ := DataW.trod_string Tryz.underlying9 h2
  obtain ⟨n3, f3, rfl, w3⟩ := DataW.trod_int Tryz.underlying3 h3
  obtain ⟨s4, f4, rfl, _⟩ := DataW.trod_string Tryz.underlying9 h4
  have g0 : c0 = Value.int .i64 n0 := by
    have h : List.take (Tryz.prog.cellsOf 3) (List.drop 0 (Value.agg #[c0, c1, c2, c3, c4]).cells.toList) = [Value.int .i64 n0] := f0
    rw [e3] at h
    simpa [Value.cells] using h
  have g1 : c1 = Value.string s1 := by
    have h : List.take (Tryz.prog.cellsOf 9) (List.drop 1 (Value.agg #[c0, c1, c2, c3, c4]).cells.toList) = [Value.string s1] := f1
    rw [e9] at h
    simpa [Value.cells] using h
  have g2 : c2 = Value.string s2 := by
    have h : List.take (Tryz.prog.cellsOf 9) (List.drop 2 (Value.agg #[c0, c1, c2, c3, c4]).cells.toList) = [Value.string s2] := f2
    rw [e9] at h
    simpa [Value.cells] using h
  have g3 : c3 = Value.int .i64 n3 := by
    have h : List.take (Tryz.prog.cellsOf 3) (List.drop 3 (Value.agg #[c0, c1, c2, c3, c4]).cells.toList) = [Value.int .i64 n3] := f3
    rw [e3] at h
    simpa [Value.cells] using h
  have g4 : c4 = Value.string s4 := by
    have h : List.take (Tryz.prog.cellsOf 9) (List.drop 4 (Value.agg #[c0, c1, c2, c3, c4]).cells.toList) = [Value.string s4] := f4
    rw [e9] at h
    simpa [Value.cells] using h
  subst g0 g1 g2 g3 g4
  have hd : d = _ := congrArg Prod.fst hx
  exact ⟨⟨n0, s1.data.toList, s2.data.toList, n3, s4.data.toList⟩, rfl, hd, i64_of_wf w0, i64_of_wf w3⟩
theorem upto_cmd {ds : List (DataW H)} (hk : Rows.uptoSmall H ds = true) {j : Nat} {c : Cmd} (hj : ds[j]? = some (cmdD c)) (hp : -9223372036854775808 ≤ c.pos ∧ c.pos ≤ 9223372036854775807) : c.Small := by
  have h1 := bulk_part (List.mem_of_getElem? hj)
  have h2 : Rows.uptoBulkAll ds ≤ 1048576 := by simpa [Rows.uptoSmall] using hk
  have h3 : Rows.uptoBulk (cmdD (H := H) c) = 1 + (c.path.length + 1 + (c.dest.length + 1 + (1 + (c.data.length + 1)))) + 1 := by simp [cmdD, Rows.uptoBulk, Rows.uptoBulkAll]
  exact ⟨by omega, by omega, by omega, hp⟩
end
end
section
open Go.ChangeShapes Go.WideShapes Go.ChangeAt Go.RowKit
noncomputable def world0 (os : Os) : World :=
  let w0 := World.laidAll Tryz.prog os (Rows.fileCutsRow.laid.filter fun x => x.2.handleName?.isNone)
  { w0 with heap := w0.heap.modify 3 fun
      | .cells _ t frozen => .cells #[.iface 267 (.agg #[typeHandle Tryz.prog 152])] t frozen
      | o => o }
theorem world0_os (os : Os) : (world0 os).os = os := by kernel_rfl
end
section
open Go.ChangeShapes Go.WideShapes Go.ChangeAt Go.RowKit
set_option maxRecDepth 100000 in
theorem laid_met (os : Os) (args : Array Value) : laidMetH Tryz.prog Rows.fileCutsRow.laid ((world0 os).forCall (fun _ _ => 0) ⟨#[], args, []⟩).memory :=
  laidMetH_of_parts (laidMet_of_run' 8 (by kernel_rfl) (by kernel_rfl)) (by kernel_rfl)
end
end Go.Proofs.YthmpblccplphfaaGreatDoor
