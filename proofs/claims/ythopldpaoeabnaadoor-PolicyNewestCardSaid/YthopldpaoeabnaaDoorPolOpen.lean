/-
  A policy that came in, opened. The witness's world.
-/
import Derived.Test.YthopldpaoeabnaaDoorRows
import Derived.Test.YthopldpaoeabnaaDoorCards
import Derived.Test.YthopldpaoeabnaaDoorTie
import Derived.Test.YthopldpaoeabnaaDoorClose
import Derived.Test.YthopldpaoeabnaaDoorPolFixed
import Derived.OpenShut
import Derived.Lay
import Derived.Deep.DeepHandedRow
import Derived.Deep.DeepWitnessRowRef
namespace Go.Proofs.YthopldpaoeabnaaDoor
open Go.ChangeShapes Go.WideShapes Go.ChangeAt Go.RowKit
section
variable {H : Type} {enc : TypeId × Value → H}
theorem open_three {W : World} {base : Nat} {held : Bool} {fuel : Nat} {x : DataW H × List MemPlace} {P : Program} {t e : TypeId} {c0 c1 c2 : Value} {f : Nat → Bool} (ht : P.underlying t = some (.array 3 e)) (he : P.underlying e = some (.int .i64)) (hc : P.cellsOf e = 1)
    (h : DataW.trod enc P W base f held fuel t [c0, c1, c2] = some x) :
    ∃ n0 n1 n2 : Int, c0 = .int .i64 n0 ∧ c1 = .int .i64 n1 ∧ c2 = .int .i64 n2 ∧ (Lit.int .i64 n0).wf = true ∧ (Lit.int .i64 n1).wf = true ∧ (Lit.int .i64 n2).wf = true := by
  obtain ⟨xs, m, _, _, _, hl, hx⟩ := DataW.trod_array ht h
  rw [hc] at hx
  have h0 := hx 0 (by omega)
  have h1 := hx 1 (by omega)
  have h2 := hx 2 (by omega)
  rw [List.getElem?_eq_getElem (by omega)] at h0 h1 h2
  simp only [Nat.zero_mul, Nat.one_mul, Nat.mul_one, List.drop_zero, List.take_succ_cons, List.take_zero, List.drop_succ_cons] at h0 h1 h2
  obtain ⟨n0, e0, _, w0⟩ := DataW.trod_int he h0
  obtain ⟨n1, e1, _, w1⟩ := DataW.trod_int he h1
  obtain ⟨n2, e2, _, w2⟩ := DataW.trod_int he h2
  simp only [List.cons.injEq, and_true] at e0 e1 e2
  exact ⟨n0, n1, n2, e0, e1, e2, w0, w1, w2⟩
theorem i64_of_wf {n : Int} (h : (Lit.int .i64 n).wf = true) : -9223372036854775808 ≤ n ∧ n ≤ 9223372036854775807 := bounds_i64 h
theorem array6 {α : Type} {cs : Array α} (h : cs.size = 6) : ∃ c0 c1 c2 c3 c4 c5, cs = #[c0, c1, c2, c3, c4, c5] := by
  obtain ⟨l⟩ := cs
  match l, h with
  | [a, b, c, d, e, f], _ => exact ⟨a, b, c, d, e, f, rfl⟩
set_option maxRecDepth 100000 in
theorem open_pol {W : World} {base : Nat} {v : Value} {d : DataW H} {p : List MemPlace} (hok : Value.okWide Tryd.prog W .any base 24 v) (h : DataW.Trod enc Tryd.prog W 0 (fun _ => true) true 24 v d p) :
    ∃ E K : Nat → Int, v = polV E K ∧ (∀ i, i < 3 → -9223372036854775808 ≤ E i ∧ E i ≤ 9223372036854775807) ∧ (∀ i, i < 3 → -9223372036854775808 ≤ K i ∧ K i ≤ 9223372036854775807) := by
  obtain ⟨cs, rfl, hsz⟩ := okWide_struct Tryd.underlying24 hok
  obtain ⟨c0, c1, c2, c3, c4, c5, rfl⟩ := array6 (hsz.trans (by kernel_rfl))
  obtain ⟨fuel, hf⟩ := h
  obtain ⟨y0, y1, n, _, _, h0, h1⟩ := trod_struct2 Tryd.underlying24 hf
  have e3 : Tryd.prog.cellsOf 22 = 3 := by kernel_rfl
  simp only [e3, Value.cells, List.drop_zero, List.take_succ_cons, List.take_zero, List.drop_succ_cons] at h0 h1
  obtain ⟨a0, a1, a2, rfl, rfl, rfl, w0, w1, w2⟩ := open_three Tryd.underlying22 Tryd.underlying3 (by kernel_rfl) h0
  obtain ⟨b0, b1, b2, rfl, rfl, rfl, x0, x1, x2⟩ := open_three Tryd.underlying22 Tryd.underlying3 (by kernel_rfl) h1
  refine ⟨fun | 0 => a0 | 1 => a1 | _ => a2, fun | 0 => b0 | 1 => b1 | _ => b2, rfl, three (i64_of_wf w0) (i64_of_wf w1) (i64_of_wf w2), three (i64_of_wf x0) (i64_of_wf x1) (i64_of_wf x2)⟩
end
end Go.Proofs.YthopldpaoeabnaaDoor
