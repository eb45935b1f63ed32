/-
  Two policies, compared.
-/
import Derived.Test.YthopldpaoeabnaaDoorPolEval
import Derived.ChangeKeysEq
namespace Go.Proofs.YthopldpaoeabnaaDoor
open Go.RowKit
theorem eq3 (a b c x y z : Int) (W : World) : (Op.equalIn 9999 22 (.agg #[.int .i64 a, .int .i64 b, .int .i64 c]) (.agg #[.int .i64 x, .int .i64 y, .int .i64 z])).run Tryd.prog W = .ok (a == x && (b == y && c == z)) W := by
  obtain ⟨i, hi, _⟩ := info_parts info_int
  rw [run_equalIn_array W 9998 _ _ Tryd.underlying22 hi]
  have e : Tryd.prog.cellsOf 3 = 1 := by kernel_rfl
  have r : List.range 3 = [0, 1, 2] := rfl
  rw [e, r]
  have q : ∀ (u v : Int), (Op.equalIn 9998 3 (.int .i64 u) (.int .i64 v)).run Tryd.prog W = .ok (u == v) W := fun (u v : Int) => run_equalIn_int (P := Tryd.prog) W 9997 3 .i64 .i64 u v Tryd.underlying3
  have p0 := fun (u v t : Int) => (show (part 3 #[.int .i64 u, .int .i64 v, .int .i64 t] 0).run Tryd.prog W = .ok (.int .i64 u) W by simp [part, go_sem])
  have p1 := fun (u v t : Int) => (show (part 3 #[.int .i64 u, .int .i64 v, .int .i64 t] 1).run Tryd.prog W = .ok (.int .i64 v) W by simp [part, go_sem])
  have p2 := fun (u v t : Int) => (show (part 3 #[.int .i64 u, .int .i64 v, .int .i64 t] 2).run Tryd.prog W = .ok (.int .i64 t) W by simp [part, go_sem])
  simp only [Op.eqItems, Sem.run_bind, Nat.zero_mul, Nat.one_mul, Nat.mul_one, p0, p1, p2, q, Result.andThen_ok]
  by_cases h1 : a = x <;> by_cases h2 : b = y <;> by_cases h3 : c = z <;> simp [h1, h2, h3, p1, p2, q, Result.andThen]
end Go.Proofs.YthopldpaoeabnaaDoor
