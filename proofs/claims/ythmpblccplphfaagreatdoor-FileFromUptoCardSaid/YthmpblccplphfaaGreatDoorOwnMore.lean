/-
  Rows of the call's own: more of them; intsO; single bytes. No program here.
-/
import Derived.Test.YthmpblccplphfaaGreatDoorRowsK
import Derived.Test.YthmpblccplphfaaGreatDoorBuilder
import Derived.Test.YthmpblccplphfaaGreatDoorMapView
namespace Go.Proofs.YthmpblccplphfaaGreatDoor
open Go.RowKit
theorem info_intO : (Tryz.prog.info? 3).map (fun i => (i.zero, i.size, i.bytes)) = some (some (.int .i64 0), 1, 8) := by kernel_rfl
def intsO (l : List Int) : List Value := l.map (Value.int .i64)
@[simp] theorem ints_lenO (l : List Int) : (intsO l).length = l.length := by simp [intsO]
abbrev OwnIntsO (w : World) (base : Nat) (v : Value) (l : List Int) : Prop := w.ownsRow base 3 1 v l.length (intsO l)
abbrev OwnBytes (w : World) (base : Nat) (v : Value) (l : List UInt8) : Prop := w.ownsRow base 5 1 v l.length (u8s l)
theorem own_baseO {w : World} {base base' n sz : Nat} {t : TypeId} {v : Value} {xs : List Value} (h : w.ownsRow base t sz v n xs) (hb : base' ≤ base) : w.ownsRow base' t sz v n xs := by
  obtain ⟨h1, h2⟩ := h
  refine ⟨h1, ?_⟩
  rcases h2 with h2 | ⟨g, cap, cur, a, b, c, d⟩
  · exact .inl h2
  · exact .inr ⟨g, cap, cur, a, Nat.le_trans hb b, c, d⟩
theorem add_intsO {w : World} {base : Nat} {v : Value} {l : List Int} {c : Int} (h : w.ownsRow base 3 1 v (l.length + [Value.int .i64 c].length) (intsO l ++ [.int .i64 c])) : OwnIntsO w base v (l ++ [c]) := by
  have e : intsO (l ++ [c]) = intsO l ++ [.int .i64 c] := by simp [intsO]
  have e2 : (l ++ [c]).length = l.length + [Value.int .i64 c].length := by simp
  unfold OwnIntsO
  rw [e, e2]; exact h
/-- string(b) of bytes of the call's own -/
theorem run_str_own {w : World} {base : Nat} {v : Value} {l : List UInt8} (h : OwnBytes w base v l) : (convert 156 9 v).run Tryz.prog w = .ok (.string ⟨l.toArray⟩) w := by
  rcases h.2 with ⟨rfl, h3⟩ | ⟨g, cap, cur, rfl, hb, hg, hnc, hm, hsz, htk⟩
  · obtain rfl := List.length_eq_zero_iff.1 h3
    rw [run_convert_bytes_string w _ _ 5 _ 0 0 Tryz.underlying156 Tryz.underlying5 Tryz.underlying9]
    simp [Conv.bytesToString]
    rfl
  · refine run_str w _ _ 5 g 0 _ cap l Tryz.underlying156 Tryz.underlying5 Tryz.underlying9 rfl (fun j hj => ?_)
    rw [Nat.zero_add, ← htk, List.getElem?_take, if_pos (by omega)]
    simp [World.cell?, hg]
end Go.Proofs.YthmpblccplphfaaGreatDoor
