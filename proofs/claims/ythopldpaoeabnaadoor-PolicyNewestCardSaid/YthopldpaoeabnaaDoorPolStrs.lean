/-
  A slice of strings that came in, as a row; a row's head and tail.
-/
import Derived.Test.YthopldpaoeabnaaDoorPolOpen
namespace Go.Proofs.YthopldpaoeabnaaDoor
open Go.ChangeShapes Go.WideShapes Go.ChangeAt Go.RowKit
section
variable {H : Type} {enc : TypeId × Value → H} {P : Program}
theorem open_cap {W : World} {base : Nat} {ts te : TypeId} {a : Option Addr} {n cap : Nat} {d : DataW H} {p : List MemPlace} (hts : P.underlying ts = some (.slice te)) (hte : P.underlying te = some .string) (hc : P.cellsOf te = 1)
    (h : DataW.Trod enc P W 0 (fun _ => true) true ts (.slice a n cap) d p) : n ≤ cap ∧ (a = none → n = 0) := by
  obtain ⟨fuel, hf⟩ := h
  rcases open_strings hts hte hc hf with ⟨hcs, _⟩ | ⟨a, len', cap', ss, hcs, _, hl, _⟩
  · simp [Value.cells] at hcs
    obtain ⟨rfl, rfl, rfl⟩ := hcs
    exact ⟨by omega, fun _ => rfl⟩
  · simp [Value.cells] at hcs
    obtain ⟨rfl, rfl, rfl⟩ := hcs
    exact ⟨hl, fun h => by cases h⟩
end
def namesOf (f : Nat → List UInt8) (n : Nat) : List (List UInt8) := (List.range n).map f
theorem namesOf_len (f : Nat → List UInt8) (n : Nat) : (namesOf f n).length = n := by simp [namesOf]
theorem row_of_strs {w : World} {a : Option Addr} {n m : Nat} {f : Nat → List UInt8} (cap : Nat) (h : StrsAt w a n f) (hm : m ≤ n) : RowAt w (.slice a m cap) (srow (namesOf f m)) := by
  refine ⟨a, cap, by rw [srow_len, namesOf_len], fun j x hj => ?_⟩
  have hlt : j < m := by have := (List.getElem?_eq_some_iff.1 hj).1; rwa [srow_len, namesOf_len] at this
  obtain ⟨_, b, o, ha, hc⟩ := h.2 j (by omega)
  refine ⟨b, o, ha, ?_⟩
  rw [hc, ← hj]
  simp [srow, namesOf, hlt]
theorem names_short {w : World} {a : Option Addr} {n m : Nat} {f : Nat → List UInt8} (h : StrsAt w a n f) (hm : m ≤ n) : ∀ x ∈ namesOf f m, x.length ≤ 140737488355328 := by
  intro x hx
  simp only [namesOf, List.mem_map, List.mem_range] at hx
  obtain ⟨i, hi, rfl⟩ := hx
  have := (h.2 i (by omega)).1
  omega
/-- the tail of a row of the call's own -/
theorem row_drop {w : World} {base n len cap : Nat} {t : TypeId} {a : Option Addr} {xs : List Value} (h : w.ownsRow base t 1 (.slice a len cap) n xs) (k : Nat) (hk : k ≤ xs.length) (ca : Nat) :
    RowAt w (.slice (a.map fun p => ⟨p.block, p.off + k, p.spot⟩) (xs.length - k) ca) (xs.drop k) := by
  obtain ⟨a', c', hv, hc⟩ := row_of_own h
  cases hv
  refine ⟨_, _, by rw [List.length_drop], fun j x hj => ?_⟩
  rw [List.getElem?_drop] at hj
  obtain ⟨b, o, ha, hcell⟩ := hc _ x hj
  subst ha
  exact ⟨b, o + k, rfl, by rw [Nat.add_assoc]; exact hcell⟩
theorem keeps_short (K : Nat → Int) (names : List (List UInt8)) {B : Nat} (h : ∀ x ∈ names, x.length ≤ B) : ∀ x ∈ keeps K names, x.length ≤ B := by
  have sub : ∀ (r : List (List UInt8)) (h : Nat → Int), ∀ x ∈ kRun K r h, x ∈ r := by
    intro r
    induction r with
    | nil => intro h x hx; simp [kRun] at hx
    | cons s r ih =>
      intro h x hx
      unfold kRun at hx
      split at hx
      · rcases List.mem_cons.1 hx with rfl | hx
        · simp
        · exact List.mem_cons_of_mem _ (ih _ x hx)
      · split at hx
        · exact List.mem_cons_of_mem _ (ih _ x hx)
        · rcases List.mem_cons.1 hx with rfl | hx
          · simp
          · exact List.mem_cons_of_mem _ (ih _ x hx)
  intro x hx
  rw [keeps] at hx
  have := sub _ _ x (List.mem_reverse.1 hx)
  exact h x (List.mem_reverse.1 this)
theorem keeps_len (K : Nat → Int) (names : List (List UInt8)) : (keeps K names).length ≤ names.length := by
  rw [keeps, List.length_reverse]
  have := kRun_len K names.reverse (fun _ => 0)
  rwa [List.length_reverse] at this
end Go.Proofs.YthopldpaoeabnaaDoor
