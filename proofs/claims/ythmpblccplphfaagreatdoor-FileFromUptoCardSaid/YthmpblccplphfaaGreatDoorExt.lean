/-
  A world with blocks behind it: the class of worlds in which nothing old has turned, as an equation that the walk sees through. Regions whose calls make memory. No program here.
-/
import Derived.Test.YthmpblccplphfaaGreatDoorOrder
namespace Go
structure Later where
  objs : Array Obj
  drawn : Nat
instance : Inhabited Later := ⟨⟨#[], 0⟩⟩
def World.ext (w : World) (x : Later) : World := { w with heap := w.heap ++ x.objs, drawn := x.drawn }
end Go
namespace Go.Proofs.YthmpblccplphfaaGreatDoor
open Go.RowKit
section
variable {w : World} {x y : Later}
theorem ext_block {k : Nat} (h : k < w.heap.size) : (w.ext x).heap[k]? = w.heap[k]? := by
  show (w.heap ++ x.objs)[k]? = _
  rw [Array.getElem?_append_left h]
@[go_sem] theorem ext_size : (w.ext x).heap.size = w.heap.size + x.objs.size := by simp [World.ext]
@[go_sem] theorem ext_cell {b : Nat} (h : b < w.heap.size) (i : Nat) : (w.ext x).cell? ⟨b, i, none⟩ = w.cell? ⟨b, i, none⟩ := World.cell?_of_block (a := ⟨b, i, none⟩) (ext_block h)
@[go_sem] theorem ext_frozen {b : Nat} (h : b < w.heap.size) (i : Nat) : (w.ext x).frozen? ⟨b, i, none⟩ = w.frozen? ⟨b, i, none⟩ := World.frozen?_of_block (a := ⟨b, i, none⟩) (ext_block h)
theorem keep_ext (w : World) (x : Later) : Keep w (w.ext x) := ⟨rfl, rfl, rfl, by simp [World.ext], fun _ hk _ => ext_block hk⟩
theorem ext_of_keep {w w' : World} (h : Keep w w') : ∃ x, w' = w.ext x := by
  refine ⟨⟨w'.heap.extract w.heap.size w'.heap.size, w'.drawn⟩, ?_⟩
  obtain ⟨os, tape, output, size, block⟩ := h
  have e : w.heap ++ w'.heap.extract w.heap.size w'.heap.size = w'.heap := by
    apply Array.ext_getElem?
    intro i
    by_cases hi : i < w.heap.size
    · rw [Array.getElem?_append_left hi, block i hi id]
    · rw [Array.getElem?_append_right (by omega), Array.getElem?_extract]
      split
      · rw [show w.heap.size + (i - w.heap.size) = i by omega]
      · rw [Array.getElem?_eq_none (by omega)]
  show w' = { w with heap := w.heap ++ _, drawn := _ }
  rw [e, ← os, ← tape, ← output]
end
/-- At a call within a quiet region: a contract that keeps what was there. -/
theorem quiet_keep {P : Program} {f : FuncId} {args : Array Value} {w : World} {x : Later} {v : Value}
    (h : Calls P f args (w.ext x) fun e w' => e = .returned v ∧ Keep (w.ext x) w') : Calls P f args (w.ext x) fun e w'' => e = .returned v ∧ ∃ y, w'' = w.ext y :=
  h.mono fun _ _ ⟨he, hk⟩ => ⟨he, ext_of_keep ((keep_ext w x).keep hk)⟩
/-- m moves, quiet operations (calls may make memory), a forced tail. -/
theorem wp_region_km {P : Program} {id : Nat} {Q : Exit → Act → World → Prop} {a : Act} {w : World} {l : List Oper} (m n : Nat) (hm : P.follows .mixedOrders = true) (hB : Region.lexMidB .any l.toArray m n = true)
    (hQ : ∀ c o v a w, Q (.panic c) (Act.put a o v) w → Q (.panic c) a w)
    (h : wpPure P l.toArray (wpQuiet P l.toArray (fun w' => ∃ x, w' = w.ext x) (fun a' => ∀ w', (∃ x, w' = w.ext x) → wpList P l.toArray Q (l.drop n) a' w') ((l.take n).drop m)) (l.take m) a) : (Code.region id l.toArray true).wp P Q a w :=
  wp_region_mid m n (fun w' => ∃ x, w' = w.ext x) hm hB hQ (ext_of_keep ((Mod.refl _ w).drawn _)) h
theorem wp_region_kt {P : Program} {id : Nat} {Q : Exit → Act → World → Prop} {a : Act} {w : World} {l : List Oper} (n : Nat) (hm : P.follows .mixedOrders = true) (hB : Region.lexTailB .any l.toArray n = true)
    (h : wpQuiet P l.toArray (fun w' => ∃ x, w' = w.ext x) (fun a' => ∀ w', (∃ x, w' = w.ext x) → wpList P l.toArray Q (l.drop n) a' w') (l.take n) a) : (Code.region id l.toArray true).wp P Q a w :=
  wp_region_qt n (fun w' => ∃ x, w' = w.ext x) hm hB (ext_of_keep ((Mod.refl _ w).drawn _)) h
theorem wp_region_ke {P : Program} {id : Nat} {Q : Exit → Act → World → Prop} {a : Act} {w : World} {l : List Oper} (hm : P.follows .mixedOrders = true) (hB : Region.lexB .any l.toArray = true)
    (h : wpQuiet P l.toArray (fun w' => ∃ x, w' = w.ext x) (fun a' => ∀ w', (∃ x, w' = w.ext x) → Q .normal a' w') l a) : (Code.region id l.toArray true).wp P Q a w :=
  wp_region_quiet (C := fun w' => ∃ x, w' = w.ext x) hm hB (ext_of_keep ((Mod.refl _ w).drawn _)) (by simpa using h)
end Go.Proofs.YthmpblccplphfaaGreatDoor
