/-
  Memory across a call: which old blocks may have turned ('Mod'), and what single stores, draws and new blocks do to a block. No program here.
-/
import Derived.WalkKit
import Derived.WalkLawsBesides
import Derived.WalkSpells
import Derived.Deep.Draws
import Derived.Lib.Hide
namespace Go.Proofs.YthmpblccplphfaaGreatDoor
open Go.RowKit

/-- From w to w': streams and tape as they were, no block has gone, and each old block outside S is what it was. -/
structure Mod (S : Nat → Prop) (w w' : World) : Prop where
  os : w'.os = w.os
  tape : w'.tape = w.tape
  output : w'.output = w.output
  size : w.heap.size ≤ w'.heap.size
  block : ∀ k, k < w.heap.size → ¬ S k → w'.heap[k]? = w.heap[k]?

/-- nothing old has turned -/
abbrev Keep (w w' : World) : Prop := Mod (fun _ => False) w w'

theorem Mod.refl (S : Nat → Prop) (w : World) : Mod S w w := ⟨rfl, rfl, rfl, Nat.le_refl _, fun _ _ _ => rfl⟩
theorem Mod.trans {S T : Nat → Prop} {a b c : World} (h : Mod S a b) (k : Mod T b c) (hT : ∀ i, i < a.heap.size → T i → S i) : Mod S a c :=
  ⟨k.os.trans h.os, k.tape.trans h.tape, k.output.trans h.output, Nat.le_trans h.size k.size,
    fun i hi hS => (k.block i (Nat.lt_of_lt_of_le hi h.size) (fun ht => hS (hT i hi ht))).trans (h.block i hi hS)⟩
theorem Mod.mono {S T : Nat → Prop} {a b : World} (h : Mod S a b) (hT : ∀ i, i < a.heap.size → S i → T i) : Mod T a b :=
  ⟨h.os, h.tape, h.output, h.size, fun i hi hS => h.block i hi (fun hs => hS (hT i hi hs))⟩
theorem Mod.keep {S : Nat → Prop} {a b c : World} (h : Mod S a b) (k : Keep b c) : Mod S a c := h.trans k (fun _ _ => False.elim)
theorem Mod.new {S : Nat → Prop} {a b c : World} {k : Nat} (h : Mod S a b) (m : Mod (· = k) b c) (hk : a.heap.size ≤ k) : Mod S a c := h.trans m (fun i hi e => by subst e; omega)
theorem Mod.drew {S : Nat → Prop} {a w : World} (h : Mod S a w) : Mod S a w.drew := ⟨h.os, h.tape, h.output, h.size, h.block⟩
theorem Mod.drawn {S : Nat → Prop} {a w : World} (h : Mod S a w) (n : Nat) : Mod S a { w with drawn := n } := ⟨h.os, h.tape, h.output, h.size, h.block⟩
theorem Mod.drewN {S : Nat → Prop} {a w : World} (h : Mod S a w) (n : Nat) : Mod S a (w.drewN n) := ⟨h.os, h.tape, h.output, h.size, h.block⟩
theorem Mod.alloc {S : Nat → Prop} {a w : World} (h : Mod S a w) (o : Obj) : Mod S a (w.alloc o) :=
  ⟨h.os, h.tape, h.output, by have := h.size; simp; omega, fun k hk hS => by rw [Below.heap_alloc _ _ _ (Nat.lt_of_lt_of_le hk h.size)]; exact h.block k hk hS⟩
theorem Mod.setCell {S : Nat → Prop} {a w : World} (h : Mod S a w) {p : Addr} (hp : S p.block ∨ a.heap.size ≤ p.block) (u : Value) : Mod S a (w.setCell p u) :=
  ⟨h.os, h.tape, h.output, by have := h.size; simpa [World.setCell] using this, fun k hk hS => by
    rw [Below.heap_setCell _ _ _ _ (fun e => by subst e; rcases hp with hp | hp; exact hS hp; omega)]; exact h.block k hk hS⟩
theorem Mod.cell {S : Nat → Prop} {w w' : World} (h : Mod S w w') {p : Addr} (hp : p.block < w.heap.size) (hS : ¬ S p.block) : w'.cell? p = w.cell? p :=
  World.cell?_of_block (w := w) (h.block p.block hp hS)
theorem Mod.frozen {S : Nat → Prop} {w w' : World} (h : Mod S w w') {p : Addr} (hp : p.block < w.heap.size) (hS : ¬ S p.block) : w'.frozen? p = w.frozen? p :=
  World.frozen?_of_block (w := w) (h.block p.block hp hS)
theorem lt_of_cell {w : World} {a : Addr} {v : Value} (h : w.cell? a = some v) : a.block < w.heap.size := by
  unfold World.cell? at h
  cases hb : w.heap[a.block]? with
  | none => simp [hb] at h
  | some o => exact (Array.getElem?_eq_some_iff.1 hb).1
theorem lt_of_obj {w : World} {b : Nat} {o : Obj} (h : w.heap[b]? = some o) : b < w.heap.size := (Array.getElem?_eq_some_iff.1 h).1
theorem Mod.below {w w' : World} (h : Keep w w') : Below w.heap.size w w' := ⟨h.os, h.tape, h.output, h.size, fun k hk => h.block k hk id⟩
theorem Mod.ofBelow {w w' : World} (h : Below w.heap.size w w') : Keep w w' := ⟨h.os, h.tape, h.output, h.size, fun k hk _ => h.block k hk⟩
theorem Mod.obj {S : Nat → Prop} {w w' : World} (h : Mod S w w') {b : Nat} {o : Obj} (hb : w.heap[b]? = some o) (hS : ¬ S b) : w'.heap[b]? = some o :=
  (h.block b (lt_of_obj hb) hS).trans hb

/-- a block of cells known whole, none of them frozen -/
def World.blk (w : World) (b : Nat) (c : Array Value) (t : TypeId) : Prop := w.heap[b]? = some (.cells c t (0, 0))
theorem blk_cell {w : World} {b : Nat} {c : Array Value} {t : TypeId} (h : World.blk w b c t) (i : Nat) : w.cell? ⟨b, i, none⟩ = c[i]? := by
  unfold World.blk at h; simp [World.cell?, h]
theorem blk_free {w : World} {b : Nat} {c : Array Value} {t : TypeId} (h : World.blk w b c t) (a : Addr) (ha : a.block = b) : w.frozen? a = false := by
  unfold World.blk at h; subst ha; simp [World.frozen?, h]
theorem blk_lt {w : World} {b : Nat} {c : Array Value} {t : TypeId} (h : World.blk w b c t) : b < w.heap.size := lt_of_obj h
theorem blk_set {w : World} {b : Nat} {c : Array Value} {t : TypeId} (h : World.blk w b c t) (i : Nat) (v : Value) : World.blk (w.setCell ⟨b, i, none⟩ v) b (c.setIfInBounds i v) t := by
  have hlt := blk_lt h
  unfold World.blk at *
  have h' : w.heap[b] = .cells c t (0, 0) := by simpa [Array.getElem?_eq_getElem hlt] using h
  show (w.heap.modify b _)[b]? = _
  rw [Array.getElem?_eq_getElem (by simpa using hlt), Array.getElem_modify_self, h']
  rfl
theorem blk_set_other {w : World} {b : Nat} {c : Array Value} {t : TypeId} (h : World.blk w b c t) (p : Addr) (hp : b ≠ p.block) (v : Value) : World.blk (w.setCell p v) b c t := by
  unfold World.blk at *; rw [Below.heap_setCell _ _ _ _ hp]; exact h
theorem blk_alloc {w : World} {b : Nat} {c : Array Value} {t : TypeId} (h : World.blk w b c t) (o : Obj) : World.blk (w.alloc o) b c t := by
  have hlt := blk_lt h
  unfold World.blk at *; rw [Below.heap_alloc _ _ _ hlt]; exact h
theorem blk_new (w : World) (c : Array Value) (t : TypeId) : World.blk (w.alloc (.cells c t)) w.heap.size c t := by
  unfold World.blk; show (w.heap.push _)[_]? = _; simp
theorem blk_drewN {w : World} {b : Nat} {c : Array Value} {t : TypeId} (h : World.blk w b c t) (n : Nat) : World.blk (w.drewN n) b c t := h
theorem blk_drew {w : World} {b : Nat} {c : Array Value} {t : TypeId} (h : World.blk w b c t) : World.blk w.drew b c t := h
theorem blk_mod {S : Nat → Prop} {w w' : World} (m : Mod S w w') {b : Nat} {c : Array Value} {t : TypeId} (h : World.blk w b c t) (hS : ¬ S b) : World.blk w' b c t := m.obj h hS

end Go.Proofs.YthmpblccplphfaaGreatDoor
namespace Go
/-- The world w, block b holding the cells c: the walk's normal form for a block that is written again and again. -/
def World.putB (w : World) (b : Nat) (c : Array Value) (t : TypeId) : World := { w with heap := w.heap.setIfInBounds b (.cells c t (0, 0)) }
end Go
namespace Go.Proofs.YthmpblccplphfaaGreatDoor
open Go.RowKit
section
variable {w : World} {b : Nat} {c : Array Value} {t : TypeId}
theorem putB_self (h : World.blk w b c t) : w.putB b c t = w := by
  have hlt := blk_lt h
  unfold World.blk at h
  show ({ w with heap := w.heap.setIfInBounds b _ } : World) = w
  have e : w.heap.setIfInBounds b (.cells c t (0, 0)) = w.heap := by
    apply Array.ext_getElem?
    intro i
    by_cases hi : b = i
    · subst hi; rw [Array.getElem?_setIfInBounds_self_of_lt hlt]; exact h.symm
    · rw [Array.getElem?_setIfInBounds_ne hi]
  rw [e]
@[go_sem] theorem setCell_drewN (n : Nat) (a : Addr) (v : Value) : (w.drewN n).setCell a v = (w.setCell a v).drewN n := rfl
@[go_sem] theorem alloc_drewN (n : Nat) (o : Obj) : (w.drewN n).alloc o = (w.alloc o).drewN n := rfl
@[go_sem] theorem putB_drewN (n : Nat) : (w.drewN n).putB b c t = (w.putB b c t).drewN n := rfl
@[go_sem] theorem putB_size : (w.putB b c t).heap.size = w.heap.size := by simp [World.putB]
theorem putB_blk (hb : b < w.heap.size) : World.blk (w.putB b c t) b c t := by
  unfold World.blk; show (w.heap.setIfInBounds b _)[b]? = _; rw [Array.getElem?_setIfInBounds_self_of_lt hb]
@[go_sem] theorem putB_cell (hb : b < w.heap.size) (i : Nat) : (w.putB b c t).cell? ⟨b, i, none⟩ = c[i]? := blk_cell (putB_blk hb) i
@[go_sem] theorem putB_frozen (hb : b < w.heap.size) (i : Nat) : (w.putB b c t).frozen? ⟨b, i, none⟩ = false := blk_free (putB_blk hb) _ rfl
theorem putB_other {k : Nat} (hk : k ≠ b) : (w.putB b c t).heap[k]? = w.heap[k]? := by
  show (w.heap.setIfInBounds b _)[k]? = _; rw [Array.getElem?_setIfInBounds_ne (Ne.symm hk)]
theorem putB_cell_other {a : Addr} (hk : a.block ≠ b) : (w.putB b c t).cell? a = w.cell? a := World.cell?_of_block (putB_other hk)
theorem putB_frozen_other {a : Addr} (hk : a.block ≠ b) : (w.putB b c t).frozen? a = w.frozen? a := World.frozen?_of_block (putB_other hk)
theorem putB_blk_other {k : Nat} {d : Array Value} {u : TypeId} (h : World.blk w k d u) (hk : k ≠ b) : World.blk (w.putB b c t) k d u := (putB_other hk).trans h
@[go_sem] theorem putB_putB (d : Array Value) (u : TypeId) : (w.putB b c t).putB b d u = w.putB b d u := by
  show ({ w with heap := (w.heap.setIfInBounds b _).setIfInBounds b _ } : World) = { w with heap := _ }; rw [Array.setIfInBounds_setIfInBounds]
@[go_sem] theorem putB_setCell (hb : b < w.heap.size) (i : Nat) (v : Value) : (w.putB b c t).setCell ⟨b, i, none⟩ v = w.putB b (c.setIfInBounds i v) t := by
  show ({ w with heap := (w.heap.setIfInBounds b _).modify b _ } : World) = { w with heap := _ }
  have e : (w.heap.setIfInBounds b (.cells c t (0, 0))).modify b (fun
      | .cells c elem frozen => .cells (if (none : Option Nat).isSome then c else c.setIfInBounds i v) elem frozen
      | o => o) = w.heap.setIfInBounds b (.cells (c.setIfInBounds i v) t (0, 0)) := by
    apply Array.ext_getElem?
    intro k
    by_cases hk : b = k
    · subst hk
      have hb' : b < (w.heap.setIfInBounds b (.cells c t (0, 0))).size := by simpa using hb
      rw [Array.getElem?_setIfInBounds_self_of_lt hb, Array.getElem?_modify, if_pos rfl, Array.getElem?_setIfInBounds_self_of_lt hb]
      rfl
    · rw [Array.getElem?_modify, if_neg hk, Array.getElem?_setIfInBounds_ne hk, Array.getElem?_setIfInBounds_ne hk]
  exact congrArg (fun h => ({ w with heap := h } : World)) e
theorem alloc_putB (d : Array Value) (u : TypeId) : (w.alloc (.cells c t)).putB w.heap.size d u = w.alloc (.cells d u) := by
  show ({ w with heap := (w.heap.push _).setIfInBounds w.heap.size _ } : World) = { w with heap := w.heap.push _ }
  have e : (w.heap.push (.cells c t)).setIfInBounds w.heap.size (.cells d u (0, 0)) = w.heap.push (.cells d u) := by
    apply Array.ext_getElem?
    intro i
    by_cases hi : w.heap.size = i
    · subst hi; rw [Array.getElem?_setIfInBounds_self_of_lt (by simp)]; simp
    · rw [Array.getElem?_setIfInBounds_ne hi, Array.getElem?_push, Array.getElem?_push, if_neg (Ne.symm hi), if_neg (Ne.symm hi)]
  rw [e]
theorem Mod.putB {S : Nat → Prop} {a w : World} (h : Mod S a w) {b : Nat} (hp : S b ∨ a.heap.size ≤ b) (c : Array Value) (t : TypeId) : Mod S a (w.putB b c t) :=
  ⟨h.os, h.tape, h.output, by have := h.size; simpa [World.putB] using this, fun k hk hS => by
    rw [putB_other (fun e => by subst e; rcases hp with hp | hp; exact hS hp; omega)]; exact h.block k hk hS⟩
end
end Go.Proofs.YthmpblccplphfaaGreatDoor
