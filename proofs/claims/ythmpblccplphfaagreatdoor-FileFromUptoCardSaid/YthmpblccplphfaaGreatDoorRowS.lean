/-
  Slices of structs: what a slice holds, element by element; append of one struct. No program here.
-/
import Derived.Test.YthmpblccplphfaaGreatDoorOwnMore
namespace Go.Proofs.YthmpblccplphfaaGreatDoor
open Go.RowKit
section
variable {α : Type} {f : α → List Value} {sz : Nat}
theorem flat_get (hf : ∀ a, (f a).length = sz) (l : List α) : ∀ (j i : Nat), i < sz → (l.flatMap f)[j * sz + i]? = (l[j]?).bind fun a => (f a)[i]? := by
  induction l with
  | nil => intro j i _; simp
  | cons x r ih =>
    intro j i hi
    rw [List.flatMap_cons]
    cases j with
    | zero =>
      rw [Nat.zero_mul, Nat.zero_add, List.getElem?_append_left (by rw [hf]; exact hi)]
      simp
    | succ j =>
      rw [List.getElem?_append_right (by rw [hf, Nat.succ_mul]; omega), hf, show (j + 1) * sz + i - sz = j * sz + i by rw [Nat.succ_mul]; omega, ih j i hi]
      simp
theorem flat_len (hf : ∀ a, (f a).length = sz) (l : List α) : (l.flatMap f).length = l.length * sz := by
  induction l with
  | nil => simp
  | cons x r ih => rw [List.flatMap_cons, List.length_append, hf, ih, List.length_cons, Nat.succ_mul]; omega
/-- a slice of structs, element by element -/
def RowF (f : α → List Value) (sz : Nat) (w : World) (v : Value) (l : List α) : Prop :=
  ∃ a cap, v = .slice a l.length cap ∧ ∀ j x, l[j]? = some x → ∃ b o, a = some ⟨b, o, none⟩ ∧ ∀ i c, (f x)[i]? = some c → w.cell? ⟨b, o + j * sz + i, none⟩ = some c
abbrev OwnF (f : α → List Value) (sz : Nat) (t : TypeId) (w : World) (base : Nat) (v : Value) (l : List α) : Prop := w.ownsRow base t sz v l.length (l.flatMap f)
theorem rowF_own (hf : ∀ a, (f a).length = sz) {w : World} {base : Nat} {t : TypeId} {v : Value} {l : List α} (h : OwnF f sz t w base v l) : RowF f sz w v l := by
  rcases h.2 with ⟨rfl, h3⟩ | ⟨g, cap, cur, rfl, hb, hg, hnc, hm, hsz, htk⟩
  · have hl : l = [] := List.length_eq_zero_iff.1 (by omega)
    subst hl
    exact ⟨none, 0, rfl, fun j x h => by simp at h⟩
  · refine ⟨some ⟨g, 0, none⟩, cap, rfl, fun j x hx => ⟨g, 0, rfl, fun i c hc => ?_⟩⟩
    have hlt := (List.getElem?_eq_some_iff.1 hx).1
    have hi : i < sz := by have := (List.getElem?_eq_some_iff.1 hc).1; rwa [hf] at this
    have h1 := flat_get hf l j i hi
    rw [hx] at h1
    simp only [Option.bind_some] at h1
    rw [hc, ← htk, List.getElem?_take] at h1
    rw [Nat.zero_add]
    split at h1
    · simp [World.cell?, hg, ← Array.getElem?_toList, h1]
    · cases h1
theorem rowF_keep {w w' : World} {v : Value} {l : List α} (h : RowF f sz w v l) (k : Keep w w') : RowF f sz w' v l := by
  obtain ⟨a, cap, hv, hx⟩ := h
  refine ⟨a, cap, hv, fun j x hj => ?_⟩
  obtain ⟨b, o, e, hc⟩ := hx j x hj
  exact ⟨b, o, e, fun i c hi => by rw [k.cell (p := ⟨b, o + j * sz + i, none⟩) (lt_of_cell (hc i c hi)) id]; exact hc i c hi⟩
theorem rowF_mod {w w' : World} {v : Value} {l : List α} {S : Nat → Prop} (h : RowF f sz w v l) (k : Mod S w w') (hS : ∀ b o, (∃ n c, v = .slice (some ⟨b, o, none⟩) n c) → ¬ S b) : RowF f sz w' v l := by
  obtain ⟨a, cap, hv, hx⟩ := h
  refine ⟨a, cap, hv, fun j x hj => ?_⟩
  obtain ⟨b, o, e, hc⟩ := hx j x hj
  exact ⟨b, o, e, fun i c hi => by rw [k.cell (p := ⟨b, o + j * sz + i, none⟩) (lt_of_cell (hc i c hi)) (hS b o ⟨_, _, by rw [hv, e]⟩)]; exact hc i c hi⟩
theorem own_keepF {t : TypeId} {w w' : World} {base n : Nat} {v : Value} {xs : List Value} (h : w.ownsRow base t sz v n xs) (k : Keep w w') : w'.ownsRow base t sz v n xs := by
  obtain ⟨h1, h2⟩ := h
  refine ⟨h1, ?_⟩
  rcases h2 with h2 | ⟨g, cap, cur, a, b, c, d⟩
  · exact .inl h2
  · exact .inr ⟨g, cap, cur, a, b, k.obj c id, d⟩
/-- append(v, x): x a struct whose cells lie in the block that was made last -/
theorem append_struct {P : Program} {ts te : TypeId} {z : Value} {bytes : Nat} (hs : P.underlying ts = some (.slice te)) (hi : (P.info? te).map (fun i => (i.zero, i.size, i.bytes)) = some (some z, sz, bytes)) (hz : z.cells.size = sz) (hsz : 0 < sz)
    (hf : ∀ a, (f a).length = sz) (base : Nat) (v : Value) (l : List α) (w w0 : World) (hown : OwnF f sz te w base v l) (x : α) (h1 : ∀ u ∈ f x, u.oneCell' = true) (hn : l.length + 1 ≤ maxLen) (hnb : (l.length + 1) * bytes ≤ 140737488355328)
    (hbase : base ≤ w.heap.size) (h0 : Keep w0 w) (hb0 : w0.heap.size ≤ base) :
    ∃ v' w', (Builtin.append_ #[ts, ts] ts #[v, .slice (some ⟨w.heap.size, 0, none⟩) 1 1]).run P (w.alloc (.cells (f x).toArray te)) = .ok v' w' ∧ OwnF f sz te w' base v' (l ++ [x]) ∧ Keep w0 w' ∧ Mod (fun b => base ≤ b) w w' := by
  obtain ⟨i0, hi, hz0, hz1, hz2⟩ := info_parts hi
  obtain ⟨v', w', r1, r2, r3, _⟩ := run_append_own (P := P) (w.alloc (.cells (f x).toArray te)) base ts ts te i0 z sz bytes hs hi hz0 hz1 hz2 hz hsz v l.length (l.flatMap f) (hown.alloc _) ⟨w.heap.size, 0, none⟩ 1 1 (f x) (by rw [hf]; omega) (fun j u hu => by
    rw [addr_add, Nat.zero_add, World.cell?_alloc_at _ _ _ _ rfl]; simpa using hu) h1 (by exact hn) hnb (by simp; omega)
  refine ⟨v', w', r1, ?_, Mod.grown (h0.alloc _) r3 (fun k hk => .inr (Nat.le_trans hb0 (hown.lt k hk).1)), Mod.grown ((Mod.refl _ w).alloc _) r3 (fun k hk => .inl (hown.lt k hk).1)⟩
  unfold OwnF
  rw [List.flatMap_append, List.length_append]
  simpa using r2
end
theorem unalloc {w w' : World} {o : Obj} (h : Keep (w.alloc o) w') : Keep w w' := ((Mod.refl (fun _ => False) w).alloc o).keep h
theorem undrew {w w' : World} (h : Keep w.drew w') : Keep w w' := ((Mod.refl (fun _ => False) w).drew).keep h
theorem undrewN {w w' : World} {n : Nat} (h : Keep (w.drewN n) w') : Keep w w' := ((Mod.refl (fun _ => False) w).drewN n).keep h
/-- a name and its number -/
def entC (p : List UInt8 × Int) : List Value := [.string ⟨p.1.toArray⟩, .int .i64 p.2]
abbrev entV (p : List UInt8 × Int) : Value := .agg #[.string ⟨p.1.toArray⟩, .int .i64 p.2]
theorem entC_len : ∀ p, (entC p).length = 2 := fun _ => rfl
theorem gtr_before : ∀ (a b : List UInt8), (!(Op.bytesLess a b || a == b)) = bytesBefore b a
  | [], [] => by simp [bytesBefore]
  | [], _ :: _ => by simp [bytesBefore, Op.bytesLess]
  | _ :: _, [] => by simp [bytesBefore, Op.bytesLess]
  | x :: r, y :: s => by
    rw [bytesBefore, ← gtr_before r s, Op.bytesLess, List.cons_beq_cons]
    by_cases h1 : x < y
    · have h2 : ¬ y < x := fun h => absurd (UInt8.lt_trans h1 h) (UInt8.lt_irrefl _)
      have h4 : ¬ y = x := fun h => by subst h; exact UInt8.lt_irrefl _ h1
      simp [h1, h2, h4]
    · by_cases h2 : x = y
      · subst h2; simp [UInt8.lt_irrefl]
      · have h3 : y < x := by
          rcases UInt8.lt_or_lt_of_ne h2 with h | h
          · exact absurd h h1
          · exact h
        simp [h1, h2, h3]
end Go.Proofs.YthmpblccplphfaaGreatDoor
