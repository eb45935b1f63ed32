/-
  Rows of values in slices: what a call owns, what came in; strings; append(row, other...).
-/
import Derived.Test.YthmpblccplphfaaGreatDoorLibCalls
import Derived.Deep.Upon
namespace Go.Proofs.YthmpblccplphfaaGreatDoor
open Go.RowKit
theorem info_str : (Tryz.prog.info? 9).map (fun i => (i.zero, i.size, i.bytes)) = some (some (.string ⟨#[]⟩), 1, 16) := by kernel_rfl
theorem own_keep {w w' : World} {base n : Nat} {t : TypeId} {v : Value} {xs : List Value} (h : w.ownsRow base t 1 v n xs) (k : Keep w w') : w'.ownsRow base t 1 v n xs := by
  obtain ⟨h1, h2⟩ := h
  refine ⟨h1, ?_⟩
  rcases h2 with h2 | ⟨g, cap, cur, a, b, c, d⟩
  · exact .inl h2
  · exact .inr ⟨g, cap, cur, a, b, k.obj c id, d⟩
theorem add_str_cells {w : World} {base : Nat} {v : Value} {xs ys : List (List UInt8)} (h : w.ownsRow base 9 1 v (xs.length + (scells ys).toList.length) ((scells xs).toList ++ (scells ys).toList)) : OwnStrs w base v (xs ++ ys) := by
  have e : (scells (xs ++ ys)).toList = (scells xs).toList ++ (scells ys).toList := by simp [scells]
  have e2 : (xs ++ ys).length = xs.length + (scells ys).toList.length := by simp [scells]
  unfold OwnStrs
  rw [e, e2]; exact h
theorem blk_new_at {w : World} {b : Nat} (h : b = w.heap.size) (c : Array Value) (t : TypeId) : World.blk (w.alloc (.cells c t)) b c t := h ▸ blk_new w c t
/-- a slice whose elements are known -/
def RowAt (w : World) (v : Value) (xs : List Value) : Prop :=
  ∃ a cap, v = .slice a xs.length cap ∧ ∀ j x, xs[j]? = some x → ∃ b o, a = some ⟨b, o, none⟩ ∧ w.cell? ⟨b, o + j, none⟩ = some x
theorem row_of_own {w : World} {base n : Nat} {t : TypeId} {v : Value} {xs : List Value} (h : w.ownsRow base t 1 v n xs) : RowAt w v xs := by
  obtain ⟨h1, h2⟩ := h
  have hn : n = xs.length := by omega
  rcases h2 with ⟨rfl, h3⟩ | ⟨g, cap, cur, rfl, hb, hg, hnc, hm, hsz, htk⟩
  · obtain rfl : xs = [] := List.length_eq_zero_iff.1 (by omega)
    exact ⟨none, 0, rfl, fun j x h => by simp at h⟩
  · refine ⟨some ⟨g, 0, none⟩, cap, by rw [hn], fun j x hx => ⟨g, 0, rfl, ?_⟩⟩
    have hlt := (List.getElem?_eq_some_iff.1 hx).1
    rw [Nat.zero_add]
    have hc : cur.toList[j]? = some x := by
      rw [← htk, List.getElem?_take] at hx
      split at hx
      · exact hx
      · cases hx
    simp [World.cell?, hg, ← Array.getElem?_toList, hc]
theorem row_keep {w w' : World} {v : Value} {xs : List Value} (h : RowAt w v xs) (k : Keep w w') : RowAt w' v xs := by
  obtain ⟨a, cap, hv, hx⟩ := h
  refine ⟨a, cap, hv, fun j x hj => ?_⟩
  obtain ⟨b, o, e, hc⟩ := hx j x hj
  exact ⟨b, o, e, by rw [k.cell (p := ⟨b, o + j, none⟩) (lt_of_cell hc) id]; exact hc⟩
theorem row_new {w : World} {b : Nat} {c : Array Value} {t : TypeId} (cap : Nat) (h : World.blk w b c t) : RowAt w (.slice (some ⟨b, 0, none⟩) c.size cap) c.toList :=
  ⟨_, _, rfl, fun j x hx => ⟨b, 0, rfl, by rw [Nat.zero_add, blk_cell h]; simpa using hx⟩⟩
def srow (l : List (List UInt8)) : List Value := l.map fun x => Value.string ⟨x.toArray⟩
@[simp] theorem srow_len (l : List (List UInt8)) : (srow l).length = l.length := by simp [srow]
theorem own_mod {w w' : World} {base n : Nat} {t : TypeId} {v : Value} {xs : List Value} {S : Nat → Prop} (h : w.ownsRow base t 1 v n xs) (k : Mod S w w') (hS : ∀ b, base ≤ b → ¬ S b) : w'.ownsRow base t 1 v n xs := by
  obtain ⟨h1, h2⟩ := h
  refine ⟨h1, ?_⟩
  rcases h2 with h2 | ⟨g, cap, cur, a, b, c, d⟩
  · exact .inl h2
  · exact .inr ⟨g, cap, cur, a, b, k.obj c (hS g b), d⟩
theorem scells_toList_len (l : List (List UInt8)) : (scells l).toList.length = l.length := by simp [scells]
theorem scells_drop (l : List (List UInt8)) (k : Nat) : (scells l).toList.drop k = srow (l.drop k) := by simp [scells, srow, List.map_drop]
theorem scells_srow (l : List (List UInt8)) : (scells l).toList = srow l := by simp [scells, srow]
theorem row_strs {w : World} {base : Nat} {v : Value} {xs : List (List UInt8)} (h : OwnStrs w base v xs) : RowAt w v (srow xs) := by
  have h1 := row_of_own h
  rw [scells_srow] at h1; exact h1
theorem row_nil {w : World} {xs : List (List UInt8)} (h : xs = []) : RowAt w (.slice none 0 0) (srow xs) := by
  subst h; exact ⟨none, 0, rfl, fun j x hj => by simp [srow] at hj⟩
/-- append(v, row...): the row came from elsewhere -/
theorem append_row {P : Program} {ts te : TypeId} {z : Value} {bytes : Nat} (hs : P.underlying ts = some (.slice te)) (hi : (P.info? te).map (fun i => (i.zero, i.size, i.bytes)) = some (some z, 1, bytes)) (hz : z.cells.size = 1) (base : Nat) (v : Value) (n : Nat) (xs : List Value) (w w0 : World)
    (hown : w.ownsRow base te 1 v n xs) (va : Value) (ys : List Value) (ha : RowAt w va ys) (h1 : ∀ u ∈ ys, u.oneCell' = true) (hn : n + ys.length ≤ maxLen) (hnb : (n + ys.length) * bytes ≤ 140737488355328) (hbase : base ≤ w.heap.size) (h0 : Keep w0 w) (hb0 : w0.heap.size ≤ base) :
    ∃ v' w', (Builtin.append_ #[ts, ts] ts #[v, va]).run P w = .ok v' w' ∧ w'.ownsRow base te 1 v' (n + ys.length) (xs ++ ys) ∧ Keep w0 w' ∧ Mod (fun b => base ≤ b) w w' := by
  obtain ⟨i0, hi, hz0, hz1, hz2⟩ := info_parts hi
  obtain ⟨a, cap, rfl, hx⟩ := ha
  rcases a with _ | a
  · have hy : ys = [] := by
      cases ys with
      | nil => rfl
      | cons y ys => obtain ⟨b, o, hb, _⟩ := hx 0 y rfl; cases hb
    subst hy
    obtain ⟨a0, sl, sc, rfl, hle⟩ : ∃ a0 sl sc, v = .slice a0 sl sc ∧ sl ≤ sc := by
      rcases hown.2 with ⟨rfl, h⟩ | ⟨g, cp, cur, rfl, _, _, hc, _⟩
      · exact ⟨none, 0, 0, rfl, Nat.le_refl _⟩
      · exact ⟨_, _, _, rfl, hc⟩
    refine ⟨_, w, run_append_nothing w ts ts ts te i0 hs hi a0 sl sc hle (.slice none 0 cap) (Src.ofNil w hs cap), by simpa using hown, h0, Mod.refl _ _⟩
  · have hnews : ∀ j u, ys[j]? = some u → w.cell? (a.add j) = some u := fun j u hj => by
      obtain ⟨b, o, hb, hc⟩ := hx j u hj
      cases hb
      rw [addr_add]; exact hc
    obtain ⟨v', w', r1, r2, r3, _⟩ := run_append_own (P := P) w base ts ts te i0 z 1 bytes hs hi hz0 hz1 hz2 hz (by decide) v n xs hown a ys.length cap ys (by simp) hnews h1 hn hnb hbase
    exact ⟨v', w', r1, r2, Mod.grown h0 r3 (fun k hk => .inr (Nat.le_trans hb0 (hown.lt k hk).1)), Mod.grown (Mod.refl _ w) r3 (fun k hk => .inl (hown.lt k hk).1)⟩
theorem srow_one (l : List (List UInt8)) : ∀ u ∈ srow l, u.oneCell' = true := by
  intro u hu
  simp only [srow, List.mem_map] at hu
  obtain ⟨x, _, rfl⟩ := hu
  rfl
end Go.Proofs.YthmpblccplphfaaGreatDoor
