/-
  Rows of strings: what the last walks of the chapter share; append(row, other...).
-/
import Derived.Test.YthopldpaoeabnaaDoorPolApp
import Derived.Test.YthopldpaoeabnaaDoorPolKLaw
import Derived.Deep.Upon
namespace Go.Proofs.YthopldpaoeabnaaDoor
open Go.RowKit
theorem scells_toList_len (l : List (List UInt8)) : (scells l).toList.length = l.length := by simp [scells]
theorem scells_drop (l : List (List UInt8)) (k : Nat) : (scells l).toList.drop k = srow (l.drop k) := by simp [scells, srow, List.map_drop]
theorem scells_srow (l : List (List UInt8)) : (scells l).toList = srow l := by simp [scells, srow]
theorem row_strs {w : World} {base : Nat} {v : Value} {xs : List (List UInt8)} (h : OwnStrs w base v xs) : RowAt w v (srow xs) := by
  have h1 := row_of_own h
  rw [scells_srow] at h1; exact h1
theorem row_nil {w : World} {xs : List (List UInt8)} (h : xs = []) : RowAt w (.slice none 0 0) (srow xs) := by
  subst h; exact ⟨none, 0, rfl, fun j x hj => by simp [srow] at hj⟩
theorem names_take (f : Nat → List UInt8) (n : Nat) : (namesOf f n).length = n := namesOf_len f n
/-- append(v, row...): the row came from elsewhere -/
theorem append_row {P : Program} {ts te : TypeId} {z : Value} {bytes : Nat} (hs : P.underlying ts = some (.slice te)) (hi : (P.info? te).map (fun i => (i.zero, i.size, i.bytes)) = some (some z, 1, bytes)) (hz : z.cells.size = 1) (base : Nat) (v : Value) (n : Nat) (xs : List Value) (w w0 : World)
    (hown : w.ownsRow base te 1 v n xs) (va : Value) (ys : List Value) (ha : RowAt w va ys) (h1 : ∀ u ∈ ys, u.oneCell' = true) (hn : n + ys.length ≤ maxLen) (hnb : (n + ys.length) * bytes ≤ 140737488355328) (hbase : base ≤ w.heap.size) (h0 : Keep w0 w) (hb0 : w0.heap.size ≤ base) :
    ∃ v' w', (Builtin.append_ #[ts, ts] ts #[v, va]).run P w = .ok v' w' ∧ w'.ownsRow base te 1 v' (n + ys.length) (xs ++ ys) ∧ Keep w0 w' ∧ Mod (fun b => base ≤ b) w w' := by
  obtain ⟨i0, hi, hz0, hz1, hz2⟩ := info_parts hi
  obtain ⟨a, cap, rfl, hx⟩ := ha
  rcases a with _ | a
  · have hy : ys = [] := by
      cases ys with
      | nil => rfl
      | cons y ys => obtain ⟨b, o, hb, _⟩ := hx 0 y rfl; cases hb
    subst hy
    obtain ⟨a0, sl, sc, rfl, hle⟩ : ∃ a0 sl sc, v = .slice a0 sl sc ∧ sl ≤ sc := by
      rcases hown.2 with ⟨rfl, h⟩ | ⟨g, cp, cur, rfl, _, _, hc, _⟩
      · exact ⟨none, 0, 0, rfl, Nat.le_refl _⟩
      · exact ⟨_, _, _, rfl, hc⟩
    refine ⟨_, w, run_append_nothing w ts ts ts te i0 hs hi a0 sl sc hle (.slice none 0 cap) (Src.ofNil w hs cap), by simpa using hown, h0, Mod.refl _ _⟩
  · have hnews : ∀ j u, ys[j]? = some u → w.cell? (a.add j) = some u := fun j u hj => by
      obtain ⟨b, o, hb, hc⟩ := hx j u hj
      cases hb
      rw [addr_add]; exact hc
    obtain ⟨v', w', r1, r2, r3, _⟩ := run_append_own (P := P) w base ts ts te i0 z 1 bytes hs hi hz0 hz1 hz2 hz (by decide) v n xs hown a ys.length cap ys (by simp) hnews h1 hn hnb hbase
    exact ⟨v', w', r1, r2, Mod.grown h0 r3 (fun k hk => .inr (Nat.le_trans hb0 (hown.lt k hk).1)), Mod.grown (Mod.refl _ w) r3 (fun k hk => .inl (hown.lt k hk).1)⟩
theorem srow_one (l : List (List UInt8)) : ∀ u ∈ srow l, u.oneCell' = true := by
  intro u hu
  simp only [srow, List.mem_map] at hu
  obtain ⟨x, _, rfl⟩ := hu
  rfl
end Go.Proofs.YthopldpaoeabnaaDoor
