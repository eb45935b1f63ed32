/-
  slices.Reverse over a row of strings of the call's own.
-/
import Derived.Test.YthopldpaoeabnaaDoorPolSame
namespace Go.Proofs.YthopldpaoeabnaaDoor
open Go.RowKit
theorem setCells_mod {S : Nat → Prop} {w0 : World} (b : Nat) (hb : S b ∨ w0.heap.size ≤ b) : ∀ (vs : List Value) (o : Nat) (w : World), Mod S w0 w → Mod S w0 (w.setCells b o vs)
  | [], _, _, h => h
  | v :: r, o, w, h => setCells_mod b hb r (o + 1) _ (h.setCell (p := ⟨b, o, none⟩) hb v)
theorem rev_any (xs : List (List UInt8)) (base : Nat) (v : Value) (w : World) (h : OwnStrs w base v xs) (hn : xs.length ≤ 140737488355328) :
    Calls Tryd.prog 33 #[v] w fun e w' => e = .returned (.tuple #[]) ∧ RowAt w' v (srow xs.reverse) ∧ Mod (fun b => base ≤ b) w w' := by
  obtain ⟨h1, h2⟩ := h
  rcases h2 with ⟨rfl, h3⟩ | ⟨g, cap, cur, rfl, hb, hg, hnc, hm, hsz, htk⟩
  · obtain rfl := List.length_eq_zero_iff.1 h3
    exact (Tryd.slices_Reverse_string_empty none 0 w).mono fun e w' ⟨a, b⟩ => ⟨a, ⟨none, 0, rfl, fun j x hj => by simp [srow] at hj⟩, b ▸ Mod.refl _ _⟩
  · have hc : ∀ i, i < xs.length → w.cell? ⟨g, 0 + i, none⟩ = some (.string ⟨(xs.getD i []).toArray⟩) := fun i hi => by
      have hc : cur.toList[i]? = some (Value.string ⟨(xs.getD i []).toArray⟩) := by
        have : (cur.toList.take (xs.length * 1))[i]? = some (Value.string ⟨(xs.getD i []).toArray⟩) := by rw [htk]; simp [scells, hi]
        rwa [List.getElem?_take, if_pos (by omega)] at this
      rw [Nat.zero_add]
      simp [World.cell?, hg, ← Array.getElem?_toList, hc]
    have hs : Lib.strsOf (fun i => ⟨(xs.getD i []).toArray⟩) xs.length = xs := by
      apply List.ext_getElem?
      intro i
      by_cases hi : i < xs.length
      · simp [Lib.strsOf, hi]
      · simp [Lib.strsOf, hi]
    refine (Tryd.slices_Reverse_string_cells g 0 xs.length cap (fun i => ⟨(xs.getD i []).toArray⟩) w (by omega) hc (fun j hj => blk_free hg _ rfl)).mono ?_
    rintro e w' ⟨rfl, q, rfl⟩
    rw [hs]
    have hl : (srow xs.reverse).length = xs.length := by simp
    refine ⟨rfl, ⟨some ⟨g, 0, none⟩, cap, by rw [srow_len, List.length_reverse], fun j x hj => ⟨g, 0, rfl, ?_⟩⟩, setCells_mod g (.inl hb) _ _ _ ((Mod.refl _ w).drewN q)⟩
    have hj2 : j < (srow xs.reverse).length := by
      have := (List.getElem?_eq_some_iff.1 hj).1
      rw [srow_len, List.length_reverse] at this; omega
    show ((w.drewN q).setCells g 0 (srow xs.reverse)).cell? _ = _
    rw [World.cell?_setCells_in g _ _ _ (fun i hi => by rw [World.cell?_drewN, hc i (by omega)]; rfl) j hj2]
    rw [← hj, ← List.getElem?_eq_getElem hj2]
end Go.Proofs.YthopldpaoeabnaaDoor
