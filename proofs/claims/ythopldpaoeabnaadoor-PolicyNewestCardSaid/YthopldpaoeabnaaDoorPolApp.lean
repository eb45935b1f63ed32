/-
  An append whose row is told by its block: two rows side by side.
-/
import Derived.Test.YthopldpaoeabnaaDoorPolStrs
import Derived.Maps.AppendAt
namespace Go.Proofs.YthopldpaoeabnaaDoor
open Go.RowKit
theorem append_own2 {P : Program} {ts te : TypeId} {z : Value} {bytes : Nat} (hs : P.underlying ts = some (.slice te)) (hi : (P.info? te).map (fun i => (i.zero, i.size, i.bytes)) = some (some z, 1, bytes)) (hz : z.cells.size = 1) (base : Nat) (v : Value) (n : Nat) (xs : List Value) (w w0 : World)
    (hown : w.ownsRow base te 1 v n xs) (news : List Value) (h1 : ∀ u ∈ news, u.oneCell' = true) (hn : n + news.length ≤ maxLen) (hnb : (n + news.length) * bytes ≤ 140737488355328) (hbase : base ≤ w.heap.size) (h0 : Keep w0 w) (hb0 : w0.heap.size ≤ base) :
    ∃ v' w', (Builtin.append_ #[ts, ts] ts #[v, .slice (some ⟨w.heap.size, 0, none⟩) news.length news.length]).run P (w.alloc (.cells news.toArray te)) = .ok v' w' ∧ w'.ownsRow base te 1 v' (n + news.length) (xs ++ news) ∧ Keep w0 w' ∧ Mod (fun b => v.ownBlock = some b) w w' ∧ (v'.ownBlock = v.ownBlock ∨ v'.ownBlock = some (w.heap.size + 1)) := by
  obtain ⟨i0, hi, hz0, hz1, hz2⟩ := info_parts hi
  obtain ⟨v', w', h1, h2, h3, _, h5⟩ := run_append_own_at (P := P) (w := w.alloc (.cells news.toArray te)) base ts ts te i0 z 1 bytes hs hi hz0 hz1 hz2 hz (by decide) v n xs (hown.alloc _) ⟨w.heap.size, 0, none⟩ news.length news.length news (by simp) (fun j u hu => by
    rw [addr_add, Nat.zero_add, World.cell?_alloc_at _ _ _ _ rfl]; simpa using hu) h1 (by exact hn) hnb (by simp; omega)
  exact ⟨v', w', h1, h2, Mod.grown (h0.alloc _) h3 (fun k hk => .inr (Nat.le_trans hb0 (hown.lt k hk).1)), Mod.grown ((Mod.refl _ w).alloc _) h3 (fun k hk => .inl hk), by simpa using h5⟩
theorem own_mod3 {w w' : World} {base n : Nat} {t : TypeId} {v : Value} {xs : List Value} {S : Nat → Prop} (h : w.ownsRow base t 1 v n xs) (k : Mod S w w') (hS : ∀ b, v.ownBlock = some b → ¬ S b) : w'.ownsRow base t 1 v n xs := by
  obtain ⟨h1, h2⟩ := h
  refine ⟨h1, ?_⟩
  rcases h2 with h2 | ⟨g, cap, cur, rfl, b, c, d⟩
  · exact .inl h2
  · exact .inr ⟨g, cap, cur, rfl, b, k.obj c (hS g rfl), d⟩
theorem own_block_lt {w : World} {base n : Nat} {t : TypeId} {v : Value} {xs : List Value} (h : w.ownsRow base t 1 v n xs) : ∀ b, v.ownBlock = some b → b < w.heap.size := by
  intro b hb
  obtain ⟨h1, h2⟩ := h
  rcases h2 with ⟨rfl, _⟩ | ⟨g, cap, cur, rfl, _, c, _⟩
  · simp [Value.ownBlock] at hb
  · simp [Value.ownBlock] at hb
    subst hb; exact lt_of_obj c
end Go.Proofs.YthopldpaoeabnaaDoor
