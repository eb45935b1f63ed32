/-
  strings.Builder.WriteString at this dump.
-/
import Derived.Test.YthmpblccplphfaaGreatDoorOwnMore
namespace Go.Proofs.YthmpblccplphfaaGreatDoor
open Go.RowKit
theorem bld_keep {B b : Nat} {l : List UInt8} {w w' : World} (h : IsBld B b l w) (k : Keep w w') : IsBld B b l w' := by
  rcases h with ⟨hB, v, hb, ho, hn⟩ | ⟨hB, v, hb, ho, hn⟩
  · exact .inl ⟨hB, v, k.obj hb id, own_keep ho k, hn⟩
  · exact .inr ⟨hB, v, k.obj hb id, own_keep ho k, hn⟩
theorem bld_mod {B b : Nat} {l : List UInt8} {w w' : World} {S : Nat → Prop} (h : IsBld B b l w) (m : Mod S w w') (hb : ¬ S b) (hr : ∀ k c fr, w.heap[k]? = some (.cells c 5 fr) → ¬ S k) : IsBld B b l w' := by
  have own : ∀ {v : Value} {n : Nat} {xs : List Value}, w.ownsRow B 5 1 v n xs → w'.ownsRow B 5 1 v n xs := by
    rintro v n xs ⟨h1, h2 | ⟨g, cap, cur, a, b, c, d⟩⟩
    · exact ⟨h1, .inl h2⟩
    · exact ⟨h1, .inr ⟨g, cap, cur, a, b, m.obj c (hr g _ _ c), d⟩⟩
  rcases h with ⟨hB, v, hbk, ho, hn⟩ | ⟨hB, v, hbk, ho, hn⟩
  · exact .inl ⟨hB, v, m.obj hbk hb, own ho, hn⟩
  · exact .inr ⟨hB, v, m.obj hbk hb, own ho, hn⟩
theorem keep_below {w w2 w3 : World} {B : Nat} (h : Keep w w2) (hb : Below B w2 w3) (hB : w.heap.size ≤ B) : Keep w w3 :=
  ⟨hb.os.trans h.os, hb.tape.trans h.tape, hb.output.trans h.output, Nat.le_trans h.size hb.size, fun k hk _ => (hb.block k (Nat.lt_of_lt_of_le hk hB)).trans (h.block k hk id)⟩
/-- what a builder's write may turn: its own block, rows of bytes -/
def BldS (w : World) (b : Nat) (k : Nat) : Prop := k = b ∨ ∃ c fr, w.heap[k]? = some (.cells c 5 fr)
theorem bldS_not {w : World} {b k : Nat} {o : Obj} (hk : k ≠ b) (ho : w.heap[k]? = some o) (ht : ∀ c fr, o ≠ .cells c 5 fr) : ¬ BldS w b k := by
  rintro (h | ⟨c, fr, h⟩)
  · exact hk h
  · rw [ho] at h; exact ht c fr (Option.some.inj h)
theorem bldS_blk {w : World} {b k : Nat} {c : Array Value} {t : TypeId} (hk : k ≠ b) (ho : World.blk w k c t) (ht : t ≠ 5) : ¬ BldS w b k :=
  bldS_not hk ho (fun c' fr e => ht (by cases e; rfl))
theorem bld_check2 (B b : Nat) (bs : List Value) (w : World) (h : Lib.IsBuilder 158 5 B b bs w) :
    Calls Tryz.prog 140 #[.pointer (some ⟨b, 0, none⟩)] w fun e w' => e = .returned (.tuple #[]) ∧ (Lib.BuilderAt 158 5 B b (.pointer (some ⟨b, 0, none⟩)) bs w' ∧ Below B w w' ∧ Mod (· = b) w w') := by
  rcases h with h | h
  · refine (bld_check_fresh b w h.cell0 h.shape h.frozen0).mono ?_
    rintro e w' ⟨rfl, rfl⟩
    exact ⟨rfl, h.used _, (Below.refl B w).setCell (p := ⟨b, 0, none⟩) h.1 _, (Mod.refl (fun x => x = b) w).setCell (p := ⟨b, 0, none⟩) (.inl rfl) _⟩
  · refine (bld_check_used b w h.cell0).mono ?_
    rintro e w' ⟨rfl, rfl⟩
    exact ⟨rfl, h, Below.refl B _, Mod.refl _ _⟩
set_option maxHeartbeats 2000000 in
set_option maxRecDepth 100000 in
theorem bld_str (B b : Nat) (l s : List UInt8) (w : World) (h : IsBld B b l w) (hlen : l.length + s.length ≤ 140737488355328) (hBw : B ≤ w.heap.size) :
    Calls Tryz.prog 102 #[.pointer (some ⟨b, 0, none⟩), .string ⟨s.toArray⟩] w fun e w' => e = .returned (.tuple #[.int .i64 (s.length : Int), .nilIface]) ∧ IsBld B b (l ++ s) w' ∧ Below B w w' ∧ Mod (BldS w b) w w' := by
  unfold IsBld at *
  rw [Lib.byteCells_append]
  have hbl : (Lib.byteCells l).length = l.length := Lib.byteCells_length l
  have hsl : ({ data := s.toArray } : ByteArray).size = s.length := by simp [ByteArray.size]
  have hsc : Lib.byteCells s = Lib.strCells ⟨s.toArray⟩ := rfl
  rw [hsc]
  generalize Lib.byteCells l = bs at *
  rw [← hbl] at hlen
  clear hbl hsc
  obtain ⟨i0, hi, hz0, hz1, hz2⟩ := info_parts info_u8
  have hs63 : (s.length : Int) ≤ 9223372036854775807 := by omega
  go_enter Tryz.func102, Tryz.ntmps102
  go_wp2_with fail
  refine (bld_check2 B b bs _ h).mono ?_
  rintro e w1 ⟨rfl, h1, hb1, hm1⟩
  obtain ⟨hB, v, hbk, hown, hne⟩ := h1
  have c0 : w1.cell? ⟨b, 0, none⟩ = some (.pointer (some ⟨b, 0, none⟩)) := by rw [Lib.cell_of_heap hbk]; rfl
  have c1 : w1.cell? ⟨b, 1, none⟩ = some v := by rw [Lib.cell_of_heap hbk]; rfl
  go_wp2_with (at_builtin; refine Lib.wpList_append_own_string _ rfl _ _ 156 9 rfl B 5 i0 Tryz.underlying156 Tryz.underlying9 hi hz0 hz1 hz2 _ _ _ rfl hown ⟨s.toArray⟩ rfl ?c3 ?c4 ?c5 ?_)
  case c3 => rw [hsl]; unfold maxLen; omega
  case c4 => rw [hsl]; omega
  case c5 => have := hb1.size; omega
  intro v' w2 hown' hgrow _
  have hlt : b < w1.heap.size := by
    rcases Nat.lt_or_ge b w1.heap.size with h' | h'
    · exact h'
    · simp [Array.getElem?_eq_none h'] at hbk
  have hb2 : w2.heap[b]? = some (.cells #[.pointer (some ⟨b, 0, none⟩), v] 158 (0, 0)) := by
    rw [hgrow.block b hlt (fun e => hne e.symm)]
    exact hbk
  have d0 : w2.cell? ⟨b, 0, none⟩ = some (.pointer (some ⟨b, 0, none⟩)) := by rw [Lib.cell_of_heap hb2]; rfl
  have d1 : w2.cell? ⟨b, 1, none⟩ = some v := by rw [Lib.cell_of_heap hb2]; rfl
  have f1 : w2.frozen? ⟨b, 1, none⟩ = false := Lib.frozen_of_heap hb2 1
  obtain ⟨ao, n', cap, rfl⟩ : ∃ ao n' cap, v' = .slice ao n' cap := by
    rcases hown'.2 with ⟨hv, _⟩ | ⟨g, cap, cur, hv, _⟩
    · exact ⟨_, _, _, hv⟩
    · exact ⟨_, _, _, hv⟩
  have Hmod : RowKit.Hid (Mod (BldS w b) w w2) := Lib.hid ((hm1.mono (fun i _ e => .inl e)).grown hgrow (fun k hk => by
    by_cases e : k = b
    · exact .inl (.inl e)
    · rcases Nat.lt_or_ge k w.heap.size with hlt | hge
      · refine .inl (.inr ?_)
        rcases hown.2 with ⟨hv, _⟩ | ⟨g, cap, cur, hv, _, hg, _⟩
        · rw [hv] at hk; cases hk
        · rw [hv] at hk
          have : g = k := by simpa [Value.ownBlock] using hk
          subst this
          exact ⟨_, _, (hm1.block g hlt e).symm.trans hg⟩
      · exact .inr hge))
  have Hown := Lib.hid hown'
  have Hgr := Lib.hid hgrow
  have Hb1 := Lib.hid hb1
  have Hb2 := Lib.hid hb2
  have Hown0 := Lib.hid hown
  have Hsl := Lib.hid hsl
  clear hown' hgrow hb1 hb2 hown hbk h c0 c1 hi hz0 hz1 hz2 hsl hm1
  go_wp2_with fail
  go_ret2
  refine ⟨rfl, .inr ?_, ?_, ?_⟩
  · exact Lib.BuilderAt.put (T := 158) (e := 5) hB Hb2.out (bs' := bs ++ Lib.strCells ⟨s.toArray⟩) (by rw [List.length_append, Lib.strCells_length]; exact Hown.out) bld_ne
  · exact (Hb1.out.grown Hgr.out (by have := Hb1.out.size; omega) (fun k hk => (Hown0.out.lt k hk).1)).setCell (p := ⟨b, 1, none⟩) hB _
  · exact Hmod.out.setCell (p := ⟨b, 1, none⟩) (.inl (.inl rfl)) _
end Go.Proofs.YthmpblccplphfaaGreatDoor
