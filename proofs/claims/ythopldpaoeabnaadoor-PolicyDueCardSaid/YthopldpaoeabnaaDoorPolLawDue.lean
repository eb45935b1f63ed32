/-
  PolicyDue's walk.
-/
import Derived.Test.YthopldpaoeabnaaDoorPolFixed
namespace Go.Proofs.YthopldpaoeabnaaDoor
open Go.RowKit
/-- a row of the call's own that may be written -/
def WRow (w : World) (base : Nat) (v : Value) (n : Nat) (t : TypeId) : Prop :=
  ∃ a cap, v = .slice a n cap ∧ (0 < n → ∃ g cur, a = some ⟨g, 0, none⟩ ∧ base ≤ g ∧ World.blk w g cur t ∧ n ≤ cur.size)
theorem wrow_of_own {w : World} {base n : Nat} {t : TypeId} {v : Value} {xs : List Value} (h : w.ownsRow base t 1 v n xs) : WRow w base v n t := by
  obtain ⟨h1, h2⟩ := h
  rcases h2 with ⟨rfl, h3⟩ | ⟨g, cap, cur, rfl, hb, hg, hnc, hm, hsz, htk⟩
  · subst h3; exact ⟨none, 0, rfl, fun h => by omega⟩
  · exact ⟨_, cap, rfl, fun _ => ⟨g, cur, rfl, hb, hg, by omega⟩⟩
theorem wrow_keep {w w' : World} {base n : Nat} {t : TypeId} {v : Value} (h : WRow w base v n t) (k : Keep w w') : WRow w' base v n t := by
  obtain ⟨a, cap, hv, hx⟩ := h
  exact ⟨a, cap, hv, fun h => by obtain ⟨g, cur, a, b, c, d⟩ := hx h; exact ⟨g, cur, a, b, blk_mod k c id, d⟩⟩
set_option maxRecDepth 100000 in
set_option maxHeartbeats 1000000 in
theorem law_due (E K : Nat → Int) (tick : Int) (w : World) (he : Env w) (hE : ∀ i, i < 3 → -9223372036854775808 ≤ E i ∧ E i ≤ 9223372036854775807) (ht : -9223372036854775808 ≤ tick ∧ tick ≤ 9223372036854775807) :
    Calls Tryd.prog 5 #[polV E K, .int .i64 tick] w fun e w' => e = .returned (.bool true) ∧ Keep w w' := by
  have He := Lib.hid he
  have HE := Lib.hid hE
  have Ht := Lib.hid ht
  clear he hE ht
  go_enter Tryd.func5, Tryd.ntmps5
  unfold polV
  go_wp2_with fail
  go_loopw [5] (fun i wr => ∃ (k : Nat), k ≤ 2 ∧ i = .int .i64 (k : Int) ∧ World.blk wr w.heap.size (boxV E K) 24 ∧ Keep w wr) (fun i _ => 2 - (intOf i).toNat)
  case atStart => exact ⟨0, by omega, rfl, blk_new _ _ _, (Mod.refl _ _).alloc _⟩
  case round =>
    obtain ⟨k, hk, rfl, hB, hK⟩ := hrel
    have HB := Lib.hid hB
    have HK := Lib.hid hK
    have hbx := box_cells hB
    have Hlt := Lib.hid (blk_lt hB)
    clear hB hK
    by_cases hlt : k < 2
    · go_wp2_with fail
      refine (due_any E K tick wr HE.out Ht.out).mono ?_
      rintro e w1 ⟨v, rfl, hk1, ho⟩
      have HB1 := Lib.hid (blk_mod hk1 HB.out id)
      have HK1 := Lib.hid (HK.out.keep hk1)
      have HV1 := Lib.hid ho
      have hbx := box_cells HB1.out
      clear hk1 ho HB HK
      go_wp2_with fail
      refine (rdue_any E K tick w1 HE.out Ht.out).mono ?_
      rintro e w2 ⟨v2, rfl, hk2, ho⟩
      have HB2 := Lib.hid (blk_mod hk2 HB1.out id)
      have HK2 := Lib.hid (HK1.out.keep hk2)
      have HV2 := Lib.hid (own_keep HV1.out hk2)
      have HU2 := Lib.hid ho
      clear hk2 ho HB1 HK1 HV1 hbx
      go_wp2_with fail
      refine (same_ints v v2 (due E tick 3) (due E tick 3) w2 (row_of_own HV2.out) (row_of_own HU2.out) (by have := due_len E tick 3; omega) (by have := due_len E tick 3; omega)).mono ?_
      rintro e w3 ⟨rfl, hk3⟩
      have HB3 := Lib.hid (blk_mod hk3 HB2.out id)
      have HK3 := Lib.hid (HK2.out.keep hk3)
      have hV3 := wrow_keep (wrow_of_own HV2.out) hk3
      have hn : (due E tick 3).length ≤ 3 := due_len E tick 3
      rw [show ((due E tick 3 == due E tick 3) : Bool) = true from beq_self_eq_true _]
      clear hk3 HB2 HK2 HV2 HU2
      generalize (due E tick 3).length = n at *
      generalize wr.heap.size = B0 at *
      obtain ⟨a, cap, rfl, hx⟩ := hV3
      have HX := Lib.hid hx
      clear hx
      go_wp2_with fail
      go_loopw [7] (fun i wr => ∃ (m : Nat), m ≤ n ∧ i = .int .i64 (m : Int) ∧ World.blk wr w.heap.size (boxV E K) 24 ∧ Keep w wr ∧ WRow wr B0 (.slice a n cap) n 3) (fun i _ => n - (intOf i).toNat)
      case atStart => exact ⟨0, by omega, rfl, HB3.out, HK3.out, ⟨a, cap, rfl, HX.out⟩⟩
      case round =>
        clear HB3 HK3 HX
        obtain ⟨m, hm, rfl, hB, hK, hX⟩ := hrel
        have HB := Lib.hid hB
        have HK := Lib.hid hK
        have HX := Lib.hid hX
        clear hB hK hX
        by_cases hmn : m < n
        · obtain ⟨a', cap', hv, hx⟩ := HX.out
          obtain ⟨g, cur, ha, hbg, hblk, hcs⟩ := hx (by omega)
          cases hv
          subst ha
          have HX2 := Lib.hid (And.intro hbg (And.intro hblk hcs))
          have c1 : (wr.cell? ⟨g, m, none⟩).isSome = true := by rw [blk_cell hblk]; simp; omega
          have c2 : wr.frozen? ⟨g, m, none⟩ = false := blk_free hblk _ rfl
          obtain ⟨x, hx1⟩ := Option.isSome_iff_exists.1 c1
          clear hbg hblk hcs c1 hx
          go_wp2_with fail
          refine ⟨⟨m + 1, by omega, by go_num, blk_set_other HB.out _ (by have := HX2.out.1; have := Hlt.out; simp; omega) _, HK.out.setCell (.inr (by have := HX2.out.1; have := Hlt.out; simp; omega)) _, ⟨_, cap, rfl, fun _ => ⟨g, _, rfl, HX2.out.1, blk_set HX2.out.2.1 _ _, by simpa using HX2.out.2.2⟩⟩⟩, by simp [intOf]; omega⟩
        · go_wp2_with fail
          exact ⟨⟨k + 1, by omega, by go_num, HB.out, HK.out⟩, by simp [intOf]; omega⟩
    · go_wp2_with fail
      refine (fixed_any wr (He.out.keep HK.out)).mono ?_
      rintro e w1 ⟨rfl, hk1⟩
      have HK1 := Lib.hid (HK.out.keep hk1)
      clear hk1
      go_wp2_with fail
      go_ret
      exact ⟨rfl, HK1.out⟩
end Go.Proofs.YthopldpaoeabnaaDoor
