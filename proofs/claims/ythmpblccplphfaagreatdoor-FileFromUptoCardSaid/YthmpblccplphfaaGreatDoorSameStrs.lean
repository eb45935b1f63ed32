/-
  stillageref07.Same: two rows of strings.
-/
import Derived.Test.YthmpblccplphfaaGreatDoorRowsK
namespace Go.Proofs.YthmpblccplphfaaGreatDoor
open Go.RowKit
set_option maxRecDepth 100000 in
theorem same_strs (va vb : Value) (l m : List (List UInt8)) (w : World) (ha : RowAt w va (srow l)) (hb : RowAt w vb (srow m)) (hl : l.length ≤ 140737488355328) (hm : m.length ≤ 140737488355328) :
    Calls Tryz.prog 28 #[va, vb] w fun e w' => e = .returned (.bool (l == m)) ∧ Keep w w' := by
  obtain ⟨a, ca, rfl, hA⟩ := ha
  obtain ⟨b, cb, rfl, hB⟩ := hb
  rw [srow_len, srow_len]
  by_cases hlen : l.length = m.length
  · obtain ⟨N, hN⟩ : ∃ N, m.length = N := ⟨_, rfl⟩
    rw [hN] at hlen
    rw [hlen, hN]
    rw [hlen] at hl
    have HA := Lib.hid hA
    have HB := Lib.hid hB
    have Hlen := Lib.hid hlen
    have HN := Lib.hid hN
    clear hA hB hlen hN hm
    have hq : ((N : Int) != (N : Int)) = false := by rw [bne_eq_false_iff_eq]
    go_enter Tryz.func28, Tryz.ntmps28
    go_wp2_with fail
    go_loopw [5] (fun i wr => ∃ (k n : Nat), k ≤ N ∧ i = .int .i64 (k : Int) ∧ wr = w.drewN n ∧ RowKit.Hid (l.take k = m.take k)) (fun i _ => N - (intOf i).toNat)
    case atStart => exact ⟨0, 0, by omega, rfl, rfl, Lib.hid rfl⟩
    case round =>
      obtain ⟨k, n, hk, rfl, rfl, Ht⟩ := hrel
      by_cases hlt : k < N
      · have Hx : RowKit.Hid (∃ x y, l[k]? = some x ∧ m[k]? = some y) := Lib.hid ⟨_, _, List.getElem?_eq_getElem (by rw [Hlen.out]; exact hlt), List.getElem?_eq_getElem (by rw [HN.out]; exact hlt)⟩
        obtain ⟨x, y, hx, hy⟩ := Hx.out
        have Hxx := Lib.hid hx
        have Hyy := Lib.hid hy
        obtain ⟨b1, o1, rfl, c1⟩ := HA.out k (.string ⟨x.toArray⟩) (by simp [srow, hx])
        obtain ⟨b2, o2, rfl, c2⟩ := HB.out k (.string ⟨y.toArray⟩) (by simp [srow, hy])
        clear hx hy Hx
        go_wp2_with fail
        refine wp_region_qe (by kernel_rfl) (by kernel_rfl) ?_
        repeat (quiet_step (fail))
        refine wpQuiet_nil ?_
        intro _ hw'
        obtain ⟨nq, rfl⟩ := hw'
        by_cases hxy : x = y
        · rw [show (x == y) = true from beq_iff_eq.2 hxy]
          have Hxy := Lib.hid hxy
          clear hxy
          go_wp2_with fail
          refine ⟨⟨k + 1, _, by omega, by go_num, rfl, Lib.hid ?_⟩, by simp [intOf]; omega⟩
          rw [List.take_add_one, List.take_add_one, Ht.out, Hxx.out, Hyy.out, Hxy.out]
        · rw [show (x == y) = false from beq_false_of_ne hxy]
          have Hlm : RowKit.Hid ((l == m) = false) := Lib.hid (beq_false_of_ne (fun e => hxy (by have hx := Hxx.out; rw [e, Hyy.out] at hx; exact (Option.some.inj hx).symm)))
          clear hxy
          go_wp2_with fail
          go_ret
          exact ⟨by rw [Hlm.out]; rfl, (Mod.refl _ _).drewN _⟩
      · have hk2 : k = N := by omega
        have hlm : (l == m) = true := by
          rw [beq_iff_eq]
          have h1 := Ht.out
          rw [hk2] at h1
          rwa [List.take_of_length_le (by rw [Hlen.out]; exact Nat.le_refl _), List.take_of_length_le (by rw [HN.out]; exact Nat.le_refl _)] at h1
        have Hlm := Lib.hid hlm
        clear hk2 hlm
        go_wp2_with fail
        go_ret
        exact ⟨by rw [Hlm.out]; rfl, (Mod.refl _ _).drewN _⟩
  · have hq : ((l.length : Int) != (m.length : Int)) = true := by rw [bne_iff_ne]; omega
    have hlm : (l == m) = false := beq_false_of_ne (fun e => hlen (by rw [e]))
    have Hlm := Lib.hid hlm
    clear hlen hlm hA hB
    go_enter Tryz.func28, Tryz.ntmps28
    go_wp2_with fail
    go_ret
    exact ⟨by rw [Hlm.out]; rfl, Mod.refl _ _⟩
end Go.Proofs.YthmpblccplphfaaGreatDoor
