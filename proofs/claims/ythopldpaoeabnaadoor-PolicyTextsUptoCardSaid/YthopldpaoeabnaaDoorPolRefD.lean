/-
  stillageref22.Parse.
-/
import Derived.Test.YthopldpaoeabnaaDoorPolRefC
import Derived.Deep.DeepCutAuto
namespace Go.Proofs.YthopldpaoeabnaaDoor
open Go.RowKit
def upto (f : Nat → Int) (c : Nat) (i : Nat) : Int := if i < c then f i else 0
theorem box_setE (f g : Nat → Int) (c : Nat) (hc : c < 3) : (boxV (upto f c) (upto g c)).setIfInBounds c (.int .i64 (f c)) = boxV (upto f (c + 1)) (upto g c) := by
  rcases (by omega : c = 0 ∨ c = 1 ∨ c = 2) with rfl | rfl | rfl <;> rfl
theorem box_setK (f g : Nat → Int) (c : Nat) (hc : c < 3) : (boxV (upto f (c + 1)) (upto g c)).setIfInBounds (3 + c) (.int .i64 (g c)) = boxV (upto f (c + 1)) (upto g (c + 1)) := by
  rcases (by omega : c = 0 ∨ c = 1 ∨ c = 2) with rfl | rfl | rfl <;> rfl
theorem number_at (s : List UInt8) (p : Nat) (q : Int) (w : World) (hq : q = (p : Int)) (hp : p ≤ 1000) (hs : s.length ≤ 140737488355328) :
    Calls Tryd.prog 31 #[.string ⟨s.toArray⟩, .int .i64 q] w fun e w' => e = .returned (.tuple #[.int .i64 (decV (digs 5 (s.drop p))), .int .i64 ((digs 5 (s.drop p)).length : Int)]) ∧ w = w' := by
  subst hq
  exact (number_any s p w hp hs).mono fun _ _ ⟨a, b⟩ => ⟨a, b.symm⟩
set_option maxRecDepth 100000 in
set_option maxHeartbeats 1000000 in
theorem rparse_any (s : List UInt8) (w : World) (hs : s.length ≤ 140737488355328) :
    Calls Tryd.prog 13 #[.string ⟨s.toArray⟩] w fun e w' => e = .returned (parseV s) ∧ Keep w w' := by
  go_enter Tryd.func13, Tryd.ntmps13
  go_wp2_with fail
  go_loopw [5, 6] (fun p i wr => ∃ (c : Nat), c ≤ 3 ∧ i = .int .i64 (c : Int) ∧ p = .int .i64 (posR s c : Int) ∧ World.blk wr w.heap.size (boxV (fun _ => 0) (fun _ => 0)) 24 ∧ World.blk wr (w.heap.size + 1) (boxV (upto (rE s) c) (upto (rK s) c)) 24 ∧ Keep w wr) (fun _ i _ => 3 - (intOf i).toNat)
  case atStart => exact ⟨0, by omega, rfl, rfl, blk_alloc (blk_new _ _ _) _, blk_new_atD (by simp) _ _, ((Mod.refl _ _).alloc _).alloc _⟩
  case round =>
    obtain ⟨c, hc, rfl, rfl, hR, hB, hK⟩ := hrel
    have HR := Lib.hid hR
    have HB := Lib.hid hB
    have HK := Lib.hid hK
    have hpb := posR_bd s c
    clear hR hB hK
    by_cases hlt : c < 3
    · have d1 : (dE s c).length ≤ 5 := digs_len _ _
      have d2 : (dK s c).length ≤ 5 := digs_len _ _
      have Hst := Lib.hid (posR_succ s c)
      obtain ⟨hc1, hc2⟩ := box_E HB.out hlt
      have hf1 : wr.frozen? ⟨w.heap.size + 1, c, none⟩ = false := blk_free HB.out _ rfl
      go_wp2_with fail
      refine (number_at s (posR s c + 2) _ wr (by omega) (by omega) hs).mono ?_
      rintro e w1 ⟨rfl, rfl⟩
      rw [show digs 5 (s.drop (posR s c + 2)) = dE s c from rfl, show decV (dE s c) = rE s c from rfl]
      go_upto_region 9 with (fail)
      have HB1 : RowKit.Hid (World.blk (wr.setCell ⟨w.heap.size + 1, c, none⟩ (.int .i64 (rE s c))) (w.heap.size + 1) (boxV (upto (rE s) (c + 1)) (upto (rK s) c)) 24) := Lib.hid (by rw [← box_setE _ _ _ hlt]; exact blk_set HB.out _ _)
      have HR1 : RowKit.Hid (World.blk (wr.setCell ⟨w.heap.size + 1, c, none⟩ (.int .i64 (rE s c))) w.heap.size (boxV (fun _ => 0) (fun _ => 0)) 24) := Lib.hid (blk_set_other HR.out _ (by simp) _)
      have HK1 : RowKit.Hid (Keep w (wr.setCell ⟨w.heap.size + 1, c, none⟩ (.int .i64 (rE s c)))) := Lib.hid (HK.out.setCell (.inr (by simp)) _)
      generalize wr.setCell ⟨w.heap.size + 1, c, none⟩ (.int .i64 (rE s c)) = w1 at *
      clear hc1 hc2 hf1
      have hc2 : ∃ v, w1.cell? ⟨w.heap.size + 1, 3 + c, none⟩ = some v := by
        rcases (by omega : c = 0 ∨ c = 1 ∨ c = 2) with rfl | rfl | rfl <;> exact ⟨_, blk_cell HB1.out _⟩
      obtain ⟨vc, hc2⟩ := hc2
      have hf2 : w1.frozen? ⟨w.heap.size + 1, 3 + c, none⟩ = false := blk_free HB1.out _ rfl
      go_wp2_with fail
      refine (number_at s (posR s c + 2 + (dE s c).length + 1) _ w1 (by omega) (by omega) hs).mono ?_
      rintro e w2 ⟨rfl, rfl⟩
      rw [show digs 5 (s.drop (posR s c + 2 + (dE s c).length + 1)) = dK s c from rfl, show decV (dK s c) = rK s c from rfl]
      go_upto_region 12 with (fail)
      have HB2 : RowKit.Hid (World.blk (w1.setCell ⟨w.heap.size + 1, 3 + c, none⟩ (.int .i64 (rK s c))) (w.heap.size + 1) (boxV (upto (rE s) (c + 1)) (upto (rK s) (c + 1))) 24) := Lib.hid (by rw [← box_setK _ _ _ hlt]; exact blk_set HB1.out _ _)
      have HR2 : RowKit.Hid (World.blk (w1.setCell ⟨w.heap.size + 1, 3 + c, none⟩ (.int .i64 (rK s c))) w.heap.size (boxV (fun _ => 0) (fun _ => 0)) 24) := Lib.hid (blk_set_other HR1.out _ (by simp) _)
      have HK2 : RowKit.Hid (Keep w (w1.setCell ⟨w.heap.size + 1, 3 + c, none⟩ (.int .i64 (rK s c)))) := Lib.hid (HK1.out.setCell (.inr (by simp)) _)
      generalize w1.setCell ⟨w.heap.size + 1, 3 + c, none⟩ (.int .i64 (rK s c)) = w2 at *
      clear hc2 hf2
      go_wp2_with fail
      exact ⟨⟨c + 1, by omega, by go_num, by rw [Hst.out]; congr 1, HR2.out, HB2.out, HK2.out⟩, by simp [intOf]; omega⟩
    · obtain rfl : c = 3 := by omega
      have Hps := Lib.hid (parse_ref s)
      have hBx : World.blk wr (w.heap.size + 1) (boxV (rE s) (rK s)) 24 := HB.out
      have HBx := Lib.hid hBx
      have hcB := box_cells hBx
      have hcR := box_cells HR.out
      clear hBx hpb
      go_wp2_with fail
      refine (rprint_any (rE s) (rK s) wr).mono ?_
      rintro e w1 ⟨rfl, hk⟩
      have HK1 := Lib.hid (HK.out.keep hk)
      have HB1 := Lib.hid (blk_mod hk HBx.out id)
      have HR1 := Lib.hid (blk_mod hk HR.out id)
      have hR1 : World.blk w1 w.heap.size #[.int .i64 0, .int .i64 0, .int .i64 0, .int .i64 0, .int .i64 0, .int .i64 0] 24 := HR1.out
      have hlt2 := blk_lt hR1
      have hbx := box_cells (putB_blk_other (c := #[.int .i64 0, .int .i64 0, .int .i64 0, .int .i64 0, .int .i64 0, .int .i64 0]) (t := 24) HB1.out (Nat.ne_of_gt (Nat.lt_succ_self w.heap.size)))
      clear hk hcB hcR
      have ess : (s == s) = true := beq_self_eq_true s
      by_cases hp : polFits (rE s) (rK s)
      · by_cases ht : polText (rE s) (rK s) = s
        · have Hv : RowKit.Hid (parseV s = .tuple #[polV (rE s) (rK s), .int .i64 0]) := Lib.hid (by rw [Hps.out, if_pos ⟨hp, ht⟩])
          rw [show printV (rE s) (rK s) = .tuple #[.string ⟨s.toArray⟩, .int .i64 0] by rw [printV, if_pos hp, ht]]
          clear hp ht Hps
          rw [← putB_self hR1]
          clear hR1
          go_wp2_with fail
          exact bodyPost_ret (v := .tuple #[polV (rE s) (rK s), .int .i64 0]) (by simp [results, Tryd.results13, go_sem, hlt2, polV]) rfl ⟨by rw [Hv.out], HK1.out.putB (.inr (Nat.le_refl _)) _ _⟩
        · have Hv : RowKit.Hid (parseV s = .tuple #[polZ, .int .i64 220]) := Lib.hid (by rw [Hps.out, if_neg (fun h => ht h.2)])
          have hne : (polText (rE s) (rK s) == s) = false := beq_false_of_ne ht
          rw [show printV (rE s) (rK s) = .tuple #[.string ⟨(polText (rE s) (rK s)).toArray⟩, .int .i64 0] by rw [printV, if_pos hp]]
          clear hp ht Hps ess
          generalize polText (rE s) (rK s) = m at *
          rw [← putB_self hR1]
          clear hR1
          go_wp2_with fail
          exact bodyPost_ret (v := .tuple #[polZ, .int .i64 220]) (by simp [results, Tryd.results13, go_sem, hlt2, polV, polZ]) rfl ⟨by rw [Hv.out], HK1.out.putB (.inr (Nat.le_refl _)) _ _⟩
      · have Hv : RowKit.Hid (parseV s = .tuple #[polZ, .int .i64 220]) := Lib.hid (by rw [Hps.out, if_neg (fun h => hp h.1)])
        rw [show printV (rE s) (rK s) = .tuple #[.string ⟨#[]⟩, .int .i64 220] by rw [printV, if_neg hp]]
        clear hp Hps ess
        rw [← putB_self hR1]
        clear hR1
        go_wp2_with fail
        exact bodyPost_ret (v := .tuple #[polZ, .int .i64 220]) (by simp [results, Tryd.results13, go_sem, hlt2, polV, polZ]) rfl ⟨by rw [Hv.out], HK1.out.putB (.inr (Nat.le_refl _)) _ _⟩
end Go.Proofs.YthopldpaoeabnaaDoor
