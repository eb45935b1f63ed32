/-
  commands.take.
-/
import Derived.Test.YthmpblccplphfaaGreatDoorCmdField
namespace Go.Proofs.YthmpblccplphfaaGreatDoor
open Go.RowKit
set_option maxRecDepth 100000 in
set_option maxHeartbeats 1000000 in
theorem take_any (c : Cmd) (f : Nat) (hf : 1 ≤ f ∧ f ≤ 5) (s : List UInt8) (b : Nat) (w : World) (he : Env w) (hs : s.length ≤ 4398046511104) (hB : World.blk w b (cmdC c) 38) :
    Calls Tryz.prog 69 #[.pointer (some ⟨b, 0, none⟩), .int .i64 (f : Int), .string ⟨s.toArray⟩] w fun e w' => e = .returned (.tuple #[]) ∧ Mod (· = b) w w' ∧ World.blk w' b (cmdC (c.take f s)) 38 := by
  have He := Lib.hid he
  have HB := Lib.hid hB
  obtain ⟨c0, c1, c2, c3, c4⟩ := cmd_cells hB
  have fz : ∀ i, w.frozen? ⟨b, i, none⟩ = false := fun i => blk_free hB _ rfl
  have f1 := fz 1
  have f2 := fz 2
  have hbl := blk_lt hB
  clear he hB fz
  rcases (by omega : f = 1 ∨ f = 2 ∨ f = 3 ∨ f = 4 ∨ f = 5) with rfl | rfl | rfl | rfl | rfl
  · clear hf
    go_enter Tryz.func69, Tryz.ntmps69
    go_wp2_with fail
    go_end0
    exact ⟨rfl, (Mod.refl (· = b) w).setCell (p := ⟨b, _, none⟩) (.inl rfl) _, blk_set HB.out _ _⟩
  · clear hf
    go_enter Tryz.func69, Tryz.ntmps69
    go_wp2_with fail
    go_end0
    exact ⟨rfl, (Mod.refl (· = b) w).setCell (p := ⟨b, _, none⟩) (.inl rfl) _, blk_set HB.out _ _⟩
  · clear hf
    go_enter Tryz.func69, Tryz.ntmps69
    go_wp2_with fail
    refine (atoi_any s (by omega) w He.out).mono ?_
    rintro e w1 ⟨⟨x, rfl⟩, hk⟩
    have HB1 := Lib.hid (blk_mod hk HB.out id)
    have HK : RowKit.Hid (Mod (· = b) w w1) := Lib.hid (hk.mono (fun _ _ h => h.elim))
    obtain ⟨c0, c1, c2, c3, c4⟩ := cmd_cells HB1.out
    have f3 : w1.frozen? ⟨b, 3, none⟩ = false := blk_free HB1.out _ rfl
    clear hk
    go_wp2_with fail
    go_end0
    exact ⟨rfl, HK.out.setCell (.inl rfl) _, blk_set HB1.out _ _⟩
  · clear hf
    go_enter Tryz.func69, Tryz.ntmps69
    go_wp2_with fail
    refine (unhexed_any s w hs).mono ?_
    rintro e w1 ⟨rfl, hk⟩
    have HB1 := Lib.hid (blk_mod hk HB.out id)
    have HK : RowKit.Hid (Mod (· = b) w w1) := Lib.hid (hk.mono (fun _ _ h => h.elim))
    obtain ⟨c0, c1, c2, c3, c4⟩ := cmd_cells HB1.out
    have f4 : w1.frozen? ⟨b, 4, none⟩ = false := blk_free HB1.out _ rfl
    clear hk
    go_wp2_with fail
    go_end0
    exact ⟨rfl, HK.out.setCell (.inl rfl) _, blk_set HB1.out _ _⟩
  · clear hf
    go_enter Tryz.func69, Tryz.ntmps69
    go_wp2_with fail
    go_end0
    exact ⟨rfl, (Mod.refl (· = b) w).setCell (p := ⟨b, _, none⟩) (.inl rfl) _, blk_set HB.out _ _⟩
end Go.Proofs.YthmpblccplphfaaGreatDoor
