/-
  The walks of CommandPrints, CommandParses, CommandJoins.
-/
import Derived.Test.YtpjfeonhdkkfpaaDoorCmdFixed
namespace Go.Proofs.YtpjfeonhdkkfpaaDoor
open Go.RowKit
theorem printV_form (c : Cmd) : ∃ (m : List UInt8) (er : Int), printV c = .tuple #[.string ⟨m.toArray⟩, .int .i64 er] := by
  rw [printV]; split
  · exact ⟨_, _, rfl⟩
  · exact ⟨[], _, rfl⟩
theorem parseV_form (s : List UInt8) : ∃ (c : Cmd) (er : Int), parseV s = .tuple #[cmdV c, .int .i64 er] := by
  rw [parseV]; split
  · exact ⟨_, _, rfl⟩
  · exact ⟨_, _, rfl⟩
set_option maxRecDepth 100000 in
set_option maxHeartbeats 1000000 in
theorem law_prints (c : Cmd) (w : World) (he : Env w) (hc : c.Small) :
    Calls Tryd.prog 4 #[cmdV c] w fun e w' => e = .returned (.bool true) ∧ Keep w w' := by
  have He := Lib.hid he
  have Hc := Lib.hid hc
  obtain ⟨m, er, hm⟩ := printV_form c
  have emm : (m == m) = true := beq_self_eq_true m
  have Hm := Lib.hid hm
  clear he hc hm
  go_enter Tryd.func4, Tryd.ntmps4
  unfold cmdV cmdC
  go_wp2_with fail
  refine (print_any c _ (He.out.keep ((Mod.refl _ _).alloc _)) Hc.out).mono ?_
  rintro e w1 ⟨rfl, hk⟩
  have HB1 : RowKit.Hid (World.blk w1 w.heap.size (cmdC c) 30) := Lib.hid (blk_mod hk (blk_new _ _ _) id)
  have HK1 : RowKit.Hid (Keep w w1) := Lib.hid (((Mod.refl _ w).alloc _).keep hk)
  obtain ⟨c0, c1, c2, c3, c4⟩ := cmd_cells HB1.out
  clear hk
  rw [Hm.out]
  go_wp2_with fail
  refine (rprint_any c _ Hc.out).mono ?_
  rintro e w2 ⟨rfl, hk⟩
  have HK2 := Lib.hid (HK1.out.keep hk)
  clear hk c0 c1 c2 c3 c4 HB1
  rw [Hm.out]
  go_wp2_with fail
  refine (fixed_any w2 (He.out.keep HK2.out)).mono ?_
  rintro e w3 ⟨rfl, hk⟩
  have HK3 := Lib.hid (HK2.out.keep hk)
  clear hk
  go_wp2_with fail
  go_ret
  exact ⟨rfl, HK3.out⟩
set_option maxRecDepth 100000 in
set_option maxHeartbeats 1000000 in
theorem law_parses (s : List UInt8) (w : World) (he : Env w) (hs : s.length < 4294967281) :
    Calls Tryd.prog 5 #[.string ⟨s.toArray⟩] w fun e w' => e = .returned (.bool true) ∧ Keep w w' := by
  have He := Lib.hid he
  have Hs := Lib.hid hs
  obtain ⟨c, er, hp⟩ := parseV_form s
  have Hp := Lib.hid hp
  clear he hs hp
  go_enter Tryd.func5, Tryd.ntmps5
  go_wp2_with fail
  refine (parse_any s _ He.out Hs.out).mono ?_
  rintro e w1 ⟨rfl, hk⟩
  have HK1 := Lib.hid (hk.alloc (.cells (cmdC c) 30))
  have HB1 : RowKit.Hid (World.blk (w1.alloc (.cells (cmdC c) 30)) w1.heap.size (cmdC c) 30) := Lib.hid (blk_new _ _ _)
  clear hk
  rw [Hp.out]
  unfold cmdV cmdC
  go_wp2_with fail
  rw [show (w1.alloc (.cells #[.int .i64 c.kind, .string ⟨c.path.toArray⟩, .string ⟨c.dest.toArray⟩, .int .i64 c.pos, .string ⟨c.data.toArray⟩] 30)) = w1.alloc (.cells (cmdC c) 30) from rfl]
  generalize w1.heap.size = b1 at *
  generalize w1.alloc (.cells (cmdC c) 30) = w2 at *
  refine (rparse_any s _ Hs.out).mono ?_
  rintro e w3 ⟨rfl, hk⟩
  have HK3 := Lib.hid ((HK1.out.keep hk).alloc (.cells (cmdC c) 30))
  have HB3 := Lib.hid (blk_alloc (blk_mod hk HB1.out id) (.cells (cmdC c) 30))
  have HC3 : RowKit.Hid (World.blk (w3.alloc (.cells (cmdC c) 30)) w3.heap.size (cmdC c) 30) := Lib.hid (blk_new _ _ _)
  clear hk
  rw [Hp.out]
  unfold cmdV cmdC
  go_wp2_with fail
  rw [show (w3.alloc (.cells #[.int .i64 c.kind, .string ⟨c.path.toArray⟩, .string ⟨c.dest.toArray⟩, .int .i64 c.pos, .string ⟨c.data.toArray⟩] 30)) = w3.alloc (.cells (cmdC c) 30) from rfl]
  generalize w3.heap.size = b3 at *
  generalize w3.alloc (.cells (cmdC c) 30) = w4 at *
  refine (fixed_any _ (He.out.keep HK3.out)).mono ?_
  rintro e w5 ⟨rfl, hk⟩
  have HK5 := Lib.hid (HK3.out.keep hk)
  obtain ⟨c0, c1, c2, c3, c4⟩ := cmd_cells (blk_mod hk HB3.out id)
  obtain ⟨d0, d1, d2, d3, d4⟩ := cmd_cells (blk_mod hk HC3.out id)
  clear hk
  go_wp2_with fail
  go_ret
  exact ⟨rfl, HK5.out⟩
end Go.Proofs.YtpjfeonhdkkfpaaDoor
