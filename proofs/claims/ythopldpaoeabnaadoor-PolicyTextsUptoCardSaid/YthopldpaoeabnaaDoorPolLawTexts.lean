/-
  PolicyTexts's walk.
-/
import Derived.Test.YthopldpaoeabnaaDoorPolRefD
import Derived.Test.YthopldpaoeabnaaDoorPolFixed
namespace Go.Proofs.YthopldpaoeabnaaDoor
open Go.RowKit
theorem parseV_form (s : List UInt8) : ∃ E K er, parseV s = .tuple #[polV E K, .int .i64 er] := by
  rw [parseV]; split
  · exact ⟨_, _, _, rfl⟩
  · exact ⟨_, _, _, rfl⟩
theorem printV_form (E K : Nat → Int) : ∃ (m : List UInt8) (er : Int), printV E K = .tuple #[.string ⟨m.toArray⟩, .int .i64 er] := by
  rw [printV]; split
  · exact ⟨_, _, rfl⟩
  · exact ⟨[], _, rfl⟩
set_option maxRecDepth 100000 in
set_option maxHeartbeats 1000000 in
theorem law_texts (E K : Nat → Int) (s : List UInt8) (w : World) (he : Env w) (hs : s.length < 4294967281) :
    Calls Tryd.prog 3 #[polV E K, .string ⟨s.toArray⟩] w fun e w' => e = .returned (.bool true) ∧ Keep w w' := by
  have He := Lib.hid he
  have Hs := Lib.hid hs
  clear he hs
  obtain ⟨m, er, hm⟩ := printV_form E K
  obtain ⟨E', K', er', hp⟩ := parseV_form s
  have hq1 : ∀ W, (Op.equalIn 9999 22 (.agg #[.int .i64 (E' 0), .int .i64 (E' 1), .int .i64 (E' 2)]) (.agg #[.int .i64 (E' 0), .int .i64 (E' 1), .int .i64 (E' 2)])).run Tryd.prog W = .ok true W := fun W => by rw [eq3]; simp
  have hq2 : ∀ W, (Op.equalIn 9999 22 (.agg #[.int .i64 (K' 0), .int .i64 (K' 1), .int .i64 (K' 2)]) (.agg #[.int .i64 (K' 0), .int .i64 (K' 1), .int .i64 (K' 2)])).run Tryd.prog W = .ok true W := fun W => by rw [eq3]; simp
  have emm : (m == m) = true := beq_self_eq_true m
  have Hm := Lib.hid hm
  have Hp := Lib.hid hp
  have Hq1 := Lib.hid hq1
  have Hq2 := Lib.hid hq2
  clear hm hp hq1 hq2
  go_enter Tryd.func3, Tryd.ntmps3
  unfold polV
  go_wp2_with fail
  refine (print_any E K _ (He.out.keep ((Mod.refl _ _).alloc _))).mono ?_
  rintro e w1 ⟨rfl, hk⟩
  have HB1 : RowKit.Hid (World.blk w1 w.heap.size (boxV E K) 24) := Lib.hid (blk_mod hk (blk_new _ _ _) id)
  have HK1 : RowKit.Hid (Keep w w1) := Lib.hid (((Mod.refl _ w).alloc _).keep hk)
  clear hk
  rw [Hm.out]
  have hbx := box_cells HB1.out
  go_wp2_with fail
  refine (rprint_any E K _).mono ?_
  rintro e w2 ⟨rfl, hk⟩
  have HK2 := Lib.hid (HK1.out.keep hk)
  clear hk hbx HB1
  rw [Hm.out]
  go_wp2_with fail
  refine (parse_any s _ (He.out.keep HK2.out) Hs.out).mono ?_
  rintro e w3 ⟨rfl, hk⟩
  have HK3 := Lib.hid ((HK2.out.keep hk).alloc (.cells (boxV E' K') 24))
  have HB3 : RowKit.Hid (World.blk (w3.alloc (.cells (boxV E' K') 24)) w3.heap.size (boxV E' K') 24) := Lib.hid (blk_new _ _ _)
  clear hk
  rw [Hp.out]
  unfold polV
  go_wp2_with fail
  unfold boxV at *
  generalize w3.heap.size = b3 at *
  generalize w3.alloc (.cells #[.int .i64 (E' 0), .int .i64 (E' 1), .int .i64 (E' 2), .int .i64 (K' 0), .int .i64 (K' 1), .int .i64 (K' 2)] 24) = w4 at *
  refine (rparse_any s _ (by have := Hs.out; omega)).mono ?_
  rintro e w5 ⟨rfl, hk⟩
  have HK5 := Lib.hid ((HK3.out.keep hk).alloc (.cells (boxV E' K') 24))
  have HB5 := Lib.hid (blk_alloc (blk_mod hk HB3.out id) (.cells (boxV E' K') 24))
  have HC5 : RowKit.Hid (World.blk (w5.alloc (.cells (boxV E' K') 24)) w5.heap.size (boxV E' K') 24) := Lib.hid (blk_new _ _ _)
  clear hk
  rw [Hp.out]
  unfold polV
  go_wp2_with fail
  unfold boxV at *
  generalize w5.heap.size = b5 at *
  generalize w5.alloc (.cells #[.int .i64 (E' 0), .int .i64 (E' 1), .int .i64 (E' 2), .int .i64 (K' 0), .int .i64 (K' 1), .int .i64 (K' 2)] 24) = w6 at *
  refine (fixed_any _ (He.out.keep HK5.out)).mono ?_
  rintro e w7 ⟨rfl, hk⟩
  have HK7 := Lib.hid (HK5.out.keep hk)
  have hb3 := box_cells (blk_mod hk HB5.out id)
  have hb5 := box_cells (blk_mod hk HC5.out id)
  have hq1 := Hq1.out
  have hq2 := Hq2.out
  clear hk
  go_wp2_with fail
  go_ret
  exact ⟨rfl, HK7.out⟩
end Go.Proofs.YthopldpaoeabnaaDoor
