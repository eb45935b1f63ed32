/-
  commands.field, commands.take.
-/
import Derived.Test.YthmpblccplphfaaGreatDoorCmdWord
import Derived.Deep.DeepCutAuto
namespace Go.Proofs.YthmpblccplphfaaGreatDoor
open Go.RowKit
def cmdC (c : Cmd) : Array Value := #[.int .i64 c.kind, .string ⟨c.path.toArray⟩, .string ⟨c.dest.toArray⟩, .int .i64 c.pos, .string ⟨c.data.toArray⟩]
def cmdV (c : Cmd) : Value := .agg (cmdC c)
/-- what a command's fields keep to: memory's own bounds -/
structure Cmd.Small (c : Cmd) : Prop where
  path : c.path.length < 4294967281
  dest : c.dest.length < 4294967281
  data : c.data.length ≤ 1099511627776
  pos : -9223372036854775808 ≤ c.pos ∧ c.pos ≤ 9223372036854775807
theorem cmd_cells {w : World} {b : Nat} {c : Cmd} {t : TypeId} (h : World.blk w b (cmdC c) t) :
    w.cell? ⟨b, 0, none⟩ = some (.int .i64 c.kind) ∧ w.cell? ⟨b, 1, none⟩ = some (.string ⟨c.path.toArray⟩) ∧ w.cell? ⟨b, 2, none⟩ = some (.string ⟨c.dest.toArray⟩) ∧
    w.cell? ⟨b, 3, none⟩ = some (.int .i64 c.pos) ∧ w.cell? ⟨b, 4, none⟩ = some (.string ⟨c.data.toArray⟩) :=
  ⟨blk_cell h 0, blk_cell h 1, blk_cell h 2, blk_cell h 3, blk_cell h 4⟩
theorem pathErr_ok (s : List UInt8) : (pathErr s == 0) = (pathOf s).isSome := by
  unfold pathErr; cases (pathOf s).isSome <;> rfl
theorem name_keep (s : List UInt8) (w : World) (hs : s.length ≤ 140737488355328) :
    Calls Tryz.prog 98 #[.string ⟨s.toArray⟩] w fun e w' => e = .returned (.bool (nameOk s)) ∧ Keep w w' := name_any s w hs
set_option maxRecDepth 100000 in
set_option maxHeartbeats 1000000 in
theorem field_any (c : Cmd) (f : Nat) (hf : 1 ≤ f ∧ f ≤ 5) (b : Nat) (w : World) (he : Env w) (hc : c.Small) (hB : World.blk w b (cmdC c) 38) :
    Calls Tryz.prog 68 #[.pointer (some ⟨b, 0, none⟩), .int .i64 (f : Int)] w fun e w' => e = .returned (.tuple #[.string ⟨(c.fieldText f).toArray⟩, .bool (c.fieldOk f)]) ∧ Keep w w' := by
  have He := Lib.hid he
  have Hc := Lib.hid hc
  have HB := Lib.hid hB
  obtain ⟨c0, c1, c2, c3, c4⟩ := cmd_cells hB
  have hbl := blk_lt hB
  clear he hc hB
  rcases (by omega : f = 1 ∨ f = 2 ∨ f = 3 ∨ f = 4 ∨ f = 5) with rfl | rfl | rfl | rfl | rfl
  · clear hf
    go_enter Tryz.func68, Tryz.ntmps68
    go_wp2_with fail
    refine (path_any c.path w He.out Hc.out.path).mono ?_
    rintro e w1 ⟨v, rfl, -, hk⟩
    have HK := Lib.hid hk
    obtain ⟨c0, c1, c2, c3, c4⟩ := cmd_cells (blk_mod hk HB.out id)
    have hok := pathErr_ok c.path
    clear hk
    generalize hb : (pathOf c.path).isSome = ok at *
    have Hb := Lib.hid hb
    clear hb
    go_wp2_with fail
    go_ret2
    exact ⟨by rw [show c.fieldOk 1 = ok from Hb.out]; rfl, HK.out⟩
  · clear hf
    go_enter Tryz.func68, Tryz.ntmps68
    go_wp2_with fail
    refine (path_any c.dest w He.out Hc.out.dest).mono ?_
    rintro e w1 ⟨v, rfl, -, hk⟩
    have HK := Lib.hid hk
    obtain ⟨c0, c1, c2, c3, c4⟩ := cmd_cells (blk_mod hk HB.out id)
    have hok := pathErr_ok c.dest
    clear hk
    generalize hb : (pathOf c.dest).isSome = ok at *
    have Hb := Lib.hid hb
    clear hb
    go_wp2_with fail
    go_ret2
    exact ⟨by rw [show c.fieldOk 2 = ok from Hb.out]; rfl, HK.out⟩
  · clear hf
    by_cases h0 : 0 ≤ c.pos
    · have d0 : decide (0 ≤ c.pos) = true := by simpa using h0
      have Hv : RowKit.Hid (c.fieldOk 3 = decide (c.pos ≤ 16384)) := Lib.hid (by simp [Cmd.fieldOk, h0])
      go_enter Tryz.func68, Tryz.ntmps68
      go_wp2_with fail
      refine wp_region_ke (by kernel_rfl) (by kernel_rfl) ?_
      repeat (quiet_step (with_reducible exact quiet_keep (itoa_any c.pos Hc.out.pos.1 Hc.out.pos.2 _ (He.out.keep (keep_ext _ _)))))
      refine wpQuiet_nil ?_
      intro _ hw'
      obtain ⟨xq, rfl⟩ := hw'
      go_wp2_with fail
      go_ret2
      exact ⟨by rw [Hv.out]; rfl, keep_ext _ _⟩
    · have d0 : decide (0 ≤ c.pos) = false := by simpa using h0
      have Hv : RowKit.Hid (c.fieldOk 3 = false) := Lib.hid (by simp [Cmd.fieldOk, h0])
      go_enter Tryz.func68, Tryz.ntmps68
      go_wp2_with fail
      refine wp_region_ke (by kernel_rfl) (by kernel_rfl) ?_
      repeat (quiet_step (with_reducible exact quiet_keep (itoa_any c.pos Hc.out.pos.1 Hc.out.pos.2 _ (He.out.keep (keep_ext _ _)))))
      refine wpQuiet_nil ?_
      intro _ hw'
      obtain ⟨xq, rfl⟩ := hw'
      go_wp2_with fail
      go_ret2
      exact ⟨by rw [Hv.out]; rfl, keep_ext _ _⟩
  · clear hf
    go_enter Tryz.func68, Tryz.ntmps68
    go_wp2_with fail
    refine wp_region_ke (by kernel_rfl) (by kernel_rfl) ?_
    repeat (quiet_step (with_reducible exact quiet_keep (hexed_any c.data _ Hc.out.data)))
    refine wpQuiet_nil ?_
    intro _ hw'
    obtain ⟨xq, rfl⟩ := hw'
    have Hv : RowKit.Hid (c.fieldOk 4 = decide ((c.data.length : Int) ≤ 512)) := Lib.hid (by rw [Cmd.fieldOk]; congr 1; exact propext (by omega))
    go_wp2_with fail
    go_ret2
    exact ⟨by rw [Hv.out]; rfl, keep_ext _ _⟩
  · clear hf
    go_enter Tryz.func68, Tryz.ntmps68
    go_wp2_with fail
    refine wp_region_ke (by kernel_rfl) (by kernel_rfl) ?_
    repeat (quiet_step (with_reducible exact quiet_keep (name_keep c.path _ (by have := Hc.out.path; omega))))
    refine wpQuiet_nil ?_
    intro _ hw'
    obtain ⟨xq, rfl⟩ := hw'
    go_wp2_with fail
    go_ret2
    exact ⟨rfl, keep_ext _ _⟩
end Go.Proofs.YthmpblccplphfaaGreatDoor
