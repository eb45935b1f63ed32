/-
  stillagelaw13.fixed: what the document fixes.
-/
import Derived.Test.YtpjfeonhdkkfpaaDoorCmdRefQ
namespace Go.Proofs.YtpjfeonhdkkfpaaDoor
open Go.RowKit
def cw : Cmd := ⟨2, [47, 97], [], 5, [0, 255]⟩
def tw : List UInt8 := [119, 114, 105, 116, 101, 32, 47, 97, 32, 53, 32, 48, 48, 102, 102]
def tc : List UInt8 := [99, 117, 116, 32, 47, 97, 32, 48, 53]
theorem path_a : pathOf [47, 97] = some [[97]] := by decide +kernel
theorem itoa_5 : Lib.itoa 5 = [53] := by rw [itoa_digit 5 (by omega) (by omega)]; rfl
theorem cw_ok : cw.ok = true := by
  rw [cw, ok_write, path_a]
  decide +kernel
theorem cw_line : cw.line = tw := by
  rw [line_three (c := cw) (k := 2) rfl rfl]
  show wordOf 2 ++ 32 :: ([47, 97] ++ 32 :: (Lib.itoa 5 ++ 32 :: hexed [0, 255])) = tw
  rw [itoa_5]
  decide +kernel
theorem cw_print : printV cw = .tuple #[.string ⟨tw.toArray⟩, .int .i64 0] := by rw [printV, if_pos cw_ok, cw_line]
theorem cw_parse : parseV tw = .tuple #[cmdV cw, .int .i64 0] := by rw [parseV, parse_iff.2 ⟨cw_ok, cw_line⟩]
theorem tc_none : parseC tc = none := by
  refine first_none (fun j _ hj => ?_)
  have hw : spl 32 tc = [[99, 117, 116], [47, 97], [48, 53]] := by decide +kernel
  unfold tryKind
  simp only [hw]
  by_cases h3 : j = 3
  · subst h3
    have hc : takes ⟨((3 : Nat) : Int), [], [], 0, []⟩ (fieldsOf 3) [[99, 117, 116], [47, 97], [48, 53]].tail = ⟨3, [47, 97], [], 5, []⟩ := by
      show (⟨3, [47, 97], [], atoiV [48, 53], []⟩ : Cmd) = _
      rw [show atoiV [48, 53] = 5 by decide +kernel]
    rw [hc]
    have hl : (⟨3, [47, 97], [], 5, []⟩ : Cmd).line = [99, 117, 116, 32, 47, 97, 32, 53] := by
      rw [line_two (c := ⟨3, [47, 97], [], 5, []⟩) (k := 3) rfl rfl]
      show wordOf 3 ++ 32 :: ([47, 97] ++ 32 :: Lib.itoa 5) = _
      rw [itoa_5]; rfl
    rw [hl, show (([99, 117, 116, 32, 47, 97, 32, 53] : List UInt8) == tc) = false by decide]
    simp
  · rw [if_neg]
    rcases (by omega : j = 0 ∨ j = 1 ∨ j = 2 ∨ j = 4 ∨ j = 5 ∨ j = 6 ∨ j = 7 ∨ j = 8) with rfl | rfl | rfl | rfl | rfl | rfl | rfl | rfl <;> decide
theorem tc_parse : parseV tc = .tuple #[cmdV Cmd.zero, .int .i64 130] := by rw [parseV, tc_none]
theorem snap_print : printV ⟨7, [120], [], 0, []⟩ = .tuple #[.string ⟨#[115, 110, 97, 112, 32, 120]⟩, .int .i64 0] := by
  have h : (⟨7, [120], [], 0, []⟩ : Cmd).ok = true := (ok_name 7 (by omega) rfl [120] [] 0 []).trans (by decide +kernel)
  rw [printV, if_pos h, line_one (c := ⟨7, [120], [], 0, []⟩) (k := 7) rfl rfl]
  rfl
theorem make_print : printV ⟨0, [47, 97], [], 1, []⟩ = .tuple #[.string ⟨#[]⟩, .int .i64 130] := by
  have h : (⟨0, [47, 97], [], 1, []⟩ : Cmd).ok = false := (ok_plain 0 (by omega) rfl [47, 97] [] 1 []).trans (by rw [path_a]; decide +kernel)
  rw [printV, h]; rfl
theorem path_ab : pathErr [47, 97, 47, 98] = 0 ∧ pathNames [47, 97, 47, 98] = [[97], [98]] := by
  have h : pathOf [47, 97, 47, 98] = some [[97], [98]] := by decide +kernel
  exact ⟨by rw [pathErr, h]; rfl, by rw [pathNames, h]; rfl⟩
theorem path_x : pathErr [97] = 130 := by rw [pathErr, show pathOf [97] = none from rfl]; rfl
set_option maxRecDepth 100000 in
set_option maxHeartbeats 2000000 in
theorem fixed_any (w : World) (he : Env w) :
    Calls Tryd.prog 12 #[] w fun e w' => e = .returned (.bool true) ∧ Keep w w' := by
  have He := Lib.hid he
  clear he
  have Hp1 : RowKit.Hid (∀ W, Env W → Calls Tryd.prog 13 #[.agg #[.int .i64 2, .string ⟨#[47, 97]⟩, .string ⟨#[]⟩, .int .i64 5, .string ⟨#[0, 255]⟩]] W fun e w' => e = .returned (.tuple #[.string ⟨tw.toArray⟩, .int .i64 0]) ∧ Keep W w') :=
    Lib.hid (fun W h => (print_any cw W h ⟨by decide, by decide, by decide, by decide⟩).mono fun e w' ⟨a, b⟩ => ⟨by rw [a, cw_print], b⟩)
  have Hp2 : RowKit.Hid (∀ W, Env W → Calls Tryd.prog 13 #[.agg #[.int .i64 7, .string ⟨#[120]⟩, .string ⟨#[]⟩, .int .i64 0, .string ⟨#[]⟩]] W fun e w' => e = .returned (.tuple #[.string ⟨#[115, 110, 97, 112, 32, 120]⟩, .int .i64 0]) ∧ Keep W w') :=
    Lib.hid (fun W h => (print_any ⟨7, [120], [], 0, []⟩ W h ⟨by decide, by decide, by decide, by decide⟩).mono fun e w' ⟨a, b⟩ => ⟨by rw [a, snap_print], b⟩)
  have Hp3 : RowKit.Hid (∀ W, Env W → Calls Tryd.prog 13 #[.agg #[.int .i64 0, .string ⟨#[47, 97]⟩, .string ⟨#[]⟩, .int .i64 1, .string ⟨#[]⟩]] W fun e w' => e = .returned (.tuple #[.string ⟨#[]⟩, .int .i64 130]) ∧ Keep W w') :=
    Lib.hid (fun W h => (print_any ⟨0, [47, 97], [], 1, []⟩ W h ⟨by decide, by decide, by decide, by decide⟩).mono fun e w' ⟨a, b⟩ => ⟨by rw [a, make_print], b⟩)
  have Hq1 : RowKit.Hid (∀ W, Env W → Calls Tryd.prog 15 #[.string ⟨tw.toArray⟩] W fun e w' => e = .returned (.tuple #[.agg #[.int .i64 2, .string ⟨#[47, 97]⟩, .string ⟨#[]⟩, .int .i64 5, .string ⟨#[0, 255]⟩], .int .i64 0]) ∧ Keep W w') :=
    Lib.hid (fun W h => (parse_any tw W h (by decide)).mono fun e w' ⟨a, b⟩ => ⟨by rw [a, cw_parse]; rfl, b⟩)
  have Hq2 : RowKit.Hid (∀ W, Env W → Calls Tryd.prog 15 #[.string ⟨#[99, 117, 116, 32, 47, 97, 32, 48, 53]⟩] W fun e w' => e = .returned (.tuple #[.agg #[.int .i64 0, .string ⟨#[]⟩, .string ⟨#[]⟩, .int .i64 0, .string ⟨#[]⟩], .int .i64 130]) ∧ Keep W w') :=
    Lib.hid (fun W h => (parse_any tc W h (by decide)).mono fun e w' ⟨a, b⟩ => ⟨by rw [a, tc_parse]; rfl, b⟩)
  have Hs1 : RowKit.Hid (∀ W, Env W → Calls Tryd.prog 10 #[.string ⟨#[47, 97, 47, 98]⟩] W fun e w' => ∃ v, e = .returned (.tuple #[v, .int .i64 0]) ∧ RowAt w' v (srow [[97], [98]]) ∧ Keep W w') :=
    Lib.hid (fun W h => (path_any [47, 97, 47, 98] W h (by decide)).mono fun e w' ⟨v, a, b, c⟩ => ⟨v, by rw [a, path_ab.1], by rw [path_ab.2] at b; exact row_strs b, c⟩)
  have Hs2 : RowKit.Hid (∀ W, Env W → Calls Tryd.prog 10 #[.string ⟨#[97]⟩] W fun e w' => ∃ v, e = .returned (.tuple #[v, .int .i64 130]) ∧ Keep W w') :=
    Lib.hid (fun W h => (path_any [97] W h (by decide)).mono fun e w' ⟨v, a, b, c⟩ => ⟨v, by rw [a, path_x], c⟩)
  have Htw : RowKit.Hid ((tw == [119, 114, 105, 116, 101, 32, 47, 97, 32, 53, 32, 48, 48, 102, 102]) = true) := Lib.hid (by decide)
  go_enter Tryd.func12, Tryd.ntmps12
  go_wp2_with fail
  have HB0 : RowKit.Hid (World.blk (w.alloc (.cells #[.int .i64 2, .string ⟨#[47, 97]⟩, .string ⟨#[]⟩, .int .i64 5, .string ⟨#[0, 255]⟩] 30)) w.heap.size (cmdC cw) 30) := Lib.hid (blk_new _ _ _)
  have HK0 : RowKit.Hid (Keep w (w.alloc (.cells #[.int .i64 2, .string ⟨#[47, 97]⟩, .string ⟨#[]⟩, .int .i64 5, .string ⟨#[0, 255]⟩] 30))) := Lib.hid ((Mod.refl _ _).alloc _)
  generalize w.alloc (.cells #[.int .i64 2, .string ⟨#[47, 97]⟩, .string ⟨#[]⟩, .int .i64 5, .string ⟨#[0, 255]⟩] 30) = w0 at *
  refine (Hp1.out w0 (He.out.keep HK0.out)).mono ?_
  rintro e w1 ⟨rfl, hk⟩
  have HB1 := Lib.hid (blk_mod hk HB0.out id)
  have HK1 := Lib.hid (HK0.out.keep hk)
  clear hk HB0 HK0
  go_wp2_with fail
  refine (Hq1.out w1 (He.out.keep HK1.out)).mono ?_
  rintro e w2 ⟨rfl, hk⟩
  have HB2 := Lib.hid (blk_alloc (blk_mod hk HB1.out id) (.cells (cmdC cw) 30))
  have HC2 : RowKit.Hid (World.blk (w2.alloc (.cells (cmdC cw) 30)) w2.heap.size (cmdC cw) 30) := Lib.hid (blk_new _ _ _)
  have HK2 := Lib.hid ((HK1.out.keep hk).alloc (.cells (cmdC cw) 30))
  clear hk HB1 HK1
  go_wp2_with fail
  rw [show (w2.alloc (.cells #[.int .i64 2, .string ⟨#[47, 97]⟩, .string ⟨#[]⟩, .int .i64 5, .string ⟨#[0, 255]⟩] 30)) = w2.alloc (.cells (cmdC cw) 30) from rfl]
  generalize w2.heap.size = q2 at *
  generalize w2.alloc (.cells (cmdC cw) 30) = w3 at *
  refine (Hq2.out w3 (He.out.keep HK2.out)).mono ?_
  rintro e w4 ⟨rfl, hk⟩
  have HB4 := Lib.hid (blk_alloc (blk_mod hk HB2.out id) (.cells (cmdC Cmd.zero) 30))
  have HC4 := Lib.hid (blk_alloc (blk_mod hk HC2.out id) (.cells (cmdC Cmd.zero) 30))
  have HK4 := Lib.hid ((HK2.out.keep hk).alloc (.cells (cmdC Cmd.zero) 30))
  clear hk HB2 HK2 HC2
  go_wp2_with fail
  rw [show (w4.alloc (.cells #[.int .i64 0, .string ⟨#[]⟩, .string ⟨#[]⟩, .int .i64 0, .string ⟨#[]⟩] 30)) = w4.alloc (.cells (cmdC Cmd.zero) 30) from rfl]
  generalize w4.alloc (.cells (cmdC Cmd.zero) 30) = w5 at *
  refine (Hs1.out w5 (He.out.keep HK4.out)).mono ?_
  rintro e w6 ⟨v6, rfl, hr, hk⟩
  have HB6 := Lib.hid (blk_mod hk HB4.out id)
  have HC6 := Lib.hid (blk_mod hk HC4.out id)
  have HK6 := Lib.hid (HK4.out.keep hk)
  have HR6 := Lib.hid hr
  clear hk hr HB4 HC4 HK4
  go_wp2_with fail
  refine (Hs2.out w6 (He.out.keep HK6.out)).mono ?_
  rintro e w7 ⟨v7, rfl, hk⟩
  have HB7 := Lib.hid (blk_mod hk HB6.out id)
  have HC7 := Lib.hid (blk_mod hk HC6.out id)
  have HK7 := Lib.hid (HK6.out.keep hk)
  have HR7 := Lib.hid (row_keep HR6.out hk)
  clear hk HB6 HC6 HK6 HR6
  go_wp2_with fail
  refine (Hp2.out w7 (He.out.keep HK7.out)).mono ?_
  rintro e w8 ⟨rfl, hk⟩
  have HB8 := Lib.hid (blk_mod hk HB7.out id)
  have HC8 := Lib.hid (blk_mod hk HC7.out id)
  have HK8 := Lib.hid (HK7.out.keep hk)
  have HR8 := Lib.hid (row_keep HR7.out hk)
  clear hk HB7 HC7 HK7 HR7
  go_wp2_with fail
  refine (Hp3.out w8 (He.out.keep HK8.out)).mono ?_
  rintro e w9 ⟨rfl, hk⟩
  have HB9 := Lib.hid (blk_mod hk HB8.out id)
  have HC9 := Lib.hid (blk_mod hk HC8.out id)
  have HK9 := Lib.hid (HK8.out.keep hk)
  have HR9 := Lib.hid (row_keep HR8.out hk)
  clear hk HB8 HC8 HK8 HR8
  obtain ⟨c0, c1, c2, c3, c4⟩ := cmd_cells5 HB9.out
  obtain ⟨d0, d1, d2, d3, d4⟩ := cmd_cells5 HC9.out
  have htw := Htw.out
  go_wp2_with fail
  refine (same_strs v6 _ [[97], [98]] [[97], [98]] _ (row_keep HR9.out ((Mod.refl _ _).alloc _)) (row_new 2 (blk_new _ _ _)) (by decide) (by decide)).mono ?_
  rintro e w10 ⟨rfl, hk⟩
  have HK10 := Lib.hid ((HK9.out.alloc _).keep hk)
  clear hk
  rw [show (([[97], [98]] : List (List UInt8)) == [[97], [98]]) = true from by decide]
  go_wp2_with fail
  go_ret
  exact ⟨rfl, HK10.out⟩
end Go.Proofs.YtpjfeonhdkkfpaaDoor
