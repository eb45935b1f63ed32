/-
  stillagelaw22.fixed.
-/
import Derived.Test.YthopldpaoeabnaaDoorPolEq
namespace Go.Proofs.YthopldpaoeabnaaDoor
open Go.RowKit
set_option maxRecDepth 100000 in
set_option maxHeartbeats 2000000 in
theorem fixed_any (w : World) (he : Env w) :
    Calls Tryd.prog 14 #[] w fun e w' => e = .returned (.bool true) ∧ Keep w w' := by
  have He := Lib.hid he
  clear he
  have Hprint : RowKit.Hid (∀ w, Env w → Calls Tryd.prog 10 #[.agg #[.int .i64 1, .int .i64 4, .int .i64 0, .int .i64 2, .int .i64 1, .int .i64 0]] w fun e w' => e = .returned (.tuple #[.string ⟨#[104, 32, 49, 32, 50, 32, 100, 32, 52, 32, 49, 32, 119, 32, 48, 32, 48]⟩, .int .i64 0]) ∧ Keep w w') :=
    Lib.hid (fun w he => (print_any E1 K1 w he).mono fun e w' ⟨a, b⟩ => ⟨by rw [a, print_one]; rfl, b⟩)
  have Hparse1 : RowKit.Hid (∀ w, Env w → Calls Tryd.prog 12 #[.string ⟨#[104, 32, 49, 32, 50, 32, 100, 32, 52, 32, 49, 32, 119, 32, 48, 32, 48]⟩] w fun e w' => e = .returned (.tuple #[.agg #[.int .i64 1, .int .i64 4, .int .i64 0, .int .i64 2, .int .i64 1, .int .i64 0], .int .i64 0]) ∧ Keep w w') :=
    Lib.hid (fun w he => (parse_any text1 w he (by decide +kernel)).mono fun e w' ⟨a, b⟩ => ⟨by rw [a, parse_one]; rfl, b⟩)
  have Hparse2 : RowKit.Hid (∀ w, Env w → Calls Tryd.prog 12 #[.string ⟨#[104, 32, 48, 49, 32, 50, 32, 100, 32, 52, 32, 49, 32, 119, 32, 48, 32, 48]⟩] w fun e w' => e = .returned (.tuple #[.agg #[.int .i64 0, .int .i64 0, .int .i64 0, .int .i64 0, .int .i64 0, .int .i64 0], .int .i64 220]) ∧ Keep w w') :=
    Lib.hid (fun w he => (parse_any text2 w he (by decide +kernel)).mono fun e w' ⟨a, b⟩ => ⟨by rw [a, parse_two]; rfl, b⟩)
  have Hname : RowKit.Hid (∀ w, Env w → Calls Tryd.prog 15 #[.int .i64 0, .int .i64 5] w fun e w' => e = .returned (.tuple #[.string ⟨#[104, 46, 53]⟩, .int .i64 0]) ∧ Keep w w') :=
    Lib.hid (fun w he => (name_any 0 5 w he).mono fun e w' ⟨a, b⟩ => ⟨by rw [a, name_one], b⟩)
  have Hclass1 : RowKit.Hid (∀ w, Env w → Calls Tryd.prog 17 #[.string ⟨#[100, 46, 49, 50]⟩] w fun e w' => e = .returned (.tuple #[.int .i64 1, .int .i64 12, .bool true]) ∧ Keep w w') :=
    Lib.hid (fun w he => (class_any [100, 46, 49, 50] w he (by decide)).mono fun e w' ⟨a, b⟩ => ⟨by rw [a, cls_d12]; rfl, b⟩)
  have Hclass2 : RowKit.Hid (∀ w, Env w → Calls Tryd.prog 17 #[.string ⟨#[100, 46, 48, 49, 50]⟩] w fun e w' => e = .returned (.tuple #[.int .i64 0, .int .i64 0, .bool false]) ∧ Keep w w') :=
    Lib.hid (fun w he => (class_any [100, 46, 48, 49, 50] w he (by decide)).mono fun e w' ⟨a, b⟩ => ⟨by rw [a, cls_d012]; rfl, b⟩)
  have Hdue : RowKit.Hid (∀ w, Calls Tryd.prog 19 #[.agg #[.int .i64 1, .int .i64 4, .int .i64 0, .int .i64 2, .int .i64 1, .int .i64 0], .int .i64 4] w fun e w' => ∃ v, e = .returned v ∧ Keep w w' ∧ RowAt w' v (ints [0, 1])) :=
    Lib.hid (fun w => (due_any E1 K1 4 w (three (by decide) (by decide) (by decide)) (by decide)).mono fun e w' ⟨v, a, b, c⟩ => ⟨v, a, b, by rw [due_one] at c; exact row_of_own c⟩)
  have Hkeeps : RowKit.Hid (∀ w va, Env w → RowAt w va (srow names1) → Calls Tryd.prog 22 #[.agg #[.int .i64 1, .int .i64 4, .int .i64 0, .int .i64 2, .int .i64 1, .int .i64 0], va] w fun e w' => ∃ v, e = .returned v ∧ RowAt w' v (srow [[104, 46, 50], [120], [104, 46, 51]]) ∧ Keep w w') :=
    Lib.hid (fun w va he hr => (keeps_any E1 K1 names1 va w he (three (by decide) (by decide) (by decide)) hr (by decide) (by decide)).mono fun e w' ⟨v, a, b, c⟩ => ⟨v, a, by rw [keeps_one] at b; exact b, c⟩)
  go_enter Tryd.func14, Tryd.ntmps14
  go_wp2_with fail
  have HB0 : RowKit.Hid (World.blk (w.alloc (.cells #[.int .i64 1, .int .i64 4, .int .i64 0, .int .i64 2, .int .i64 1, .int .i64 0] 24)) w.heap.size (boxV E1 K1) 24) := Lib.hid (blk_new _ _ _)
  have HK0 : RowKit.Hid (Keep w (w.alloc (.cells #[.int .i64 1, .int .i64 4, .int .i64 0, .int .i64 2, .int .i64 1, .int .i64 0] 24))) := Lib.hid ((Mod.refl _ _).alloc _)
  generalize w.alloc (.cells #[.int .i64 1, .int .i64 4, .int .i64 0, .int .i64 2, .int .i64 1, .int .i64 0] 24) = w0 at *
  refine (Hprint.out w0 (He.out.keep HK0.out)).mono ?_
  rintro e w1 ⟨rfl, hk⟩
  have HB1 := Lib.hid (blk_mod hk HB0.out id)
  have HK1 := Lib.hid (HK0.out.keep hk)
  clear hk HB0 HK0
  go_wp2_with fail
  refine (Hparse1.out w1 (He.out.keep HK1.out)).mono ?_
  rintro e w2 ⟨rfl, hk⟩
  have HB2 := Lib.hid (blk_alloc (blk_mod hk HB1.out id) (.cells #[.int .i64 1, .int .i64 4, .int .i64 0, .int .i64 2, .int .i64 1, .int .i64 0] 24))
  have HK2 := Lib.hid ((HK1.out.keep hk).alloc (.cells #[.int .i64 1, .int .i64 4, .int .i64 0, .int .i64 2, .int .i64 1, .int .i64 0] 24))
  have HQ2 : RowKit.Hid (World.blk (w2.alloc (.cells #[.int .i64 1, .int .i64 4, .int .i64 0, .int .i64 2, .int .i64 1, .int .i64 0] 24)) w2.heap.size (boxV E1 K1) 24) := Lib.hid (blk_new _ _ _)
  clear hk HB1 HK1
  go_wp2_with fail
  generalize w2.heap.size = q at *
  generalize w2.alloc (.cells #[.int .i64 1, .int .i64 4, .int .i64 0, .int .i64 2, .int .i64 1, .int .i64 0] 24) = w3 at *
  refine (Hparse2.out w3 (He.out.keep HK2.out)).mono ?_
  rintro e w4 ⟨rfl, hk⟩
  have HB4 := Lib.hid (blk_alloc (blk_mod hk HB2.out id) (.cells #[.int .i64 0, .int .i64 0, .int .i64 0, .int .i64 0, .int .i64 0, .int .i64 0] 24))
  have HK4 := Lib.hid ((HK2.out.keep hk).alloc (.cells #[.int .i64 0, .int .i64 0, .int .i64 0, .int .i64 0, .int .i64 0, .int .i64 0] 24))
  have HQ4 := Lib.hid (blk_alloc (blk_mod hk HQ2.out id) (.cells #[.int .i64 0, .int .i64 0, .int .i64 0, .int .i64 0, .int .i64 0, .int .i64 0] 24))
  clear hk HB2 HK2 HQ2
  go_wp2_with fail
  generalize w4.heap.size = q2 at *
  generalize w4.alloc (.cells #[.int .i64 0, .int .i64 0, .int .i64 0, .int .i64 0, .int .i64 0, .int .i64 0] 24) = w5 at *
  refine (Hname.out w5 (He.out.keep HK4.out)).mono ?_
  rintro e w6 ⟨rfl, hk⟩
  have HB6 := Lib.hid (blk_mod hk HB4.out id)
  have HK6 := Lib.hid (HK4.out.keep hk)
  have HQ6 := Lib.hid (blk_mod hk HQ4.out id)
  clear hk HB4 HK4 HQ4
  go_wp2_with fail
  refine (Hclass1.out w6 (He.out.keep HK6.out)).mono ?_
  rintro e w7 ⟨rfl, hk⟩
  have HB7 := Lib.hid (blk_mod hk HB6.out id)
  have HK7 := Lib.hid (HK6.out.keep hk)
  have HQ7 := Lib.hid (blk_mod hk HQ6.out id)
  clear hk HB6 HK6 HQ6
  go_wp2_with fail
  refine (Hclass2.out w7 (He.out.keep HK7.out)).mono ?_
  rintro e w8 ⟨rfl, hk⟩
  have HB8 := Lib.hid (blk_mod hk HB7.out id)
  have HK8 := Lib.hid (HK7.out.keep hk)
  have HQ8 := Lib.hid (blk_mod hk HQ7.out id)
  clear hk HB7 HK7 HQ7
  have hb := box_cells HB8.out
  have hq := box_cells HQ8.out
  rw [show E1 0 = 1 from rfl, show E1 1 = 4 from rfl, show E1 2 = 0 from rfl, show K1 0 = 2 from rfl, show K1 1 = 1 from rfl, show K1 2 = 0 from rfl] at hb hq
  have e1 := fun W => eq3 1 4 0 1 4 0 W
  have e2 := fun W => eq3 2 1 0 2 1 0 W
  rw [show ((1 : Int) == 1 && ((4 : Int) == 4 && (0 : Int) == 0)) = true from rfl] at e1
  rw [show ((2 : Int) == 2 && ((1 : Int) == 1 && (0 : Int) == 0)) = true from rfl] at e2
  go_wp2_with fail
  clear hq e1 e2
  refine (Hdue.out w8).mono ?_
  rintro e w9 ⟨v, rfl, hk, hr⟩
  have HB9 := Lib.hid (blk_mod hk HB8.out id)
  have HK9 := Lib.hid (HK8.out.keep hk)
  have HR9 := Lib.hid hr
  clear hk hr hb HB8 HK8 HQ8
  go_wp2_with fail
  refine (same_ints v _ [0, 1] [0, 1] _ (row_keep HR9.out ((Mod.refl _ _).alloc _)) (row_new 2 (blk_new _ _ _)) (by decide) (by decide)).mono ?_
  rintro e w10 ⟨rfl, hk⟩
  have HB10 := Lib.hid (blk_mod hk (blk_alloc HB9.out _) id)
  have HK10 := Lib.hid ((HK9.out.alloc _).keep hk)
  clear hk HB9 HK9 HR9
  have hb := box_cells HB10.out
  rw [show E1 0 = 1 from rfl, show E1 1 = 4 from rfl, show E1 2 = 0 from rfl, show K1 0 = 2 from rfl, show K1 1 = 1 from rfl, show K1 2 = 0 from rfl] at hb
  rw [show (([0, 1] : List Int) == [0, 1]) = true from rfl]
  go_wp2_with fail
  refine (Hkeeps.out _ _ (He.out.keep (HK10.out.alloc _)) (row_new 5 (blk_new _ _ _))).mono ?_
  rintro e w11 ⟨v2, rfl, hr, hk⟩
  have HK11 := Lib.hid ((HK10.out.alloc _).keep hk)
  have HR11 := Lib.hid hr
  clear hk hr hb HB10 HK10
  go_wp2_with fail
  refine (same_strs v2 _ [[104, 46, 50], [120], [104, 46, 51]] [[104, 46, 50], [120], [104, 46, 51]] _ (row_keep HR11.out ((Mod.refl _ _).alloc _)) (row_new 3 (blk_new _ _ _)) (by decide) (by decide)).mono ?_
  rintro e w12 ⟨rfl, hk⟩
  have HK12 := Lib.hid ((HK11.out.alloc _).keep hk)
  clear hk
  rw [show (([[104, 46, 50], [120], [104, 46, 51]] : List (List UInt8)) == [[104, 46, 50], [120], [104, 46, 51]]) = true from by decide]
  go_wp2_with fail
  go_ret
  exact ⟨rfl, HK12.out⟩
end Go.Proofs.YthopldpaoeabnaaDoor
