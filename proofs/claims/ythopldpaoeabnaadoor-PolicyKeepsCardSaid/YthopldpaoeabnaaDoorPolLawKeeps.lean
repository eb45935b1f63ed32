/-
  PolicyKeeps's walk.
-/
import Derived.Test.YthopldpaoeabnaaDoorPolRefE
import Derived.Test.YthopldpaoeabnaaDoorPolFixed
import Derived.Test.YthopldpaoeabnaaDoorPolNewA
import Derived.Deep.DeepCutAuto
namespace Go.Proofs.YthopldpaoeabnaaDoor
open Go.RowKit
set_option maxRecDepth 100000 in
set_option maxHeartbeats 2000000 in
theorem law_keeps (E K : Nat → Int) (a : Option Addr) (n cap : Nat) (f : Nat → List UInt8) (w : World) (he : Env w) (hK : ∀ i, i < 3 → -9223372036854775808 ≤ K i ∧ K i ≤ 9223372036854775807) (hS : StrsAt w a n f) (hcap : n ≤ cap ∧ (a = none → n = 0)) :
    Calls Tryd.prog 6 #[polV E K, .slice a n cap] w fun e w' => e = .returned (.bool true) ∧ Keep w w' := by
  have He := Lib.hid he
  have HKb := Lib.hid hK
  have HS := Lib.hid hS
  have hnb := hS.1
  clear he hK hS
  go_enter Tryd.func6, Tryd.ntmps6
  unfold polV
  go_upto_region 1 with (fail)
  go_cut [1] (fun s1 wr => ∃ names : List (List UInt8), names.length ≤ 300 ∧ RowKit.Hid (∀ x ∈ names, x.length ≤ 140737488355328) ∧ RowAt wr s1 (srow names) ∧ World.blk wr w.heap.size (boxV E K) 24 ∧ Keep w wr)
  case first =>
    obtain ⟨hc1, hc2⟩ := hcap
    have HB : RowKit.Hid (World.blk (w.alloc (.cells #[.int .i64 (E 0), .int .i64 (E 1), .int .i64 (E 2), .int .i64 (K 0), .int .i64 (K 1), .int .i64 (K 2)] 24)) w.heap.size (boxV E K) 24) := Lib.hid (blk_new _ _ _)
    rcases a with _ | ⟨b, o, sp⟩
    · obtain rfl := hc2 rfl
      clear hc2
      go_wp2_with fail
      go_meet
      case rel => exact ⟨[], by simp, Lib.hid (fun x hx => by cases hx), ⟨none, _, rfl, fun j x hj => by simp [srow] at hj⟩, HB.out, (Mod.refl _ _).alloc _⟩
    · clear hc2
      by_cases h3 : n ≤ 300
      · have h4 : ¬ ((300 : Int) < (n : Int)) := by omega
        go_wp2_with fail
        go_meet
        case rel => exact ⟨namesOf f n, by rw [namesOf_len]; exact h3, Lib.hid (names_short HS.out (Nat.le_refl _)), by rw [show (min (n : Int) 300).toNat = n by omega]; exact row_keep (row_of_strs cap HS.out (Nat.le_refl _)) ((Mod.refl _ _).alloc _), HB.out, (Mod.refl _ _).alloc _⟩
      · have h4 : (300 : Int) < (n : Int) := by omega
        have h5 : 300 ≤ cap := by omega
        go_wp2_with fail
        go_meet
        case rel => exact ⟨namesOf f 300, by rw [namesOf_len]; omega, Lib.hid (names_short HS.out (by omega)), by rw [show (min (n : Int) 300).toNat = 300 by omega]; exact row_keep (row_of_strs (m := 300) cap HS.out (by omega)) ((Mod.refl _ _).alloc _), HB.out, (Mod.refl _ _).alloc _⟩
  case rest =>
  clear hcap HS hnb
  obtain ⟨names, hn, Hl, hrow, hB, hK⟩ := hcut
  have HB := Lib.hid hB
  have HK := Lib.hid hK
  have HR := Lib.hid hrow
  have hbx := box_cells hB
  clear hB hK hrow
  obtain ⟨v2, w2, hr, ho, hk2, hm2⟩ := append_row (P := Tryd.prog) Tryd.underlying40 info_str rfl wc.heap.size (.slice (some ⟨wc.heap.size, 0, none⟩) 0 0) 0 [] (wc.alloc (.cells #[] 9)) wc ⟨rfl, .inr ⟨wc.heap.size, 0, #[], rfl, Nat.le_refl _, blk_new _ _ _, by decide, by decide, by simp, by simp⟩⟩ u1 (srow names) (row_keep HR.out ((Mod.refl _ _).alloc _)) (srow_one names) (by rw [srow_len]; simp [maxLen]; omega) (by rw [srow_len]; omega) (by simp) ((Mod.refl _ _).alloc _) (Nat.le_refl _)
  have Hr := Lib.hid hr
  have HV : RowKit.Hid (RowAt w2 v2 (srow names)) := Lib.hid (by have h := row_of_own ho; simpa using h)
  have HB2 := Lib.hid (blk_mod hk2 HB.out id)
  have HK2 := Lib.hid (HK.out.keep hk2)
  have HR2 := Lib.hid (row_keep HR.out hk2)
  have hbx := box_cells HB2.out
  clear hr ho hk2 hm2
  go_wp2_with ((at_builtin; refine wpList_append_run Hr.out rfl rfl rfl rfl ?_))
  refine (keeps_any E K names u1 _ (He.out.keep HK2.out) (fun i hi => (HKb.out i hi).2) HR2.out (by omega) Hl.out).mono ?_
  rintro e w3 ⟨v3, rfl, hr, hk⟩
  have HB3 := Lib.hid (blk_mod hk HB2.out id)
  have HK3 := Lib.hid (HK2.out.keep hk)
  have HR3 := Lib.hid (row_keep HR2.out hk)
  have HV3 := Lib.hid (row_keep HV.out hk)
  have HU3 := Lib.hid hr
  have hbx := box_cells HB3.out
  clear hk hr HB2 HK2 HR2 HV HB HK HR Hr
  go_wp2_with fail
  refine (rkeeps_any E K names v2 _ HKb.out HV3.out (by omega) Hl.out).mono ?_
  rintro e w4 ⟨v4, rfl, hr, hk⟩
  have HK4 := Lib.hid (HK3.out.keep hk)
  have HR4 := Lib.hid (row_keep HR3.out hk)
  have HV4 := Lib.hid (row_keep HV3.out hk)
  have HU4 := Lib.hid (row_keep HU3.out hk)
  have HX4 := Lib.hid hr
  have hl := keeps_len K names
  clear hk hr hbx HB3 HK3 HR3 HV3 HU3
  go_wp2_with fail
  refine (same_strs v3 v4 (keeps K names) (keeps K names) w4 HU4.out HX4.out (by omega) (by omega)).mono ?_
  rintro e w5 ⟨rfl, hk⟩
  have HK5 := Lib.hid (HK4.out.keep hk)
  have HR5 := Lib.hid (row_keep HR4.out hk)
  have HV5 := Lib.hid (row_keep HV4.out hk)
  clear hk HK4 HR4 HV4 HU4 HX4
  rw [show ((keeps K names == keeps K names) : Bool) = true from beq_self_eq_true _]
  go_wp2_with fail
  refine (same_strs u1 v2 names names w5 HR5.out HV5.out (by omega) (by omega)).mono ?_
  rintro e w6 ⟨rfl, hk⟩
  have HK6 := Lib.hid (HK5.out.keep hk)
  clear hk HK5 HR5 HV5
  rw [show ((names == names) : Bool) = true from beq_self_eq_true _]
  go_wp2_with fail
  refine (fixed_any _ (He.out.keep HK6.out)).mono ?_
  rintro e w7 ⟨rfl, hk⟩
  have HK7 := Lib.hid (HK6.out.keep hk)
  clear hk
  go_wp2_with fail
  go_ret
  exact ⟨rfl, HK7.out⟩
end Go.Proofs.YthopldpaoeabnaaDoor
