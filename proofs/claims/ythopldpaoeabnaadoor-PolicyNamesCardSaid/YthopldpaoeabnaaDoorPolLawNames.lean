/-
  PolicyNames's walk.
-/
import Derived.Test.YthopldpaoeabnaaDoorPolRefB
import Derived.Test.YthopldpaoeabnaaDoorPolFixed
namespace Go.Proofs.YthopldpaoeabnaaDoor
open Go.RowKit
theorem clsV_form (s : List UInt8) : ∃ (d t : Int) (b : Bool), clsV (cls s) = .tuple #[.int .i64 d, .int .i64 t, .bool b] := by
  rcases cls s with _ | ⟨c, t⟩
  · exact ⟨0, 0, false, rfl⟩
  · exact ⟨c, t, true, rfl⟩
set_option maxRecDepth 100000 in
set_option maxHeartbeats 1000000 in
theorem law_names (c t : Int) (s : List UInt8) (w : World) (he : Env w) (hs : s.length ≤ 140737488351232) :
    Calls Tryd.prog 4 #[.int .i64 c, .int .i64 t, .string ⟨s.toArray⟩] w fun e w' => e = .returned (.bool true) ∧ Keep w w' := by
  have He := Lib.hid he
  have Hs := Lib.hid hs
  clear he hs
  obtain ⟨m, er, b3, hnv, hfx⟩ : ∃ m er b3, nameV c t = .tuple #[.string ⟨m.toArray⟩, .int .i64 er] ∧ m.length ≤ 140737488355328 ∧ ((∃ k : Nat, c = k ∧ er = 0 ∧ cls m = some (k, t) ∧ b3 = true) ∨ (er = 220 ∧ b3 = false)) := by
    by_cases hf : nameFits c t
    · obtain ⟨k, rfl⟩ : ∃ k : Nat, c = k := ⟨c.toNat, by have := hf.1; omega⟩
      refine ⟨nameText k t, 0, true, by rw [nameV, nameOf, if_pos hf], ?_, .inl ⟨k, rfl, rfl, cls_text hf, rfl⟩⟩
      have := (itoa_short t (by have := hf.2.2.1; omega) hf.2.2.2).2
      simp [nameText]; omega
    · exact ⟨[], 220, false, by rw [nameV, nameOf, if_neg hf], by simp, .inr ⟨rfl, rfl⟩⟩
  obtain ⟨hm, hfx⟩ := hfx
  have Hm := Lib.hid hm
  have Hn := Lib.hid hnv
  have Hfx := Lib.hid hfx
  obtain ⟨d, u, b, hcv⟩ := clsV_form s
  have Hcv := Lib.hid hcv
  clear hm hnv hfx hcv
  go_enter Tryd.func4, Tryd.ntmps4
  go_wp2_with fail
  refine (name_any c t _ He.out).mono ?_
  rintro e w1 ⟨rfl, hk⟩
  have HK1 := Lib.hid hk
  clear hk
  rw [Hn.out]
  go_wp2_with fail
  refine (rname_any c t _).mono ?_
  rintro e w2 ⟨rfl, hk⟩
  have HK2 := Lib.hid (HK1.out.keep hk)
  clear hk
  rw [Hn.out]
  go_wp2_with fail
  refine (class_any s _ (He.out.keep HK2.out) (by have := Hs.out; omega)).mono ?_
  rintro e w3 ⟨rfl, hk⟩
  have HK3 := Lib.hid (HK2.out.keep hk)
  clear hk
  rw [Hcv.out]
  go_wp2_with fail
  refine (rclass_any s _ (by have := Hs.out; omega)).mono ?_
  rintro e w4 ⟨rfl, hk⟩
  have HK4 := Lib.hid (HK3.out.keep hk)
  clear hk
  rw [Hcv.out]
  go_wp2_with fail
  refine (class_any m _ (He.out.keep HK4.out) Hm.out).mono ?_
  rintro e w5 ⟨rfl, hk⟩
  have HK5 := Lib.hid (HK4.out.keep hk)
  clear hk
  have emm : (m == m) = true := beq_self_eq_true m
  rcases Hfx.out with ⟨k, rfl, rfl, hc, rfl⟩ | ⟨rfl, rfl⟩
  · rw [hc, show clsV (some (k, t)) = .tuple #[.int .i64 (k : Int), .int .i64 t, .bool true] from rfl]
    clear Hfx Hn hc
    go_wp2_with fail
    refine (fixed_any _ (He.out.keep HK5.out)).mono ?_
    rintro e w6 ⟨rfl, hk⟩
    have HK6 := Lib.hid (HK5.out.keep hk)
    clear hk
    cases b
    all_goals
      go_wp2_with fail
      go_ret
      exact ⟨rfl, HK6.out⟩
  · obtain ⟨d2, u2, b2, hcv⟩ := clsV_form m
    rw [hcv]
    clear Hfx Hn hcv
    go_wp2_with fail
    refine (fixed_any _ (He.out.keep HK5.out)).mono ?_
    rintro e w6 ⟨rfl, hk⟩
    have HK6 := Lib.hid (HK5.out.keep hk)
    clear hk
    cases b
    all_goals
      go_wp2_with fail
      go_ret
      exact ⟨rfl, HK6.out⟩
end Go.Proofs.YthopldpaoeabnaaDoor
