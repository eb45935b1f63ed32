/-
  stillageref22: letter, Num, Name.
-/
import Derived.Test.YthopldpaoeabnaaDoorPolNamesL
import Derived.Test.YthopldpaoeabnaaDoorStr1
import Derived.Deep.RegionWith
import Derived.IntWalk
namespace Go.Proofs.YthopldpaoeabnaaDoor
open Go.RowKit
theorem letter_any (c : Nat) (hc : c < 3) (w : World) :
    Calls Tryd.prog 27 #[.int .i64 (c : Int)] w fun e w' => e = .returned (.string ⟨[letterOf c].toArray⟩) ∧ w' = w := by
  have q1 : IntKind.i64.wrap 1 = 1 := rfl
  have q2 : IntKind.i64.wrap 2 = 2 := rfl
  have q3 : IntKind.i64.wrap 3 = 3 := rfl
  rcases (by omega : c = 0 ∨ c = 1 ∨ c = 2) with rfl | rfl | rfl
  all_goals
    go_enter Tryd.func27, Tryd.ntmps27
    go_wp2_with fail
    go_ret
    exact ⟨rfl, rfl⟩
set_option maxRecDepth 100000 in
set_option maxHeartbeats 1000000 in
theorem num_fuel (m : Nat) : ∀ (n : Int) (w : World), 0 ≤ n → n ≤ 1073741824 → n < m →
    Calls Tryd.prog 28 #[.int .i64 n] w fun e w' => e = .returned (.string ⟨(Lib.itoa n).toArray⟩) ∧ Keep w w' := by
  induction m with
  | zero => intro n w h0 h1 h2; omega
  | succ m ih =>
    intro n w h0 h1 h2
    have Ih := Lib.hid ih
    clear ih
    have hst := fun x hx W b h => run_str_one (P := Tryd.prog) Tryd.underlying58 Tryd.underlying5 Tryd.underlying9 x hx W b h
    by_cases hn : n < 10
    · have He := Lib.hid (itoa_digit n h0 hn)
      have hw : IntKind.u8.wrap (48 + n) = 48 + n := wrap8 _ (by omega)
      have hs2 := hst (48 + n) (by omega)
      clear hst
      go_enter Tryd.func28, Tryd.ntmps28
      go_wp2_with fail
      go_ret
      exact ⟨by rw [He.out]; rfl, (Mod.refl _ _).alloc _⟩
    · have He := Lib.hid (itoa_step n (by omega))
      have hw : IntKind.u8.wrap (48 + n % 10) = 48 + n % 10 := wrap8 _ (by omega)
      have hs2 := hst (48 + n % 10) (by omega)
      have hb0 : 0 ≤ n % 10 := by omega
      have hb1 : n % 10 < 10 := by omega
      have e1 : n.tdiv 10 = n / 10 := Int.tdiv_eq_ediv_of_nonneg h0
      have e2 : n.tmod 10 = n % 10 := Int.tmod_eq_emod_of_nonneg h0
      have e3 : IntKind.i64.wrap (n / 10) = n / 10 := IntWalk.i64_in _ (by omega)
      have e4 : IntKind.i64.wrap (48 + n % 10) = 48 + n % 10 := IntWalk.i64_in _ (by omega)
      have hlim : (Lib.itoa (n / 10)).length ≤ 10 := (itoa_short (n / 10) (by omega) (by omega)).2
      have Hb := Lib.hid (show 0 ≤ n / 10 ∧ n / 10 ≤ 1073741824 ∧ n / 10 < m by omega)
      clear hst
      go_enter Tryd.func28, Tryd.ntmps28
      go_wp2_with fail
      go_region_with (go_at_call 28; refine (Ih.out _ _ Hb.out.1 Hb.out.2.1 Hb.out.2.2).mono ?_; rintro e w1 ⟨rfl, hk⟩; have hcc := fun b i (h : b < _) => hk.cell (p := ⟨b, i, none⟩) h id)
      all_goals
        go_wp2_with fail
        go_ret
        first
          | exact ⟨by rw [He.out]; rfl, ((Mod.refl _ w).drew.keep hk).alloc _⟩
          | exact ⟨by rw [He.out]; rfl, ((Mod.refl _ w).drew.alloc _).keep hk⟩
          | exact ⟨by rw [He.out]; rfl, ((Mod.refl _ w).alloc _).drew.keep hk⟩
theorem num_any (n : Int) (w : World) (h0 : 0 ≤ n) (h1 : n ≤ 1073741824) :
    Calls Tryd.prog 28 #[.int .i64 n] w fun e w' => e = .returned (.string ⟨(Lib.itoa n).toArray⟩) ∧ Keep w w' := num_fuel (n.toNat + 1) n w h0 h1 (by omega)
set_option maxRecDepth 100000 in
set_option maxHeartbeats 1000000 in
theorem rname_any (c t : Int) (w : World) :
    Calls Tryd.prog 16 #[.int .i64 c, .int .i64 t] w fun e w' => e = .returned (nameV c t) ∧ Keep w w' := by
  go_enter Tryd.func16, Tryd.ntmps16
  by_cases hf : nameFits c t
  · have hv : nameV c t = .tuple #[.string ⟨(letterOf c.toNat :: 46 :: Lib.itoa t).toArray⟩, .int .i64 0] := by rw [nameV, nameOf, if_pos hf]; rfl
    have Hv := Lib.hid hv
    obtain ⟨f0, f1, f2, f3⟩ := hf
    have n0 : ¬ c < 0 := by omega
    have n1 : ¬ c > 2 := by omega
    have n2 : ¬ t < 1 := by omega
    have n3 : ¬ t > 1073741824 := by omega
    have hl := (itoa_short t (by omega) f3).2
    have Hf := Lib.hid (And.intro f2 f3)
    obtain ⟨k, rfl⟩ : ∃ k : Nat, c = k := ⟨c.toNat, by omega⟩
    have Hk : RowKit.Hid (k < 3) := Lib.hid (by omega)
    clear hv f0 f1 f2 f3
    go_wp2_with fail
    clear n0 n1 n2 n3
    refine (letter_any k Hk.out _).mono ?_
    rintro e w1 ⟨rfl, rfl⟩
    go_wp2_with fail
    refine (num_any t _ (by have := Hf.out.1; omega) Hf.out.2).mono ?_
    rintro e w1 ⟨rfl, hk⟩
    have HK := Lib.hid hk
    clear hk
    go_wp2_with fail
    go_ret2
    exact ⟨by rw [Hv.out]; rfl, HK.out⟩
  · have hv : nameV c t = .tuple #[.string ⟨#[]⟩, .int .i64 220] := by rw [nameV, nameOf, if_neg hf]
    have Hv := Lib.hid hv
    have hn : c < 0 ∨ (¬ c < 0 ∧ c > 2) ∨ (¬ c < 0 ∧ ¬ c > 2 ∧ t < 1) ∨ (¬ c < 0 ∧ ¬ c > 2 ∧ ¬ t < 1 ∧ t > 1073741824) := by unfold nameFits at hf; omega
    clear hf hv
    rcases hn with h | ⟨h, h1⟩ | ⟨h, h1, h2⟩ | ⟨h, h1, h2, h3⟩
    all_goals
      go_wp2_with fail
      go_ret2
      refine ⟨?_, Mod.refl _ _⟩
      rw [Hv.out]; rfl
end Go.Proofs.YthopldpaoeabnaaDoor
