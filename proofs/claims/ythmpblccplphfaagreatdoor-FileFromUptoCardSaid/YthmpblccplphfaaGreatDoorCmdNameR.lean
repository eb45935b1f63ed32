/-
  stillageref12.Name.
-/
import Derived.Test.YthmpblccplphfaaGreatDoorCmdName
namespace Go.Proofs.YthmpblccplphfaaGreatDoor
open Go.RowKit
theorem all_take {s : List UInt8} {k : Nat} {x : UInt8} (h : s[k]? = some x) (h1 : (s.take k).all nameByte = true) (h2 : nameByte x = true) : (s.take (k + 1)).all nameByte = true := by
  rw [List.take_add_one, h, Option.toList_some, List.all_append, h1]; simp [h2]
theorem all_no {s : List UInt8} {k : Nat} {x : UInt8} (h : s[k]? = some x) (h2 : nameByte x = false) : s.all nameByte = false := by
  rw [Bool.eq_false_iff]
  intro h3
  have := List.all_eq_true.1 h3 x (List.mem_of_getElem? h)
  rw [h2] at this; cases this
set_option maxRecDepth 100000 in
set_option maxHeartbeats 2000000 in
theorem rname_any (s : List UInt8) (w : World) (hs : s.length ≤ 140737488355328) :
    Calls Tryz.prog 77 #[.string ⟨s.toArray⟩] w fun e w' => e = .returned (.bool (nameOk s)) ∧ w = w' := by
  go_enter Tryz.func77, Tryz.ntmps77
  go_wp2_with fail
  go_loop [3] (fun i => ∃ (k : Nat), k ≤ s.length ∧ i = .int .i64 (k : Int) ∧ RowKit.Hid ((s.take k).all nameByte = true)) (fun i => s.length - (intOf i).toNat)
  case atStart => exact ⟨0, by omega, rfl, Lib.hid (by simp)⟩
  case round =>
    obtain ⟨k, hk, rfl, Hd⟩ := hrel
    by_cases hlt : k < s.length
    · obtain ⟨x, hx⟩ : ∃ x, s[k]? = some x := ⟨_, List.getElem?_eq_getElem hlt⟩
      have Hx := Lib.hid hx
      have hix : ∀ W, (Instr.index 9 (.string ⟨s.toArray⟩) (.int .i64 (k : Int))).run Tryz.prog W = .ok (.int .u8 (x.toNat : Int)) W := fun W => run_index_str Tryz.underlying9 s .i64 (k : Int) x (by omega) (by rw [Int.toNat_natCast]; exact hx) W
      clear hx
      by_cases hb : nameByte x = true
      · have Hd2 := Lib.hid (all_take Hx.out Hd.out hb)
        have hc : (97 ≤ x.toNat ∧ x.toNat ≤ 122) ∨ (48 ≤ x.toNat ∧ x.toNat ≤ 57) ∨ x.toNat = 46 ∨ x.toNat = 45 ∨ x.toNat = 95 := by
          apply Decidable.byContradiction
          intro h; rw [nameByte_no' h] at hb; cases hb
        clear hb Hd Hx
        generalize hn : x.toNat = n at *
        clear hn
        rcases hc with ⟨h1, h2⟩ | ⟨h1, h2⟩ | rfl | rfl | rfl
        · have a1 : (97 : Int) ≤ n := by omega
          have a2 : (n : Int) ≤ 122 := by omega
          go_wp2_with fail
          go_round
          case rel => exact ⟨k + 1, by omega, by go_num, Hd2⟩
          case measure => simp [intOf]; omega
        · have a0 : ¬ (97 : Int) ≤ n := by omega
          have a1 : (48 : Int) ≤ n := by omega
          have a2 : (n : Int) ≤ 57 := by omega
          go_wp2_with fail
          go_round
          case rel => exact ⟨k + 1, by omega, by go_num, Hd2⟩
          case measure => simp [intOf]; omega
        all_goals
          go_wp2_with fail
          go_round
          case rel => exact ⟨k + 1, by omega, by go_num, Hd2⟩
          case measure => simp [intOf]; omega
      · have hb2 : nameByte x = false := by simpa using hb
        have Hv : RowKit.Hid (nameOk s = false) := Lib.hid (by simp [nameOk, all_no Hx.out hb2])
        have hc : ¬ ((97 ≤ x.toNat ∧ x.toNat ≤ 122) ∨ (48 ≤ x.toNat ∧ x.toNat ≤ 57) ∨ x.toNat = 46 ∨ x.toNat = 45 ∨ x.toNat = 95) := by
          intro h; rw [nameByte_yes h] at hb2; cases hb2
        clear hb hb2 Hx Hd
        generalize hn : x.toNat = n at *
        clear hn
        have e1 : ((n : Int) == 46) = false := beq_false_of_ne (by omega)
        have e2 : ((n : Int) == 45) = false := beq_false_of_ne (by omega)
        have e3 : ((n : Int) == 95) = false := beq_false_of_ne (by omega)
        have hn : (¬ (97 : Int) ≤ n ∧ ¬ (48 : Int) ≤ n) ∨ (¬ (97 : Int) ≤ n ∧ (48 : Int) ≤ n ∧ ¬ (n : Int) ≤ 57) ∨ ((97 : Int) ≤ n ∧ ¬ (n : Int) ≤ 122 ∧ (48 : Int) ≤ n ∧ ¬ (n : Int) ≤ 57) := by omega
        clear hc
        rcases hn with ⟨h1, h2⟩ | ⟨h1, h2, h3⟩ | ⟨h1, h2, h3, h4⟩
        all_goals
          go_wp2_with fail
          go_ret
          exact ⟨by rw [Hv.out]; rfl, rfl⟩
    · have hkl : k = s.length := by omega
      subst hkl
      have Hall : RowKit.Hid (s.all nameByte = true) := Lib.hid (by have h := Hd.out; rwa [List.take_length] at h)
      clear Hd
      by_cases h1 : 1 ≤ s.length
      · by_cases h2 : s.length ≤ 16
        · have h1' : (1 : Int) ≤ s.length := by omega
          have h2' : (s.length : Int) ≤ 16 := by omega
          by_cases e1 : s = [46]
          · subst e1
            clear Hall
            go_wp2_with fail
            go_ret
            exact ⟨rfl, rfl⟩
          · by_cases e2 : s = [46, 46]
            · subst e2
              clear Hall
              go_wp2_with fail
              go_ret
              exact ⟨rfl, rfl⟩
            · have b1 : (s == [46]) = false := beq_false_of_ne e1
              have b2 : (s == [46, 46]) = false := beq_false_of_ne e2
              have Hv : RowKit.Hid (nameOk s = true) := Lib.hid (by simp [nameOk, Hall.out, h1, h2, b1, b2])
              clear e1 e2 Hall
              go_wp2_with fail
              go_ret
              exact ⟨by rw [Hv.out]; rfl, rfl⟩
        · have Hv : RowKit.Hid (nameOk s = false) := Lib.hid (by simp [nameOk, h2])
          have h1' : (1 : Int) ≤ s.length := by omega
          have h2' : ¬ (s.length : Int) ≤ 16 := by omega
          clear Hall
          go_wp2_with fail
          go_ret
          exact ⟨by rw [Hv.out]; rfl, rfl⟩
      · have Hv : RowKit.Hid (nameOk s = false) := Lib.hid (by simp [nameOk, h1])
        have h1' : ¬ (1 : Int) ≤ s.length := by omega
        clear Hall
        go_wp2_with fail
        go_ret
        exact ⟨by rw [Hv.out]; rfl, rfl⟩
end Go.Proofs.YthmpblccplphfaaGreatDoor
