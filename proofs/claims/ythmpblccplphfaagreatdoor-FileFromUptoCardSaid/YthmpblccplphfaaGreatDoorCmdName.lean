/-
  tables.Name, stillageref12.Name: may a text be a name?
-/
import Derived.Test.YthmpblccplphfaaGreatDoorCmdL
import Derived.Test.YthmpblccplphfaaGreatDoorStr1
import Derived.Lib.SlTrimSet
namespace Go.Proofs.YthmpblccplphfaaGreatDoor
open Go.RowKit
def nameSet : List UInt8 := [97, 98, 99, 100, 101, 102, 103, 104, 105, 106, 107, 108, 109, 110, 111, 112, 113, 114, 115, 116, 117, 118, 119, 120, 121, 122, 48, 49, 50, 51, 52, 53, 54, 55, 56, 57, 46, 45, 95]
theorem nameSet_fin : ∀ n : Fin 256, nameSet.contains (UInt8.ofNat n.val) = nameByte (UInt8.ofNat n.val) := by decide +kernel
theorem nameSet_has (c : UInt8) : nameSet.contains c = nameByte c := by
  have h := nameSet_fin ⟨c.toNat, c.toNat_lt⟩
  simpa using h
theorem dropWhile_nil {α : Type} (p : α → Bool) (l : List α) : l.dropWhile p = [] ↔ l.all p = true := by
  induction l with
  | nil => simp
  | cons a l ih =>
    rw [List.dropWhile_cons]
    split
    · rename_i h; rw [ih, List.all_cons, h, Bool.true_and]
    · rename_i h; simp [h]
theorem dropWhile_all {α : Type} (p : α → Bool) (l : List α) (h : (l.dropWhile p).all p = true) : l.dropWhile p = [] := by
  rcases hl : l.dropWhile p with _ | ⟨a, r⟩
  · rfl
  · rw [hl] at h
    have : p a = false := by
      have := List.head?_dropWhile_not p l
      rw [hl] at this
      simpa using this
    simp [this] at h
theorem trimS_nil (l cs : List UInt8) : Lib.trimS l cs = [] ↔ l.all (cs.contains ·) = true := by
  unfold Lib.trimS Lib.trimLeftS Lib.trimRightS
  rw [dropWhile_nil, List.all_reverse]
  constructor
  · intro h
    have := (dropWhile_nil _ _).1 (dropWhile_all _ _ h)
    rwa [List.all_reverse] at this
  · intro h
    rw [(dropWhile_nil (cs.contains ·) l.reverse).2 (by rw [List.all_reverse]; exact h)]
    rfl
theorem trim_name {l : List UInt8} : (Lib.trimS l nameSet == []) = l.all nameByte := by
  rw [Bool.eq_iff_iff, beq_iff_eq, trimS_nil]
  have e : (fun c => nameSet.contains c) = nameByte := funext nameSet_has
  rw [e]
/-- a name's byte, by ranges -/
theorem nameByte_yes {c : UInt8} (h : (97 ≤ c.toNat ∧ c.toNat ≤ 122) ∨ (48 ≤ c.toNat ∧ c.toNat ≤ 57) ∨ c.toNat = 46 ∨ c.toNat = 45 ∨ c.toNat = 95) : nameByte c = true := by
  have e : ∀ n : Fin 256, ((97 ≤ n.val ∧ n.val ≤ 122) ∨ (48 ≤ n.val ∧ n.val ≤ 57) ∨ n.val = 46 ∨ n.val = 45 ∨ n.val = 95) → nameByte (UInt8.ofNat n.val) = true := by decide +kernel
  have := e ⟨c.toNat, c.toNat_lt⟩ h
  simpa using this
theorem nameByte_no' {c : UInt8} (h : ¬ ((97 ≤ c.toNat ∧ c.toNat ≤ 122) ∨ (48 ≤ c.toNat ∧ c.toNat ≤ 57) ∨ c.toNat = 46 ∨ c.toNat = 45 ∨ c.toNat = 95)) : nameByte c = false := by
  have e : ∀ n : Fin 256, ¬ ((97 ≤ n.val ∧ n.val ≤ 122) ∨ (48 ≤ n.val ∧ n.val ≤ 57) ∨ n.val = 46 ∨ n.val = 45 ∨ n.val = 95) → nameByte (UInt8.ofNat n.val) = false := by decide +kernel
  have := e ⟨c.toNat, c.toNat_lt⟩ h
  simpa using this
set_option maxRecDepth 100000 in
set_option maxHeartbeats 1000000 in
theorem name_any (s : List UInt8) (w : World) (hs : s.length ≤ 140737488355328) :
    Calls Tryz.prog 98 #[.string ⟨s.toArray⟩] w fun e w' => e = .returned (.bool (nameOk s)) ∧ Keep w w' := by
  have HT := Lib.hid (Tryz.strings_Trim_laid ⟨s.toArray⟩ ⟨nameSet.toArray⟩ w (by have : ({ data := s.toArray } : ByteArray).size = s.length := by simp [ByteArray.size]
                                                                                 rw [this]; omega) (by decide) (ascii_of_all (by decide)))
  by_cases h0 : s = []
  · subst h0
    go_enter Tryz.func98, Tryz.ntmps98
    go_wp2_with fail
    go_ret
    exact ⟨rfl, Mod.refl _ _⟩
  · have e0 : (s == []) = false := beq_false_of_ne h0
    have e1 : s.isEmpty = false := by cases s; exact absurd rfl h0; rfl
    have hp : 1 ≤ s.length := by cases s; exact absurd rfl h0; simp
    by_cases h1 : s.length ≤ 16
    · by_cases h2 : s = [46]
      · subst h2
        clear HT
        go_enter Tryz.func98, Tryz.ntmps98
        go_wp2_with fail
        go_ret
        exact ⟨rfl, Mod.refl _ _⟩
      · by_cases h3 : s = [46, 46]
        · subst h3
          clear HT
          go_enter Tryz.func98, Tryz.ntmps98
          go_wp2_with fail
          go_ret
          exact ⟨rfl, Mod.refl _ _⟩
        · have e2 : (s == [46]) = false := beq_false_of_ne h2
          have e3 : (s == [46, 46]) = false := beq_false_of_ne h3
          have Hv : RowKit.Hid (nameOk s = s.all nameByte) := Lib.hid (by simp [nameOk, e2, e3, h1, hp])
          have h1' : (s.length : Int) ≤ 16 := by omega
          have Ht := Lib.hid (trim_name (l := s))
          have Hh := Lib.hid (And.intro h0 (And.intro h2 h3))
          clear h0 h2 h3 h1
          go_enter Tryz.func98, Tryz.ntmps98
          go_wp2_with fail
          refine (HT.out).mono ?_
          rintro e w1 ⟨rfl, hb⟩
          have HK := Lib.hid (Mod.ofBelow hb)
          clear hb
          have e5 : (Lib.trimS s nameSet == []) = s.all nameByte := Ht.out
          generalize s.all nameByte = b at *
          generalize Lib.trimS s nameSet = t at *
          go_wp2_with fail
          go_ret
          exact ⟨by rw [Hv.out, ← e5]; rfl, HK.out⟩
    · have h1' : ¬ (s.length : Int) ≤ 16 := by omega
      have Hv : RowKit.Hid (nameOk s = false) := Lib.hid (by simp [nameOk, h1])
      clear h0 HT
      go_enter Tryz.func98, Tryz.ntmps98
      go_wp2_with fail
      go_ret
      exact ⟨by rw [Hv.out]; rfl, Mod.refl _ _⟩
end Go.Proofs.YthmpblccplphfaaGreatDoor
