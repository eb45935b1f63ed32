/-
  policy.Class.
-/
import Derived.Test.YthopldpaoeabnaaDoorPolName
namespace Go.Proofs.YthopldpaoeabnaaDoor
open Go.RowKit
/-- the tick that stands behind a class's letter and a dot -/
def tickOf (s : List UInt8) (c : Nat) : Int := atoiV (Lib.trimPrefix s [letterOf c, 46])
def hit (s : List UInt8) (c : Nat) : Prop := nameFits c (tickOf s c) ∧ nameText c (tickOf s c) = s
instance (s : List UInt8) (c : Nat) : Decidable (hit s c) := by unfold hit; infer_instance
def cls (s : List UInt8) : Option (Nat × Int) :=
  if hit s 0 then some (0, tickOf s 0) else if hit s 1 then some (1, tickOf s 1) else if hit s 2 then some (2, tickOf s 2) else none
def clsV : Option (Nat × Int) → Value
  | some (c, t) => .tuple #[.int .i64 (c : Int), .int .i64 t, .bool true]
  | none => .tuple #[.int .i64 0, .int .i64 0, .bool false]
theorem hit_prefix {s : List UInt8} {c : Nat} (h : hit s c) : Lib.hasPrefix s [letterOf c, 46] = true := by
  rw [← h.2, nameText]
  simp [Lib.hasPrefix, List.isPrefixOf]
theorem hit_name {s : List UInt8} {c : Nat} (h : hit s c) : nameOf c (tickOf s c) = (s, 0) := by
  rw [nameOf, if_pos h.1, h.2]
theorem miss_name {s : List UInt8} {c : Nat} (h : ¬ hit s c) : (nameOf c (tickOf s c)).2 = 220 ∨ ((nameOf c (tickOf s c)).2 = 0 ∧ (nameOf c (tickOf s c)).1 ≠ s) := by
  unfold nameOf
  split
  · rename_i hf
    exact .inr ⟨rfl, fun e => h ⟨hf, e⟩⟩
  · exact .inl rfl
theorem trim_len (s p : List UInt8) : (Lib.trimPrefix s p).length ≤ s.length := by
  unfold Lib.trimPrefix; split <;> simp
theorem bytes_ne {a b : List UInt8} (h : a ≠ b) : (⟨a.toArray⟩ : ByteArray) ≠ ⟨b.toArray⟩ := fun e => h (by simpa using e)
set_option maxRecDepth 100000 in
set_option maxHeartbeats 1000000 in
theorem class_any (s : List UInt8) (w : World) (he : Env w) (hs : s.length ≤ 140737488355328) :
    Calls Tryd.prog 17 #[.string ⟨s.toArray⟩] w fun e w' => e = .returned (clsV (cls s)) ∧ Keep w w' := by
  have He := Lib.hid he
  have Hs := Lib.hid hs
  clear he hs
  go_enter Tryd.func17, Tryd.ntmps17
  go_wp2_with fail
  go_loopw [12] (fun i wr => ∃ (k : Nat), k ≤ 3 ∧ i = .int .i64 (k : Int) ∧ Keep w wr ∧ (∀ i, i < k → ¬ hit s i)) (fun i _ => 3 - (intOf i).toNat)
  case atStart => exact ⟨0, by omega, rfl, Mod.refl _ _, fun i hi => by omega⟩
  case round =>
    obtain ⟨k, hk, rfl, hK, hF⟩ := hrel
    have HK := Lib.hid hK
    have HF := Lib.hid hF
    clear hK hF
    have q1 : IntKind.i64.wrap 1 = 1 := rfl
    have q2 : IntKind.i64.wrap 2 = 2 := rfl
    have q3 : IntKind.i64.wrap 3 = 3 := rfl
    rcases (by omega : k = 0 ∨ k = 1 ∨ k = 2 ∨ k = 3) with rfl | rfl | rfl | rfl
    · go_wp2_with fail
      refine (cutPrefix_any s [104, 46] wr).mono ?_
      rintro e w1 ⟨rfl, rfl⟩
      go_wp2_with fail
      refine (atoi_any _ (Nat.le_trans (trim_len _ _) Hs.out) _ (He.out.keep HK.out)).mono ?_
      rintro e w1 ⟨⟨x, rfl⟩, hk1⟩
      have HK1 := Lib.hid (HK.out.keep hk1)
      clear hk1
      rw [show atoiV (Lib.trimPrefix s [104, 46]) = tickOf s 0 from rfl]
      go_wp2_with fail
      refine (name_any _ _ _ (He.out.keep HK1.out)).mono ?_
      rintro e w2 ⟨rfl, hk2⟩
      have HK2 := Lib.hid (HK1.out.keep hk2)
      clear hk2
      by_cases hh : hit s 0
      · have hp := hit_prefix hh
        have hn := hit_name hh
        rw [show nameV 0 (tickOf s 0) = .tuple #[.string ⟨s.toArray⟩, .int .i64 0] by rw [nameV]; rw [show ((0:Int)) = ((0:Nat) : Int) from rfl, hn]; try rfl]
        rw [show Lib.hasPrefix s [104, 46] = true from hp]
        have Hh := Lib.hid hh
        clear hp hn hh
        go_wp2_with fail
        go_ret3
        refine ⟨?_, HK2.out⟩
        rw [cls, if_pos Hh.out]; rfl
      · have hm := miss_name hh
        have HF2 : RowKit.Hid (∀ i, i < 0 + 1 → ¬ hit s i) := Lib.hid (fun i hi => by
          rcases (by omega : i < 0 ∨ i = 0) with h | rfl
          · exact HF.out i h
          · exact hh)
        obtain ⟨m, er, hme⟩ : ∃ m er, nameOf ((0:Nat) : Int) (tickOf s 0) = (m, er) := ⟨_, _, rfl⟩
        rw [show nameV 0 (tickOf s 0) = .tuple #[.string ⟨m.toArray⟩, .int .i64 er] by rw [nameV]; rw [show ((0:Int)) = ((0:Nat) : Int) from rfl, hme]; try rfl]
        rw [hme] at hm
        generalize Lib.hasPrefix s [104, 46] = hp
        clear hh hme
        cases hp
        · clear hm
          go_wp2_with fail
          exact ⟨⟨1, by omega, rfl, HK2.out, HF2.out⟩, by decide⟩
        · rcases hm with rfl | ⟨rfl, hne⟩
          · go_wp2_with fail
            exact ⟨⟨1, by omega, rfl, HK2.out, HF2.out⟩, by decide⟩
          · have hne2 : (m == s) = false := beq_false_of_ne hne
            clear hne
            go_wp2_with fail
            exact ⟨⟨1, by omega, rfl, HK2.out, HF2.out⟩, by decide⟩
    · go_wp2_with fail
      refine (cutPrefix_any s [100, 46] wr).mono ?_
      rintro e w1 ⟨rfl, rfl⟩
      go_wp2_with fail
      refine (atoi_any _ (Nat.le_trans (trim_len _ _) Hs.out) _ (He.out.keep HK.out)).mono ?_
      rintro e w1 ⟨⟨x, rfl⟩, hk1⟩
      have HK1 := Lib.hid (HK.out.keep hk1)
      clear hk1
      rw [show atoiV (Lib.trimPrefix s [100, 46]) = tickOf s 1 from rfl]
      go_wp2_with fail
      refine (name_any _ _ _ (He.out.keep HK1.out)).mono ?_
      rintro e w2 ⟨rfl, hk2⟩
      have HK2 := Lib.hid (HK1.out.keep hk2)
      clear hk2
      by_cases hh : hit s 1
      · have hp := hit_prefix hh
        have hn := hit_name hh
        rw [show nameV 1 (tickOf s 1) = .tuple #[.string ⟨s.toArray⟩, .int .i64 0] by rw [nameV]; rw [show ((1:Int)) = ((1:Nat) : Int) from rfl, hn]; try rfl]
        rw [show Lib.hasPrefix s [100, 46] = true from hp]
        have Hh := Lib.hid hh
        clear hp hn hh
        go_wp2_with fail
        go_ret3
        refine ⟨?_, HK2.out⟩
        rw [cls, if_neg (HF.out 0 (by omega)), if_pos Hh.out]; rfl
      · have hm := miss_name hh
        have HF2 : RowKit.Hid (∀ i, i < 1 + 1 → ¬ hit s i) := Lib.hid (fun i hi => by
          rcases (by omega : i < 1 ∨ i = 1) with h | rfl
          · exact HF.out i h
          · exact hh)
        obtain ⟨m, er, hme⟩ : ∃ m er, nameOf ((1:Nat) : Int) (tickOf s 1) = (m, er) := ⟨_, _, rfl⟩
        rw [show nameV 1 (tickOf s 1) = .tuple #[.string ⟨m.toArray⟩, .int .i64 er] by rw [nameV]; rw [show ((1:Int)) = ((1:Nat) : Int) from rfl, hme]; try rfl]
        rw [hme] at hm
        generalize Lib.hasPrefix s [100, 46] = hp
        clear hh hme
        cases hp
        · clear hm
          go_wp2_with fail
          exact ⟨⟨2, by omega, rfl, HK2.out, HF2.out⟩, by decide⟩
        · rcases hm with rfl | ⟨rfl, hne⟩
          · go_wp2_with fail
            exact ⟨⟨2, by omega, rfl, HK2.out, HF2.out⟩, by decide⟩
          · have hne2 : (m == s) = false := beq_false_of_ne hne
            clear hne
            go_wp2_with fail
            exact ⟨⟨2, by omega, rfl, HK2.out, HF2.out⟩, by decide⟩
    · go_wp2_with fail
      refine (cutPrefix_any s [119, 46] wr).mono ?_
      rintro e w1 ⟨rfl, rfl⟩
      go_wp2_with fail
      refine (atoi_any _ (Nat.le_trans (trim_len _ _) Hs.out) _ (He.out.keep HK.out)).mono ?_
      rintro e w1 ⟨⟨x, rfl⟩, hk1⟩
      have HK1 := Lib.hid (HK.out.keep hk1)
      clear hk1
      rw [show atoiV (Lib.trimPrefix s [119, 46]) = tickOf s 2 from rfl]
      go_wp2_with fail
      refine (name_any _ _ _ (He.out.keep HK1.out)).mono ?_
      rintro e w2 ⟨rfl, hk2⟩
      have HK2 := Lib.hid (HK1.out.keep hk2)
      clear hk2
      by_cases hh : hit s 2
      · have hp := hit_prefix hh
        have hn := hit_name hh
        rw [show nameV 2 (tickOf s 2) = .tuple #[.string ⟨s.toArray⟩, .int .i64 0] by rw [nameV]; rw [show ((2:Int)) = ((2:Nat) : Int) from rfl, hn]; try rfl]
        rw [show Lib.hasPrefix s [119, 46] = true from hp]
        have Hh := Lib.hid hh
        clear hp hn hh
        go_wp2_with fail
        go_ret3
        refine ⟨?_, HK2.out⟩
        rw [cls, if_neg (HF.out 0 (by omega)), if_neg (HF.out 1 (by omega)), if_pos Hh.out]; rfl
      · have hm := miss_name hh
        have HF2 : RowKit.Hid (∀ i, i < 2 + 1 → ¬ hit s i) := Lib.hid (fun i hi => by
          rcases (by omega : i < 2 ∨ i = 2) with h | rfl
          · exact HF.out i h
          · exact hh)
        obtain ⟨m, er, hme⟩ : ∃ m er, nameOf ((2:Nat) : Int) (tickOf s 2) = (m, er) := ⟨_, _, rfl⟩
        rw [show nameV 2 (tickOf s 2) = .tuple #[.string ⟨m.toArray⟩, .int .i64 er] by rw [nameV]; rw [show ((2:Int)) = ((2:Nat) : Int) from rfl, hme]; try rfl]
        rw [hme] at hm
        generalize Lib.hasPrefix s [119, 46] = hp
        clear hh hme
        cases hp
        · clear hm
          go_wp2_with fail
          exact ⟨⟨3, by omega, rfl, HK2.out, HF2.out⟩, by decide⟩
        · rcases hm with rfl | ⟨rfl, hne⟩
          · go_wp2_with fail
            exact ⟨⟨3, by omega, rfl, HK2.out, HF2.out⟩, by decide⟩
          · have hne2 : (m == s) = false := beq_false_of_ne hne
            clear hne
            go_wp2_with fail
            exact ⟨⟨3, by omega, rfl, HK2.out, HF2.out⟩, by decide⟩
    · go_wp2_with fail
      go_ret3
      refine ⟨?_, HK.out⟩
      rw [cls, if_neg (HF.out 0 (by omega)), if_neg (HF.out 1 (by omega)), if_neg (HF.out 2 (by omega))]; rfl
end Go.Proofs.YthopldpaoeabnaaDoor
