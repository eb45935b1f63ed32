/-
  commands.Path.
-/
import Derived.Test.YthmpblccplphfaaGreatDoorCmdNameR
import Derived.Test.YthmpblccplphfaaGreatDoorSameStrs
namespace Go.Proofs.YthmpblccplphfaaGreatDoor
open Go.RowKit
def pathErr (s : List UInt8) : Int := if (pathOf s).isSome then 0 else 130
def pathNames (s : List UInt8) : List (List UInt8) := (pathOf s).getD []
theorem path_root : pathOf [47] = some [] := by rw [pathOf, if_pos rfl]
theorem path_not {s : List UInt8} (h : ∀ r, s ≠ 47 :: r) : pathOf s = none := by
  unfold pathOf
  split
  · rename_i r; exact absurd rfl (h r)
  · rfl
theorem path_cons {r : List UInt8} (h : r ≠ []) : pathOf (47 :: r) = if (spl 47 r).length ≤ 8 ∧ (spl 47 r).all nameOk = true then some (spl 47 r) else none := by
  rw [pathOf, if_neg h]
theorem trim_cons (r : List UInt8) : Lib.trimPrefix (47 :: r) [47] = r ∧ Lib.hasPrefix (47 :: r) [47] = true := by
  constructor <;> simp [Lib.trimPrefix, Lib.hasPrefix, List.isPrefixOf]
theorem trim_not {s : List UInt8} (h : ∀ r, s ≠ 47 :: r) : Lib.trimPrefix s [47] = s ∧ Lib.hasPrefix s [47] = false := by
  have h1 : Lib.hasPrefix s [47] = false := by
    cases s with
    | nil => rfl
    | cons c r =>
      have hc : ¬ c = 47 := fun e => h r (by rw [e])
      simp [Lib.hasPrefix, List.isPrefixOf]
      exact fun e => hc e.symm
  exact ⟨by rw [Lib.trimPrefix, h1]; rfl, h1⟩
theorem nil_own (w : World) (base : Nat) (t : TypeId) : w.ownsRow base t 1 (.slice none 0 0) 0 [] := ⟨rfl, .inl ⟨rfl, rfl⟩⟩
theorem own_made {w : World} {b base : Nat} {l : List (List UInt8)} (h : World.blk w b (scells l) 9) (hb : base ≤ b) (hl : l.length ≤ maxLen) : OwnStrs w base (.slice (some ⟨b, 0, none⟩) l.length l.length) l :=
  ⟨by simp [scells], .inr ⟨b, l.length, scells l, rfl, hb, h, Nat.le_refl _, hl, by simp [scells], by rw [Nat.mul_one]; exact List.take_of_length_le (by simp [scells])⟩⟩
set_option maxRecDepth 100000 in
set_option maxHeartbeats 1000000 in
theorem path_any (s : List UInt8) (w : World) (he : Env w) (hs : s.length < 4294967281) :
    Calls Tryz.prog 73 #[.string ⟨s.toArray⟩] w fun e w' => ∃ v, e = .returned (.tuple #[v, .int .i64 (pathErr s)]) ∧ OwnStrs w' w.heap.size v (pathNames s) ∧ Keep w w' := by
  have He := Lib.hid he
  have Hs := Lib.hid hs
  clear he hs
  by_cases h0 : s = [47]
  · subst h0
    go_enter Tryz.func73, Tryz.ntmps73
    go_wp2_with fail
    go_ret2
    exact ⟨_, by rw [pathErr, path_root]; rfl, by rw [pathNames, path_root]; exact nil_own _ _ _, Mod.refl _ _⟩
  · have e0 : (s == [47]) = false := beq_false_of_ne h0
    by_cases h1 : ∃ r, s = 47 :: r
    · obtain ⟨r, rfl⟩ := h1
      have hr : r ≠ [] := fun e => h0 (by rw [e])
      have Hp := Lib.hid (path_cons hr)
      have Ht := Lib.hid (trim_cons r)
      have hlr : r.length < 4294967281 := by have := Hs.out; simp at this; omega
      have Hlr := Lib.hid hlr
      clear h0 hr hlr
      go_enter Tryz.func73, Tryz.ntmps73
      go_wp2_with fail
      refine (cutPrefix_any (47 :: r) [47] w).mono ?_
      rintro e w1 ⟨rfl, hw⟩
      subst hw
      rw [Ht.out.1, Ht.out.2]
      go_wp2_with fail
      refine (split_any 47 r Hlr.out _ He.out).mono ?_
      rintro e w2 ⟨rfl, hw⟩
      subst hw
      have hsl : (spl 47 r).length ≤ 4294967281 := by rw [spl_len]; have := List.count_le_length (a := (47 : UInt8)) (l := r); have := Hlr.out; omega
      have Hnm : RowKit.Hid (∀ x ∈ spl 47 r, x.length ≤ 4294967281) := Lib.hid (fun x hx => by
        obtain ⟨i, hi⟩ := List.mem_iff_getElem?.1 hx
        have h1 := spl_piece 47 r i
        rw [List.getD_eq_getElem?_getD, hi] at h1
        have := Hlr.out
        simp at h1; omega)
      generalize spl 47 r = L at *
      obtain ⟨N, hN⟩ : ∃ N, L.length = N := ⟨_, rfl⟩
      have HN := Lib.hid hN
      rw [hN] at hsl ⊢
      clear e0 hN
      have HB : RowKit.Hid (World.blk (w1.alloc (.cells (scells L) 9)) w1.heap.size (scells L) 9) := Lib.hid (blk_new _ _ _)
      have HK : RowKit.Hid (Keep w1 (w1.alloc (.cells (scells L) 9))) := Lib.hid ((Mod.refl _ _).alloc _)
      by_cases h8 : N ≤ 8
      · have h8' : ¬ (N : Int) > 8 := by omega
        go_wp2_with fail
        generalize w1.alloc (.cells (scells L) 9) = w2 at *
        go_loopw [27] (fun i wr => ∃ k : Nat, k ≤ N ∧ i = .int .i64 (k : Int) ∧ Keep w2 wr ∧ (L.take k).all nameOk = true) (fun i _ => N - (intOf i).toNat)
        case atStart => exact ⟨0, by omega, rfl, Mod.refl _ _, by simp⟩
        case round =>
          obtain ⟨k, hk, rfl, hK, hA⟩ := hrel
          have HKr := Lib.hid hK
          have HA := Lib.hid hA
          clear hK hA
          by_cases hlt : k < N
          · obtain ⟨x, hx⟩ : ∃ x, L[k]? = some x := ⟨_, List.getElem?_eq_getElem (by rw [HN.out]; exact hlt)⟩
            have Hx := Lib.hid hx
            have hc : wr.cell? ⟨w1.heap.size, k, none⟩ = some (.string ⟨x.toArray⟩) := by
              rw [blk_cell (blk_mod HKr.out HB.out id), scells_get, hx]; rfl
            clear hx
            go_wp2_with fail
            refine (name_any x wr (by have := Hnm.out x (List.mem_of_getElem? Hx.out); omega)).mono ?_
            rintro e w3 ⟨rfl, hk3⟩
            have HK3 := Lib.hid (HKr.out.keep hk3)
            clear hk3 hc
            rcases hok : nameOk x with _ | _
            · have Hn : RowKit.Hid (pathOf (47 :: r) = none) := Lib.hid (by
                rw [Hp.out, if_neg]
                rintro ⟨_, h⟩
                have := List.all_eq_true.1 h x (List.mem_of_getElem? Hx.out)
                rw [hok] at this; cases this)
              clear hok
              go_wp2_with fail
              go_ret2
              exact ⟨_, by rw [pathErr, Hn.out]; rfl, by rw [pathNames, Hn.out]; exact nil_own _ _ _, HK.out.keep HK3.out⟩
            · have HA2 : RowKit.Hid ((L.take (k + 1)).all nameOk = true) := Lib.hid (by
                rw [List.take_add_one, Hx.out, Option.toList_some, List.all_append, HA.out]; simp [hok])
              clear hok
              go_wp2_with fail
              exact ⟨⟨k + 1, by omega, by go_num, HK3.out, HA2.out⟩, by simp [intOf]; omega⟩
          · have Hn : RowKit.Hid (pathOf (47 :: r) = some L) := Lib.hid (by
              rw [Hp.out, if_pos]
              refine ⟨by rw [HN.out]; exact h8, ?_⟩
              have h := HA.out
              rwa [List.take_of_length_le (by rw [HN.out]; omega)] at h)
            go_wp2_with fail
            go_ret2
            refine ⟨_, by rw [pathErr, Hn.out]; rfl, ?_, HK.out.keep HKr.out⟩
            rw [pathNames, Hn.out, ← HN.out]
            exact own_made (blk_mod HKr.out HB.out id) (Nat.le_refl _) (by rw [HN.out]; simp [maxLen]; omega)
      · have h8' : (N : Int) > 8 := by omega
        have Hn : RowKit.Hid (pathOf (47 :: r) = none) := Lib.hid (by rw [Hp.out, if_neg (fun h => h8 (by have := h.1; rwa [HN.out] at this))])
        go_wp2_with fail
        go_ret2
        exact ⟨_, by rw [pathErr, Hn.out]; rfl, by rw [pathNames, Hn.out]; exact nil_own _ _ _, HK.out⟩
    · have hno : ∀ r, s ≠ 47 :: r := fun r e => h1 ⟨r, e⟩
      have Ht := Lib.hid (trim_not hno)
      have Hn := Lib.hid (path_not hno)
      clear h0 h1 hno
      go_enter Tryz.func73, Tryz.ntmps73
      go_wp2_with fail
      refine (cutPrefix_any s [47] w).mono ?_
      rintro e w1 ⟨rfl, hw⟩
      subst hw
      rw [Ht.out.1, Ht.out.2]
      go_wp2_with fail
      refine (split_any 47 s Hs.out _ He.out).mono ?_
      rintro e w2 ⟨rfl, hw⟩
      subst hw
      clear e0
      go_wp2_with fail
      go_ret2
      exact ⟨_, by rw [pathErr, Hn.out]; rfl, by rw [pathNames, Hn.out]; exact nil_own _ _ _, (Mod.refl _ _).alloc _⟩
end Go.Proofs.YthmpblccplphfaaGreatDoor
