/-
  The walk of FileCuts.
-/
import Derived.Test.YthmpblccplphfaaGreatDoorFilFixed
import Derived.Test.YthmpblccplphfaaGreatDoorClose
namespace Go.Proofs.YthmpblccplphfaaGreatDoor
open Go.RowKit
theorem and_65535 (x : Int) : ∃ n : Nat, n ≤ 65535 ∧ bits .and .i64 x 65535 = (n : Int) := by
  refine ⟨(BitVec.ofInt 64 x).toNat &&& 65535, Nat.and_le_right, ?_⟩
  have hle : (BitVec.ofInt 64 x).toNat &&& 65535 ≤ 65535 := Nat.and_le_right
  have h2 : (BitVec.ofInt 64 (65535 : Int)).toNat = 65535 := by decide
  show IntKind.i64.wrap ((BitVec.ofInt 64 x &&& BitVec.ofInt 64 (65535 : Int)).toNat : Int) = _
  rw [BitVec.toNat_and, h2, IntKind.wrap_i64]
  omega
theorem small5 {k n : Int} {p d x : List UInt8} (hp : p.length ≤ 1000) (hd : d.length ≤ 1000) (hx : x.length ≤ 100000) (hn : 0 ≤ n ∧ n ≤ 1000000) : (⟨k, p, d, n, x⟩ : Cmd).Small :=
  ⟨by show p.length < _; omega, by show d.length < _; omega, by show x.length ≤ _; omega, by show _ ≤ n ∧ n ≤ _; omega⟩
def cutT (h : List UInt8) : Tr := [⟨1, true, 1, [], [([102], 2)]⟩, ⟨2, false, 1, h, []⟩]
/-- a text written into another -/
def over (h : List UInt8) (k : Nat) (s : List UInt8) : List UInt8 := if (h.take k ++ s).length < h.length then (h.take k ++ s) ++ h.drop (h.take k ++ s).length else h.take k ++ s
theorem path_f : pathOf [47, 102] = some [[102]] := by decide +kernel
theorem some_f : (pathOf [47, 102]).isSome = true := by rw [path_f]; rfl
theorem cut_at (h : List UInt8) : atT (cutT h) [47, 102] = .ok 2 := by
  unfold atT
  rw [path_f]
  rfl
theorem cut_get (h : List UInt8) : (cutT h).get 2 = some ⟨2, false, 1, h, []⟩ := rfl
theorem cut_new : doT Tr.new ⟨0, [47, 102], [], 0, []⟩ = (cutT [], 0) := by
  rw [do_make (okc_make _ some_f) (.inl rfl)]
  kernel_rfl
theorem cut_write (h s : List UInt8) (k : Nat) (hk : k ≤ h.length) (hs : s.length ≤ 512) (hl : h.length ≤ 6200) : doT (cutT h) ⟨2, [47, 102], [], (k : Int), s⟩ = (cutT (over h k s), 0) := by
  rw [do_write (okc_write _ _ _ some_f (by omega) hs) (.inl rfl)]
  unfold writesT
  simp only [cut_at, cut_get]
  rw [if_neg (by simp), if_neg (by omega)]
  have e : cutW ⟨2, [47, 102], [], (k : Int), s⟩ h = over h k s := by
    unfold cutW over
    simp
  rw [← e]; rfl
theorem cut_cut (h : List UInt8) (k : Nat) (hk : k ≤ h.length) (hl : h.length ≤ 6200) : doT (cutT h) ⟨3, [47, 102], [], (k : Int), []⟩ = (cutT (h.take k), 0) := by
  rw [do_write (okc_cut _ _ some_f (by omega)) (.inr rfl)]
  unfold writesT
  simp only [cut_at, cut_get]
  rw [if_neg (by simp), if_neg (by omega)]
  have e : cutW ⟨3, [47, 102], [], (k : Int), []⟩ h = h.take k := by
    unfold cutW
    simp
  rw [← e]; rfl
theorem cut_read (h : List UInt8) (hl : h.length ≤ 16384) : readV (readR (nodeT (cutT h) [47, 102]) 0 1048576) = .tuple #[.string ⟨h.toArray⟩, .int .i64 0] := by
  have e : nodeT (cutT h) [47, 102] = .ok ⟨2, false, 1, h, []⟩ := by
    unfold nodeT
    rw [cut_at]; rfl
  rw [e]
  have e2 : cutR h (0 : Int).toNat (1048576 : Int).toNat = h := by
    unfold cutR
    rw [show (0 : Int).toNat = 0 from rfl, List.drop_zero, List.take_of_length_le (by show h.length ≤ 1048576; omega)]
  unfold readR
  simp only [Bool.false_eq_true, if_false]
  rw [if_neg (by omega), e2]; rfl
theorem over_len (h s : List UInt8) (k : Nat) (hk : k ≤ h.length) : (over h k s).length ≤ h.length + s.length := by
  unfold over
  split
  · rename_i h1
    simp only [List.length_append, List.length_drop, List.length_take] at h1 ⊢; omega
  · simp only [List.length_append, List.length_take]; omega
set_option maxRecDepth 100000 in
set_option maxHeartbeats 4000000 in
theorem law_cuts (a : Option Addr) (n cap : Nat) (f : Nat → List UInt8) (at_ : Int) (w : World) (he : Env w) (hS : StrsAt w a n f) :
    Calls Tryz.prog 7 #[.slice a n cap, .int .i64 at_] w fun e w' => e = .returned (.bool true) ∧ Keep w w' := by
  have He := Lib.hid he
  have HS := Lib.hid hS
  have hn := hS.1
  clear he hS
  obtain ⟨K, hK, hb⟩ := and_65535 at_
  go_enter Tryz.func7, Tryz.ntmps7
  go_wp2_with fail
  refine (new_in w w (Mod.refl _ _)).mono ?_
  rintro e w1 ⟨p, ro, rfl, h1, _, _⟩
  have H1 := Lib.hid h1
  clear h1
  go_wp2_with fail
  refine (do_in H1.out He.out ⟨0, [47, 102], [], 0, []⟩ ⟨by decide, by decide, by decide, by decide⟩).mono ?_
  rw [cut_new]
  rintro e w2 ⟨rfl, r2, h2, _, _⟩
  have H2 : RowKit.Hid (TreeIn w w2 p (cutT []) r2) := Lib.hid h2
  clear h2
  go_wp2_with fail
  go_loopw [6, 7] (fun v i wr => ∃ (k : Nat) (h : List UInt8) (role : Nat → Role), k ≤ n ∧ k ≤ 12 ∧ i = .int .i64 (k : Int) ∧ v = .string ⟨h.toArray⟩ ∧ h.length ≤ k * 512 ∧ TreeIn w wr p (cutT h) role) (fun _ i _ => 12 - (intOf i).toNat)
  case atStart => exact ⟨0, [], r2, by omega, by omega, rfl, rfl, by simp, H2.out⟩
  case round =>
    clear H2
    obtain ⟨k, h, role, hkn, hk12, rfl, rfl, hlen, hT⟩ := hrel
    have HT := Lib.hid hT
    clear hT
    by_cases hlt : k < n ∧ k < 12
    · obtain ⟨hlt1, hlt2⟩ := hlt
      obtain ⟨hfl, b, o, rfl, hc0⟩ := HS.out.2 k hlt1
      have c0 : ∀ m, (wr.drewN m).cell? ⟨b, o + k, none⟩ = some (.string ⟨(f k).toArray⟩) := fun m => by rw [(HT.out.keep.drewN m).cell (p := ⟨b, o + k, none⟩) (lt_of_cell hc0) id]; exact hc0
      obtain ⟨s, hs⟩ : ∃ s, f k = s := ⟨_, rfl⟩
      rw [hs] at hfl
      simp only [hs] at c0
      have c00 := c0 0
      obtain ⟨q, hq⟩ : ∃ q, min s.length 512 = q := ⟨_, rfl⟩
      have hmin : min (s.length : Int) 512 = (q : Int) := by omega
      have hq1 : q ≤ s.length := by omega
      have hq2 : (q : Int) ≤ s.length := by omega
      have hq3 : q ≤ 512 := by omega
      have hq4 : ¬ (s.length : Int) < q := by omega
      clear hc0 hs hq
      have d1 : (k : Int) < 12 := by omega
      have d2 : (k : Int) < n := by omega
      go_wp2_with fail
      refine wp_region_qe0 (by kernel_rfl) (by kernel_rfl) ?_
      repeat (quiet_step (fail))
      refine wpQuiet_nil ?_
      intro _ hw'
      obtain ⟨nq, rfl⟩ := hw'
      have HT1 := Lib.hid (HT.out.kept ((Mod.refl (fun _ => False) wr).drewN nq))
      obtain ⟨k0, hk0⟩ : ∃ k0, K % (h.length + 1) = k0 := ⟨_, rfl⟩
      have hk0l : k0 ≤ h.length := by have := Nat.mod_lt K (show 0 < h.length + 1 by omega); omega
      have hmod : (K : Int).tmod ((h.length : Int) + 1) = (k0 : Int) := by
        rw [Int.tmod_eq_emod_of_nonneg (by omega), ← hk0]; simp
      have hk0l2 : (k0 : Int) ≤ h.length := by omega
      have hk0l3 : ¬ (h.length : Int) < k0 := by omega
      have hh1 : ¬ (h.length : Int) + 1 = 0 := by omega
      have hh2 : (h.length : Int) ≤ 7000 := by omega
      clear hmin c0 c00 hk0
      generalize wr.drewN nq = w3 at *
      go_wp2_with fail
      obtain ⟨x, hx⟩ : ∃ x, s.take q = x := ⟨_, rfl⟩
      have hxl : x.length ≤ 512 := by rw [← hx, List.length_take]; omega
      refine (do_in HT1.out He.out ⟨2, [47, 102], [], (k0 : Int), s.take q⟩ (small5 (by decide) (by decide) (by rw [hx]; omega) (by omega))).mono ?_
      rw [hx, cut_write h x k0 hk0l hxl (by omega)]
      rintro e w4 ⟨rfl, r4, h4, _, _⟩
      have H4 : RowKit.Hid (TreeIn w w4 p (cutT (over h k0 x)) r4) := Lib.hid h4
      have hol := over_len h x k0 hk0l
      have ht : ((h.take k0).length) = k0 := by rw [List.length_take]; omega
      have hcat : ¬ 9223372036854775807 < (h.take k0).length + x.length := by omega
      clear h4 HT1 HT hmod hb
      have hXl : (h.take k0 ++ x).length = k0 + x.length := by rw [List.length_append, ht]
      by_cases hX : (k0 : Int) + x.length < h.length
      · have ho : over h k0 x = h.take k0 ++ (x ++ h.drop (k0 + x.length)) := by unfold over; rw [if_pos (by omega), hXl, List.append_assoc]
        clear ht
        go_wp2_with fail
        refine (read_in H4.out He.out [47, 102] (by decide) 0 1048576 (by decide) (by decide)).mono ?_
        rw [cut_read _ (by omega), ho]
        rintro e w5 ⟨rfl, hk5⟩
        have H5 := Lib.hid (H4.out.kept hk5)
        rw [ho] at H5
        clear hk5 H4
        go_wp2_with fail
        refine ⟨⟨k + 1, _, r4, by omega, by omega, by go_num, rfl, by rw [← ho]; omega, H5.out⟩, by simp [intOf]; omega⟩
      · have ho : over h k0 x = h.take k0 ++ x := if_neg (by omega)
        clear ht
        go_wp2_with fail
        refine (read_in H4.out He.out [47, 102] (by decide) 0 1048576 (by decide) (by decide)).mono ?_
        rw [cut_read _ (by omega), ho]
        rintro e w5 ⟨rfl, hk5⟩
        have H5 := Lib.hid (H4.out.kept hk5)
        rw [ho] at H5
        clear hk5 H4
        go_wp2_with fail
        refine ⟨⟨k + 1, _, r4, by omega, by omega, by go_num, rfl, by rw [← ho]; omega, H5.out⟩, by simp [intOf]; omega⟩
    · obtain ⟨k0, hk0⟩ : ∃ k0, K % (h.length + 1) = k0 := ⟨_, rfl⟩
      have hk0l : k0 ≤ h.length := by have := Nat.mod_lt K (show 0 < h.length + 1 by omega); omega
      have hmod : (K : Int).tmod ((h.length : Int) + 1) = (k0 : Int) := by
        rw [Int.tmod_eq_emod_of_nonneg (by omega), ← hk0]; simp
      have hk0l2 : (k0 : Int) ≤ h.length := by omega
      have hk0l3 : ¬ (h.length : Int) < k0 := by omega
      have hh1 : ¬ (h.length : Int) + 1 = 0 := by omega
      have hh2 : (h.length : Int) ≤ 7000 := by omega
      clear hk0
      by_cases hkn2 : k < n
      · obtain rfl : k = 12 := by omega
        have hkn3 : (12 : Int) < n := by omega
        go_wp2_with fail
        refine (do_in HT.out He.out ⟨3, [47, 102], [], (k0 : Int), []⟩ (small5 (by decide) (by decide) (by decide) (by omega))).mono ?_
        rw [cut_cut h k0 hk0l (by omega)]
        rintro e w4 ⟨rfl, r4, h4, _, _⟩
        have H4 : RowKit.Hid (TreeIn w w4 p (cutT (h.take k0)) r4) := Lib.hid h4
        have ht : (h.take k0).length ≤ 16384 := by rw [List.length_take]; omega
        clear h4 HT hmod
        go_wp2_with fail
        refine (read_in H4.out He.out [47, 102] (by decide) 0 1048576 (by decide) (by decide)).mono ?_
        rw [cut_read _ ht]
        rintro e w5 ⟨rfl, hk5⟩
        have H5 := Lib.hid (H4.out.kept hk5)
        clear hk5 H4 ht
        go_wp2_with fail
        refine (fixed_any w5 (He.out.keep H5.out.keep)).mono ?_
        rintro e w6 ⟨rfl, hk6⟩
        have HK6 := Lib.hid (H5.out.keep.keep hk6)
        clear hk6 H5
        go_wp2_with fail
        go_ret
        exact ⟨rfl, HK6.out⟩
      · obtain rfl : k = n := by omega
        clear hlt
        go_wp2_with fail
        refine (do_in HT.out He.out ⟨3, [47, 102], [], (k0 : Int), []⟩ (small5 (by decide) (by decide) (by decide) (by omega))).mono ?_
        rw [cut_cut h k0 hk0l (by omega)]
        rintro e w4 ⟨rfl, r4, h4, _, _⟩
        have H4 : RowKit.Hid (TreeIn w w4 p (cutT (h.take k0)) r4) := Lib.hid h4
        have ht : (h.take k0).length ≤ 16384 := by rw [List.length_take]; omega
        clear h4 HT hmod
        go_wp2_with fail
        refine (read_in H4.out He.out [47, 102] (by decide) 0 1048576 (by decide) (by decide)).mono ?_
        rw [cut_read _ ht]
        rintro e w5 ⟨rfl, hk5⟩
        have H5 := Lib.hid (H4.out.kept hk5)
        clear hk5 H4 ht
        go_wp2_with fail
        refine (fixed_any w5 (He.out.keep H5.out.keep)).mono ?_
        rintro e w6 ⟨rfl, hk6⟩
        have HK6 := Lib.hid (H5.out.keep.keep hk6)
        clear hk6 H5
        go_wp2_with fail
        go_ret
        exact ⟨rfl, HK6.out⟩
end Go.Proofs.YthmpblccplphfaaGreatDoor
