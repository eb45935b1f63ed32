/-
  Trees with one file of six names, in plain Lean.
  The walk of FileLinks.
  A slice of numbers that came in, opened.
-/
import Derived.Test.YthmpblccplphfaaGreatDoorFilFixed
import Derived.Test.YthmpblccplphfaaGreatDoorClose
import Derived.Test.YthmpblccplphfaaGreatDoorFilLaid
import Derived.ChangeSlices
namespace Go.Proofs.YthmpblccplphfaaGreatDoor
section
open Go.RowKit
def nmP (i : Nat) : List UInt8 := [47, 110, UInt8.ofNat (48 + i)]
def nmS (i : Nat) : List UInt8 := [110, UInt8.ofNat (48 + i)]
/-- the names i .. m - 1 -/
def lnkT (i m : Nat) (h : List UInt8) : Tr := [⟨1, true, 1, [], (List.range' i (m - i)).map fun j => (nmS j, 2)⟩, ⟨2, false, ((m - i : Nat) : Int), h, []⟩]
theorem path_n (i : Nat) (h : i < 6) : pathOf (nmP i) = some [nmS i] := by
  rcases (by omega : i = 0 ∨ i = 1 ∨ i = 2 ∨ i = 3 ∨ i = 4 ∨ i = 5) with rfl | rfl | rfl | rfl | rfl | rfl <;> decide +kernel
theorem some_n (i : Nat) (h : i < 6) : (pathOf (nmP i)).isSome = true := by rw [path_n i h]; rfl
theorem lnk_new : doT Tr.new ⟨0, nmP 0, [], 0, []⟩ = (lnkT 0 1 [], 0) := by
  rw [do_make (okc_make _ (some_n 0 (by omega))) (.inl rfl)]
  kernel_rfl
theorem lnk_link (i : Nat) (h1 : 1 ≤ i) (h6 : i < 6) : doT (lnkT 0 i []) ⟨4, nmP (i - 1), nmP i, 0, []⟩ = (lnkT 0 (i + 1) [], 0) := by
  rw [do_link (okc_link _ _ (some_n _ (by omega)) (some_n _ h6)) rfl]
  rcases (by omega : i = 1 ∨ i = 2 ∨ i = 3 ∨ i = 4 ∨ i = 5) with rfl | rfl | rfl | rfl | rfl <;> kernel_rfl
theorem lnk_at (i k : Nat) (hk : i ≤ k) (h6 : k < 6) (h : List UInt8) : atT (lnkT i 6 h) (nmP k) = .ok 2 := by
  unfold atT
  rw [path_n k h6]
  show findT (lnkT i 6 h) 1 [nmS k] = .ok 2
  rcases (by omega : i = 0 ∨ i = 1 ∨ i = 2 ∨ i = 3 ∨ i = 4 ∨ i = 5) with rfl | rfl | rfl | rfl | rfl | rfl <;>
  rcases (by omega : k = 0 ∨ k = 1 ∨ k = 2 ∨ k = 3 ∨ k = 4 ∨ k = 5) with rfl | rfl | rfl | rfl | rfl | rfl <;> first | omega | kernel_rfl
theorem lnk_node (i k : Nat) (hk : i ≤ k) (h6 : k < 6) (h : List UInt8) : nodeT (lnkT i 6 h) (nmP k) = .ok ⟨2, false, ((6 - i : Nat) : Int), h, []⟩ := by
  unfold nodeT
  rw [lnk_at i k hk h6]; rfl
theorem lnk_write (k : Nat) (h6 : k < 6) (h s : List UInt8) (hs : s.length ≤ 512) (hl : h.length + s.length ≤ 16384) : doT (lnkT 0 6 h) ⟨2, nmP k, [], (h.length : Int), s⟩ = (lnkT 0 6 (h ++ s), 0) := by
  rw [do_write (okc_write _ _ _ (some_n k h6) (by omega) hs) (.inl rfl)]
  unfold writesT
  simp only [lnk_at 0 k (by omega) h6]
  rw [show (lnkT 0 6 h).get 2 = some ⟨2, false, 6, h, []⟩ from rfl]
  simp only []
  rw [if_neg (by simp), if_neg (by omega)]
  have e : cutW ⟨2, nmP k, [], (h.length : Int), s⟩ h = h ++ s := by
    unfold cutW
    simp
  rw [← e]; rfl
theorem lnk_remove (i : Nat) (h6 : i < 5) (h : List UInt8) : doT (lnkT i 6 h) ⟨6, nmP i, [], 0, []⟩ = (lnkT (i + 1) 6 h, 0) := by
  rw [do_remove (okc_remove _ (some_n i (by omega))) rfl]
  rcases (by omega : i = 0 ∨ i = 1 ∨ i = 2 ∨ i = 3 ∨ i = 4) with rfl | rfl | rfl | rfl | rfl <;> kernel_rfl
theorem lnk_last (h : List UInt8) : doT (lnkT 5 6 h) ⟨6, nmP 5, [], 0, []⟩ = (Tr.new, 0) := by
  rw [do_remove (okc_remove _ (some_n 5 (by omega))) rfl]
  kernel_rfl
theorem lnk_read (k : Nat) (h6 : k < 6) (h : List UInt8) (hl : h.length ≤ 16384) : readV (readR (nodeT (lnkT 0 6 h) (nmP k)) 0 1048576) = .tuple #[.string ⟨h.toArray⟩, .int .i64 0] := by
  rw [lnk_node 0 k (by omega) h6]
  have e2 : cutR h (0 : Int).toNat (1048576 : Int).toNat = h := by
    unfold cutR
    rw [show (0 : Int).toNat = 0 from rfl, List.drop_zero, List.take_of_length_le (by show h.length ≤ 1048576; omega)]
  unfold readR
  simp only [Bool.false_eq_true, if_false]
  rw [if_neg (by omega), e2]; rfl
/-- what is left when the names below i are gone -/
def remT (i : Nat) (h : List UInt8) : Tr := if i = 6 then Tr.new else lnkT i 6 h
theorem rem_get (i : Nat) (h6 : i < 6) (h : List UInt8) : getV (nodeT (remT i h) (nmP i)) = .tuple #[nodeV ⟨2, false, 6 - (i : Int), h⟩, .int .i64 0] := by
  unfold remT
  rw [if_neg (by omega), lnk_node i i (Nat.le_refl _) h6]
  rw [show ((6 - i : Nat) : Int) = 6 - (i : Int) by omega]
  rfl
theorem rem_do (i : Nat) (h6 : i < 6) (h : List UInt8) : doT (remT i h) ⟨6, nmP i, [], 0, []⟩ = (remT (i + 1) h, 0) := by
  unfold remT
  rw [if_neg (by omega)]
  by_cases e : i = 5
  · subst e; exact lnk_last h
  · rw [if_neg (by omega)]; exact lnk_remove i (by omega) h
end
section
open Go.RowKit
theorem and_ffff (x : Int) : ∃ n : Nat, n ≤ 65535 ∧ bits .and .i64 x 65535 = (n : Int) := by
  refine ⟨(BitVec.ofInt 64 x).toNat &&& 65535, Nat.and_le_right, ?_⟩
  have hle : (BitVec.ofInt 64 x).toNat &&& 65535 ≤ 65535 := Nat.and_le_right
  have h2 : (BitVec.ofInt 64 (65535 : Int)).toNat = 65535 := by decide
  show IntKind.i64.wrap ((BitVec.ofInt 64 x &&& BitVec.ofInt 64 (65535 : Int)).toNat : Int) = _
  rw [BitVec.toNat_and, h2, IntKind.wrap_i64]
  omega
theorem small_cmd {k n : Int} {p d x : List UInt8} (hp : p.length ≤ 1000) (hd : d.length ≤ 1000) (hx : x.length ≤ 100000) (hn : 0 ≤ n ∧ n ≤ 1000000) : (⟨k, p, d, n, x⟩ : Cmd).Small :=
  ⟨by show p.length < _; omega, by show d.length < _; omega, by show x.length ≤ _; omega, by show _ ≤ n ∧ n ≤ _; omega⟩
def nmsC : Array Value := #[.string ⟨#[47, 110, 48]⟩, .string ⟨#[47, 110, 49]⟩, .string ⟨#[47, 110, 50]⟩, .string ⟨#[47, 110, 51]⟩, .string ⟨#[47, 110, 52]⟩, .string ⟨#[47, 110, 53]⟩]
def IntsAt (w : World) (a : Option Addr) (n : Nat) : Prop := n ≤ 140737488351232 ∧ ∀ j, j < n → ∃ b o x, a = some ⟨b, o, none⟩ ∧ w.cell? ⟨b, o + j, none⟩ = some (.int .i64 x)
theorem nms_cell {w : World} {nb k : Nat} {t : TypeId} (h : World.blk w nb nmsC t) (hk : k < 6) : w.cell? ⟨nb, k, none⟩ = some (.string ⟨(nmP k).toArray⟩) := by
  rw [blk_cell h k]
  rcases (by omega : k = 0 ∨ k = 1 ∨ k = 2 ∨ k = 3 ∨ k = 4 ∨ k = 5) with rfl | rfl | rfl | rfl | rfl | rfl <;> rfl
set_option maxRecDepth 100000 in
set_option maxHeartbeats 8000000 in
theorem law_links (a : Option Addr) (n cap : Nat) (f : Nat → List UInt8) (a2 : Option Addr) (n2 cap2 : Nat) (w : World) (he : Env w) (hS : StrsAt w a n f) (hO : IntsAt w a2 n2) :
    Calls Tryz.prog 6 #[.slice a n cap, .slice a2 n2 cap2] w fun e w' => e = .returned (.bool true) ∧ Keep w w' := by
  have He := Lib.hid he
  have HS := Lib.hid hS
  have HO := Lib.hid hO
  have hn := hS.1
  have hn2 := hO.1
  clear he hS hO
  go_enter Tryz.func6, Tryz.ntmps6
  go_wp2_with fail
  refine (new_in w w (Mod.refl _ _)).mono ?_
  rintro e w1 ⟨p, ro, rfl, h1, _, _⟩
  have H1 := Lib.hid h1
  clear h1
  go_wp2_with fail
  refine (do_in H1.out He.out ⟨0, [47, 110, 48], [], 0, []⟩ ⟨by decide, by decide, by decide, by decide⟩).mono ?_
  rw [show doT Tr.new ⟨0, [47, 110, 48], [], 0, []⟩ = (lnkT 0 1 [], 0) from lnk_new]
  rintro e w2 ⟨rfl, r2, h2, _, _⟩
  have H2 : RowKit.Hid (TreeIn w w2 p (lnkT 0 1 []) r2) := Lib.hid h2
  clear h2 H1
  go_wp2_with fail
  have hk3 : Keep w2 (w2.alloc (.cells nmsC 9)) := (Mod.refl _ w2).alloc _
  have H3 : RowKit.Hid (TreeIn w (w2.alloc (.cells nmsC 9)) p (lnkT 0 1 []) r2) := Lib.hid (H2.out.kept hk3)
  have HB3 : RowKit.Hid (World.blk (w2.alloc (.cells nmsC 9)) w2.heap.size nmsC 9) := Lib.hid (blk_new _ _ _)
  have R3 : RowKit.Hid (r2 w2.heap.size = .none) := Lib.hid (H2.out.old (Nat.le_refl _))
  clear hk3 H2
  unfold nmsC at H3 HB3
  generalize (w2.alloc (.cells #[.string ⟨#[47, 110, 48]⟩, .string ⟨#[47, 110, 49]⟩, .string ⟨#[47, 110, 50]⟩, .string ⟨#[47, 110, 51]⟩, .string ⟨#[47, 110, 52]⟩, .string ⟨#[47, 110, 53]⟩] 9)) = w3 at *
  generalize w2.heap.size = nb at *
  go_loopw [7] (fun i wr => ∃ (k : Int) (role : Nat → Role), 1 ≤ k ∧ k ≤ 6 ∧ i = .int .i64 k ∧ TreeIn w wr p (lnkT 0 k.toNat []) role ∧ World.blk wr nb nmsC 9 ∧ RowKit.Hid (role nb = .none)) (fun i _ => 6 - (intOf i).toNat)
  case atStart => exact ⟨1, r2, by omega, by omega, rfl, H3.out, HB3.out, R3⟩
  case round =>
    clear H3 HB3 R3
    obtain ⟨k, role, h1, h6, rfl, hT, hB, hr⟩ := hrel
    have HT := Lib.hid hT
    have HB := Lib.hid hB
    by_cases hk : k = 6
    · subst hk
      clear h1 h6 hT hB
      have HT0 : RowKit.Hid (TreeIn w wr p (lnkT 0 6 []) role) := Lib.hid HT.out
      clear HT
      go_wp2_with fail
      go_loopw [8, 9] (fun v i wr => ∃ (m : Nat) (h : List UInt8) (role : Nat → Role), m ≤ n ∧ m ≤ 20 ∧ i = .int .i64 (m : Int) ∧ v = .string ⟨h.toArray⟩ ∧ h.length ≤ m * 500 ∧ TreeIn w wr p (lnkT 0 6 h) role ∧ World.blk wr nb nmsC 9 ∧ RowKit.Hid (role nb = .none)) (fun _ i _ => 20 - (intOf i).toNat)
      case atStart => exact ⟨0, [], role, by omega, by omega, rfl, rfl, by simp, HT0.out, HB.out, hr⟩
      case round =>
        clear HT0 HB hr
        obtain ⟨m, h, role, hmn, hm20, rfl, rfl, hlen, hT, hB, hr⟩ := hrel
        have HT := Lib.hid hT
        have HB := Lib.hid hB
        clear hT hB
        by_cases hlt : m < n ∧ m < 20
        · obtain ⟨hlt1, hlt2⟩ := hlt
          obtain ⟨hfl, b, o, rfl, hc0⟩ := HS.out.2 m hlt1
          have c0 : ∀ j, (wr.drewN j).cell? ⟨b, o + m, none⟩ = some (.string ⟨(f m).toArray⟩) := fun j => by rw [(HT.out.keep.drewN j).cell (p := ⟨b, o + m, none⟩) (lt_of_cell hc0) id]; exact hc0
          obtain ⟨s, hs⟩ : ∃ s, f m = s := ⟨_, rfl⟩
          rw [hs] at hfl
          simp only [hs] at c0
          have c00 := c0 0
          obtain ⟨q, hq⟩ : ∃ q, min s.length 500 = q := ⟨_, rfl⟩
          have hmin : min (s.length : Int) 500 = (q : Int) := by omega
          have hq1 : q ≤ s.length := by omega
          have hq2 : (q : Int) ≤ s.length := by omega
          have hq3 : q ≤ 500 := by omega
          have hq4 : ¬ (s.length : Int) < q := by omega
          have d1 : (m : Int) < 20 := by omega
          have d2 : (m : Int) < n := by omega
          clear hc0 hs hq
          go_wp2_with fail
          refine wp_region_qe0 (by kernel_rfl) (by kernel_rfl) ?_
          repeat (quiet_step (fail))
          refine wpQuiet_nil ?_
          intro _ hw'
          obtain ⟨nq, rfl⟩ := hw'
          have HT1 := Lib.hid (HT.out.kept ((Mod.refl (fun _ => False) wr).drewN nq))
          have HB1 := Lib.hid (blk_mod ((Mod.refl (fun _ => False) wr).drewN nq) HB.out id)
          clear hmin c0 c00 HT HB
          generalize wr.drewN nq = w3 at *
          obtain ⟨k6, hk6⟩ : ∃ k6, m % 6 = k6 := ⟨_, rfl⟩
          have hk6l : k6 < 6 := by omega
          have hmod6 : (m : Int).tmod 6 = (k6 : Int) := by
            rw [Int.tmod_eq_emod_of_nonneg (by omega), ← hk6]; omega
          clear hk6
          obtain ⟨x, hx⟩ : ∃ x, s.take q = x := ⟨_, rfl⟩
          have hxl : x.length ≤ 500 := by rw [← hx, List.length_take]; omega
          by_cases hord : (m : Int) < n2
          · obtain ⟨bo, oo, xo, rfl, hco⟩ := HO.out.2 m (by omega)
            have co : w3.cell? ⟨bo, oo + m, none⟩ = some (.int .i64 xo) := by rw [HT1.out.keep.cell (p := ⟨bo, oo + m, none⟩) (lt_of_cell hco) id]; exact hco
            obtain ⟨K, hK, hb⟩ := and_ffff xo
            obtain ⟨kk, hkk⟩ : ∃ kk, K % 6 = kk := ⟨_, rfl⟩
            have hkkl : kk < 6 := by omega
            have hmodk : (K : Int).tmod 6 = (kk : Int) := by
              rw [Int.tmod_eq_emod_of_nonneg (by omega), ← hkk]; omega
            have hkkl2 : (kk : Int) < 6 := by omega
            have cn : w3.cell? ⟨nb, kk, none⟩ = some (.string ⟨(nmP kk).toArray⟩) := nms_cell HB1.out hkkl
            clear hco hkk
            go_wp2_with fail
            refine (do_in HT1.out He.out ⟨2, nmP kk, [], (h.length : Int), x⟩ (small_cmd (by simp [nmP]) (by decide) (by omega) (by omega))).mono ?_
            rw [lnk_write kk hkkl h x (by omega) (by omega)]
            rintro e w6 ⟨rfl, r6, h6, g6, m6⟩
            have H6 : RowKit.Hid (TreeIn w w6 p (lnkT 0 6 (h ++ x)) r6) := Lib.hid h6
            have HB6 := Lib.hid (blk_mod m6 HB1.out (fun hn => hn hr.out))
            have R6 : RowKit.Hid (r6 nb = .none) := Lib.hid (Classical.byContradiction fun hn => by
              rcases g6 nb hn with h | h
              · exact h hr.out
              · have := blk_lt HB1.out; omega)
            have hcat : ¬ 9223372036854775807 < h.length + x.length := by omega
            clear h6 g6 m6 HT1 HB1 cn hr
            go_wp2_with fail
            go_loopw [12] (fun i wr => ∃ (j : Nat), j ≤ 6 ∧ i = .int .i64 (j : Int) ∧ Keep w6 wr) (fun i _ => 6 - (intOf i).toNat)
            case atStart => exact ⟨0, by omega, rfl, Mod.refl _ _⟩
            case round =>
              obtain ⟨j, hj6, rfl, hK⟩ := hrel
              have HT7 := Lib.hid (H6.out.kept hK)
              have HB7 := Lib.hid (blk_mod hK HB6.out id)
              have HK7 := Lib.hid hK
              clear hK
              by_cases hj : j < 6
              · have cj : wr.cell? ⟨nb, j, none⟩ = some (.string ⟨(nmP j).toArray⟩) := nms_cell HB7.out hj
                have hj2 : (j : Int) < 6 := by omega
                go_wp2_with fail
                refine (read_in HT7.out He.out (nmP j) (by simp [nmP]) 0 1048576 (by decide) (by decide)).mono ?_
                rw [lnk_read j hj (h ++ x) (by rw [List.length_append]; omega)]
                rintro e w8 ⟨rfl, hk8⟩
                have HK8 := Lib.hid (HK7.out.keep hk8)
                clear hk8 cj HT7 HB7
                go_wp2_with fail
                exact ⟨⟨j + 1, by omega, by go_num, HK8.out⟩, by simp [intOf]; omega⟩
              · obtain rfl : j = 6 := by omega
                clear hj hj6
                go_wp2_with fail
                exact ⟨⟨m + 1, h ++ x, r6, by omega, by omega, by go_num, rfl, by rw [List.length_append]; omega, HT7.out, HB7.out, R6⟩, by simp [intOf]; omega⟩
          · have hkl2 : (k6 : Int) < 6 := by omega
            have cn : w3.cell? ⟨nb, k6, none⟩ = some (.string ⟨(nmP k6).toArray⟩) := nms_cell HB1.out hk6l
            go_wp2_with fail
            refine (do_in HT1.out He.out ⟨2, nmP k6, [], (h.length : Int), x⟩ (small_cmd (by simp [nmP]) (by decide) (by omega) (by omega))).mono ?_
            rw [lnk_write k6 hk6l h x (by omega) (by omega)]
            rintro e w6 ⟨rfl, r6, h6, g6, m6⟩
            have H6 : RowKit.Hid (TreeIn w w6 p (lnkT 0 6 (h ++ x)) r6) := Lib.hid h6
            have HB6 := Lib.hid (blk_mod m6 HB1.out (fun hn => hn hr.out))
            have R6 : RowKit.Hid (r6 nb = .none) := Lib.hid (Classical.byContradiction fun hn => by
              rcases g6 nb hn with h | h
              · exact h hr.out
              · have := blk_lt HB1.out; omega)
            have hcat : ¬ 9223372036854775807 < h.length + x.length := by omega
            clear h6 g6 m6 HT1 HB1 cn hr
            go_wp2_with fail
            go_loopw [12] (fun i wr => ∃ (j : Nat), j ≤ 6 ∧ i = .int .i64 (j : Int) ∧ Keep w6 wr) (fun i _ => 6 - (intOf i).toNat)
            case atStart => exact ⟨0, by omega, rfl, Mod.refl _ _⟩
            case round =>
              obtain ⟨j, hj6, rfl, hK⟩ := hrel
              have HT7 := Lib.hid (H6.out.kept hK)
              have HB7 := Lib.hid (blk_mod hK HB6.out id)
              have HK7 := Lib.hid hK
              clear hK
              by_cases hj : j < 6
              · have cj : wr.cell? ⟨nb, j, none⟩ = some (.string ⟨(nmP j).toArray⟩) := nms_cell HB7.out hj
                have hj2 : (j : Int) < 6 := by omega
                go_wp2_with fail
                refine (read_in HT7.out He.out (nmP j) (by simp [nmP]) 0 1048576 (by decide) (by decide)).mono ?_
                rw [lnk_read j hj (h ++ x) (by rw [List.length_append]; omega)]
                rintro e w8 ⟨rfl, hk8⟩
                have HK8 := Lib.hid (HK7.out.keep hk8)
                clear hk8 cj HT7 HB7
                go_wp2_with fail
                exact ⟨⟨j + 1, by omega, by go_num, HK8.out⟩, by simp [intOf]; omega⟩
              · obtain rfl : j = 6 := by omega
                clear hj hj6
                go_wp2_with fail
                exact ⟨⟨m + 1, h ++ x, r6, by omega, by omega, by go_num, rfl, by rw [List.length_append]; omega, HT7.out, HB7.out, R6⟩, by simp [intOf]; omega⟩
        · by_cases hm2 : m < n
          · have hm3 : ¬ (m : Int) < 20 := by omega
            have hm4 : (m : Int) < n := by omega
            clear hlt
            go_wp2_with fail
            go_loopw [15] (fun i wr => ∃ (j : Nat) (role : Nat → Role), j ≤ 6 ∧ i = .int .i64 (j : Int) ∧ TreeIn w wr p (remT j h) role ∧ World.blk wr nb nmsC 9 ∧ RowKit.Hid (role nb = .none)) (fun i _ => 6 - (intOf i).toNat)
            case atStart => exact ⟨0, role, by omega, rfl, by rw [show remT 0 h = lnkT 0 6 h from if_neg (by decide)]; exact HT.out, HB.out, hr⟩
            case round =>
              clear HT HB hr
              obtain ⟨j, role, hj6, rfl, hT, hB, hr⟩ := hrel
              have HT := Lib.hid hT
              have HB := Lib.hid hB
              clear hT hB
              by_cases hj : j < 6
              · have cj : wr.cell? ⟨nb, j, none⟩ = some (.string ⟨(nmP j).toArray⟩) := nms_cell HB.out hj
                have hj2 : (j : Int) < 6 := by omega
                go_wp2_with fail
                refine (get_in HT.out He.out (nmP j) (by simp [nmP])).mono ?_
                rw [rem_get j hj h]
                rintro e w8 ⟨rfl, hk8⟩
                have HT8 := Lib.hid (HT.out.kept hk8)
                have HB8 := Lib.hid (blk_mod hk8 HB.out id)
                have hlt8 := blk_lt HB8.out
                have cj8 : w8.cell? ⟨nb, j, none⟩ = some (.string ⟨(nmP j).toArray⟩) := nms_cell HB8.out hj
                have hq : ((6 - (j : Int)) != (6 - (j : Int))) = false := by simp
                clear hk8 cj HT HB
                go_wp2_with fail
                have hk9 : Keep w8 (w8.alloc (.cells #[.int .i64 2, .bool false, .int .i64 (6 - (j : Int)), .string ⟨h.toArray⟩] 41)) := (Mod.refl _ w8).alloc _
                have HT9 := Lib.hid (HT8.out.kept hk9)
                have HB9 := Lib.hid (blk_mod hk9 HB8.out id)
                refine (do_in HT9.out He.out ⟨6, nmP j, [], 0, []⟩ (small_cmd (by simp [nmP]) (by decide) (by decide) (by decide))).mono ?_
                rw [rem_do j hj h]
                rintro e w10 ⟨rfl, r10, h10, g10, m10⟩
                have H10 : RowKit.Hid (TreeIn w w10 p (remT (j + 1) h) r10) := Lib.hid h10
                have HB10 := Lib.hid (blk_mod m10 HB9.out (fun hn => hn hr.out))
                have R10 : RowKit.Hid (r10 nb = .none) := Lib.hid (Classical.byContradiction fun hn => by
                  rcases g10 nb hn with h | h
                  · exact h hr.out
                  · have := blk_lt HB9.out; omega)
                clear h10 g10 m10 HT8 HB8 HT9 HB9 cj8 hk9
                go_wp2_with fail
                exact ⟨⟨j + 1, r10, by omega, by go_num, H10.out, HB10.out, R10⟩, by simp [intOf]; omega⟩
              · obtain rfl : j = 6 := by omega
                have HT6 : RowKit.Hid (TreeIn w wr p Tr.new role) := Lib.hid HT.out
                clear hj hj6 HT
                go_wp2_with fail
                refine (nodes_in HT6.out).mono ?_
                rintro e w8 ⟨v, rfl, ho, hk8⟩
                have HT8 := Lib.hid (HT6.out.kept hk8)
                obtain ⟨av, acap, rfl, _⟩ := rowF_own nodeC_len ho
                rw [show (toldT Tr.new).length = 1 from rfl]
                clear ho hk8 HT6
                go_wp2_with fail
                refine (fixed_any w8 (He.out.keep HT8.out.keep)).mono ?_
                rintro e w9 ⟨rfl, hk9⟩
                have HK9 := Lib.hid (HT8.out.keep.keep hk9)
                clear hk9
                go_wp2_with fail
                go_ret
                exact ⟨rfl, HK9.out⟩
          · obtain rfl : m = n := by omega
            clear hlt
            go_wp2_with fail
            go_loopw [15] (fun i wr => ∃ (j : Nat) (role : Nat → Role), j ≤ 6 ∧ i = .int .i64 (j : Int) ∧ TreeIn w wr p (remT j h) role ∧ World.blk wr nb nmsC 9 ∧ RowKit.Hid (role nb = .none)) (fun i _ => 6 - (intOf i).toNat)
            case atStart => exact ⟨0, role, by omega, rfl, by rw [show remT 0 h = lnkT 0 6 h from if_neg (by decide)]; exact HT.out, HB.out, hr⟩
            case round =>
              clear HT HB hr
              obtain ⟨j, role, hj6, rfl, hT, hB, hr⟩ := hrel
              have HT := Lib.hid hT
              have HB := Lib.hid hB
              clear hT hB
              by_cases hj : j < 6
              · have cj : wr.cell? ⟨nb, j, none⟩ = some (.string ⟨(nmP j).toArray⟩) := nms_cell HB.out hj
                have hj2 : (j : Int) < 6 := by omega
                go_wp2_with fail
                refine (get_in HT.out He.out (nmP j) (by simp [nmP])).mono ?_
                rw [rem_get j hj h]
                rintro e w8 ⟨rfl, hk8⟩
                have HT8 := Lib.hid (HT.out.kept hk8)
                have HB8 := Lib.hid (blk_mod hk8 HB.out id)
                have hlt8 := blk_lt HB8.out
                have cj8 : w8.cell? ⟨nb, j, none⟩ = some (.string ⟨(nmP j).toArray⟩) := nms_cell HB8.out hj
                have hq : ((6 - (j : Int)) != (6 - (j : Int))) = false := by simp
                clear hk8 cj HT HB
                go_wp2_with fail
                have hk9 : Keep w8 (w8.alloc (.cells #[.int .i64 2, .bool false, .int .i64 (6 - (j : Int)), .string ⟨h.toArray⟩] 41)) := (Mod.refl _ w8).alloc _
                have HT9 := Lib.hid (HT8.out.kept hk9)
                have HB9 := Lib.hid (blk_mod hk9 HB8.out id)
                refine (do_in HT9.out He.out ⟨6, nmP j, [], 0, []⟩ (small_cmd (by simp [nmP]) (by decide) (by decide) (by decide))).mono ?_
                rw [rem_do j hj h]
                rintro e w10 ⟨rfl, r10, h10, g10, m10⟩
                have H10 : RowKit.Hid (TreeIn w w10 p (remT (j + 1) h) r10) := Lib.hid h10
                have HB10 := Lib.hid (blk_mod m10 HB9.out (fun hn => hn hr.out))
                have R10 : RowKit.Hid (r10 nb = .none) := Lib.hid (Classical.byContradiction fun hn => by
                  rcases g10 nb hn with h | h
                  · exact h hr.out
                  · have := blk_lt HB9.out; omega)
                clear h10 g10 m10 HT8 HB8 HT9 HB9 cj8 hk9
                go_wp2_with fail
                exact ⟨⟨j + 1, r10, by omega, by go_num, H10.out, HB10.out, R10⟩, by simp [intOf]; omega⟩
              · obtain rfl : j = 6 := by omega
                have HT6 : RowKit.Hid (TreeIn w wr p Tr.new role) := Lib.hid HT.out
                clear hj hj6 HT
                go_wp2_with fail
                refine (nodes_in HT6.out).mono ?_
                rintro e w8 ⟨v, rfl, ho, hk8⟩
                have HT8 := Lib.hid (HT6.out.kept hk8)
                obtain ⟨av, acap, rfl, _⟩ := rowF_own nodeC_len ho
                rw [show (toldT Tr.new).length = 1 from rfl]
                clear ho hk8 HT6
                go_wp2_with fail
                refine (fixed_any w8 (He.out.keep HT8.out.keep)).mono ?_
                rintro e w9 ⟨rfl, hk9⟩
                have HK9 := Lib.hid (HT8.out.keep.keep hk9)
                clear hk9
                go_wp2_with fail
                go_ret
                exact ⟨rfl, HK9.out⟩
    · have b0 : wr.cell? ⟨nb, 0, none⟩ = some (.string ⟨#[47, 110, 48]⟩) := blk_cell hB 0
      have b1 : wr.cell? ⟨nb, 1, none⟩ = some (.string ⟨#[47, 110, 49]⟩) := blk_cell hB 1
      have b2 : wr.cell? ⟨nb, 2, none⟩ = some (.string ⟨#[47, 110, 50]⟩) := blk_cell hB 2
      have b3 : wr.cell? ⟨nb, 3, none⟩ = some (.string ⟨#[47, 110, 51]⟩) := blk_cell hB 3
      have b4 : wr.cell? ⟨nb, 4, none⟩ = some (.string ⟨#[47, 110, 52]⟩) := blk_cell hB 4
      have b5 : wr.cell? ⟨nb, 5, none⟩ = some (.string ⟨#[47, 110, 53]⟩) := blk_cell hB 5
      clear hT hB
      have hw0 : IntKind.i64.wrap 0 = 0 := by rw [IntKind.wrap_i64]; rfl
      have hw1 : IntKind.i64.wrap 1 = 1 := by rw [IntKind.wrap_i64]; rfl
      have hw2 : IntKind.i64.wrap 2 = 2 := by rw [IntKind.wrap_i64]; rfl
      have hw3 : IntKind.i64.wrap 3 = 3 := by rw [IntKind.wrap_i64]; rfl
      have hw4 : IntKind.i64.wrap 4 = 4 := by rw [IntKind.wrap_i64]; rfl
      rcases (by omega : k = 1 ∨ k = 2 ∨ k = 3 ∨ k = 4 ∨ k = 5) with rfl | rfl | rfl | rfl | rfl
      · clear h1 h6 hk
        go_wp2_with fail
        refine wp_region_qd0 11 (by kernel_rfl) (by kernel_rfl) ?_
        simp only [List.take_succ_cons, List.take_zero, List.drop_succ_cons, List.drop_zero]
        repeat (quiet_step (fail))
        refine wpQuiet_nil ?_
        intro _ hw'
        obtain ⟨nq, rfl⟩ := hw'
        have HT1 := Lib.hid (HT.out.kept ((Mod.refl (fun _ => False) wr).drewN nq))
        have HB1 := Lib.hid (blk_mod ((Mod.refl (fun _ => False) wr).drewN nq) HB.out id)
        clear HT HB b0 b1 b2 b3 b4 b5 hw0 hw1 hw2 hw3 hw4
        generalize wr.drewN nq = w5 at *
        go_wp2_with fail
        refine (do_in HT1.out He.out ⟨4, [47, 110, 48], [47, 110, 49], 0, []⟩ (small_cmd (by decide) (by decide) (by decide) (by decide))).mono ?_
        rw [show doT (lnkT 0 ((1 : Int).toNat) []) ⟨4, [47, 110, 48], [47, 110, 49], 0, []⟩ = (lnkT 0 2 [], 0) from lnk_link 1 (by omega) (by omega)]
        rintro e w6 ⟨rfl, r6, h6, g6, m6⟩
        have H6 : RowKit.Hid (TreeIn w w6 p (lnkT 0 2 []) r6) := Lib.hid h6
        have HB6 := Lib.hid (blk_mod m6 HB1.out (fun hn => hn hr.out))
        have R6 : RowKit.Hid (r6 nb = .none) := Lib.hid (Classical.byContradiction fun hn => by
          rcases g6 nb hn with h | h
          · exact h hr.out
          · have := blk_lt HB1.out; omega)
        clear h6 g6 m6 HT1 HB1
        go_wp2_with fail
        exact ⟨⟨2, r6, by omega, by omega, by go_num, H6.out, HB6.out, R6⟩, by simp [intOf]⟩
      · clear h1 h6 hk
        go_wp2_with fail
        refine wp_region_qd0 11 (by kernel_rfl) (by kernel_rfl) ?_
        simp only [List.take_succ_cons, List.take_zero, List.drop_succ_cons, List.drop_zero]
        repeat (quiet_step (fail))
        refine wpQuiet_nil ?_
        intro _ hw'
        obtain ⟨nq, rfl⟩ := hw'
        have HT1 := Lib.hid (HT.out.kept ((Mod.refl (fun _ => False) wr).drewN nq))
        have HB1 := Lib.hid (blk_mod ((Mod.refl (fun _ => False) wr).drewN nq) HB.out id)
        clear HT HB b0 b1 b2 b3 b4 b5 hw0 hw1 hw2 hw3 hw4
        generalize wr.drewN nq = w5 at *
        go_wp2_with fail
        refine (do_in HT1.out He.out ⟨4, [47, 110, 49], [47, 110, 50], 0, []⟩ (small_cmd (by decide) (by decide) (by decide) (by decide))).mono ?_
        rw [show doT (lnkT 0 ((2 : Int).toNat) []) ⟨4, [47, 110, 49], [47, 110, 50], 0, []⟩ = (lnkT 0 3 [], 0) from lnk_link 2 (by omega) (by omega)]
        rintro e w6 ⟨rfl, r6, h6, g6, m6⟩
        have H6 : RowKit.Hid (TreeIn w w6 p (lnkT 0 3 []) r6) := Lib.hid h6
        have HB6 := Lib.hid (blk_mod m6 HB1.out (fun hn => hn hr.out))
        have R6 : RowKit.Hid (r6 nb = .none) := Lib.hid (Classical.byContradiction fun hn => by
          rcases g6 nb hn with h | h
          · exact h hr.out
          · have := blk_lt HB1.out; omega)
        clear h6 g6 m6 HT1 HB1
        go_wp2_with fail
        exact ⟨⟨3, r6, by omega, by omega, by go_num, H6.out, HB6.out, R6⟩, by simp [intOf]⟩
      · clear h1 h6 hk
        go_wp2_with fail
        refine wp_region_qd0 11 (by kernel_rfl) (by kernel_rfl) ?_
        simp only [List.take_succ_cons, List.take_zero, List.drop_succ_cons, List.drop_zero]
        repeat (quiet_step (fail))
        refine wpQuiet_nil ?_
        intro _ hw'
        obtain ⟨nq, rfl⟩ := hw'
        have HT1 := Lib.hid (HT.out.kept ((Mod.refl (fun _ => False) wr).drewN nq))
        have HB1 := Lib.hid (blk_mod ((Mod.refl (fun _ => False) wr).drewN nq) HB.out id)
        clear HT HB b0 b1 b2 b3 b4 b5 hw0 hw1 hw2 hw3 hw4
        generalize wr.drewN nq = w5 at *
        go_wp2_with fail
        refine (do_in HT1.out He.out ⟨4, [47, 110, 50], [47, 110, 51], 0, []⟩ (small_cmd (by decide) (by decide) (by decide) (by decide))).mono ?_
        rw [show doT (lnkT 0 ((3 : Int).toNat) []) ⟨4, [47, 110, 50], [47, 110, 51], 0, []⟩ = (lnkT 0 4 [], 0) from lnk_link 3 (by omega) (by omega)]
        rintro e w6 ⟨rfl, r6, h6, g6, m6⟩
        have H6 : RowKit.Hid (TreeIn w w6 p (lnkT 0 4 []) r6) := Lib.hid h6
        have HB6 := Lib.hid (blk_mod m6 HB1.out (fun hn => hn hr.out))
        have R6 : RowKit.Hid (r6 nb = .none) := Lib.hid (Classical.byContradiction fun hn => by
          rcases g6 nb hn with h | h
          · exact h hr.out
          · have := blk_lt HB1.out; omega)
        clear h6 g6 m6 HT1 HB1
        go_wp2_with fail
        exact ⟨⟨4, r6, by omega, by omega, by go_num, H6.out, HB6.out, R6⟩, by simp [intOf]⟩
      · clear h1 h6 hk
        go_wp2_with fail
        refine wp_region_qd0 11 (by kernel_rfl) (by kernel_rfl) ?_
        simp only [List.take_succ_cons, List.take_zero, List.drop_succ_cons, List.drop_zero]
        repeat (quiet_step (fail))
        refine wpQuiet_nil ?_
        intro _ hw'
        obtain ⟨nq, rfl⟩ := hw'
        have HT1 := Lib.hid (HT.out.kept ((Mod.refl (fun _ => False) wr).drewN nq))
        have HB1 := Lib.hid (blk_mod ((Mod.refl (fun _ => False) wr).drewN nq) HB.out id)
        clear HT HB b0 b1 b2 b3 b4 b5 hw0 hw1 hw2 hw3 hw4
        generalize wr.drewN nq = w5 at *
        go_wp2_with fail
        refine (do_in HT1.out He.out ⟨4, [47, 110, 51], [47, 110, 52], 0, []⟩ (small_cmd (by decide) (by decide) (by decide) (by decide))).mono ?_
        rw [show doT (lnkT 0 ((4 : Int).toNat) []) ⟨4, [47, 110, 51], [47, 110, 52], 0, []⟩ = (lnkT 0 5 [], 0) from lnk_link 4 (by omega) (by omega)]
        rintro e w6 ⟨rfl, r6, h6, g6, m6⟩
        have H6 : RowKit.Hid (TreeIn w w6 p (lnkT 0 5 []) r6) := Lib.hid h6
        have HB6 := Lib.hid (blk_mod m6 HB1.out (fun hn => hn hr.out))
        have R6 : RowKit.Hid (r6 nb = .none) := Lib.hid (Classical.byContradiction fun hn => by
          rcases g6 nb hn with h | h
          · exact h hr.out
          · have := blk_lt HB1.out; omega)
        clear h6 g6 m6 HT1 HB1
        go_wp2_with fail
        exact ⟨⟨5, r6, by omega, by omega, by go_num, H6.out, HB6.out, R6⟩, by simp [intOf]⟩
      · clear h1 h6 hk
        go_wp2_with fail
        refine wp_region_qd0 11 (by kernel_rfl) (by kernel_rfl) ?_
        simp only [List.take_succ_cons, List.take_zero, List.drop_succ_cons, List.drop_zero]
        repeat (quiet_step (fail))
        refine wpQuiet_nil ?_
        intro _ hw'
        obtain ⟨nq, rfl⟩ := hw'
        have HT1 := Lib.hid (HT.out.kept ((Mod.refl (fun _ => False) wr).drewN nq))
        have HB1 := Lib.hid (blk_mod ((Mod.refl (fun _ => False) wr).drewN nq) HB.out id)
        clear HT HB b0 b1 b2 b3 b4 b5 hw0 hw1 hw2 hw3 hw4
        generalize wr.drewN nq = w5 at *
        go_wp2_with fail
        refine (do_in HT1.out He.out ⟨4, [47, 110, 52], [47, 110, 53], 0, []⟩ (small_cmd (by decide) (by decide) (by decide) (by decide))).mono ?_
        rw [show doT (lnkT 0 ((5 : Int).toNat) []) ⟨4, [47, 110, 52], [47, 110, 53], 0, []⟩ = (lnkT 0 6 [], 0) from lnk_link 5 (by omega) (by omega)]
        rintro e w6 ⟨rfl, r6, h6, g6, m6⟩
        have H6 : RowKit.Hid (TreeIn w w6 p (lnkT 0 6 []) r6) := Lib.hid h6
        have HB6 := Lib.hid (blk_mod m6 HB1.out (fun hn => hn hr.out))
        have R6 : RowKit.Hid (r6 nb = .none) := Lib.hid (Classical.byContradiction fun hn => by
          rcases g6 nb hn with h | h
          · exact h hr.out
          · have := blk_lt HB1.out; omega)
        clear h6 g6 m6 HT1 HB1
        go_wp2_with fail
        exact ⟨⟨6, r6, by omega, by omega, by go_num, H6.out, HB6.out, R6⟩, by simp [intOf]⟩
end
section
open Go.ChangeShapes Go.WideShapes Go.RowKit
section
variable {H : Type} {enc : TypeId × Value → H}
set_option maxRecDepth 100000 in
theorem open_intsAt {W : World} {base : Nat} {v : Value} {d : DataW H} {p : List MemPlace} {tys : List TypeId} {dds : List (DataW H)} (hok : Value.okWide Tryz.prog W .any base 44 v) (h : DataW.Trod enc Tryz.prog W 0 (fun _ => true) true 44 v d p)
    (hsz : (DataW.weightsEach Tryz.prog tys dds).all (· ≤ reachBytes) = true) {j : Nat} (ht : tys[j]? = some 44) (hd : dds[j]? = some d) : ∃ a n cap, v = .slice a n cap ∧ IntsAt W a n := by
  obtain ⟨a0, len, cap, rfl⟩ := okWide_slice Tryz.underlying44 hok
  obtain ⟨fuel, hf⟩ := h
  have hb : Tryz.prog.bytesOf 3 = 8 := by kernel_rfl
  rcases open_ints Tryz.underlying44 Tryz.underlying3 (by kernel_rfl) hf with ⟨hcs, _⟩ | ⟨a, len', cap', zs, hcs, _, hl, hm, hz, hx, hcell, _⟩
  · simp [Value.cells] at hcs
    obtain ⟨rfl, rfl, rfl⟩ := hcs
    exact ⟨none, 0, 0, rfl, by omega, fun j hj => by omega⟩
  · simp [Value.cells] at hcs
    obtain ⟨rfl, rfl, rfl⟩ := hcs
    have hx1 := congrArg Prod.fst hx
    simp only at hx1
    subst hx1
    have hs1 := sized_slice hsz ht hd Tryz.underlying44
    rw [hb] at hs1
    simp only [if_true] at hz
    refine ⟨some a, len, cap, rfl, ?_, fun i hi => ?_⟩
    · simp only [lits, List.length_map, List.length_take, List.length_drop, reachBytes] at hs1; omega
    · have hcl := hcell i (by omega)
      obtain ⟨b, o, sp⟩ := a
      have hsp : sp = none := spot_none (hcell 0 (by omega))
      subst hsp
      rw [addr_add] at hcl
      exact ⟨b, o, _, rfl, hcl⟩
end
end
end Go.Proofs.YthmpblccplphfaaGreatDoor
