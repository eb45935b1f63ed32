/-
  tables: how an entry is held against the one ahead, laid.
-/
import Derived.Test.YthmpblccplphfaaGreatDoorRowS
import Derived.Test.YthmpblccplphfaaGreatDoorWirePut
import Derived.Test.YthmpblccplphfaaGreatDoorBuilderStr
import Derived.Test.YthmpblccplphfaaGreatDoorCmdName
import Derived.Laws.EntriesVeiled
namespace Go.Proofs.YthmpblccplphfaaGreatDoor
open Go.RowKit
def mayB (was x : List UInt8 × Int) (first : Bool) : Bool := nameOk x.1 && (first || bytesBefore was.1 x.1) && decide (1 ≤ x.2) && decide (x.2 ≤ 65535)
set_option maxRecDepth 100000 in
set_option maxHeartbeats 1000000 in
theorem may_any (was x : List UInt8 × Int) (first : Bool) (w : World) (hx : x.1.length ≤ 140737488355328) :
    Calls Tryz.prog 114 #[entV was, entV x, .bool first] w fun e w' => e = .returned (.bool (mayB was x first)) ∧ Keep w w' := by
  obtain ⟨s0, k0⟩ := was
  obtain ⟨s, k⟩ := x
  have hg := gtr_before s s0
  go_enter Tryz.func114, Tryz.ntmps114
  go_wp2_with fail
  refine (name_any s _ hx).mono ?_
  rintro e w3 ⟨rfl, hk⟩
  have hb0 : World.blk w3 w.heap.size #[.string ⟨s0.toArray⟩, .int .i64 k0] 98 := blk_mod hk (blk_alloc (blk_new _ _ _) _) id
  have hb1 : World.blk w3 (w.heap.size + 1) #[.string ⟨s.toArray⟩, .int .i64 k] 98 := blk_mod hk (blk_new_at (by simp) _ _) id
  have c0 : w3.cell? ⟨w.heap.size, 0, none⟩ = some (.string ⟨s0.toArray⟩) := blk_cell hb0 0
  have c1 : w3.cell? ⟨w.heap.size + 1, 0, none⟩ = some (.string ⟨s.toArray⟩) := blk_cell hb1 0
  have c2 : w3.cell? ⟨w.heap.size + 1, 1, none⟩ = some (.int .i64 k) := blk_cell hb1 1
  have HK := Lib.hid (unalloc (unalloc hk))
  clear hk hb0 hb1 hx
  cases hn : nameOk s with
  | false =>
    have Hv : RowKit.Hid (mayB (s0, k0) (s, k) first = false) := Lib.hid (by simp [mayB, hn])
    clear hn
    go_wp2_with fail
    go_ret
    exact ⟨by rw [Hv.out]; first | rfl | (simp; omega) | (simp [h1, h2]) | (simp; intros; omega), HK.out⟩
  | true =>
    cases first with
    | true =>
      have Hv : RowKit.Hid (mayB (s0, k0) (s, k) true = (decide (1 ≤ k) && decide (k ≤ 65535))) := Lib.hid (by simp [mayB, hn])
      clear hn
      by_cases h1 : 1 ≤ k
      · by_cases h2 : k ≤ 65535
        · go_wp2_with fail
          go_ret
          exact ⟨by rw [Hv.out]; first | rfl | (simp; omega) | (simp [h1, h2]) | (simp; intros; omega), HK.out⟩
        · go_wp2_with fail
          go_ret
          exact ⟨by rw [Hv.out]; first | rfl | (simp; omega) | (simp [h1, h2]) | (simp; intros; omega), HK.out⟩
      · go_wp2_with fail
        go_ret
        exact ⟨by rw [Hv.out]; first | rfl | (simp; omega) | (simp [h1, h2]) | (simp; intros; omega), HK.out⟩
    | false =>
      have Hv : RowKit.Hid (mayB (s0, k0) (s, k) false = (bytesBefore s0 s && decide (1 ≤ k) && decide (k ≤ 65535))) := Lib.hid (by simp [mayB, hn])
      clear hn
      cases hbb : bytesBefore s0 s with
      | false =>
        rw [hbb] at hg Hv
        clear hbb
        go_wp2_with fail
        go_ret
        exact ⟨by rw [Hv.out]; first | rfl | (simp; omega) | (simp [h1, h2]) | (simp; intros; omega), HK.out⟩
      | true =>
        rw [hbb] at hg Hv
        clear hbb
        by_cases h1 : 1 ≤ k
        · by_cases h2 : k ≤ 65535
          · go_wp2_with fail
            go_ret
            exact ⟨by rw [Hv.out]; first | rfl | (simp; omega) | (simp [h1, h2]) | (simp; intros; omega), HK.out⟩
          · go_wp2_with fail
            go_ret
            exact ⟨by rw [Hv.out]; first | rfl | (simp; omega) | (simp [h1, h2]) | (simp; intros; omega), HK.out⟩
        · go_wp2_with fail
          go_ret
          exact ⟨by rw [Hv.out]; first | rfl | (simp; omega) | (simp [h1, h2]) | (simp; intros; omega), HK.out⟩
/-- the three functions by which entries are laid and read -/
abbrev formV : Value := .agg #[.func (.func 114) #[] #[], .func (.func 115) #[] #[], .func (.func 116) #[] #[]]
set_option maxRecDepth 100000 in
set_option maxHeartbeats 1000000 in
theorem entput_any (x : List UInt8 × Int) (w : World) :
    Calls Tryz.prog 115 #[entV x] w fun e w' => ∃ b, e = .returned (.slice (some ⟨b, 0, none⟩) 2 2) ∧ w.heap.size ≤ b ∧ Keep w w' ∧ World.blk w' b #[.iface 9 (.string ⟨x.1.toArray⟩), .iface 3 (.int .i64 x.2)] 20 := by
  obtain ⟨s, k⟩ := x
  go_enter Tryz.func115, Tryz.ntmps115
  go_wp2_with fail
  go_ret
  exact ⟨_, rfl, by omega, ((Mod.refl _ _).alloc _).alloc _, blk_new_at (by simp) _ _⟩
set_option maxRecDepth 100000 in
set_option maxHeartbeats 1000000 in
theorem form_any (w : World) :
    Calls Tryz.prog 87 #[] w fun e w' => e = .returned formV ∧ Keep w w' := by
  go_enter Tryz.func87, Tryz.ntmps87
  go_wp2_with fail
  exact bodyPost_ret (v := formV) (by simp [results, Tryz.results87, go_sem]) rfl ⟨rfl, (Mod.refl _ _).alloc _⟩
end Go.Proofs.YthmpblccplphfaaGreatDoor
