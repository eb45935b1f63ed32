/-
  The walk of CommandPaths.
-/
import Derived.Test.YtpjfeonhdkkfpaaDoorCmdLawA
namespace Go.Proofs.YtpjfeonhdkkfpaaDoor
open Go.RowKit
/-- a row of the call's own that may be written -/
def WRow (w : World) (base : Nat) (v : Value) (n : Nat) (t : TypeId) : Prop :=
  ∃ a cap, v = .slice a n cap ∧ (0 < n → ∃ g cur, a = some ⟨g, 0, none⟩ ∧ base ≤ g ∧ World.blk w g cur t ∧ n ≤ cur.size)
theorem wrow_of_own {w : World} {base n : Nat} {t : TypeId} {v : Value} {xs : List Value} (h : w.ownsRow base t 1 v n xs) : WRow w base v n t := by
  obtain ⟨h1, h2⟩ := h
  rcases h2 with ⟨rfl, h3⟩ | ⟨g, cap, cur, rfl, hb, hg, hnc, hm, hsz, htk⟩
  · subst h3; exact ⟨none, 0, rfl, fun h => by omega⟩
  · exact ⟨_, cap, rfl, fun _ => ⟨g, cur, rfl, hb, hg, by omega⟩⟩
theorem wrow_keep {w w' : World} {base n : Nat} {t : TypeId} {v : Value} (h : WRow w base v n t) (k : Keep w w') : WRow w' base v n t := by
  obtain ⟨a, cap, hv, hx⟩ := h
  exact ⟨a, cap, hv, fun h => by obtain ⟨g, cur, a, b, c, d⟩ := hx h; exact ⟨g, cur, a, b, blk_mod k c id, d⟩⟩
theorem names_len (s : List UInt8) (hs : s.length < 4294967281) : (pathNames s).length ≤ 8 := by
  unfold pathNames
  rcases hp : pathOf s with _ | l
  · simp
  · obtain ⟨r, _, ⟨_, h⟩ | ⟨_, _, h, _⟩⟩ := path_shape hp
    · simp [h]
    · exact h
set_option maxRecDepth 100000 in
set_option maxHeartbeats 2000000 in
theorem law_paths (s : List UInt8) (w : World) (he : Env w) (hs : s.length < 4294967281) :
    Calls Tryd.prog 3 #[.string ⟨s.toArray⟩] w fun e w' => e = .returned (.bool true) ∧ Keep w w' := by
  have He := Lib.hid he
  have Hs := Lib.hid hs
  have hn8 := names_len s hs
  clear he hs
  go_enter Tryd.func3, Tryd.ntmps3
  go_wp2_with fail
  refine (rpath_any s _ Hs.out).mono ?_
  rintro e w1 ⟨vm, rfl, hv, hk⟩
  have HK1 := Lib.hid hk
  have HM1 := Lib.hid (row_strs hv)
  clear hv hk
  go_wp2_with fail
  go_loopw [5] (fun i wr => ∃ (k : Nat), k ≤ 2 ∧ i = .int .i64 (k : Int) ∧ Keep w1 wr) (fun i _ => 2 - (intOf i).toNat)
  case atStart => exact ⟨0, by omega, rfl, Mod.refl _ _⟩
  case round =>
    obtain ⟨k, hk, rfl, hK⟩ := hrel
    have HK := Lib.hid hK
    clear hK
    by_cases hlt : k < 2
    · go_wp2_with fail
      refine (path_any s _ (He.out.keep (HK1.out.keep HK.out)) Hs.out).mono ?_
      rintro e w2 ⟨v, rfl, hv, hk⟩
      have HK2 := Lib.hid (HK.out.keep hk)
      have HV2 := Lib.hid hv
      clear hv hk
      have bne : (pathErr s != pathErr s) = false := by rw [bne_eq_false_iff_eq]
      go_wp2_with fail
      refine (same_strs v vm (pathNames s) (pathNames s) w2 (row_strs HV2.out) (row_keep HM1.out HK2.out) (by omega) (by omega)).mono ?_
      rintro e w3 ⟨rfl, hk⟩
      have HK3 := Lib.hid (HK2.out.keep hk)
      have hV3 := wrow_keep (wrow_of_own HV2.out) hk
      have Hlt : RowKit.Hid (w1.heap.size ≤ wr.heap.size) := Lib.hid HK.out.size
      rw [show ((pathNames s == pathNames s) : Bool) = true from beq_self_eq_true _]
      clear hk HK2 HV2 bne
      generalize (pathNames s).length = n at *
      generalize wr.heap.size = B0 at *
      obtain ⟨a, cap, rfl, hx⟩ := hV3
      have HX := Lib.hid hx
      clear hx
      go_wp2_with fail
      go_loopw [8] (fun i wr => ∃ (m : Nat), m ≤ n ∧ i = .int .i64 (m : Int) ∧ Keep w1 wr ∧ WRow wr B0 (.slice a n cap) n 9) (fun i _ => n - (intOf i).toNat)
      case atStart => exact ⟨0, by omega, rfl, HK3.out, ⟨a, cap, rfl, HX.out⟩⟩
      case round =>
        clear HK3 HX
        obtain ⟨m, hm, rfl, hK, hX⟩ := hrel
        have HK := Lib.hid hK
        have HX := Lib.hid hX
        clear hK hX
        by_cases hmn : m < n
        · obtain ⟨a', cap', hv, hx⟩ := HX.out
          obtain ⟨g, cur, ha, hbg, hblk, hcs⟩ := hx (by omega)
          cases hv
          subst ha
          have HX2 := Lib.hid (And.intro hbg (And.intro hblk hcs))
          have c1 : (wr.cell? ⟨g, m, none⟩).isSome = true := by rw [blk_cell hblk]; simp; omega
          have c2 : wr.frozen? ⟨g, m, none⟩ = false := blk_free hblk _ rfl
          obtain ⟨x, hx1⟩ := Option.isSome_iff_exists.1 c1
          clear hbg hblk hcs c1 hx
          go_wp2_with fail
          refine ⟨⟨m + 1, by omega, by go_num, HK.out.setCell (.inr (by have := HX2.out.1; have := Hlt.out; simp; omega)) _, ⟨_, cap, rfl, fun _ => ⟨g, _, rfl, HX2.out.1, blk_set HX2.out.2.1 _ _, by simpa using HX2.out.2.2⟩⟩⟩, by simp [intOf]; omega⟩
        · go_wp2_with fail
          exact ⟨⟨k + 1, by omega, by go_num, HK.out⟩, by simp [intOf]; omega⟩
    · go_wp2_with fail
      refine (fixed_any wr (He.out.keep (HK1.out.keep HK.out))).mono ?_
      rintro e w2 ⟨rfl, hk⟩
      have HK2 := Lib.hid ((HK1.out.keep HK.out).keep hk)
      clear hk
      go_wp2_with fail
      go_ret
      exact ⟨rfl, HK2.out⟩
end Go.Proofs.YtpjfeonhdkkfpaaDoor
