/-
  The walks of CommandBack, CommandPaths, CommandJoins, CommandKinds.
-/
import Derived.Test.YtpjfeonhdkkfpaaDoorCmdLawA
import Derived.Deep.DeepCutAuto
namespace Go.Proofs.YtpjfeonhdkkfpaaDoor
open Go.RowKit
/-! ### CommandJoins -/
def joined (l : List (List UInt8)) : List UInt8 := l.flatMap fun x => 47 :: x
theorem joined_snoc (l : List (List UInt8)) (x : List UInt8) : joined (l ++ [x]) = joined l ++ 47 :: x := by simp [joined]
theorem joined_inter : ∀ (l : List (List UInt8)), l ≠ [] → joined l = 47 :: [(47 : UInt8)].intercalate l
  | [], h => absurd rfl h
  | [x], _ => by simp [joined, List.intercalate]
  | x :: y :: r, _ => by
    have h := joined_inter (y :: r) (by simp)
    rw [show joined (x :: y :: r) = 47 :: x ++ joined (y :: r) from rfl, h]
    simp [List.intercalate]
theorem path_joined {s : List UInt8} {l : List (List UInt8)} (h : pathOf s = some l) : (l = [] ∧ s = [47]) ∨ (l ≠ [] ∧ joined l = s ∧ l.length ≤ 8) := by
  obtain ⟨r, rfl, ⟨h1, h2⟩ | ⟨h1, h2, h3, _⟩⟩ := path_shape h
  · exact .inl ⟨h2, by rw [h1]⟩
  · subst h2
    exact .inr ⟨spl_ne 47 r, by rw [joined_inter _ (spl_ne 47 r), spl_join], h3⟩
theorem joined_take (l : List (List UInt8)) (k : Nat) : (joined (l.take k)).length ≤ (joined l).length := by
  have h : joined l = joined (l.take k) ++ joined (l.drop k) := by
    conv => lhs; rw [← List.take_append_drop k l]
    simp only [joined, List.flatMap_append]
  rw [h, List.length_append]
  omega
set_option maxRecDepth 100000 in
set_option maxHeartbeats 2000000 in
theorem law_joins (s : List UInt8) (w : World) (he : Env w) (hs : s.length < 4294967281) :
    Calls Tryd.prog 7 #[.string ⟨s.toArray⟩] w fun e w' => e = .returned (.bool true) ∧ Keep w w' := by
  have He := Lib.hid he
  have Hs := Lib.hid hs
  clear he hs
  go_enter Tryd.func7, Tryd.ntmps7
  go_wp2_with fail
  refine (path_any s _ He.out Hs.out).mono ?_
  rintro e w1 ⟨v, rfl, hv, hk⟩
  have HK1 := Lib.hid hk
  obtain ⟨ao, cap, rfl, -⟩ := own_form hv
  have HR := Lib.hid (row_strs hv)
  clear hv hk
  rcases hp : pathOf s with _ | l
  · rw [show pathErr s = 130 by rw [pathErr, hp]; rfl, show pathNames s = [] by rw [pathNames, hp]; rfl]
    clear hp HR
    go_wp2_with fail
    refine (fixed_any _ (He.out.keep HK1.out)).mono ?_
    rintro e w2 ⟨rfl, hk⟩
    have HK2 := Lib.hid (HK1.out.keep hk)
    clear hk
    go_wp2_with fail
    go_ret
    exact ⟨rfl, HK2.out⟩
  · have hl : pathNames s = l := by rw [pathNames, hp]; rfl
    rw [show pathErr s = 0 by rw [pathErr, hp]; rfl, hl]
    rw [hl] at HR
    have Hj := Lib.hid (path_joined hp)
    have Hjl : RowKit.Hid ((joined l).length ≤ s.length) := Lib.hid (by
      rcases Hj.out with ⟨rfl, rfl⟩ | ⟨_, h, _⟩
      · simp [joined]
      · rw [h]; exact Nat.le_refl _)
    obtain ⟨n, hn⟩ : ∃ n, l.length = n := ⟨_, rfl⟩
    have Hn := Lib.hid hn
    have hn8 : n ≤ 8 := by
      rcases Hj.out with ⟨rfl, _⟩ | ⟨_, _, h⟩
      · simp at hn; omega
      · omega
    rw [hn]
    obtain ⟨a', cap', hv, hx⟩ := HR.out
    rw [srow_len, hn] at hv
    cases hv
    have HX := Lib.hid hx
    clear hp hl hn hx HR
    go_wp2_with fail
    go_loopw [5, 6] (fun t i wr => ∃ k : Nat, k ≤ n ∧ i = .int .i64 (k : Int) ∧ t = .string ⟨(joined (l.take k)).toArray⟩ ∧ wr = w1) (fun _ i _ => n - (intOf i).toNat)
    case atStart => exact ⟨0, by omega, rfl, rfl, rfl⟩
    case round =>
      obtain ⟨k, hk, rfl, rfl, rfl⟩ := hrel
      by_cases hlt : k < n
      · obtain ⟨x, hx⟩ : ∃ x, l[k]? = some x := ⟨_, List.getElem?_eq_getElem (by rw [Hn.out]; exact hlt)⟩
        have Hst : RowKit.Hid (joined (l.take (k + 1)) = joined (l.take k) ++ 47 :: x) := Lib.hid (by rw [List.take_add_one, hx, Option.toList_some, joined_snoc])
        obtain ⟨b, o, rfl, hc⟩ := HX.out k (.string ⟨x.toArray⟩) (by simp [srow, hx])
        have hlen : (joined (l.take k)).length + (1 + x.length) < 4294967281 := by
          have h1 := joined_take l (k + 1)
          rw [Hst.out] at h1
          have := Hjl.out
          have := Hs.out
          simp at h1; omega
        clear hx
        go_wp2_with fail
        exact ⟨⟨k + 1, by omega, by go_num, by rw [Hst.out], trivial⟩, by simp [intOf]; omega⟩
      · obtain rfl : k = n := by omega
        rw [List.take_of_length_le (by rw [Hn.out]; exact Nat.le_refl _)]
        go_wp2_with fail
        refine (fixed_any _ (He.out.keep HK1.out)).mono ?_
        rintro e w2 ⟨rfl, hk⟩
        have HK2 := Lib.hid (HK1.out.keep hk)
        clear hk
        rcases Hj.out with ⟨h1, h2⟩ | ⟨h1, h2, h3⟩
        · subst h1 h2
          have hk0 : k = 0 := by have := Hn.out; simpa using this.symm
          subst hk0
          go_wp2_with fail
          go_ret
          exact ⟨rfl, HK2.out⟩
        · have hk0 : 1 ≤ k := by have := Hn.out; have h4 : l.length ≠ 0 := fun e => h1 (List.length_eq_zero_iff.1 e); omega
          have b0 : ((k : Int) == 0) = false := beq_false_of_ne (by omega)
          have b1 : (0 : Int) < (k : Int) := by omega
          have b8 : (k : Int) ≤ 8 := by omega
          rw [h2]
          have ess : (s == s) = true := beq_self_eq_true s
          clear h1 h2 h3
          go_wp2_with fail
          go_ret
          exact ⟨rfl, HK2.out⟩
end Go.Proofs.YtpjfeonhdkkfpaaDoor
