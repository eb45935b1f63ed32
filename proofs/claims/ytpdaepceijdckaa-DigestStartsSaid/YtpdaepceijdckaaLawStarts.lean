/-
  DigestStarts: two hashes that were written the same go on the same; the first sum is that of what was written; no condition.
-/
import Derived.Test.YtpdaepceijdckaaRows
import Derived.Test.YtpdaepceijdckaaDigRel
import Derived.Test.YtpdaepceijdckaaDigFixed
import Derived.Test.YtpdaepceijdckaaClose
import Derived.Deep.DeepCutAuto
namespace Go.Proofs.Ytpdaepceijdckaa.lawStarts
open Go.ChangeShapes Go.WideShapes Go.ChangeAt Go.RowKit
open Go.ChangeMaps (open_string shut_string)
theorem own : ownKnob Try.prog.godebug = none := by kernel_rfl
theorem laidOut : laidOutB Try.prog = true := by kernel_rfl

def short (x : Value) (s : List UInt8) : Prop := x = .string ⟨s.toArray⟩ ∧ s.length ≤ 2000
set_option maxRecDepth 100000 in
set_option maxHeartbeats 1000000 in
theorem walk (key s t : List UInt8) (_ : key.length ≤ 140737488351232) (hs : s.length ≤ 140737488351232) (ht : t.length ≤ 140737488351232) {w : World} :
    Calls Try.prog 7 #[.string ⟨key.toArray⟩, .string ⟨s.toArray⟩, .string ⟨t.toArray⟩] w fun e w' => e = .returned (.bool true) ∧ Keep w w' := by
  go_enter Try.func7, Try.ntmps7
  go_upto_region 1 with (fail)
  go_cut [1] (fun s1 wr => (∃ s', short s1 s') ∧ w = wr)
  case first =>
    go_wp2_with fail
    · go_meet
      case rel => exact ⟨⟨s.take 2000, rfl, by simp; omega⟩, rfl⟩
    · go_meet
      case rel => exact ⟨⟨s, rfl, by omega⟩, rfl⟩
  case rest =>
  obtain ⟨⟨s', rfl, hs'⟩, rfl⟩ := hcut
  go_upto_region 2 with (fail)
  go_cut [2] (fun s2 wr => (∃ t', short s2 t') ∧ w = wr)
  case first =>
    go_wp2_with fail
    · go_meet
      case rel => exact ⟨⟨t.take 2000, rfl, by simp; omega⟩, rfl⟩
    · go_meet
      case rel => exact ⟨⟨t, rfl, by omega⟩, rfl⟩
  case rest =>
  obtain ⟨⟨t', rfl, ht'⟩, rfl⟩ := hcut
  by_cases hk : key.length = 16
  · have Hk := Lib.hid hk
    clear hk
    go_wp2_with fail
    refine (new_hash key _ Hk.out).mono ?_
    rintro e w1 ⟨rfl, hB1, hk1⟩
    have HB1 := Lib.hid hB1
    have HK1 := Lib.hid hk1
    clear hB1 hk1
    go_wp2_with fail
    refine (new_hash key _ Hk.out).mono ?_
    rintro e w2 ⟨rfl, hB2, hk2⟩
    have HB2 := Lib.hid (And.intro (blk_mod hk2 HB1.out id) hB2)
    have HK2 := Lib.hid (HK1.out.keep hk2)
    have Hne := Lib.hid (Nat.ne_of_lt (blk_lt HB1.out))
    have Hle := Lib.hid HK1.out.size
    clear hB2 hk2 HB1
    go_wp2_with fail
    refine (write_hash w.heap.size key [] s' _ HB2.out.1 (by simp <;> omega)).mono ?_
    rintro e w3 ⟨rfl, hB3, hm3⟩
    have HB3 := Lib.hid (And.intro hB3 (blk_mod hm3 HB2.out.2 Hne.out.symm))
    have HK3 := Lib.hid (HK2.out.new hm3 (Nat.le_refl _))
    clear hB3 hm3 HB2 HK2
    go_wp2_with fail
    refine (write_hash w1.heap.size key [] s' _ HB3.out.2 (by simp <;> omega)).mono ?_
    rintro e w4 ⟨rfl, hB4, hm4⟩
    have HB4 := Lib.hid (And.intro (blk_mod hm4 HB3.out.1 Hne.out) hB4)
    have HK4 := Lib.hid (HK3.out.new hm4 Hle.out)
    clear hB4 hm4 HB3 HK3
    go_wp2_with fail
    refine (sum_hash w.heap.size key ([] ++ s') _ HB4.out.1 (by simp <;> omega)).mono ?_
    rintro e w5 ⟨rfl, hk5⟩
    have HB5 := Lib.hid (And.intro (blk_mod hk5 HB4.out.1 id) (blk_mod hk5 HB4.out.2 id))
    have HK5 := Lib.hid (HK4.out.keep hk5)
    clear hk5 HB4 HK4
    go_wp2_with fail
    refine (write_hash w.heap.size key ([] ++ s') t' _ HB5.out.1 (by simp <;> omega)).mono ?_
    rintro e w6 ⟨rfl, hB6, hm6⟩
    have HB6 := Lib.hid (And.intro hB6 (blk_mod hm6 HB5.out.2 Hne.out.symm))
    have HK6 := Lib.hid (HK5.out.new hm6 (Nat.le_refl _))
    clear hB6 hm6 HB5 HK5
    go_wp2_with fail
    refine (write_hash w1.heap.size key ([] ++ s') t' _ HB6.out.2 (by simp <;> omega)).mono ?_
    rintro e w7 ⟨rfl, hB7, hm7⟩
    have HB7 := Lib.hid (And.intro (blk_mod hm7 HB6.out.1 Hne.out) hB7)
    have HK7 := Lib.hid (HK6.out.new hm7 Hle.out)
    clear hB7 hm7 HB6 HK6
    go_wp2_with fail
    refine (sumf_yes key s' _ Hk.out (by omega)).mono ?_
    rintro e w8 ⟨rfl, hk8⟩
    have HB8 := Lib.hid (And.intro (blk_mod hk8 HB7.out.1 id) (blk_mod hk8 HB7.out.2 id))
    have HK8 := Lib.hid (HK7.out.keep hk8)
    clear hk8 HB7 HK7
    go_wp2_with fail
    refine (fixed_any _).mono ?_
    rintro e w9 ⟨rfl, hk9⟩
    have HB9 := Lib.hid (And.intro (blk_mod hk9 HB8.out.1 id) (blk_mod hk9 HB8.out.2 id))
    have HK9 := Lib.hid (HK8.out.keep hk9)
    clear hk9 HB8 HK8
    go_wp2_with fail
    refine (sum_hash w.heap.size key ([] ++ s' ++ t') _ HB9.out.1 (by simp <;> omega)).mono ?_
    rintro e w10 ⟨rfl, hk10⟩
    have HB10 := Lib.hid (And.intro (blk_mod hk10 HB9.out.1 id) (blk_mod hk10 HB9.out.2 id))
    have HK10 := Lib.hid (HK9.out.keep hk10)
    clear hk10 HB9 HK9
    go_wp2_with fail
    refine (sum_hash w1.heap.size key ([] ++ s' ++ t') _ HB10.out.2 (by simp <;> omega)).mono ?_
    rintro e w11 ⟨rfl, hk11⟩
    have HB11 := Lib.hid (And.intro (blk_mod hk11 HB10.out.1 id) (blk_mod hk11 HB10.out.2 id))
    have HK11 := Lib.hid (HK10.out.keep hk11)
    clear hk11 HB10 HK10
    go_wp2_with fail
    go_ret
    exact ⟨rfl, HK11.out⟩
  · have hk' : ((key.length : Int) != 16) = true := by rw [bne_iff_ne]; omega
    have Hk := Lib.hid hk
    clear hk
    go_wp2_with fail
    refine (new_no key _ Hk.out).mono ?_
    rintro e w1 ⟨rfl, rfl⟩
    go_wp2_with fail
    refine (new_no key _ Hk.out).mono ?_
    rintro e w1 ⟨rfl, rfl⟩
    go_wp2_with fail
    refine (fixed_any _).mono ?_
    rintro e w1 ⟨rfl, hk1⟩
    have H1 := Lib.hid hk1
    clear hk1
    go_wp2_with fail
    go_ret
    exact ⟨rfl, H1.out⟩
set_option maxRecDepth 100000 in
theorem digestStarts_lifted (os : Os) (started : os.Started) (H : Type) (enc : TypeId × Value → H) :
    ReturnsInHanded {} Try.checked os 7 .any (Rows.digestStartsSpec.pre6 enc Try.prog Try.f7 Rows.digestStartsRow.domain false) (Rows.digestStartsSpec.post enc Try.prog Try.f7 false true false false) := by
  refine returnsInHanded_of_change_sized (C := Try.checked) own started (by kernel_rfl) Try.func7
    (ChangeSpec.witness6 (enc := enc) (C := Try.checked) false ⟨#[], #[.string .empty, .string .empty, .string .empty], []⟩ 8 (by kernel_rfl) (by kernel_rfl) (by kernel_rfl) (by kernel_rfl)) ?_
  intro W base args ds gs before hval0 hW _ hsz0 _
  have hsz : (DataW.weightsEach Try.prog (Try.f7.params.toList ++ Rows.digestStartsSpec.plain.varTypes Try.prog) (ds ++ gs)).all (· ≤ reachBytes) = true := hsz0
  have hval : ∀ (j : Nat) t v, Try.f7.params[j]? = some t → args[j]? = some v → Value.okWide Try.prog W .any base t v := hval0
  clear hsz0 hval0
  have hW' := hW
  obtain ⟨p, q, hA0, hV, rfl, _, _⟩ := hW
  have hA : DataW.TrodAll enc Try.prog W 0 (fun _ => true) true Try.f7.params.toList args.toList ds p := hA0
  clear hA0
  rw [Try.params7] at hA hval hsz
  obtain ⟨v0, vs0, d0, ds0, p0, q0, hargs, rfl, rfl, h0, r0⟩ := trodAll_cons hA
  obtain ⟨v1, vs1, d1, ds1, p1, q1, rfl, rfl, rfl, h1, r1⟩ := trodAll_cons r0
  obtain ⟨v2, vs2, d2, ds2, p2, q2, rfl, rfl, rfl, h2, r2⟩ := trodAll_cons r1
  obtain ⟨rfl, rfl, rfl⟩ := trodAll_nil r2
  obtain rfl : args = #[v0, v1, v2] := by cases args; simp_all
  obtain ⟨rfl, rfl⟩ := trodVars_none hV
  obtain ⟨b0, rfl, rfl, rfl, _⟩ := open_string Try.underlying9 (hval 0 9 v0 rfl rfl) h0
  have z0 : b0.data.toList.length ≤ 140737488351232 := sized_string hsz (j := 0) (t := 9) rfl rfl
  obtain ⟨l0, rfl⟩ : ∃ l : List UInt8, b0 = ⟨l.toArray⟩ := ⟨b0.data.toList, rfl⟩
  obtain ⟨b1, rfl, rfl, rfl, _⟩ := open_string Try.underlying9 (hval 1 9 v1 rfl rfl) h1
  have z1 : b1.data.toList.length ≤ 140737488351232 := sized_string hsz (j := 1) (t := 9) rfl rfl
  obtain ⟨l1, rfl⟩ : ∃ l : List UInt8, b1 = ⟨l.toArray⟩ := ⟨b1.data.toList, rfl⟩
  obtain ⟨b2, rfl, rfl, rfl, _⟩ := open_string Try.underlying9 (hval 2 9 v2 rfl rfl) h2
  have z2 : b2.data.toList.length ≤ 140737488351232 := sized_string hsz (j := 2) (t := 9) rfl rfl
  obtain ⟨l2, rfl⟩ : ∃ l : List UInt8, b2 = ⟨l.toArray⟩ := ⟨b2.data.toList, rfl⟩
  refine (walk l0 l1 l2 z0 z1 z2).mono fun e W' ⟨he, hk⟩ => ?_
  subst he
  exact ⟨_, rfl, law_close laidOut (by kernel_rfl) rfl rfl Try.underlying4 rfl hW' hk⟩
theorem digestStarts_holds : Rows.DigestStartsSaid :=
  OpenClaim.holds_of_wide 7 Try.f7 rfl rfl rfl rfl rfl rfl rfl ⟨rfl, rfl, rfl, rfl, rfl⟩ rfl rfl rfl rfl rfl (by kernel_rfl) Try.func7 (by kernel_rfl)
    (of_decide_eq_true (by kernel_rfl)) (by unfold Func.isWrapper; first | (rw [if_pos (by decide +kernel)]; kernel_rfl) | (rw [if_neg (by decide +kernel)]; exact ⟨rfl, rfl⟩))
    (fun os started H enc _ => digestStarts_lifted os started H enc)
end Go.Proofs.Ytpdaepceijdckaa.lawStarts
