/-
  DigestEach: bytes that are written one by one have the sum of all of them at once; no condition.
-/
import Derived.Test.YtpdaepceijdckaaRows
import Derived.Test.YtpdaepceijdckaaDigRel
import Derived.Test.YtpdaepceijdckaaDigFixed
import Derived.Test.YtpdaepceijdckaaClose
import Derived.Deep.DeepCutAuto
namespace Go.Proofs.Ytpdaepceijdckaa.lawEach
open Go.ChangeShapes Go.WideShapes Go.ChangeAt Go.RowKit
open Go.ChangeMaps (open_string shut_string)
theorem own : ownKnob Try.prog.godebug = none := by kernel_rfl
theorem laidOut : laidOutB Try.prog = true := by kernel_rfl

def short (x : Value) (s : List UInt8) : Prop := x = .string ⟨s.toArray⟩ ∧ s.length ≤ 2000
set_option maxRecDepth 100000 in
set_option maxHeartbeats 1000000 in
theorem walk (key s : List UInt8) (_ : key.length ≤ 140737488351232) (hs : s.length ≤ 140737488351232) {w : World} :
    Calls Try.prog 6 #[.string ⟨key.toArray⟩, .string ⟨s.toArray⟩] w fun e w' => e = .returned (.bool true) ∧ Keep w w' := by
  go_enter Try.func6, Try.ntmps6
  go_upto_region 1 with (fail)
  go_cut [1] (fun s1 wr => (∃ s', short s1 s') ∧ w = wr)
  case first =>
    go_wp2_with fail
    · go_meet
      case rel => exact ⟨⟨s.take 2000, rfl, by simp; omega⟩, rfl⟩
    · go_meet
      case rel => exact ⟨⟨s, rfl, by omega⟩, rfl⟩
  case rest =>
  obtain ⟨⟨s', rfl, hs'⟩, rfl⟩ := hcut
  by_cases hk : key.length = 16
  · have Hk := Lib.hid hk
    clear hk
    go_wp2_with fail
    refine (new_hash key _ Hk.out).mono ?_
    rintro e w1 ⟨rfl, hB1, hk1⟩
    have HB1 := Lib.hid hB1
    have HK1 := Lib.hid hk1
    clear hB1 hk1
    go_wp2_with fail
    go_loopw [7] (fun i wr => ∃ k : Nat, k ≤ s'.length ∧ i = .int .i64 k ∧ World.blk wr w.heap.size (hashed key (s'.take k)) 45 ∧ Keep w wr) (fun i _ => s'.length - (intOf i).toNat)
    case atStart => exact ⟨0, Nat.zero_le _, rfl, HB1.out, HK1.out⟩
    case round =>
      clear HB1 HK1
      obtain ⟨k, hk, rfl, hB, hK⟩ := hrel
      have HB := Lib.hid hB
      have HK := Lib.hid hK
      clear hB hK
      by_cases hlt : k < s'.length
      · have hone : (s'.drop k).take 1 = [s'[k]] := by rw [List.drop_eq_getElem_cons hlt]; rfl
        have Hone := Lib.hid hone
        have e1 : k + 1 - k = 1 := by omega
        clear hone
        go_wp2_with fail
        refine (write_hash w.heap.size key (s'.take k) _ _ HB.out (by simp; omega)).mono ?_
        rintro e w2 ⟨rfl, hB2, hm2⟩
        rw [Hone.out, ← take_snoc s' k hlt] at hB2
        have HB2 := Lib.hid hB2
        have HK2 := Lib.hid (HK.out.new hm2 (Nat.le_refl _))
        clear hB2 hm2
        go_wp2_with fail
        refine ⟨⟨k + 1, by omega, by go_num, HB2.out, HK2.out⟩, by simp [intOf]; omega⟩
      · obtain rfl : k = s'.length := by omega
        have HBf : RowKit.Hid (World.blk wr w.heap.size (hashed key s') 45) := by have := HB.out; rwa [List.take_length] at this
        clear HB
        go_wp2_with fail
        refine (sumf_yes key s' _ Hk.out (by omega)).mono ?_
        rintro e w8 ⟨rfl, hk8⟩
        have HB8 := Lib.hid (blk_mod hk8 HBf.out id)
        have HK8 := Lib.hid (HK.out.keep hk8)
        clear hk8 HBf HK
        go_wp2_with fail
        refine (sumf_yes key s' _ Hk.out (by omega)).mono ?_
        rintro e w9 ⟨rfl, hk9⟩
        have HB9 := Lib.hid (blk_mod hk9 HB8.out id)
        have HK9 := Lib.hid (HK8.out.keep hk9)
        clear hk9 HB8 HK8
        go_wp2_with fail
        refine (fixed_any _).mono ?_
        rintro e w10 ⟨rfl, hk10⟩
        have HB10 := Lib.hid (blk_mod hk10 HB9.out id)
        have HK10 := Lib.hid (HK9.out.keep hk10)
        clear hk10 HB9 HK9
        have e8 : (sip key s').length = 8 := sip_len key s'
        go_wp2_with fail
        refine (sum_hash w.heap.size key s' _ HB10.out (by omega)).mono ?_
        rintro e w11 ⟨rfl, hk11⟩
        have HK11 := Lib.hid (HK10.out.keep hk11)
        clear hk11 HB10 HK10
        go_wp2_with fail
        go_ret
        exact ⟨rfl, HK11.out⟩
  · have hk' : ((key.length : Int) != 16) = true := by rw [bne_iff_ne]; omega
    have Hk := Lib.hid hk
    clear hk
    go_wp2_with fail
    refine (new_no key _ Hk.out).mono ?_
    rintro e w1 ⟨rfl, rfl⟩
    go_wp2_with fail
    refine (fixed_any _).mono ?_
    rintro e w1 ⟨rfl, hk1⟩
    have H1 := Lib.hid hk1
    clear hk1
    go_wp2_with fail
    go_ret
    exact ⟨rfl, H1.out⟩
set_option maxRecDepth 100000 in
theorem digestEach_lifted (os : Os) (started : os.Started) (H : Type) (enc : TypeId × Value → H) :
    ReturnsInHanded {} Try.checked os 6 .any (Rows.digestEachSpec.pre6 enc Try.prog Try.f6 Rows.digestEachRow.domain false) (Rows.digestEachSpec.post enc Try.prog Try.f6 false true false false) := by
  refine returnsInHanded_of_change_sized (C := Try.checked) own started (by kernel_rfl) Try.func6
    (ChangeSpec.witness6 (enc := enc) (C := Try.checked) false ⟨#[], #[.string .empty, .string .empty], []⟩ 8 (by kernel_rfl) (by kernel_rfl) (by kernel_rfl) (by kernel_rfl)) ?_
  intro W base args ds gs before hval0 hW _ hsz0 _
  have hsz : (DataW.weightsEach Try.prog (Try.f6.params.toList ++ Rows.digestEachSpec.plain.varTypes Try.prog) (ds ++ gs)).all (· ≤ reachBytes) = true := hsz0
  have hval : ∀ (j : Nat) t v, Try.f6.params[j]? = some t → args[j]? = some v → Value.okWide Try.prog W .any base t v := hval0
  clear hsz0 hval0
  have hW' := hW
  obtain ⟨p, q, hA0, hV, rfl, _, _⟩ := hW
  have hA : DataW.TrodAll enc Try.prog W 0 (fun _ => true) true Try.f6.params.toList args.toList ds p := hA0
  clear hA0
  rw [Try.params6] at hA hval hsz
  obtain ⟨v0, vs0, d0, ds0, p0, q0, hargs, rfl, rfl, h0, r0⟩ := trodAll_cons hA
  obtain ⟨v1, vs1, d1, ds1, p1, q1, rfl, rfl, rfl, h1, r1⟩ := trodAll_cons r0
  obtain ⟨rfl, rfl, rfl⟩ := trodAll_nil r1
  obtain rfl : args = #[v0, v1] := by cases args; simp_all
  obtain ⟨rfl, rfl⟩ := trodVars_none hV
  obtain ⟨b0, rfl, rfl, rfl, _⟩ := open_string Try.underlying9 (hval 0 9 v0 rfl rfl) h0
  have z0 : b0.data.toList.length ≤ 140737488351232 := sized_string hsz (j := 0) (t := 9) rfl rfl
  obtain ⟨l0, rfl⟩ : ∃ l : List UInt8, b0 = ⟨l.toArray⟩ := ⟨b0.data.toList, rfl⟩
  obtain ⟨b1, rfl, rfl, rfl, _⟩ := open_string Try.underlying9 (hval 1 9 v1 rfl rfl) h1
  have z1 : b1.data.toList.length ≤ 140737488351232 := sized_string hsz (j := 1) (t := 9) rfl rfl
  obtain ⟨l1, rfl⟩ : ∃ l : List UInt8, b1 = ⟨l.toArray⟩ := ⟨b1.data.toList, rfl⟩
  refine (walk l0 l1 z0 z1).mono fun e W' ⟨he, hk⟩ => ?_
  subst he
  exact ⟨_, rfl, law_close laidOut (by kernel_rfl) rfl rfl Try.underlying4 rfl hW' hk⟩
theorem digestEach_holds : Rows.DigestEachSaid :=
  OpenClaim.holds_of_wide 6 Try.f6 rfl rfl rfl rfl rfl rfl rfl ⟨rfl, rfl, rfl, rfl, rfl⟩ rfl rfl rfl rfl rfl (by kernel_rfl) Try.func6 (by kernel_rfl)
    (of_decide_eq_true (by kernel_rfl)) (by unfold Func.isWrapper; first | (rw [if_pos (by decide +kernel)]; kernel_rfl) | (rw [if_neg (by decide +kernel)]; exact ⟨rfl, rfl⟩))
    (fun os started H enc _ => digestEach_lifted os started H enc)
end Go.Proofs.Ytpdaepceijdckaa.lawEach
