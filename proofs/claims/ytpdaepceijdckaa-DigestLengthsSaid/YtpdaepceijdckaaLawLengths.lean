/-
  DigestLengths: of each length about the ends of words the sum is what the reference gives; no condition.
-/
import Derived.Test.YtpdaepceijdckaaRows
import Derived.Test.YtpdaepceijdckaaDigRSum
import Derived.Test.YtpdaepceijdckaaDigFixed
import Derived.Test.YtpdaepceijdckaaClose
import Derived.Deep.DeepCutAuto
namespace Go.Proofs.Ytpdaepceijdckaa.lawLengths
open Go.ChangeShapes Go.WideShapes Go.ChangeAt Go.RowKit
open Go.ChangeMaps (open_string shut_string)
theorem own : ownKnob Try.prog.godebug = none := by kernel_rfl
theorem laidOut : laidOutB Try.prog = true := by kernel_rfl

def numIn (x : Value) (m : Nat) : Prop := x = .int .i64 m ∧ m < 300
set_option maxRecDepth 100000 in
set_option maxHeartbeats 1000000 in
theorem walk (key : List UInt8) (n c : Int) (_ : key.length ≤ 140737488351232) (wn : (Lit.int .i64 n).wf = true) (wc : (Lit.int .u8 c).wf = true) {w : World} :
    Calls Try.prog 5 #[.string ⟨key.toArray⟩, .int .i64 n, .int .u8 c] w fun e w' => e = .returned (.bool true) ∧ Keep w w' := by
  have hn : -9223372036854775808 ≤ n ∧ n ≤ 9223372036854775807 := by simpa [Lit.wf, IntKind.min, IntKind.max, IntKind.signed, IntKind.bits] using wn
  have hc : 0 ≤ c ∧ c ≤ 255 := by simpa [Lit.wf, IntKind.min, IntKind.max, IntKind.signed, IntKind.bits] using wc
  obtain ⟨hn1, hn2⟩ := hn
  obtain ⟨hc1, hc2⟩ := hc
  obtain ⟨r, hr⟩ : ∃ r, n.tmod 300 = r := ⟨_, rfl⟩
  have hr2 : -300 < r ∧ r < 300 := by rw [← hr]; exact ⟨by have := Int.lt_tmod_of_pos n (show (0 : Int) < 300 by decide); omega, Int.tmod_lt_of_pos n (by decide)⟩
  obtain ⟨hr3, hr4⟩ := hr2
  clear wn wc
  go_enter Try.func5, Try.ntmps5
  go_upto_if 17 with (fail)
  clear hr hn1 hn2
  go_cut [7] (fun s7 wr => (∃ m, numIn s7 m) ∧ w = wr)
  case first =>
    go_wp2_with fail
    · go_meet
      case rel => exact ⟨⟨(r + 300).toNat, by congr 1; omega, by omega⟩, rfl⟩
    · go_meet
      case rel => exact ⟨⟨r.toNat, by congr 1; omega, by omega⟩, rfl⟩
  case rest =>
  obtain ⟨⟨m, rfl, hm⟩, rfl⟩ := hcut
  clear hr3 hr4
  have hmk := fun W => run_make_u8 (P := Try.prog) Try.underlying34 info_u8 m (by omega) W
  go_wp2_with fail
  clear hmk
  go_loopw [9] (fun i wr => ∃ (k : Nat) (l : List UInt8), k ≤ m ∧ i = .int .i64 k ∧ l.length = m ∧ World.blk wr w.heap.size (bcells l) 5 ∧ Keep w wr) (fun i _ => m - (intOf i).toNat)
  case atStart => exact ⟨0, List.replicate m 0, Nat.zero_le _, rfl, by simp, blk_new _ _ _, (Mod.refl _ _).alloc _⟩
  case round =>
    obtain ⟨k, l, hk, rfl, hl, hB, hK⟩ := hrel
    have HK := Lib.hid hK
    have Hl := Lib.hid hl
    clear hK hl
    by_cases hlt : k < m
    · have hg : w.heap.size < wr.heap.size := blk_lt hB
      have hcell : (bcells l)[k]? = some (.int .u8 ((l[k]'(by rw [Hl.out]; exact hlt)).toNat : Int)) := by
        simp [bcells, u8s, Hl.out, hlt]
      rw [← putB_self hB]
      clear hB
      go_wp2_with fail
      obtain ⟨d, hd⟩ : ∃ d : UInt8, (c + (k : Int)) % 256 = (d.toNat : Int) := ⟨((c + (k : Int)) % 256).toNat.toUInt8, by simp; omega⟩
      rw [hd, bcells_set]
      refine ⟨⟨k + 1, l.set k d, by omega, by go_num, by simp [Hl.out], putB_blk hg, HK.out.putB (Or.inr (Nat.le_refl _)) _ _⟩, by simp [intOf]; omega⟩
    · obtain rfl : k = m := by omega
      have hcv := run_str_blk (P := Try.prog) Try.underlying34 Try.underlying5 Try.underlying9 k hB Hl.out
      have HB := Lib.hid hB
      have hlen : l.length < 300 := by rw [Hl.out]; exact hm
      clear hB
      by_cases hk16 : key.length = 16
      · have Hk := Lib.hid hk16
        clear hk16
        go_wp2_with fail
        refine (sumf_yes key l _ Hk.out (by omega)).mono ?_
        rintro e w1 ⟨rfl, hk1⟩
        have HB1 := Lib.hid (blk_mod hk1 HB.out id)
        have HK1 := Lib.hid (HK.out.keep hk1)
        have hcv1 := run_str_blk (P := Try.prog) Try.underlying34 Try.underlying5 Try.underlying9 k HB1.out Hl.out
        clear hk1 HB HK hcv
        go_wp2_with fail
        refine (rsum_yes key l _ Hk.out (by omega)).mono ?_
        rintro e w2 ⟨rfl, hk2⟩
        have HK2 := Lib.hid (HK1.out.keep hk2)
        clear hk2 HK1 HB1 hcv1
        go_wp2_with fail
        refine (fixed_any _).mono ?_
        rintro e w3 ⟨rfl, hk3⟩
        have HK3 := Lib.hid (HK2.out.keep hk3)
        clear hk3 HK2
        go_wp2_with fail
        go_ret
        exact ⟨rfl, HK3.out⟩
      · have Hk := Lib.hid hk16
        clear hk16
        go_wp2_with fail
        refine (sumf_no key l _ Hk.out).mono ?_
        rintro e w1 ⟨rfl, rfl⟩
        go_wp2_with fail
        refine (rsum_no key l _ Hk.out).mono ?_
        rintro e w2 ⟨rfl, rfl⟩
        go_wp2_with fail
        refine (fixed_any _).mono ?_
        rintro e w3 ⟨rfl, hk3⟩
        have HK3 := Lib.hid (HK.out.keep hk3)
        clear hk3 HK
        go_wp2_with fail
        go_ret
        exact ⟨rfl, HK3.out⟩
set_option maxRecDepth 100000 in
theorem digestLengths_lifted (os : Os) (started : os.Started) (H : Type) (enc : TypeId × Value → H) :
    ReturnsInHanded {} Try.checked os 5 .any (Rows.digestLengthsSpec.pre6 enc Try.prog Try.f5 Rows.digestLengthsRow.domain false) (Rows.digestLengthsSpec.post enc Try.prog Try.f5 false true false false) := by
  refine returnsInHanded_of_change_sized (C := Try.checked) own started (by kernel_rfl) Try.func5
    (ChangeSpec.witness6 (enc := enc) (C := Try.checked) false ⟨#[], #[.string .empty, .int .i64 0, .int .u8 0], []⟩ 8 (by kernel_rfl) (by kernel_rfl) (by kernel_rfl) (by kernel_rfl)) ?_
  intro W base args ds gs before hval0 hW _ hsz0 _
  have hsz : (DataW.weightsEach Try.prog (Try.f5.params.toList ++ Rows.digestLengthsSpec.plain.varTypes Try.prog) (ds ++ gs)).all (· ≤ reachBytes) = true := hsz0
  have hval : ∀ (j : Nat) t v, Try.f5.params[j]? = some t → args[j]? = some v → Value.okWide Try.prog W .any base t v := hval0
  clear hsz0 hval0
  have hW' := hW
  obtain ⟨p, q, hA0, hV, rfl, _, _⟩ := hW
  have hA : DataW.TrodAll enc Try.prog W 0 (fun _ => true) true Try.f5.params.toList args.toList ds p := hA0
  clear hA0
  rw [Try.params5] at hA hval hsz
  obtain ⟨v0, vs0, d0, ds0, p0, q0, hargs, rfl, rfl, h0, r0⟩ := trodAll_cons hA
  obtain ⟨v1, vs1, d1, ds1, p1, q1, rfl, rfl, rfl, h1, r1⟩ := trodAll_cons r0
  obtain ⟨v2, vs2, d2, ds2, p2, q2, rfl, rfl, rfl, h2, r2⟩ := trodAll_cons r1
  obtain ⟨rfl, rfl, rfl⟩ := trodAll_nil r2
  obtain rfl : args = #[v0, v1, v2] := by cases args; simp_all
  obtain ⟨rfl, rfl⟩ := trodVars_none hV
  obtain ⟨b0, rfl, rfl, rfl, _⟩ := open_string Try.underlying9 (hval 0 9 v0 rfl rfl) h0
  have z0 : b0.data.toList.length ≤ 140737488351232 := sized_string hsz (j := 0) (t := 9) rfl rfl
  obtain ⟨l0, rfl⟩ : ∃ l : List UInt8, b0 = ⟨l.toArray⟩ := ⟨b0.data.toList, rfl⟩
  obtain ⟨i1, rfl, rfl, rfl, wf1⟩ := open_int Try.underlying3 (hval 1 3 v1 rfl rfl) h1
  obtain ⟨i2, rfl, rfl, rfl, wf2⟩ := open_int Try.underlying5 (hval 2 5 v2 rfl rfl) h2
  refine (walk l0 i1 i2 z0 wf1 wf2).mono fun e W' ⟨he, hk⟩ => ?_
  subst he
  exact ⟨_, rfl, law_close laidOut (by kernel_rfl) rfl rfl Try.underlying4 rfl hW' hk⟩
theorem digestLengths_holds : Rows.DigestLengthsSaid :=
  OpenClaim.holds_of_wide 5 Try.f5 rfl rfl rfl rfl rfl rfl rfl ⟨rfl, rfl, rfl, rfl, rfl⟩ rfl rfl rfl rfl rfl (by kernel_rfl) Try.func5 (by kernel_rfl)
    (of_decide_eq_true (by kernel_rfl)) (by unfold Func.isWrapper; first | (rw [if_pos (by decide +kernel)]; kernel_rfl) | (rw [if_neg (by decide +kernel)]; exact ⟨rfl, rfl⟩))
    (fun os started H enc _ => digestLengths_lifted os started H enc)
end Go.Proofs.Ytpdaepceijdckaa.lawLengths
