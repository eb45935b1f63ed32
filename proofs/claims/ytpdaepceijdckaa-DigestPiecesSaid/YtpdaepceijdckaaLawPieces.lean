/-
  DigestPieces: however the bytes are cut into pieces, and wherever sums are asked between, the sum is that of all of them; no condition.
-/
import Derived.Test.YtpdaepceijdckaaRows
import Derived.Test.YtpdaepceijdckaaDigRel
import Derived.Test.YtpdaepceijdckaaDigFixed
import Derived.Test.YtpdaepceijdckaaClose
import Derived.Deep.DeepCutAuto
namespace Go.Proofs.Ytpdaepceijdckaa.lawPieces
open Go.ChangeShapes Go.WideShapes Go.ChangeAt Go.RowKit
open Go.ChangeMaps (open_string shut_string)
theorem own : ownKnob Try.prog.godebug = none := by kernel_rfl
theorem laidOut : laidOutB Try.prog = true := by kernel_rfl

set_option maxRecDepth 100000 in
set_option maxHeartbeats 1000000 in
theorem walk (key : List UInt8) (a : Option Addr) (n cap : Nat) (f : Nat → List UInt8) (_ : key.length ≤ 140737488351232) {w : World} (hS : StrsAt w a n f) :
    Calls Try.prog 4 #[.string ⟨key.toArray⟩, .slice a n cap] w fun e w' => e = .returned (.bool true) ∧ Keep w w' := by
  have hn := hS.1
  have HS := Lib.hid hS.2
  clear hS
  go_enter Try.func4, Try.ntmps4
  by_cases hk : key.length = 16
  · have Hk := Lib.hid hk
    clear hk
    go_wp2_with fail
    refine (new_hash key _ Hk.out).mono ?_
    rintro e w1 ⟨rfl, hB1, hk1⟩
    have HB1 := Lib.hid hB1
    have HK1 := Lib.hid hk1
    clear hB1 hk1
    go_wp2_with fail
    go_loopw [7, 8] (fun x i wr => ∃ (k : Nat) (l : List UInt8), k ≤ n ∧ l.length ≤ 140737489399808 ∧ i = .int .i64 k ∧ x = .string ⟨l.toArray⟩ ∧ World.blk wr w.heap.size (hashed key l) 45 ∧ Keep w wr) (fun _ i _ => n - (intOf i).toNat)
    case atStart => exact ⟨0, [], Nat.zero_le _, by simp, rfl, rfl, HB1.out, HK1.out⟩
    case round =>
      clear HB1 HK1
      obtain ⟨k, l, hk, hl, rfl, rfl, hB, hK⟩ := hrel
      have HB := Lib.hid hB
      have HK := Lib.hid hK
      clear hB hK
      have e8 : (sip key l).length = 8 := sip_len key l
      go_upto_if 44 with (fail)
      · generalize hd : decide ((l.length : Int) < 1048576) = d
        have Hd := Lib.hid hd
        clear hd
        cases d
        · go_wp2_with fail
          refine (sumf_yes key l _ Hk.out (by omega)).mono ?_
          rintro e w8 ⟨rfl, hk8⟩
          have HB8 := Lib.hid (blk_mod hk8 HB.out id)
          have HK8 := Lib.hid (HK.out.keep hk8)
          clear hk8 HB HK
          go_wp2_with fail
          refine (fixed_any _).mono ?_
          rintro e w10 ⟨rfl, hk10⟩
          have HB10 := Lib.hid (blk_mod hk10 HB8.out id)
          have HK10 := Lib.hid (HK8.out.keep hk10)
          clear hk10 HB8 HK8
          go_wp2_with fail
          refine (sum_hash w.heap.size key l _ HB10.out (by omega)).mono ?_
          rintro e w11 ⟨rfl, hk11⟩
          have HK11 := Lib.hid (HK10.out.keep hk11)
          clear hk11 HB10 HK10
          go_wp2_with fail
          go_ret
          exact ⟨rfl, HK11.out⟩
        · have g1 : k < n := by assumption
          have G3 : RowKit.Hid (l.length < 1048576) := by have := of_decide_eq_true Hd.out; unfold RowKit.Hid; omega
          obtain ⟨hfl, b, o, rfl, hcell⟩ := HS.out k g1
          have hbl := lt_of_cell hcell
          have hcr : wr.cell? ⟨b, o + k, none⟩ = some (.string ⟨(f k).toArray⟩) := (HK.out.cell hbl id).trans hcell
          have Hcell := Lib.hid hcell
          have Hbl := Lib.hid hbl
          clear hcell hbl
          go_wp2_with fail
          refine (write_hash w.heap.size key l (f k) _ HB.out (by omega)).mono ?_
          rintro e w2 ⟨rfl, hB2, hm2⟩
          have hc2 : w2.cell? ⟨b, o + k, none⟩ = some (.string ⟨(f k).toArray⟩) := (hm2.cell (lt_of_cell hcr) (fun e => by have := Hbl.out; simp at this e; omega)).trans hcr
          have HB2 := Lib.hid hB2
          have HK2 := Lib.hid (HK.out.new hm2 (Nat.le_refl _))
          clear hB2 hm2 hcr
          by_cases h3 : k % 3 = 1
          · have h3' : ((k : Int).tmod 3 == 1) = true := by rw [Int.tmod_eq_emod_of_nonneg (by omega), beq_iff_eq]; omega
            have h3'' : ((k : Int) % 3 == 1) = true := by rw [beq_iff_eq]; omega
            have H3 := Lib.hid h3
            clear h3
            go_wp2_with fail
            refine (sum_hash w.heap.size key (l ++ f k) _ HB2.out (by simp; omega)).mono ?_
            rintro e w3 ⟨rfl, hk3⟩
            have HB3 := Lib.hid (blk_mod hk3 HB2.out id)
            have HK3 := Lib.hid (HK2.out.keep hk3)
            clear hk3 HB2 HK2 hc2
            go_wp2_with fail
            refine (sum_hash w.heap.size key (l ++ f k) _ HB3.out (by simp; omega)).mono ?_
            rintro e w4 ⟨rfl, hk4⟩
            have HB4 := Lib.hid (blk_mod hk4 HB3.out id)
            have HK4 := Lib.hid (HK3.out.keep hk4)
            clear hk4 HB3 HK3
            go_wp2_with fail
            refine ⟨⟨k + 1, l ++ f k, by omega, by have := G3.out; simp; omega, by go_num, rfl, HB4.out, HK4.out⟩, by simp [intOf]; omega⟩
          · have h3' : ((k : Int).tmod 3 == 1) = false := by rw [Int.tmod_eq_emod_of_nonneg (by omega), beq_eq_false_iff_ne]; omega
            have h3'' : ((k : Int) % 3 == 1) = false := by rw [beq_eq_false_iff_ne]; omega
            have H3 := Lib.hid h3
            clear h3
            go_wp2_with fail
            refine ⟨⟨k + 1, l ++ f k, by omega, by have := G3.out; simp; omega, by go_num, rfl, HB2.out, HK2.out⟩, by simp [intOf]; omega⟩
      · go_wp2_with fail
        refine (sumf_yes key l _ Hk.out (by omega)).mono ?_
        rintro e w8 ⟨rfl, hk8⟩
        have HB8 := Lib.hid (blk_mod hk8 HB.out id)
        have HK8 := Lib.hid (HK.out.keep hk8)
        clear hk8 HB HK
        go_wp2_with fail
        refine (fixed_any _).mono ?_
        rintro e w10 ⟨rfl, hk10⟩
        have HB10 := Lib.hid (blk_mod hk10 HB8.out id)
        have HK10 := Lib.hid (HK8.out.keep hk10)
        clear hk10 HB8 HK8
        go_wp2_with fail
        refine (sum_hash w.heap.size key l _ HB10.out (by omega)).mono ?_
        rintro e w11 ⟨rfl, hk11⟩
        have HK11 := Lib.hid (HK10.out.keep hk11)
        clear hk11 HB10 HK10
        go_wp2_with fail
        go_ret
        exact ⟨rfl, HK11.out⟩
      · go_wp2_with fail
        refine (sumf_yes key l _ Hk.out (by omega)).mono ?_
        rintro e w8 ⟨rfl, hk8⟩
        have HB8 := Lib.hid (blk_mod hk8 HB.out id)
        have HK8 := Lib.hid (HK.out.keep hk8)
        clear hk8 HB HK
        go_wp2_with fail
        refine (fixed_any _).mono ?_
        rintro e w10 ⟨rfl, hk10⟩
        have HB10 := Lib.hid (blk_mod hk10 HB8.out id)
        have HK10 := Lib.hid (HK8.out.keep hk10)
        clear hk10 HB8 HK8
        go_wp2_with fail
        refine (sum_hash w.heap.size key l _ HB10.out (by omega)).mono ?_
        rintro e w11 ⟨rfl, hk11⟩
        have HK11 := Lib.hid (HK10.out.keep hk11)
        clear hk11 HB10 HK10
        go_wp2_with fail
        go_ret
        exact ⟨rfl, HK11.out⟩
  · have hk' : ((key.length : Int) != 16) = true := by rw [bne_iff_ne]; omega
    have Hk := Lib.hid hk
    clear hk
    go_wp2_with fail
    refine (new_no key _ Hk.out).mono ?_
    rintro e w1 ⟨rfl, rfl⟩
    go_wp2_with fail
    refine (fixed_any _).mono ?_
    rintro e w1 ⟨rfl, hk1⟩
    have H1 := Lib.hid hk1
    clear hk1
    go_wp2_with fail
    go_ret
    exact ⟨rfl, H1.out⟩
set_option maxRecDepth 100000 in
theorem digestPieces_lifted (os : Os) (started : os.Started) (H : Type) (enc : TypeId × Value → H) :
    ReturnsInHanded {} Try.checked os 4 .any (Rows.digestPiecesSpec.pre6 enc Try.prog Try.f4 Rows.digestPiecesRow.domain false) (Rows.digestPiecesSpec.post enc Try.prog Try.f4 false true false false) := by
  refine returnsInHanded_of_change_sized (C := Try.checked) own started (by kernel_rfl) Try.func4
    (ChangeSpec.witness6 (enc := enc) (C := Try.checked) false ⟨#[], #[.string .empty, .slice none 0 0], []⟩ 8 (by kernel_rfl) (by kernel_rfl) (by kernel_rfl) (by kernel_rfl)) ?_
  intro W base args ds gs before hval0 hW _ hsz0 _
  have hsz : (DataW.weightsEach Try.prog (Try.f4.params.toList ++ Rows.digestPiecesSpec.plain.varTypes Try.prog) (ds ++ gs)).all (· ≤ reachBytes) = true := hsz0
  have hval : ∀ (j : Nat) t v, Try.f4.params[j]? = some t → args[j]? = some v → Value.okWide Try.prog W .any base t v := hval0
  clear hsz0 hval0
  have hW' := hW
  obtain ⟨p, q, hA0, hV, rfl, _, _⟩ := hW
  have hA : DataW.TrodAll enc Try.prog W 0 (fun _ => true) true Try.f4.params.toList args.toList ds p := hA0
  clear hA0
  rw [Try.params4] at hA hval hsz
  obtain ⟨v0, vs0, d0, ds0, p0, q0, hargs, rfl, rfl, h0, r0⟩ := trodAll_cons hA
  obtain ⟨v1, vs1, d1, ds1, p1, q1, rfl, rfl, rfl, h1, r1⟩ := trodAll_cons r0
  obtain ⟨rfl, rfl, rfl⟩ := trodAll_nil r1
  obtain rfl : args = #[v0, v1] := by cases args; simp_all
  obtain ⟨rfl, rfl⟩ := trodVars_none hV
  obtain ⟨b0, rfl, rfl, rfl, _⟩ := open_string Try.underlying9 (hval 0 9 v0 rfl rfl) h0
  have z0 : b0.data.toList.length ≤ 140737488351232 := sized_string hsz (j := 0) (t := 9) rfl rfl
  obtain ⟨l0, rfl⟩ : ∃ l : List UInt8, b0 = ⟨l.toArray⟩ := ⟨b0.data.toList, rfl⟩
  obtain ⟨a1, n1, cap1, f1, rfl, hS1⟩ := open_strs Try.underlying27 Try.underlying9 (by kernel_rfl) (by kernel_rfl) (hval 1 27 v1 rfl rfl) h1 hsz (j := 1) rfl rfl
  refine (walk l0 a1 n1 cap1 f1 z0 hS1).mono fun e W' ⟨he, hk⟩ => ?_
  subst he
  exact ⟨_, rfl, law_close laidOut (by kernel_rfl) rfl rfl Try.underlying4 rfl hW' hk⟩
theorem digestPieces_holds : Rows.DigestPiecesSaid :=
  OpenClaim.holds_of_wide 4 Try.f4 rfl rfl rfl rfl rfl rfl rfl ⟨rfl, rfl, rfl, rfl, rfl⟩ rfl rfl rfl rfl rfl (by kernel_rfl) Try.func4 (by kernel_rfl)
    (of_decide_eq_true (by kernel_rfl)) (by unfold Func.isWrapper; first | (rw [if_pos (by decide +kernel)]; kernel_rfl) | (rw [if_neg (by decide +kernel)]; exact ⟨rfl, rfl⟩))
    (fun os started H enc _ => digestPieces_lifted os started H enc)
end Go.Proofs.Ytpdaepceijdckaa.lawPieces
