/-
  The walk of FileFrom.
-/
import Derived.Test.YthmpblccplphfaaGreatDoorFilFixed
import Derived.Test.YthmpblccplphfaaGreatDoorFroFrom
import Derived.Test.YthmpblccplphfaaGreatDoorFroLaid
namespace Go.Proofs.YthmpblccplphfaaGreatDoor
open Go.RowKit
set_option maxRecDepth 100000 in
set_option maxHeartbeats 8000000 in
theorem law_from (v : Value) (l : List Nt) (w : World) (he : Env w) (hg : ErrT w) (hv : RowF nodeC 4 w v l) (hl : l.length ≤ 1048576) (hc : ∀ c ∈ l, c.data.length ≤ 1048576 ∧ (-9223372036854775808 ≤ c.num ∧ c.num ≤ 9223372036854775807) ∧ (-9223372036854775808 ≤ c.links ∧ c.links ≤ 9223372036854775807)) :
    Calls Tryz.prog 3 #[v] w fun e w' => e = .returned (.bool true) ∧ Keep w w' := by
  have He := Lib.hid he
  have HV := Lib.hid hv
  have HC := Lib.hid hc
  have Hg := Lib.hid hg
  clear he hv hc hg
  go_enter Tryz.func3, Tryz.ntmps3
  go_wp2_with fail
  refine (from_gen l hl (fun x hx => (HC.out x hx).1) v w HV.out Hg.out).mono ?_
  rintro e w1 (⟨T, ht, hm, p, tb, A, M, role, rfl, h1, _, hk1⟩ | ⟨hno, rfl, hk1⟩)
  · have HT := Lib.hid h1
    have HK := Lib.hid hk1
    have Hm := Lib.hid hm
    have Ht := Lib.hid ht
    clear h1 hk1 hm ht
    go_wp2_with fail
    refine (rfrom_any l hl HC.out v w1 (rowF_keep HV.out HK.out)).mono ?_
    rintro e w2 (⟨_, a, rfl, hk2⟩ | ⟨hno, _⟩)
    · have HK2 := Lib.hid (HK.out.keep hk2)
      have HT2 := Lib.hid (HT.out.keep hk2)
      clear hk2 HT
      go_wp2_with fail
      refine (fixed_any w2 (He.out.keep HK2.out)).mono ?_
      rintro e w3 ⟨rfl, hk3⟩
      have HK3 := Lib.hid (HK2.out.keep hk3)
      have HT3 := Lib.hid (HT2.out.keep hk3)
      clear hk3 HT2
      go_wp2_with fail
      refine (nodes_any HT3.out (wf_makesT Hm.out)).mono ?_
      rintro e w4 ⟨v4, rfl, ho4, hk4⟩
      have HK4 := Lib.hid (HK3.out.keep hk4)
      have HV4 := Lib.hid (rowF_own nodeC_len ho4)
      rw [Ht.out] at HV4
      have h60 : l.length ≤ 60 := by rw [← Ht.out, told_len]; exact Hm.out.many
      clear hk4 ho4
      go_wp2_with fail
      refine (same_nodes v4 v l l w4 HV4.out (rowF_keep HV.out HK4.out) (by omega) (by omega)).mono ?_
      rw [show decide (l = l) = true by simp]
      rintro e w5 ⟨rfl, hk5⟩
      have HK5 := Lib.hid (HK4.out.keep hk5)
      clear hk5
      go_wp2_with fail
      go_ret
      exact ⟨rfl, HK5.out⟩
    · exact absurd ⟨T, Ht.out, Hm.out⟩ hno
  · have HK := Lib.hid hk1
    have Hno := Lib.hid hno
    clear hk1 hno
    go_wp2_with fail
    refine (rfrom_any l hl HC.out v w1 (rowF_keep HV.out HK.out)).mono ?_
    rintro e w2 (⟨hok, _⟩ | ⟨_, rfl, hk2⟩)
    · exact absurd hok Hno.out
    · have HK2 := Lib.hid (HK.out.keep hk2)
      clear hk2
      go_wp2_with fail
      refine (fixed_any w2 (He.out.keep HK2.out)).mono ?_
      rintro e w3 ⟨rfl, hk3⟩
      have HK3 := Lib.hid (HK2.out.keep hk3)
      clear hk3
      go_wp2_with fail
      go_ret
      exact ⟨rfl, HK3.out⟩
end Go.Proofs.YthmpblccplphfaaGreatDoor
