/-
  The walk of FileMoves.
-/
import Derived.Test.YthmpblccplphfaaGreatDoorFilFixed
import Derived.Test.YthmpblccplphfaaGreatDoorFilLaid
import Derived.Test.YthmpblccplphfaaGreatDoorFilClone
import Derived.Deep.RegionWith
namespace Go.Proofs.YthmpblccplphfaaGreatDoor
open Go.RowKit
theorem clone_in {w0 w : World} {p : Nat} {T : Tr} {role : Nat → Role} (h : TreeIn w0 w p T role) : Calls Tryz.prog 22 #[.pointer (some ⟨p, 0, none⟩)] w fun e w' => ∃ q role2, e = .returned (.pointer (some ⟨q, 0, none⟩)) ∧ TreeIn w0 w' q T role2 ∧ (∀ b, role2 b ≠ .none → w.heap.size ≤ b) ∧ Keep w w' := by
  obtain ⟨tb, A, M, ht⟩ := h.tree
  obtain ⟨d, hw⟩ := h.wf
  refine (clone_any ht hw).mono ?_
  rintro e w' ⟨q, tb, A, M, role2, rfl, h1, h2, h3⟩
  exact ⟨q, role2, rfl, ⟨⟨tb, A, M, h1⟩, fun b hb => Nat.le_trans h.keep.size (h2 b hb), h.keep.keep h3, ⟨d, hw⟩⟩, h2, h3⟩
theorem rowF_lt {v : Value} {l : List Nt} {w : World} (h : RowF nodeC 4 w v l) (hne : ∃ x, x ∈ l) : ∀ b o n c, v = .slice (some ⟨b, o, none⟩) n c → b < w.heap.size := by
  intro b o n c e
  obtain ⟨a, cap, hv, hx⟩ := h
  obtain ⟨x, hm⟩ := hne
  obtain ⟨j, hj⟩ := List.mem_iff_getElem?.1 hm
  obtain ⟨b1, o1, rfl, q⟩ := hx j x hj
  have h1 := lt_of_cell (q 0 _ rfl)
  rw [hv] at e
  injection e with e2
  injection e2 with e3
  injection e3 with e4
  rw [← e4]; exact h1
set_option maxRecDepth 100000 in
set_option maxHeartbeats 8000000 in
theorem law_moves (v : Value) (l : List Cmd) (w : World) (he : Env w) (hv : RowF cmdL 5 w v l) (hl : l.length ≤ 1048576) (hc : ∀ c ∈ l, c.Small) :
    Calls Tryz.prog 10 #[v] w fun e w' => e = .returned (.bool true) ∧ Keep w w' := by
  obtain ⟨av, cap, rfl, hrow⟩ := hv
  have He := Lib.hid he
  have HR := Lib.hid hrow
  have HC := Lib.hid hc
  have hn : (l.length : Int) ≤ 1048576 := by omega
  clear he hrow hc
  go_enter Tryz.func10, Tryz.ntmps10
  go_wp2_with fail
  refine (new_in w w (Mod.refl _ _)).mono ?_
  rintro e w1 ⟨p, ro, rfl, h1, _, _⟩
  have H1 := Lib.hid h1
  clear h1
  go_wp2_with fail
  go_loopw [4] (fun i wr => ∃ (k : Nat) (T : Tr) (role : Nat → Role), k ≤ l.length ∧ k ≤ 100 ∧ i = .int .i64 (k : Int) ∧ TreeIn w wr p T role) (fun i _ => 100 - (intOf i).toNat)
  case atStart => exact ⟨0, _, ro, by omega, by omega, rfl, H1.out⟩
  case round =>
    clear H1
    obtain ⟨k, T, role, hkn, hk100, rfl, hT⟩ := hrel
    have HT := Lib.hid hT
    clear hT
    by_cases hlt : k < l.length ∧ k < 100
    · obtain ⟨hlt1, hlt2⟩ := hlt
      obtain ⟨c, hcx⟩ : ∃ c, l[k]? = some c := ⟨_, List.getElem?_eq_getElem hlt1⟩
      have hsm := HC.out c (List.mem_of_getElem? hcx)
      have Hsm := Lib.hid hsm
      obtain ⟨b, o, rfl, hcell⟩ := HR.out k c hcx
      have HCell := Lib.hid hcell
      have d1 : (k : Int) < 100 := by omega
      have d2 : (k : Int) < l.length := by omega
      clear hcell hcx hsm
      go_wp2_with fail
      refine (nodes_in HT.out).mono ?_
      rintro e w2 ⟨v1, rfl, ho2, hk2⟩
      have H2 := Lib.hid (HT.out.kept hk2)
      have HF2 : RowKit.Hid (Free role v1) := Lib.hid (own_free ho2 fun b hb => HT.out.lt hb)
      have HV2 := Lib.hid (rowF_own nodeC_len ho2)
      clear ho2 hk2 HT
      have c0 : w2.cell? ⟨b, o + k * 5, none⟩ = some (.int .i64 c.kind) := by have h := HCell.out 0 _ rfl; rw [H2.out.keep.cell (p := ⟨b, o + k * 5, none⟩) (lt_of_cell h) id]; exact h
      have c1 : w2.cell? ⟨b, o + k * 5 + 1, none⟩ = some (.string ⟨c.path.toArray⟩) := by have h := HCell.out 1 _ rfl; rw [H2.out.keep.cell (p := ⟨b, o + k * 5 + 1, none⟩) (lt_of_cell h) id]; exact h
      have c2 : w2.cell? ⟨b, o + k * 5 + 2, none⟩ = some (.string ⟨c.dest.toArray⟩) := by have h := HCell.out 2 _ rfl; rw [H2.out.keep.cell (p := ⟨b, o + k * 5 + 2, none⟩) (lt_of_cell h) id]; exact h
      have c3 : w2.cell? ⟨b, o + k * 5 + 3, none⟩ = some (.int .i64 c.pos) := by have h := HCell.out 3 _ rfl; rw [H2.out.keep.cell (p := ⟨b, o + k * 5 + 3, none⟩) (lt_of_cell h) id]; exact h
      have c4 : w2.cell? ⟨b, o + k * 5 + 4, none⟩ = some (.string ⟨c.data.toArray⟩) := by have h := HCell.out 4 _ rfl; rw [H2.out.keep.cell (p := ⟨b, o + k * 5 + 4, none⟩) (lt_of_cell h) id]; exact h
      go_wp2_with fail
      refine (do_in H2.out He.out c Hsm.out).mono ?_
      obtain ⟨T', e0, hd⟩ : ∃ T' e0, doT T c = (T', e0) := ⟨_, _, rfl⟩
      have Hd := Lib.hid hd
      rw [hd]
      rintro e w3 ⟨rfl, r3, h3, _, m3⟩
      have H3 : RowKit.Hid (TreeIn w w3 p T' r3) := Lib.hid h3
      have HV3 := Lib.hid (rowF_free HV2.out HF2.out m3)
      have HB3 : RowKit.Hid (∀ b o n c, v1 = .slice (some ⟨b, o, none⟩) n c → b < w3.heap.size) := Lib.hid (rowF_lt HV3.out (by
        obtain ⟨d, hw⟩ := H2.out.wf
        obtain ⟨r, hr, _⟩ := hw.root
        exact ⟨_, List.mem_map.2 ⟨r, hr, rfl⟩⟩))
      have HWF := Lib.hid H2.out.wf
      have hT60 := H2.out.many
      clear h3 m3 hd H2 HV2 HF2 c0 c1 c2 c3 c4
      have c0 : w3.cell? ⟨b, o + k * 5, none⟩ = some (.int .i64 c.kind) := by have h := HCell.out 0 _ rfl; rw [H3.out.keep.cell (p := ⟨b, o + k * 5, none⟩) (lt_of_cell h) id]; exact h
      by_cases hgo : c.kind = 5 ∧ e0 = 0
      · obtain ⟨hk5, he0⟩ := hgo
        subst he0
        rw [hk5] at c0
        have Hk5 := Lib.hid hk5
        clear hk5
        go_wp2_with fail
        refine (clone_in H3.out).mono ?_
        rintro e w4 ⟨q, rq, rfl, h4, hq4, hk4⟩
        have H4 := Lib.hid (H3.out.kept hk4)
        have G4 := Lib.hid h4
        have HV4 := Lib.hid (rowF_keep HV3.out hk4)
        have HFq : RowKit.Hid (Free rq v1) := Lib.hid fun b' o' n' c' e' => Classical.byContradiction fun hn => by
          have h5 := hq4 b' hn
          have h6 := HB3.out b' o' n' c' e'
          omega
        have A4 : RowKit.Hid (Apart rq r3) := Lib.hid fun x hx => Classical.byContradiction fun hn => by
          have h5 := hq4 x hx
          have h6 := H3.out.lt hn
          omega
        clear h4 hq4 hk4 H3 HV3 c0
        have c1 : w4.cell? ⟨b, o + k * 5 + 1, none⟩ = some (.string ⟨c.path.toArray⟩) := by have h := HCell.out 1 _ rfl; rw [H4.out.keep.cell (p := ⟨b, o + k * 5 + 1, none⟩) (lt_of_cell h) id]; exact h
        have c2 : w4.cell? ⟨b, o + k * 5 + 2, none⟩ = some (.string ⟨c.dest.toArray⟩) := by have h := HCell.out 2 _ rfl; rw [H4.out.keep.cell (p := ⟨b, o + k * 5 + 2, none⟩) (lt_of_cell h) id]; exact h
        go_wp2_with fail
        have hkx : Keep w4 w4.drew := (Mod.refl _ w4).drew
        have H4' := Lib.hid (H4.out.kept hkx)
        have G4' := Lib.hid (G4.out.kept hkx)
        have HV4' := Lib.hid (rowF_keep HV4.out hkx)
        have hback : doT T' ⟨5, c.dest, c.path, 0, []⟩ = (T, 0) := by
          obtain ⟨d, hw⟩ := HWF.out
          have := do_back hw Hk5.out (by rw [Hd.out]) okc_rename
          rw [Hd.out] at this; exact this
        have Hback := Lib.hid hback
        have hcall := do_in G4'.out He.out ⟨5, c.dest, c.path, 0, []⟩ ⟨Hsm.out.dest, Hsm.out.path, Nat.zero_le _, ⟨by show (-9223372036854775808 : Int) ≤ 0; decide, by show (0 : Int) ≤ 9223372036854775807; decide⟩⟩
        have HCL := Lib.hid hcall
        clear hkx H4 G4 HV4 hback hcall
        go_region_with (first
          | (go_at_call 17
             refine HCL.out.mono ?_
             rw [Hback.out]
             rintro e w5 ⟨rfl, r5, h5, _, m5⟩
             have G5 : RowKit.Hid (TreeIn w w5 q T r5) := Lib.hid h5
             have H5 := Lib.hid (H4'.out.beside G4'.out A4.out m5)
             have HV5 := Lib.hid (rowF_free HV4'.out HFq.out m5)
             clear h5 m5 c1 c2)
          | (go_at_call 15
             refine (nodes_in G5.out).mono ?_
             rintro e w6 ⟨v2, rfl, ho6, hk6⟩
             have H6 := Lib.hid (H5.out.kept hk6)
             have HV6 := Lib.hid (rowF_keep HV5.out hk6)
             have HW6 := Lib.hid (rowF_own nodeC_len ho6)
             clear ho6 hk6)
          | (go_at_call 14
             refine (same_nodes v2 v1 (toldT T) (toldT T) w6 HW6.out HV6.out (by rw [told_len]; omega) (by rw [told_len]; omega)).mono ?_
             rw [show decide (toldT T = toldT T) = true from decide_eq_true rfl]
             rintro e w7 ⟨rfl, hk7⟩
             have H7 := Lib.hid (H6.out.kept hk7)
             clear hk7))
        all_goals
          go_wp2_with fail
          exact ⟨⟨k + 1, T', r3, by omega, by omega, by go_num, H7.out⟩, by simp [intOf]; omega⟩
      · by_cases hk5 : c.kind = 5
        · have hee : (e0 != 0) = true := bne_iff_ne.2 fun h => hgo ⟨hk5, h⟩
          rw [hk5] at c0
          clear hgo hk5
          go_wp2_with fail
          exact ⟨⟨k + 1, T', r3, by omega, by omega, by go_num, H3.out⟩, by simp [intOf]; omega⟩
        · have hkk : (c.kind != 5) = true := bne_iff_ne.2 hk5
          clear hgo hk5
          go_wp2_with fail
          exact ⟨⟨k + 1, T', r3, by omega, by omega, by go_num, H3.out⟩, by simp [intOf]; omega⟩
    · by_cases hk2 : k < l.length
      · obtain rfl : k = 100 := by omega
        have hkn3 : (100 : Int) < l.length := by omega
        clear hlt
        go_wp2_with fail
        refine (fixed_any wr (He.out.keep HT.out.keep)).mono ?_
        rintro e w6 ⟨rfl, hk6⟩
        have HK6 := Lib.hid (HT.out.keep.keep hk6)
        clear hk6
        go_wp2_with fail
        go_ret
        exact ⟨rfl, HK6.out⟩
      · obtain rfl : k = l.length := by omega
        clear hlt
        go_wp2_with fail
        refine (fixed_any wr (He.out.keep HT.out.keep)).mono ?_
        rintro e w6 ⟨rfl, hk6⟩
        have HK6 := Lib.hid (HT.out.keep.keep hk6)
        clear hk6
        go_wp2_with fail
        go_ret
        exact ⟨rfl, HK6.out⟩
end Go.Proofs.YthmpblccplphfaaGreatDoor
