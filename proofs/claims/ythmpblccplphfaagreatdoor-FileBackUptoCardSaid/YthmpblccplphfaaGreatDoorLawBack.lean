/-
  The walk of FileBack.
-/
import Derived.Test.YthmpblccplphfaaGreatDoorFilFixed
import Derived.Test.YthmpblccplphfaaGreatDoorFilLaid
namespace Go.Proofs.YthmpblccplphfaaGreatDoor
open Go.RowKit
theorem and_63 (x : Int) : ∃ n : Nat, n ≤ 63 ∧ bits .and .i64 x 63 = (n : Int) := by
  refine ⟨(BitVec.ofInt 64 x).toNat &&& 63, Nat.and_le_right, ?_⟩
  have hle : (BitVec.ofInt 64 x).toNat &&& 63 ≤ 63 := Nat.and_le_right
  have h2 : (BitVec.ofInt 64 (63 : Int)).toNat = 63 := by decide
  show IntKind.i64.wrap ((BitVec.ofInt 64 x &&& BitVec.ofInt 64 (63 : Int)).toNat : Int) = _
  rw [BitVec.toNat_and, h2, IntKind.wrap_i64]
  omega
set_option maxRecDepth 100000 in
set_option maxHeartbeats 8000000 in
theorem law_back (v : Value) (l : List Cmd) (cut : Int) (w : World) (he : Env w) (hv : RowF cmdL 5 w v l) (hl : l.length ≤ 1048576) (hc : ∀ c ∈ l, c.Small) :
    Calls Tryz.prog 4 #[v, .int .i64 cut] w fun e w' => e = .returned (.bool true) ∧ Keep w w' := by
  obtain ⟨av, cap, rfl, hrow⟩ := hv
  have He := Lib.hid he
  have HR := Lib.hid hrow
  have HC := Lib.hid hc
  have hn : (l.length : Int) ≤ 1048576 := by omega
  obtain ⟨K, hK, hb⟩ := and_63 cut
  obtain ⟨n, hmn⟩ : ∃ n, min l.length 100 = n := ⟨_, rfl⟩
  have hmin : min (l.length : Int) 100 = (n : Int) := by omega
  have hnl : n ≤ l.length := by omega
  clear he hrow hc hmn
  go_enter Tryz.func4, Tryz.ntmps4
  go_wp2_with fail
  refine (new_in w w (Mod.refl _ _)).mono ?_
  rintro e w1 ⟨p, ro, rfl, h1, _, _⟩
  have H1 := Lib.hid h1
  clear h1
  go_wp2_with fail
  go_loopw [6, 8] (fun u i wr => ∃ (k : Nat) (T : Tr) (role : Nat → Role), k ≤ n ∧ i = .int .i64 (k : Int) ∧ TreeIn w wr p T role ∧ (u = .pointer none ∨ ∃ q role2, u = .pointer (some ⟨q, 0, none⟩) ∧ TreeIn w wr q T role2 ∧ Apart role role2)) (fun _ i _ => n - (intOf i).toNat)
  case atStart => exact ⟨0, _, ro, by omega, rfl, H1.out, .inl rfl⟩
  case round =>
    clear H1 hmin
    obtain ⟨k, T, role, hkn, rfl, hT, hu⟩ := hrel
    have HT := Lib.hid hT
    clear hT
    by_cases hlt : k < n
    · obtain ⟨c, hcx⟩ : ∃ c, l[k]? = some c := ⟨_, List.getElem?_eq_getElem (by omega)⟩
      have Hsm := Lib.hid (HC.out c (List.mem_of_getElem? hcx))
      obtain ⟨b, o, rfl, hcell⟩ := HR.out k c hcx
      have HCell := Lib.hid hcell
      have d1 : (k : Int) < n := by omega
      have d2 : (k : Int) < l.length := by omega
      clear hcell hcx
      by_cases hkK : (k : Int) = K
      · have hkb : ((k : Int) == (K : Int)) = true := beq_iff_eq.2 hkK
        have hkK2 := Lib.hid hkK
        clear hkK
        go_wp2_with fail
        refine (nodes_in HT.out).mono ?_
        rintro e w2 ⟨v0, rfl, ho2, hk2⟩
        have H2 := Lib.hid (HT.out.kept hk2)
        have HV2 := Lib.hid (rowF_own nodeC_len ho2)
        clear ho2 hk2 HT hu
        go_wp2_with fail
        refine (from_in H2.out v0 HV2.out).mono ?_
        rintro e w3 ⟨q, rq, rfl, h3, hq3, hk3⟩
        have H3 := Lib.hid (H2.out.kept hk3)
        have G3 := Lib.hid h3
        have A3 : RowKit.Hid (Apart role rq) := Lib.hid fun x hx => Classical.byContradiction fun hn => by
          have h5 := hq3 x hn
          have h6 := H2.out.lt hx
          omega
        clear h3 hq3 hk3 H2 HV2
        have c0 : w3.cell? ⟨b, o + k * 5, none⟩ = some (.int .i64 c.kind) := by have h := HCell.out 0 _ rfl; rw [H3.out.keep.cell (p := ⟨b, o + k * 5, none⟩) (lt_of_cell h) id]; exact h
        have c1 : w3.cell? ⟨b, o + k * 5 + 1, none⟩ = some (.string ⟨c.path.toArray⟩) := by have h := HCell.out 1 _ rfl; rw [H3.out.keep.cell (p := ⟨b, o + k * 5 + 1, none⟩) (lt_of_cell h) id]; exact h
        have c2 : w3.cell? ⟨b, o + k * 5 + 2, none⟩ = some (.string ⟨c.dest.toArray⟩) := by have h := HCell.out 2 _ rfl; rw [H3.out.keep.cell (p := ⟨b, o + k * 5 + 2, none⟩) (lt_of_cell h) id]; exact h
        have c3 : w3.cell? ⟨b, o + k * 5 + 3, none⟩ = some (.int .i64 c.pos) := by have h := HCell.out 3 _ rfl; rw [H3.out.keep.cell (p := ⟨b, o + k * 5 + 3, none⟩) (lt_of_cell h) id]; exact h
        have c4 : w3.cell? ⟨b, o + k * 5 + 4, none⟩ = some (.string ⟨c.data.toArray⟩) := by have h := HCell.out 4 _ rfl; rw [H3.out.keep.cell (p := ⟨b, o + k * 5 + 4, none⟩) (lt_of_cell h) id]; exact h
        go_wp2_with fail
        refine (do_in H3.out He.out c Hsm.out).mono ?_
        obtain ⟨T', e0, hd⟩ : ∃ T' e0, doT T c = (T', e0) := ⟨_, _, rfl⟩
        rw [hd]
        rintro e w13 ⟨rfl, r13, h13, g13, m13⟩
        have H13 : RowKit.Hid (TreeIn w w13 p T' r13) := Lib.hid h13
        have G13 := Lib.hid (G3.out.beside H3.out A3.out m13)
        have A13 := Lib.hid (Apart.grew G3.out A3.out g13)
        clear h13 g13 m13 c0 c1 c2 c3 c4 H3 G3 A3
        have c0 : w13.cell? ⟨b, o + k * 5, none⟩ = some (.int .i64 c.kind) := by have h := HCell.out 0 _ rfl; rw [H13.out.keep.cell (p := ⟨b, o + k * 5, none⟩) (lt_of_cell h) id]; exact h
        have c1 : w13.cell? ⟨b, o + k * 5 + 1, none⟩ = some (.string ⟨c.path.toArray⟩) := by have h := HCell.out 1 _ rfl; rw [H13.out.keep.cell (p := ⟨b, o + k * 5 + 1, none⟩) (lt_of_cell h) id]; exact h
        have c2 : w13.cell? ⟨b, o + k * 5 + 2, none⟩ = some (.string ⟨c.dest.toArray⟩) := by have h := HCell.out 2 _ rfl; rw [H13.out.keep.cell (p := ⟨b, o + k * 5 + 2, none⟩) (lt_of_cell h) id]; exact h
        have c3 : w13.cell? ⟨b, o + k * 5 + 3, none⟩ = some (.int .i64 c.pos) := by have h := HCell.out 3 _ rfl; rw [H13.out.keep.cell (p := ⟨b, o + k * 5 + 3, none⟩) (lt_of_cell h) id]; exact h
        have c4 : w13.cell? ⟨b, o + k * 5 + 4, none⟩ = some (.string ⟨c.data.toArray⟩) := by have h := HCell.out 4 _ rfl; rw [H13.out.keep.cell (p := ⟨b, o + k * 5 + 4, none⟩) (lt_of_cell h) id]; exact h
        have hq : (e0 != e0) = false := by simp
        go_wp2_with fail
        refine (do_in G13.out He.out c Hsm.out).mono ?_
        rw [hd]
        rintro e w14 ⟨rfl, r14, h14, g14, m14⟩
        have G14 : RowKit.Hid (TreeIn w w14 q T' r14) := Lib.hid h14
        have H14 := Lib.hid (H13.out.beside G13.out A13.out.symm m14)
        have A14 := Lib.hid (Apart.grew H13.out A13.out.symm g14).symm
        clear h14 g14 m14 c0 c1 c2 c3 c4 H13 G13 A13 hd
        go_wp2_with fail
        refine (nodes_in H14.out).mono ?_
        rintro e w15 ⟨v1, rfl, ho15, hk15⟩
        have H15 := Lib.hid (H14.out.kept hk15)
        have G15 := Lib.hid (G14.out.kept hk15)
        have HV15 := Lib.hid (rowF_own nodeC_len ho15)
        clear ho15 hk15 H14 G14
        go_wp2_with fail
        refine (nodes_in G15.out).mono ?_
        rintro e w16 ⟨v2, rfl, ho16, hk16⟩
        have H16 := Lib.hid (H15.out.kept hk16)
        have G16 := Lib.hid (G15.out.kept hk16)
        have HV16 := Lib.hid (rowF_keep HV15.out hk16)
        have HW16 := Lib.hid (rowF_own nodeC_len ho16)
        have hT60 := H16.out.many
        clear ho16 hk16 H15 G15 HV15
        go_wp2_with fail
        refine (same_nodes v1 v2 (toldT T') (toldT T') w16 HV16.out HW16.out (by rw [told_len]; omega) (by rw [told_len]; omega)).mono ?_
        rw [show decide (toldT T' = toldT T') = true from decide_eq_true rfl]
        rintro e w17 ⟨rfl, hk17⟩
        have H17 := Lib.hid (H16.out.kept hk17)
        have G17 := Lib.hid (G16.out.kept hk17)
        clear hk17 H16 G16 HV16 HW16
        go_wp2_with fail
        exact ⟨⟨k + 1, T', r13, by omega, by go_num, H17.out, .inr ⟨_, r14, rfl, G17.out, A14.out⟩⟩, by simp [intOf]; omega⟩
      · have hkb : ((k : Int) == (K : Int)) = false := beq_false_of_ne hkK
        clear hkK
        rcases hu with rfl | ⟨q, rq, rfl, hG, hA⟩
        · have c0 : wr.cell? ⟨b, o + k * 5, none⟩ = some (.int .i64 c.kind) := by have h := HCell.out 0 _ rfl; rw [HT.out.keep.cell (p := ⟨b, o + k * 5, none⟩) (lt_of_cell h) id]; exact h
          have c1 : wr.cell? ⟨b, o + k * 5 + 1, none⟩ = some (.string ⟨c.path.toArray⟩) := by have h := HCell.out 1 _ rfl; rw [HT.out.keep.cell (p := ⟨b, o + k * 5 + 1, none⟩) (lt_of_cell h) id]; exact h
          have c2 : wr.cell? ⟨b, o + k * 5 + 2, none⟩ = some (.string ⟨c.dest.toArray⟩) := by have h := HCell.out 2 _ rfl; rw [HT.out.keep.cell (p := ⟨b, o + k * 5 + 2, none⟩) (lt_of_cell h) id]; exact h
          have c3 : wr.cell? ⟨b, o + k * 5 + 3, none⟩ = some (.int .i64 c.pos) := by have h := HCell.out 3 _ rfl; rw [HT.out.keep.cell (p := ⟨b, o + k * 5 + 3, none⟩) (lt_of_cell h) id]; exact h
          have c4 : wr.cell? ⟨b, o + k * 5 + 4, none⟩ = some (.string ⟨c.data.toArray⟩) := by have h := HCell.out 4 _ rfl; rw [HT.out.keep.cell (p := ⟨b, o + k * 5 + 4, none⟩) (lt_of_cell h) id]; exact h
          go_wp2_with fail
          refine (do_in HT.out He.out c Hsm.out).mono ?_
          rintro e w13 ⟨rfl, r13, h13, _, _⟩
          have H13 := Lib.hid h13
          clear h13 c0 c1 c2 c3 c4 HT
          go_wp2_with fail
          exact ⟨⟨k + 1, _, r13, by omega, by go_num, H13.out, .inl rfl⟩, by simp [intOf]; omega⟩
        · have G3 := Lib.hid hG
          have A3 := Lib.hid hA
          clear hG hA
          have c0 : wr.cell? ⟨b, o + k * 5, none⟩ = some (.int .i64 c.kind) := by have h := HCell.out 0 _ rfl; rw [HT.out.keep.cell (p := ⟨b, o + k * 5, none⟩) (lt_of_cell h) id]; exact h
          have c1 : wr.cell? ⟨b, o + k * 5 + 1, none⟩ = some (.string ⟨c.path.toArray⟩) := by have h := HCell.out 1 _ rfl; rw [HT.out.keep.cell (p := ⟨b, o + k * 5 + 1, none⟩) (lt_of_cell h) id]; exact h
          have c2 : wr.cell? ⟨b, o + k * 5 + 2, none⟩ = some (.string ⟨c.dest.toArray⟩) := by have h := HCell.out 2 _ rfl; rw [HT.out.keep.cell (p := ⟨b, o + k * 5 + 2, none⟩) (lt_of_cell h) id]; exact h
          have c3 : wr.cell? ⟨b, o + k * 5 + 3, none⟩ = some (.int .i64 c.pos) := by have h := HCell.out 3 _ rfl; rw [HT.out.keep.cell (p := ⟨b, o + k * 5 + 3, none⟩) (lt_of_cell h) id]; exact h
          have c4 : wr.cell? ⟨b, o + k * 5 + 4, none⟩ = some (.string ⟨c.data.toArray⟩) := by have h := HCell.out 4 _ rfl; rw [HT.out.keep.cell (p := ⟨b, o + k * 5 + 4, none⟩) (lt_of_cell h) id]; exact h
          go_wp2_with fail
          refine (do_in HT.out He.out c Hsm.out).mono ?_
          obtain ⟨T', e0, hd⟩ : ∃ T' e0, doT T c = (T', e0) := ⟨_, _, rfl⟩
          rw [hd]
          rintro e w13 ⟨rfl, r13, h13, g13, m13⟩
          have H13 : RowKit.Hid (TreeIn w w13 p T' r13) := Lib.hid h13
          have G13 := Lib.hid (G3.out.beside HT.out A3.out m13)
          have A13 := Lib.hid (Apart.grew G3.out A3.out g13)
          clear h13 g13 m13 c0 c1 c2 c3 c4 HT G3 A3
          have c0 : w13.cell? ⟨b, o + k * 5, none⟩ = some (.int .i64 c.kind) := by have h := HCell.out 0 _ rfl; rw [H13.out.keep.cell (p := ⟨b, o + k * 5, none⟩) (lt_of_cell h) id]; exact h
          have c1 : w13.cell? ⟨b, o + k * 5 + 1, none⟩ = some (.string ⟨c.path.toArray⟩) := by have h := HCell.out 1 _ rfl; rw [H13.out.keep.cell (p := ⟨b, o + k * 5 + 1, none⟩) (lt_of_cell h) id]; exact h
          have c2 : w13.cell? ⟨b, o + k * 5 + 2, none⟩ = some (.string ⟨c.dest.toArray⟩) := by have h := HCell.out 2 _ rfl; rw [H13.out.keep.cell (p := ⟨b, o + k * 5 + 2, none⟩) (lt_of_cell h) id]; exact h
          have c3 : w13.cell? ⟨b, o + k * 5 + 3, none⟩ = some (.int .i64 c.pos) := by have h := HCell.out 3 _ rfl; rw [H13.out.keep.cell (p := ⟨b, o + k * 5 + 3, none⟩) (lt_of_cell h) id]; exact h
          have c4 : w13.cell? ⟨b, o + k * 5 + 4, none⟩ = some (.string ⟨c.data.toArray⟩) := by have h := HCell.out 4 _ rfl; rw [H13.out.keep.cell (p := ⟨b, o + k * 5 + 4, none⟩) (lt_of_cell h) id]; exact h
          have hq : (e0 != e0) = false := by simp
          go_wp2_with fail
          refine (do_in G13.out He.out c Hsm.out).mono ?_
          rw [hd]
          rintro e w14 ⟨rfl, r14, h14, g14, m14⟩
          have G14 : RowKit.Hid (TreeIn w w14 q T' r14) := Lib.hid h14
          have H14 := Lib.hid (H13.out.beside G13.out A13.out.symm m14)
          have A14 := Lib.hid (Apart.grew H13.out A13.out.symm g14).symm
          clear h14 g14 m14 c0 c1 c2 c3 c4 H13 G13 A13 hd
          go_wp2_with fail
          refine (nodes_in H14.out).mono ?_
          rintro e w15 ⟨v1, rfl, ho15, hk15⟩
          have H15 := Lib.hid (H14.out.kept hk15)
          have G15 := Lib.hid (G14.out.kept hk15)
          have HV15 := Lib.hid (rowF_own nodeC_len ho15)
          clear ho15 hk15 H14 G14
          go_wp2_with fail
          refine (nodes_in G15.out).mono ?_
          rintro e w16 ⟨v2, rfl, ho16, hk16⟩
          have H16 := Lib.hid (H15.out.kept hk16)
          have G16 := Lib.hid (G15.out.kept hk16)
          have HV16 := Lib.hid (rowF_keep HV15.out hk16)
          have HW16 := Lib.hid (rowF_own nodeC_len ho16)
          have hT60 := H16.out.many
          clear ho16 hk16 H15 G15 HV15
          go_wp2_with fail
          refine (same_nodes v1 v2 (toldT T') (toldT T') w16 HV16.out HW16.out (by rw [told_len]; omega) (by rw [told_len]; omega)).mono ?_
          rw [show decide (toldT T' = toldT T') = true from decide_eq_true rfl]
          rintro e w17 ⟨rfl, hk17⟩
          have H17 := Lib.hid (H16.out.kept hk17)
          have G17 := Lib.hid (G16.out.kept hk17)
          clear hk17 H16 G16 HV16 HW16
          go_wp2_with fail
          exact ⟨⟨k + 1, T', r13, by omega, by go_num, H17.out, .inr ⟨_, r14, rfl, G17.out, A14.out⟩⟩, by simp [intOf]; omega⟩
    · obtain rfl : k = n := by omega
      clear hlt hu
      go_wp2_with fail
      refine (fixed_any wr (He.out.keep HT.out.keep)).mono ?_
      rintro e w6 ⟨rfl, hk6⟩
      have HK6 := Lib.hid (HT.out.keep.keep hk6)
      clear hk6
      go_wp2_with fail
      go_ret
      exact ⟨rfl, HK6.out⟩
end Go.Proofs.YthmpblccplphfaaGreatDoor
