/-
  The walk of FileNone.
-/
import Derived.Test.YthmpblccplphfaaGreatDoorFilFixed
import Derived.Test.YthmpblccplphfaaGreatDoorFilLaid
namespace Go.Proofs.YthmpblccplphfaaGreatDoor
open Go.RowKit
/-! ### what is refused changes nothing -/
theorem makes_err {T : Tr} {c : Cmd} (h : (makesT T c).2 ≠ 0) : (makesT T c).1 = T := by
  revert h; unfold makesT
  repeat' split
  all_goals first | (intro _; rfl) | (intro h; exact absurd rfl h)
theorem writes_err {T : Tr} {c : Cmd} (h : (writesT T c).2 ≠ 0) : (writesT T c).1 = T := by
  revert h; unfold writesT
  repeat' split
  all_goals first | (intro _; rfl) | (intro h; exact absurd rfl h)
theorem links_err {T : Tr} {c : Cmd} (h : (linksT T c).2 ≠ 0) : (linksT T c).1 = T := by
  revert h; unfold linksT
  repeat' split
  all_goals first | (intro _; rfl) | (intro h; exact absurd rfl h)
theorem renames_err {T : Tr} {c : Cmd} (h : (renamesT T c).2 ≠ 0) : (renamesT T c).1 = T := by
  revert h; unfold renamesT
  dsimp only
  repeat' split
  all_goals first | (intro _; rfl) | (intro h; exact absurd rfl h)
theorem removes_err {T : Tr} {c : Cmd} (h : (removesT T c).2 ≠ 0) : (removesT T c).1 = T := by
  revert h; unfold removesT
  dsimp only
  repeat' split
  all_goals first | (intro _; rfl) | (intro h; exact absurd rfl h)
theorem do_err {T : Tr} {c : Cmd} (h : (doT T c).2 ≠ 0) : (doT T c).1 = T := by
  revert h; unfold doT
  by_cases h0 : c.ok = false
  · rw [if_pos h0]; intro _; rfl
  · rw [if_neg h0]
    by_cases h1 : c.kind = 0 ∨ c.kind = 1
    · rw [if_pos h1]; exact makes_err
    · rw [if_neg h1]
      by_cases h2 : c.kind = 2 ∨ c.kind = 3
      · rw [if_pos h2]; exact writes_err
      · rw [if_neg h2]
        by_cases h3 : c.kind = 4
        · rw [if_pos h3]; exact links_err
        · rw [if_neg h3]
          by_cases h4 : c.kind = 5
          · rw [if_pos h4]; exact renames_err
          · rw [if_neg h4]
            by_cases h5 : c.kind = 6
            · rw [if_pos h5]; exact removes_err
            · rw [if_neg h5]; intro _; rfl
/-! ### what is written turns one node at most -/
theorem writes_one {T : Tr} {c : Cmd} (hs : Sorted T) (h : (writesT T c).2 = 0) : (toldT (writesT T c).1).length = (toldT T).length ∧ ∃ k0 : Nat, ∀ j : Nat, j ≠ k0 → (toldT (writesT T c).1)[j]? = (toldT T)[j]? := by
  have key : ∀ (k : Int) (f : Nd → Nd), (toldT (T.upd k f)).length = (toldT T).length ∧ ∃ k0 : Nat, ∀ j : Nat, j ≠ k0 → (toldT (T.upd k f))[j]? = (toldT T)[j]? := by
    intro k f
    refine ⟨by simp [toldT, Tr.upd], ?_⟩
    by_cases hx : ∃ (i : Nat) (n : Nd), T[i]? = some n ∧ n.num = k
    · obtain ⟨i, n, hi, hn⟩ := hx
      refine ⟨i, fun j hj => ?_⟩
      unfold toldT Tr.upd
      rw [List.getElem?_map, List.getElem?_map, List.getElem?_map]
      cases hm : T[j]? with
      | none => rfl
      | some m =>
        have hne : m.num ≠ k := fun e => by
          rcases Nat.lt_or_gt_of_ne hj with h1 | h1
          · have := sorted_lt hs hm hi h1; omega
          · have := sorted_lt hs hi hm h1; omega
        simp [hne]
    · refine ⟨0, fun j _ => ?_⟩
      unfold toldT Tr.upd
      rw [List.getElem?_map, List.getElem?_map, List.getElem?_map]
      cases hm : T[j]? with
      | none => rfl
      | some m =>
        have hne : m.num ≠ k := fun e => hx ⟨j, m, hm, e⟩
        simp [hne]
  revert h; unfold writesT
  split
  · rename_i e _
    intro _
    exact ⟨rfl, 0, fun _ _ => rfl⟩
  · split
    · intro _; exact ⟨rfl, 0, fun _ _ => rfl⟩
    · split
      · intro _; exact ⟨rfl, 0, fun _ _ => rfl⟩
      · split
        · intro _; exact ⟨rfl, 0, fun _ _ => rfl⟩
        · intro _; exact key _ _
theorem do_one {T : Tr} {c : Cmd} (hs : Sorted T) (hk : c.kind = 2 ∨ c.kind = 3) (h : (doT T c).2 = 0) : (toldT (doT T c).1).length = (toldT T).length ∧ ∃ k0 : Nat, ∀ j : Nat, j ≠ k0 → (toldT (doT T c).1)[j]? = (toldT T)[j]? := by
  cases h0 : c.ok with
  | false => rw [do_bad h0]; exact ⟨rfl, 0, fun _ _ => rfl⟩
  | true =>
    rw [do_write h0 hk] at h ⊢
    exact writes_one hs h
theorem TreeIn.sorted {w0 w : World} {p : Nat} {T : Tr} {role : Nat → Role} (h : TreeIn w0 w p T role) : Sorted T := by obtain ⟨d, hw⟩ := h.wf; exact hw.sorted
set_option maxRecDepth 100000 in
set_option maxHeartbeats 8000000 in
theorem law_none (v : Value) (l : List Cmd) (w : World) (he : Env w) (hv : RowF cmdL 5 w v l) (hl : l.length ≤ 1048576) (hc : ∀ c ∈ l, c.Small) :
    Calls Tryz.prog 5 #[v] w fun e w' => e = .returned (.bool true) ∧ Keep w w' := by
  obtain ⟨av, cap, rfl, hrow⟩ := hv
  have He := Lib.hid he
  have HR := Lib.hid hrow
  have HC := Lib.hid hc
  have hn : (l.length : Int) ≤ 1048576 := by omega
  clear he hrow hc
  go_enter Tryz.func5, Tryz.ntmps5
  go_wp2_with fail
  refine (new_in w w (Mod.refl _ _)).mono ?_
  rintro e w1 ⟨p, ro, rfl, h1, _, _⟩
  have H1 := Lib.hid h1
  clear h1
  go_wp2_with fail
  go_loopw [4] (fun i wr => ∃ (k : Nat) (T : Tr) (role : Nat → Role), k ≤ l.length ∧ k ≤ 100 ∧ i = .int .i64 (k : Int) ∧ TreeIn w wr p T role) (fun i _ => 100 - (intOf i).toNat)
  case atStart => exact ⟨0, _, ro, by omega, by omega, rfl, H1.out⟩
  case round =>
    clear H1
    obtain ⟨k, T, role, hkn, hk100, rfl, hT⟩ := hrel
    have HT := Lib.hid hT
    clear hT
    by_cases hlt : k < l.length ∧ k < 100
    · obtain ⟨hlt1, hlt2⟩ := hlt
      obtain ⟨c, hcx⟩ : ∃ c, l[k]? = some c := ⟨_, List.getElem?_eq_getElem hlt1⟩
      have hsm := HC.out c (List.mem_of_getElem? hcx)
      have Hsm := Lib.hid hsm
      obtain ⟨b, o, rfl, hcell⟩ := HR.out k c hcx
      have HCell := Lib.hid hcell
      have d1 : (k : Int) < 100 := by omega
      have d2 : (k : Int) < l.length := by omega
      clear hcell hcx hsm
      go_wp2_with fail
      refine (nodes_in HT.out).mono ?_
      rintro e w2 ⟨v1, rfl, ho2, hk2⟩
      have H2 := Lib.hid (HT.out.kept hk2)
      have HF2 : RowKit.Hid (Free role v1) := Lib.hid (own_free ho2 fun b hb => HT.out.lt hb)
      have HV2 := Lib.hid (rowF_own nodeC_len ho2)
      clear ho2 hk2 HT
      have c0 : w2.cell? ⟨b, o + k * 5, none⟩ = some (.int .i64 c.kind) := by have h := HCell.out 0 _ rfl; rw [H2.out.keep.cell (p := ⟨b, o + k * 5, none⟩) (lt_of_cell h) id]; exact h
      have c1 : w2.cell? ⟨b, o + k * 5 + 1, none⟩ = some (.string ⟨c.path.toArray⟩) := by have h := HCell.out 1 _ rfl; rw [H2.out.keep.cell (p := ⟨b, o + k * 5 + 1, none⟩) (lt_of_cell h) id]; exact h
      have c2 : w2.cell? ⟨b, o + k * 5 + 2, none⟩ = some (.string ⟨c.dest.toArray⟩) := by have h := HCell.out 2 _ rfl; rw [H2.out.keep.cell (p := ⟨b, o + k * 5 + 2, none⟩) (lt_of_cell h) id]; exact h
      have c3 : w2.cell? ⟨b, o + k * 5 + 3, none⟩ = some (.int .i64 c.pos) := by have h := HCell.out 3 _ rfl; rw [H2.out.keep.cell (p := ⟨b, o + k * 5 + 3, none⟩) (lt_of_cell h) id]; exact h
      have c4 : w2.cell? ⟨b, o + k * 5 + 4, none⟩ = some (.string ⟨c.data.toArray⟩) := by have h := HCell.out 4 _ rfl; rw [H2.out.keep.cell (p := ⟨b, o + k * 5 + 4, none⟩) (lt_of_cell h) id]; exact h
      go_wp2_with fail
      refine (do_in H2.out He.out c Hsm.out).mono ?_
      obtain ⟨T', e0, hd⟩ : ∃ T' e0, doT T c = (T', e0) := ⟨_, _, rfl⟩
      have Hd := Lib.hid hd
      rw [hd]
      rintro e w3 ⟨rfl, r3, h3, _, m3⟩
      have H3 : RowKit.Hid (TreeIn w w3 p T' r3) := Lib.hid h3
      have HV3 := Lib.hid (rowF_free HV2.out HF2.out m3)
      have HS := Lib.hid H2.out.sorted
      have hT60 := H2.out.many
      clear h3 m3 hd H2 HV2 HF2 c0 c1 c2 c3 c4
      go_wp2_with fail
      refine (nodes_in H3.out).mono ?_
      rintro e w4 ⟨v2, rfl, ho4, hk4⟩
      have H4 := Lib.hid (H3.out.kept hk4)
      have HV4 := Lib.hid (rowF_keep HV3.out hk4)
      have HW4 := Lib.hid (rowF_own nodeC_len ho4)
      have hT60' := H3.out.many
      clear ho4 hk4 H3 HV3
      by_cases he0 : e0 = 0
      · subst he0
        have c0 : w4.cell? ⟨b, o + k * 5, none⟩ = some (.int .i64 c.kind) := by have h := HCell.out 0 _ rfl; rw [H4.out.keep.cell (p := ⟨b, o + k * 5, none⟩) (lt_of_cell h) id]; exact h
        by_cases hkd : c.kind = 2 ∨ c.kind = 3
        · obtain ⟨hM, k0, hk0⟩ := do_one HS.out hkd (by rw [Hd.out])
          rw [Hd.out] at hM hk0
          have Hk0 := Lib.hid hk0
          obtain ⟨a1, cap1, rfl, hx1⟩ := HV4.out
          obtain ⟨a2, cap2, rfl, hx2⟩ := HW4.out
          have HX1 := Lib.hid hx1
          have HX2 := Lib.hid hx2
          obtain ⟨M, hM1⟩ : ∃ M, (toldT T).length = M := ⟨_, rfl⟩
          have hM2 : (toldT T').length = M := hM.trans hM1
          have hM60 : M ≤ 60 := by rw [← hM1, told_len]; exact hT60
          have HM1 := Lib.hid hM1
          have HM2 := Lib.hid hM2
          rw [hM1, hM2]
          have hq : ((M : Int) != (M : Int)) = false := by rw [bne_eq_false_iff_eq]
          clear hM hk0 hx1 hx2 hM1 hM2 HV4 HW4 hT60 hT60'
          rcases hkd with h2 | h2 <;> rw [h2] at c0 <;> clear h2
          all_goals
            go_wp2_with fail
            go_loopw [8, 9] (fun ov iv wr => ∃ (j o8 : Nat), j ≤ M ∧ iv = .int .i64 (j : Int) ∧ ov = .int .i64 (o8 : Int) ∧ Keep w4 wr ∧ o8 ≤ 1 ∧ (j ≤ k0 → o8 = 0)) (fun _ i _ => M - (intOf i).toNat)
            case atStart => exact ⟨0, 0, by omega, rfl, rfl, Mod.refl _ _, by omega, fun _ => rfl⟩
            case round =>
              obtain ⟨j, o8, hj, rfl, rfl, hK, ho1, ho2⟩ := hrel
              have HK := Lib.hid hK
              have Ho2 := Lib.hid ho2
              clear hK ho2
              by_cases hjM : j < M
              · obtain ⟨y, hy⟩ : ∃ y, (toldT T)[j]? = some y := ⟨_, List.getElem?_eq_getElem (by rw [HM1.out]; exact hjM)⟩
                obtain ⟨x, hx⟩ : ∃ x, (toldT T')[j]? = some x := ⟨_, List.getElem?_eq_getElem (by rw [HM2.out]; exact hjM)⟩
                have Hx := Lib.hid hx
                have Hy := Lib.hid hy
                obtain ⟨b1, o1, rfl, q1⟩ := HX1.out j y hy
                obtain ⟨b2, o2, rfl, q2⟩ := HX2.out j x hx
                have y0 : wr.cell? ⟨b1, o1 + j * 4, none⟩ = some (.int .i64 y.num) := by have h := q1 0 _ rfl; rw [HK.out.cell (p := ⟨b1, o1 + j * 4, none⟩) (lt_of_cell h) id]; exact h
                have y1 : wr.cell? ⟨b1, o1 + j * 4 + 1, none⟩ = some (.bool y.dir) := by have h := q1 1 _ rfl; rw [HK.out.cell (p := ⟨b1, o1 + j * 4 + 1, none⟩) (lt_of_cell h) id]; exact h
                have y2 : wr.cell? ⟨b1, o1 + j * 4 + 2, none⟩ = some (.int .i64 y.links) := by have h := q1 2 _ rfl; rw [HK.out.cell (p := ⟨b1, o1 + j * 4 + 2, none⟩) (lt_of_cell h) id]; exact h
                have y3 : wr.cell? ⟨b1, o1 + j * 4 + 3, none⟩ = some (.string ⟨y.data.toArray⟩) := by have h := q1 3 _ rfl; rw [HK.out.cell (p := ⟨b1, o1 + j * 4 + 3, none⟩) (lt_of_cell h) id]; exact h
                have x0 : wr.cell? ⟨b2, o2 + j * 4, none⟩ = some (.int .i64 x.num) := by have h := q2 0 _ rfl; rw [HK.out.cell (p := ⟨b2, o2 + j * 4, none⟩) (lt_of_cell h) id]; exact h
                have x1 : wr.cell? ⟨b2, o2 + j * 4 + 1, none⟩ = some (.bool x.dir) := by have h := q2 1 _ rfl; rw [HK.out.cell (p := ⟨b2, o2 + j * 4 + 1, none⟩) (lt_of_cell h) id]; exact h
                have x2 : wr.cell? ⟨b2, o2 + j * 4 + 2, none⟩ = some (.int .i64 x.links) := by have h := q2 2 _ rfl; rw [HK.out.cell (p := ⟨b2, o2 + j * 4 + 2, none⟩) (lt_of_cell h) id]; exact h
                have x3 : wr.cell? ⟨b2, o2 + j * 4 + 3, none⟩ = some (.string ⟨x.data.toArray⟩) := by have h := q2 3 _ rfl; rw [HK.out.cell (p := ⟨b2, o2 + j * 4 + 3, none⟩) (lt_of_cell h) id]; exact h
                have heq := node_equal x y
                clear hx hy q1 q2 c0
                go_wp2_with fail
                refine wp_region_qe0 (by kernel_rfl) (by kernel_rfl) ?_
                repeat (quiet_step (fail))
                refine wpQuiet_nil ?_
                intro _ hw'
                obtain ⟨nq, rfl⟩ := hw'
                by_cases hxy : x = y
                · rw [show decide (x = y) = true from decide_eq_true hxy]
                  clear hxy heq
                  go_wp2_with fail
                  exact ⟨⟨j + 1, o8, by omega, by go_num, rfl, HK.out.drewN _, ho1, fun h => Ho2.out (by omega)⟩, by simp [intOf]; omega⟩
                · rw [show decide (x = y) = false from decide_eq_false hxy]
                  have hjk : j = k0 := Classical.byContradiction fun hne => hxy (by
                    have h := Hk0.out j hne
                    rw [Hx.out, Hy.out] at h
                    exact Option.some.inj h)
                  have ho0 : o8 = 0 := Ho2.out (by omega)
                  subst ho0
                  clear hxy heq
                  go_wp2_with fail
                  exact ⟨⟨j + 1, 1, by omega, by go_num, by go_num, HK.out.drewN _, by omega, fun h => by omega⟩, by simp [intOf]; omega⟩
              · have hjm : j = M := by omega
                have ho3 : ¬ (1 : Int) < o8 := by omega
                have H5 := Lib.hid (H4.out.kept HK.out)
                clear c0
                subst hjm
                go_wp2_with fail
                exact ⟨⟨k + 1, T', r3, by omega, by omega, by go_num, H5.out⟩, by simp [intOf]; omega⟩
        · have e2 : (c.kind != 2) = true := bne_iff_ne.2 fun h => hkd (.inl h)
          have e3 : (c.kind != 3) = true := bne_iff_ne.2 fun h => hkd (.inr h)
          clear hkd
          go_wp2_with fail
          exact ⟨⟨k + 1, T', r3, by omega, by omega, by go_num, H4.out⟩, by simp [intOf]; omega⟩
      · have hee : (e0 == 0) = false := beq_false_of_ne he0
        have hTT : T' = T := by
          have := do_err (T := T) (c := c) (by rw [Hd.out]; exact he0)
          rw [Hd.out] at this; exact this
        subst hTT
        go_wp2_with fail
        refine (same_nodes v1 v2 (toldT T') (toldT T') w4 HV4.out HW4.out (by rw [told_len]; omega) (by rw [told_len]; omega)).mono ?_
        rw [show decide (toldT T' = toldT T') = true from decide_eq_true rfl]
        rintro e w5 ⟨rfl, hk5⟩
        have H5 := Lib.hid (H4.out.kept hk5)
        clear hk5 H4 HV4 HW4
        go_wp2_with fail
        refine ⟨⟨k + 1, T', r3, by omega, by omega, by go_num, H5.out⟩, by simp [intOf]; omega⟩
    · by_cases hk2 : k < l.length
      · obtain rfl : k = 100 := by omega
        have hkn3 : (100 : Int) < l.length := by omega
        clear hlt
        go_wp2_with fail
        refine (fixed_any wr (He.out.keep HT.out.keep)).mono ?_
        rintro e w6 ⟨rfl, hk6⟩
        have HK6 := Lib.hid (HT.out.keep.keep hk6)
        clear hk6
        go_wp2_with fail
        go_ret
        exact ⟨rfl, HK6.out⟩
      · obtain rfl : k = l.length := by omega
        clear hlt
        go_wp2_with fail
        refine (fixed_any wr (He.out.keep HT.out.keep)).mono ?_
        rintro e w6 ⟨rfl, hk6⟩
        have HK6 := Lib.hid (HT.out.keep.keep hk6)
        clear hk6
        go_wp2_with fail
        go_ret
        exact ⟨rfl, HK6.out⟩
end Go.Proofs.YthmpblccplphfaaGreatDoor
