/-
  stillageref13.Parse.
-/
import Derived.Test.YtpjfeonhdkkfpaaDoorCmdRefL
import Derived.Deep.DeepCutAuto
namespace Go.Proofs.YtpjfeonhdkkfpaaDoor
open Go.RowKit
theorem run_str_nil (w : World) : (convert 50 9 (.slice none 0 0)).run Tryd.prog w = .ok (.string ⟨#[]⟩) w := by
  rw [run_convert_bytes_string w _ _ _ _ _ _ Tryd.underlying50 Tryd.underlying5 Tryd.underlying9]
  rfl
theorem run_str_any {w : World} {base : Nat} {v : Value} {l : List UInt8} (h : OwnBytes w base v l) : (convert 50 9 v).run Tryd.prog w = .ok (.string ⟨l.toArray⟩) w := by
  rcases h.2 with ⟨rfl, h0⟩ | ⟨g, cap, cur, rfl, hb, hg, hnc, hm, hsz, htk⟩
  · obtain rfl := List.length_eq_zero_iff.1 h0
    exact run_str_nil w
  · refine run_str w _ _ 5 g 0 _ _ l Tryd.underlying50 Tryd.underlying5 Tryd.underlying9 rfl (fun j hj => ?_)
    rw [Nat.zero_add]
    have : w.cell? ⟨g, j, none⟩ = cur[j]? := by simp [World.cell?, hg]
    rw [this, ← Array.getElem?_toList, ← htk, List.getElem?_take, if_pos (by omega)]
theorem hval_bd (c : UInt8) : -48 ≤ hval c ∧ hval c ≤ 300 := by
  have := c.toNat_lt
  unfold hval; split <;> omega
theorem srow_get {l : List (List UInt8)} {j : Nat} {x : List UInt8} (h : l[j]? = some x) : (srow l)[j]? = some (.string ⟨x.toArray⟩) := by simp [srow, h]
theorem ref_none {s : List UInt8} (h : ¬ (2 ≤ (spl 32 s).length ∧ (spl 32 s).length ≤ 4)) (k : Nat) : refTry s k = none := by rw [refTry, if_neg h]
set_option maxRecDepth 100000 in
set_option maxHeartbeats 4000000 in
theorem rparse_any (s : List UInt8) (w : World) (hs : s.length < 4294967281) :
    Calls Tryd.prog 16 #[.string ⟨s.toArray⟩] w fun e w' => e = .returned (parseV s) ∧ Keep w w' := by
  have Hs := Lib.hid hs
  clear hs
  go_enter Tryd.func16, Tryd.ntmps16
  go_wp2_with fail
  refine (words_any s _ Hs.out).mono ?_
  rintro e w1 ⟨v, rfl, hv, hk1⟩
  have HR1 : RowKit.Hid (World.blk w1 w.heap.size (cmdC Cmd.zero) 30) := Lib.hid (blk_mod hk1 (blk_new w (cmdC Cmd.zero) _) id)
  have HK1 : RowKit.Hid (Keep w w1) := Lib.hid (((Mod.refl _ w).alloc (.cells (cmdC Cmd.zero) 30)).keep hk1)
  obtain ⟨la, lcap, rfl, hL⟩ := row_strs hv
  have HL := Lib.hid hL
  have Hnm : RowKit.Hid (∀ x ∈ spl 32 s, x.length < 4294967281) := Lib.hid (fun x hx => by
    obtain ⟨i, hi⟩ := List.mem_iff_getElem?.1 hx
    have h1 := spl_piece 32 s i
    rw [List.getD_eq_getElem?_getD, hi] at h1
    have := Hs.out
    simp at h1; omega)
  have hNl : (spl 32 s).length ≤ 4294967281 := by rw [spl_len]; have := List.count_le_length (a := (32 : UInt8)) (l := s); have := Hs.out; omega
  have HT : RowKit.Hid (∀ k, refTry s k = if 2 ≤ (spl 32 s).length ∧ (spl 32 s).length ≤ 4 then (if (refCmd (spl 32 s) k).ok && (refCmd (spl 32 s) k).line == s then some (refCmd (spl 32 s) k) else none) else none) := Lib.hid (fun k => rfl)
  have HP := Lib.hid (parse_ref s)
  rw [srow_len]
  generalize spl 32 s = L at *
  obtain ⟨m, hm⟩ : ∃ m, L.length = m := ⟨_, rfl⟩
  rw [hm] at hNl HT ⊢
  have HM := Lib.hid hm
  clear hk1 hv hL hm
  go_wp2_with fail
  go_loopw [5] (fun i wr => ∃ k : Nat, k ≤ 9 ∧ i = .int .i64 (k : Int) ∧ Keep w1 wr ∧ (∀ j, j < k → refTry s j = none)) (fun i _ => 9 - (intOf i).toNat)
  case atStart => exact ⟨0, by omega, rfl, Mod.refl _ _, fun j hj => by omega⟩
  case round =>
    obtain ⟨k, hk, rfl, hK, hA⟩ := hrel
    have HK := Lib.hid hK
    have HA := Lib.hid hA
    clear hK hA
    by_cases hlt : k < 9
    · by_cases hmm : 2 ≤ m ∧ m ≤ 4
      · obtain ⟨hm2, hm4⟩ := hmm
        have bd4 : decide ((m : Int) ≤ 4) = true := by rw [decide_eq_true_eq]; omega
        obtain ⟨L0, L1, L', rfl⟩ : ∃ L0 L1 L', L = L0 :: L1 :: L' := by
          have h := HM.out
          rcases L with _ | ⟨a, _ | ⟨b, r⟩⟩
          · simp at h; omega
          · simp at h; omega
          · exact ⟨_, _, _, rfl⟩
        have hcell : ∀ j x, (L0 :: L1 :: L')[j]? = some x → ∃ b o, la = some ⟨b, o, none⟩ ∧ b < w1.heap.size ∧ ∀ w', Keep w1 w' → w'.cell? ⟨b, o + j, none⟩ = some (.string ⟨x.toArray⟩) := fun j x hx => by
          obtain ⟨b, o, e, hc⟩ := HL.out j (.string ⟨x.toArray⟩) (srow_get hx)
          exact ⟨b, o, e, lt_of_cell hc, fun w' hk => by rw [hk.cell (p := ⟨b, o + j, none⟩) (lt_of_cell hc) id]; exact hc⟩
        have HC := Lib.hid hcell
        clear hcell
        obtain ⟨b1, o1, rfl, hb1, hc1⟩ := HC.out 1 L1 rfl
        have HC1 := Lib.hid hc1
        have hL1 := hc1 wr HK.out
        clear hc1
        have HS := Lib.hid (small_ref Hnm.out k)
        have HTk : RowKit.Hid (refTry s k = if (refCmd (L0 :: L1 :: L') k).ok && (refCmd (L0 :: L1 :: L') k).line == s then some (refCmd (L0 :: L1 :: L') k) else none) := Lib.hid (by rw [HT.out, if_pos ⟨hm2, hm4⟩])
        have Hno : RowKit.Hid (refTry s k = none → ∀ j, j < k + 1 → refTry s j = none) := Lib.hid (fun h j hj => by
          by_cases e : j = k
          · subst e; exact h
          · exact HA.out j (by omega))
        obtain ⟨c, hc⟩ : ∃ c, refCmd (L0 :: L1 :: L') k = c := ⟨_, rfl⟩
        rw [hc] at HS HTk
        have Hc := Lib.hid hc
        clear hc
        go_upto_region 6 with (fail)
        have HX2 : RowKit.Hid (World.blk (wr.alloc (.cells (cmdC ⟨k, L1, [], 0, []⟩) 30)) wr.heap.size (cmdC ⟨k, L1, [], 0, []⟩) 30) := Lib.hid (blk_new _ _ _)
        have HK2 : RowKit.Hid (Keep w1 (wr.alloc (.cells (cmdC ⟨k, L1, [], 0, []⟩) 30))) := Lib.hid (HK.out.alloc _)
        have HXs : RowKit.Hid (w1.heap.size ≤ wr.heap.size) := Lib.hid HK.out.size
        change Code.wp _ _ _ _ (wr.alloc (.cells (cmdC ⟨k, L1, [], 0, []⟩) 30))
        clear hL1
        have hL1 := HC1.out _ HK2.out
        generalize wr.alloc (.cells (cmdC ⟨k, L1, [], 0, []⟩) 30) = w2 at *
        generalize wr.heap.size = X at *
        rcases (by omega : k = 2 ∨ k = 3 ∨ k = 4 ∨ k = 5 ∨ (k ≠ 2 ∧ k ≠ 3 ∧ k ≠ 4 ∧ k ≠ 5)) with rfl | rfl | rfl | rfl | ⟨n2, n3, n4, n5⟩
        · as_aux_lemma =>
            by_cases hm3 : m = 2
            · subst hm3
              have Hce : RowKit.Hid ((⟨2, L1, [], 0, []⟩ : Cmd) = c) := Lib.hid (by rw [← Hc.out]; simp [refCmd, refDest, refPos, refData, HM.out])
              have HX : RowKit.Hid (World.blk w2 X (cmdC c) 30) := Lib.hid (by rw [← Hce.out]; exact HX2.out)
              have HKX := HK2
              as_aux_lemma =>
                obtain ⟨c0, c1, c2, c3, c4⟩ := cmd_cells HX.out
                have hblX := blk_lt HX.out
                clear hL1
                go_wp2_with fail
                refine (rprint_any c w2 HS.out).mono ?_
                rintro e w4 ⟨rfl, hk4⟩
                have HK4 := Lib.hid (HKX.out.keep hk4)
                have HX4 := Lib.hid (blk_mod hk4 HX.out id)
                clear hk4 c0 c1 c2 c3 c4 HX HKX
                by_cases hok : c.ok = true
                · by_cases hli : c.line = s
                  · have Hp : RowKit.Hid (parseC s = some c) := Lib.hid (by
                      rw [← HP.out]; exact first_of (Nat.zero_le _) (by omega) (by rw [HTk.out]; simp [hok, hli]) (fun i _ hi => HA.out i hi))
                    rw [show printV c = .tuple #[.string ⟨s.toArray⟩, .int .i64 0] by rw [printV, if_pos hok, hli]]
                    have ess : (s == s) = true := beq_self_eq_true s
                    have hR := blk_mod HK4.out HR1.out id
                    have hlt2 := blk_lt hR
                    obtain ⟨c0, c1, c2, c3, c4⟩ := cmd_cells (putB_blk_other (c := cmdC Cmd.zero) (t := 30) HX4.out (k := X) (b := w.heap.size) (by have := blk_lt HR1.out; have := HXs.out; omega))
                    rw [← putB_self hR]
                    clear hR hok hli
                    unfold cmdC Cmd.zero at *
                    go_wp2_with fail
                    exact bodyPost_ret (v := .tuple #[cmdV c, .int .i64 0]) (by simp [results, Tryd.results16, go_sem, hlt2, cmdV, cmdC]) rfl ⟨by rw [parseV, Hp.out], (HK1.out.keep HK4.out).putB (.inr (Nat.le_refl _)) _ _⟩
                  · have Hn : RowKit.Hid (∀ j, j < 2 + 1 → refTry s j = none) := Lib.hid (Hno.out (by rw [HTk.out]; simp [hli]))
                    have bls : (c.line == s) = false := beq_false_of_ne hli
                    rw [show printV c = .tuple #[.string ⟨c.line.toArray⟩, .int .i64 0] by rw [printV, if_pos hok]]
                    clear hok hli
                    go_wp2_with fail
                    exact ⟨⟨2 + 1, by omega, by go_num, HK4.out, Hn.out⟩, by simp [intOf] <;> omega⟩
                · have Hn : RowKit.Hid (∀ j, j < 2 + 1 → refTry s j = none) := Lib.hid (Hno.out (by rw [HTk.out]; simp [hok]))
                  rw [show printV c = .tuple #[.string ⟨#[]⟩, .int .i64 130] by rw [printV, if_neg hok]]
                  clear hok
                  go_wp2_with fail
                  exact ⟨⟨2 + 1, by omega, by go_num, HK4.out, Hn.out⟩, by simp [intOf] <;> omega⟩
            · obtain ⟨L2, L'', rfl⟩ : ∃ L2 L'', L' = L2 :: L'' := by
                have h := HM.out
                rcases L' with _ | ⟨a, r⟩
                · simp at h; omega
                · exact ⟨_, _, rfl⟩
              have hm3' : (3 : Int) ≤ (m : Int) := by omega
              clear hm3
              rw [show ((2 : Nat) : Int) = 2 from rfl]
              obtain ⟨b2, o2, e2, hb2, hc2⟩ := HC.out 2 L2 rfl
              cases e2
              have HC2 := Lib.hid hc2
              have hL2 := hc2 w2 HK2.out
              have hl2 : L2.length < 4294967281 := Hnm.out L2 (by simp)
              clear hc2
              go_wp2_with fail
              go_loopw [7] (fun iv wr => ∃ j : Nat, j ≤ L2.length ∧ j ≤ 6 ∧ iv = .int .i64 (j : Int) ∧ World.blk wr X (cmdC ⟨2, L1, [], decV (L2.take j), []⟩) 30 ∧ Keep w1 wr) (fun iv _ => 6 - (intOf iv).toNat)
              case atStart => exact ⟨0, by omega, by omega, rfl, HX2.out, HK2.out⟩
              case round =>
                clear HX2 HK2 hL2 hL1
                obtain ⟨j, hj, hj6, rfl, hXj, hKj⟩ := hrel
                have HX2 := Lib.hid hXj
                have HK2 := Lib.hid hKj
                have hL2 := HC2.out wr HK2.out
                have hL1 := HC1.out wr HK2.out
                have g2 : (2 : Int) < (m : Int) := by omega
                have g3 : 2 < m := by omega
                clear hXj hKj
                by_cases hjl : j < L2.length
                · by_cases hj5 : j < 6
                  · obtain ⟨c0, c1, c2, c3, c4⟩ := cmd_cells HX2.out
                    have hblX := blk_lt HX2.out
                    obtain ⟨x, hx⟩ : ∃ x, L2[j]? = some x := ⟨_, List.getElem?_eq_getElem hjl⟩
                    have Hst : RowKit.Hid (decV (L2.take (j + 1)) = 10 * decV (L2.take j) + (x.toNat : Int) - 48) := Lib.hid (by rw [List.take_add_one, hx, Option.toList_some, decV_snoc])
                    have hix : ∀ W, (Instr.index 9 (.string ⟨L2.toArray⟩) (.int .i64 (j : Int))).run Tryd.prog W = .ok (.int .u8 (x.toNat : Int)) W := fun W => run_index_str Tryd.underlying9 L2 .i64 (j : Int) x (by omega) (by rw [Int.toNat_natCast]; exact hx) W
                    have hbd := decV_six (l := L2.take j) (by rw [List.length_take]; omega)
                    have hxb := x.toNat_lt
                    clear hx c0 c1 c2 c4 hL1
                    generalize decV (L2.take j) = V at *
                    have q0 : IntKind.i64.wrap (x.toNat : Int) = (x.toNat : Int) := IntWalk.i64_in _ (by omega)
                    have q1 : IntKind.i64.wrap (10 * V) = 10 * V := IntWalk.i64_in _ (by omega)
                    have q2 : IntKind.i64.wrap (10 * V + (x.toNat : Int)) = 10 * V + (x.toNat : Int) := IntWalk.i64_in _ (by omega)
                    have q3 : IntKind.i64.wrap (10 * V + (x.toNat : Int) - 48) = 10 * V + (x.toNat : Int) - 48 := IntWalk.i64_in _ (by omega)
                    have hfz : wr.frozen? ⟨X, 3, none⟩ = false := blk_free HX2.out _ rfl
                    go_wp2_with fail
                    refine wp_region_qd0 12 (by kernel_rfl) (by kernel_rfl) ?_
                    simp only [List.take_succ_cons, List.take_zero, List.drop_succ_cons, List.drop_zero]
                    repeat (quiet_step (fail))
                    refine wpQuiet_nil ?_
                    intro _ hw'
                    obtain ⟨nq, rfl⟩ := hw'
                    clear q0 q1 q2 q3 hix
                    go_wp2_with fail
                    exact ⟨⟨j + 1, by omega, by omega, by go_num, by rw [Hst.out]; exact blk_drewN (blk_set HX2.out 3 _) nq, (HK2.out.setCell (p := ⟨X, 3, none⟩) (.inr HXs.out) _).drewN nq⟩, by simp [intOf]; omega⟩
                  · have e6 : L2.take j = L2.take 6 := by rw [show j = 6 by omega]
                    rw [e6] at HX2
                    have hj6' : ¬ (j : Int) < 6 := by omega
                    have hjl' : (j : Int) < (L2.length : Int) := by omega
                    clear e6
                    by_cases hm4' : m = 4
                    · subst hm4'
                      obtain ⟨L3, rfl⟩ : ∃ L3, L'' = [L3] := by
                        have h := HM.out
                        rcases L'' with _ | ⟨a, _ | ⟨b, r⟩⟩
                        · simp at h
                        · exact ⟨_, rfl⟩
                        · simp at h
                      obtain ⟨b3, o3, e3, hb3, hc3⟩ := HC.out 3 L3 rfl
                      cases e3
                      have HC3 := Lib.hid hc3
                      have hL3 := hc3 wr HK2.out
                      have hl3 : L3.length < 4294967281 := Hnm.out L3 (by simp)
                      clear hc3
                      by_cases h45 : L3 = [45]
                      · have b45 : (L3 == [45]) = true := beq_iff_eq.2 h45
                        have Hce : RowKit.Hid ((⟨2, L1, [], decV (L2.take 6), []⟩ : Cmd) = c) := Lib.hid (by rw [← Hc.out, h45]; rfl)
                        have HX : RowKit.Hid (World.blk wr X (cmdC c) 30) := Lib.hid (by rw [← Hce.out]; exact HX2.out)
                        have HKX := HK2
                        clear h45
                        as_aux_lemma =>
                          obtain ⟨c0, c1, c2, c3, c4⟩ := cmd_cells HX.out
                          have hblX := blk_lt HX.out
                          clear hL1
                          go_wp2_with fail
                          refine (rprint_any c wr HS.out).mono ?_
                          rintro e w4 ⟨rfl, hk4⟩
                          have HK4 := Lib.hid (HKX.out.keep hk4)
                          have HX4 := Lib.hid (blk_mod hk4 HX.out id)
                          clear hk4 c0 c1 c2 c3 c4 HX HKX
                          by_cases hok : c.ok = true
                          · by_cases hli : c.line = s
                            · have Hp : RowKit.Hid (parseC s = some c) := Lib.hid (by
                                rw [← HP.out]; exact first_of (Nat.zero_le _) (by omega) (by rw [HTk.out]; simp [hok, hli]) (fun i _ hi => HA.out i hi))
                              rw [show printV c = .tuple #[.string ⟨s.toArray⟩, .int .i64 0] by rw [printV, if_pos hok, hli]]
                              have ess : (s == s) = true := beq_self_eq_true s
                              have hR := blk_mod HK4.out HR1.out id
                              have hlt2 := blk_lt hR
                              obtain ⟨c0, c1, c2, c3, c4⟩ := cmd_cells (putB_blk_other (c := cmdC Cmd.zero) (t := 30) HX4.out (k := X) (b := w.heap.size) (by have := blk_lt HR1.out; have := HXs.out; omega))
                              rw [← putB_self hR]
                              clear hR hok hli
                              unfold cmdC Cmd.zero at *
                              go_wp2_with fail
                              exact bodyPost_ret (v := .tuple #[cmdV c, .int .i64 0]) (by simp [results, Tryd.results16, go_sem, hlt2, cmdV, cmdC]) rfl ⟨by rw [parseV, Hp.out], (HK1.out.keep HK4.out).putB (.inr (Nat.le_refl _)) _ _⟩
                            · have Hn : RowKit.Hid (∀ j, j < 2 + 1 → refTry s j = none) := Lib.hid (Hno.out (by rw [HTk.out]; simp [hli]))
                              have bls : (c.line == s) = false := beq_false_of_ne hli
                              rw [show printV c = .tuple #[.string ⟨c.line.toArray⟩, .int .i64 0] by rw [printV, if_pos hok]]
                              clear hok hli
                              go_wp2_with fail
                              exact ⟨⟨2 + 1, by omega, by go_num, HK4.out, Hn.out⟩, by simp [intOf] <;> omega⟩
                          · have Hn : RowKit.Hid (∀ j, j < 2 + 1 → refTry s j = none) := Lib.hid (Hno.out (by rw [HTk.out]; simp [hok]))
                            rw [show printV c = .tuple #[.string ⟨#[]⟩, .int .i64 130] by rw [printV, if_neg hok]]
                            clear hok
                            go_wp2_with fail
                            exact ⟨⟨2 + 1, by omega, by go_num, HK4.out, Hn.out⟩, by simp [intOf] <;> omega⟩
                      · have b45 : (L3 == [45]) = false := beq_false_of_ne h45
                        have Hce : RowKit.Hid ((⟨2, L1, [], decV (L2.take 6), unhexes hval L3⟩ : Cmd) = c) := Lib.hid (by rw [← Hc.out]; simp [refCmd, refDest, refPos, refData, h45])
                        have HV0 : RowKit.Hid (OwnBytes (wr.alloc (.cells #[] 5)) wr.heap.size (.slice (some ⟨wr.heap.size, 0, none⟩) 0 0) []) := Lib.hid (own_bytes_new (blk_new _ _ _))
                        have HXa := Lib.hid (blk_alloc HX2.out (.cells #[] 5))
                        have HKa := Lib.hid (HK2.out.alloc (.cells #[] 5))
                        have HYs : RowKit.Hid (w1.heap.size ≤ wr.heap.size) := Lib.hid HK2.out.size
                        have HXY : RowKit.Hid (X < wr.heap.size) := Lib.hid (blk_lt HX2.out)
                        have HYa : RowKit.Hid (wr.heap.size ≤ (wr.alloc (.cells #[] 5)).heap.size) := Lib.hid (by simp)
                        clear h45
                        go_wp2_with fail
                        clear hL3 hL2 hL1 HX2 HK2
                        generalize wr.alloc (.cells #[] 5) = w5 at *
                        generalize wr.heap.size = Y at *
                        generalize decV (L2.take 6) = P at *
                        go_loopw [8, 9] (fun v iv wr => ∃ i : Nat, i ≤ L3.length + 1 ∧ iv = .int .i64 (i : Int) ∧ RowKit.Hid (∃ h, i = 2 * h) ∧ OwnBytes wr Y v (unhexes hval (L3.take i)) ∧ World.blk wr X (cmdC ⟨2, L1, [], P, []⟩) 30 ∧ Keep w1 wr ∧ Y ≤ wr.heap.size) (fun _ iv _ => L3.length + 2 - (intOf iv).toNat)
                        case atStart => exact ⟨0, by omega, rfl, Lib.hid ⟨0, rfl⟩, HV0.out, HXa.out, HKa.out, HYa.out⟩
                        case round =>
                          clear HV0 HXa HKa HYa
                          obtain ⟨i, hi, rfl, Hj, hV, hXj, hKj, hYw⟩ := hrel
                          have HV := Lib.hid hV
                          have HX2 := Lib.hid hXj
                          have HK2 := Lib.hid hKj
                          have hL3 := HC3.out wr HK2.out
                          have hL1 := HC1.out wr HK2.out
                          have hbw : b1 < wr.heap.size := lt_of_cell hL3
                          have HYw := Lib.hid hYw
                          clear hV hXj hKj hYw
                          by_cases hil : i + 1 < L3.length
                          · obtain ⟨a, ha⟩ : ∃ a, L3[i]? = some a := ⟨_, List.getElem?_eq_getElem (by omega)⟩
                            obtain ⟨b, hb⟩ : ∃ b, L3[i + 1]? = some b := ⟨_, List.getElem?_eq_getElem hil⟩
                            have Hst : RowKit.Hid (unhexes hval (L3.take (i + 2)) = unhexes hval (L3.take i) ++ [byteOf (16 * hval a + hval b)]) := Lib.hid (by
                              obtain ⟨h, rfl⟩ := Hj.out
                              exact unhexes_step hval ha hb)
                            have Hj2 : RowKit.Hid (∃ h, i + 2 = 2 * h) := Lib.hid (by obtain ⟨h, rfl⟩ := Hj.out; exact ⟨h + 1, by omega⟩)
                            have Hln : RowKit.Hid ((unhexes hval (L3.take i)).length ≤ L3.length) := Lib.hid (Nat.le_trans (unhexes_len hval _ _ (Nat.le_refl _)) (by rw [List.length_take]; omega))
                            have hi1 : ∀ W, (Instr.index 9 (.string ⟨L3.toArray⟩) (.int .i64 (i : Int))).run Tryd.prog W = .ok (.int .u8 (a.toNat : Int)) W := fun W => run_index_str Tryd.underlying9 L3 .i64 (i : Int) a (by omega) (by rw [Int.toNat_natCast]; exact ha) W
                            have hi2 : ∀ W, (Instr.index 9 (.string ⟨L3.toArray⟩) (.int .i64 ((i : Int) + 1))).run Tryd.prog W = .ok (.int .u8 (b.toNat : Int)) W := fun W => run_index_str Tryd.underlying9 L3 .i64 ((i : Int) + 1) b (by omega) (by rw [show ((i : Int) + 1).toNat = i + 1 by omega]; exact hb) W
                            have hva := hval_bd a
                            have hvb := hval_bd b
                            have q1 : IntKind.i64.wrap ((i : Int) + 1) = (i : Int) + 1 := IntWalk.i64_in _ (by omega)
                            have q2 : IntKind.i64.wrap (16 * hval a) = 16 * hval a := IntWalk.i64_in _ (by omega)
                            have q3 : IntKind.i64.wrap (16 * hval a + hval b) = 16 * hval a + hval b := IntWalk.i64_in _ (by omega)
                            have q4 := wrap_byte (16 * hval a + hval b)
                            clear ha hb
                            go_wp2_with fail
                            refine wp_region_km 1 17 (by kernel_rfl) (by kernel_rfl) (fun _ o _ _ _ h => by cases o <;> exact h) ?_
                            simp only [List.take_succ_cons, List.take_zero, List.drop_succ_cons, List.drop_zero]
                            refine wpPure_step (fun L hL => ?_)
                            go_simp
                            first | refine hL _ ?_ | refine ⟨_, fun _ => rfl, hL _ ?_⟩
                            clear hL L
                            refine wpPure_nil ?_
                            repeat (quiet_step (first | (with_reducible exact quiet_ext (value_any a _)) | (with_reducible exact quiet_ext (value_any b _))))
                            refine wpQuiet_nil ?_
                            intro _ hw'
                            obtain ⟨xq, rfl⟩ := hw'
                            have HV2 := Lib.hid (own_keep HV.out (keep_ext wr xq))
                            have HX3 := Lib.hid (blk_mod (keep_ext wr xq) HX2.out id)
                            have HK3 := Lib.hid (HK2.out.keep (keep_ext wr xq))
                            have hYw2 : Y ≤ (wr.ext xq).heap.size := Nat.le_trans HYw.out (keep_ext wr xq).size
                            generalize wr.ext xq = w6 at *
                            generalize unhexes hval (L3.take i) = acc at *
                            obtain ⟨v2, w7, hr, ho, hk2, hm2⟩ := append_own (P := Tryd.prog) Tryd.underlying50 info_u8 rfl Y u8 _ _ w6 w1 HV2.out (u8s [byteOf (16 * hval a + hval b)]) (u8s_one _) (by have := Hln.out; simp [u8s, maxLen]; omega) (by have := Hln.out; simp [u8s]; omega) hYw2 HK3.out HYs.out
                            have Hr := Lib.hid hr
                            have HV3 := Lib.hid (add_bytes ho (by simp [u8s]))
                            have HK4 := Lib.hid hk2
                            have HX4 := Lib.hid (blk_mod hm2 HX3.out (by have := HXY.out; omega))
                            have HYw3 := Lib.hid (Nat.le_trans hYw2 hm2.size)
                            clear hr ho hk2 hm2 q1 q2 q3 q4 hi1 hi2
                            go_wp2_with ((at_builtin; refine wpList_append_run Hr.out rfl rfl rfl rfl ?_))
                            exact ⟨⟨i + 2, by omega, by go_num, Hj2, by rw [Hst.out]; exact HV3.out, HX4.out, HK4.out, HYw3.out⟩, by simp [intOf]; omega⟩
                          · have Hx : RowKit.Hid (unhexes hval (L3.take i) = unhexes hval L3) := Lib.hid (by
                              obtain ⟨h, rfl⟩ := Hj.out
                              by_cases hh : 2 * h ≤ L3.length
                              · exact (unhexes_all hval hh (by omega)).symm
                              · rw [List.take_of_length_le (by omega)])
                            rw [Hx.out] at HV
                            have hst := run_str_any HV.out
                            obtain ⟨c0, c1, c2, c3, c4⟩ := cmd_cells HX2.out
                            have hblX := blk_lt HX2.out
                            have hfz : wr.frozen? ⟨X, 4, none⟩ = false := blk_free HX2.out _ rfl
                            go_upto_region 22 with (fail)
                            have HX : RowKit.Hid (World.blk (wr.setCell ⟨X, 4, none⟩ (.string ⟨(unhexes hval L3).toArray⟩)) X (cmdC c) 30) := Lib.hid (by rw [← Hce.out]; exact blk_set HX2.out _ _)
                            have HKX : RowKit.Hid (Keep w1 (wr.setCell ⟨X, 4, none⟩ (.string ⟨(unhexes hval L3).toArray⟩))) := Lib.hid (HK2.out.setCell (.inr HXs.out) _)
                            clear c0 c1 c2 c3 c4 hfz hst hL3 hblX
                            generalize wr.setCell ⟨X, 4, none⟩ (.string ⟨(unhexes hval L3).toArray⟩) = w6 at *
                            as_aux_lemma =>
                              obtain ⟨c0, c1, c2, c3, c4⟩ := cmd_cells HX.out
                              have hblX := blk_lt HX.out
                              clear hL1
                              go_wp2_with fail
                              refine (rprint_any c w6 HS.out).mono ?_
                              rintro e w4 ⟨rfl, hk4⟩
                              have HK4 := Lib.hid (HKX.out.keep hk4)
                              have HX4 := Lib.hid (blk_mod hk4 HX.out id)
                              clear hk4 c0 c1 c2 c3 c4 HX HKX
                              by_cases hok : c.ok = true
                              · by_cases hli : c.line = s
                                · have Hp : RowKit.Hid (parseC s = some c) := Lib.hid (by
                                    rw [← HP.out]; exact first_of (Nat.zero_le _) (by omega) (by rw [HTk.out]; simp [hok, hli]) (fun i _ hi => HA.out i hi))
                                  rw [show printV c = .tuple #[.string ⟨s.toArray⟩, .int .i64 0] by rw [printV, if_pos hok, hli]]
                                  have ess : (s == s) = true := beq_self_eq_true s
                                  have hR := blk_mod HK4.out HR1.out id
                                  have hlt2 := blk_lt hR
                                  obtain ⟨c0, c1, c2, c3, c4⟩ := cmd_cells (putB_blk_other (c := cmdC Cmd.zero) (t := 30) HX4.out (k := X) (b := w.heap.size) (by have := blk_lt HR1.out; have := HXs.out; omega))
                                  rw [← putB_self hR]
                                  clear hR hok hli
                                  unfold cmdC Cmd.zero at *
                                  go_wp2_with fail
                                  exact bodyPost_ret (v := .tuple #[cmdV c, .int .i64 0]) (by simp [results, Tryd.results16, go_sem, hlt2, cmdV, cmdC]) rfl ⟨by rw [parseV, Hp.out], (HK1.out.keep HK4.out).putB (.inr (Nat.le_refl _)) _ _⟩
                                · have Hn : RowKit.Hid (∀ j, j < 2 + 1 → refTry s j = none) := Lib.hid (Hno.out (by rw [HTk.out]; simp [hli]))
                                  have bls : (c.line == s) = false := beq_false_of_ne hli
                                  rw [show printV c = .tuple #[.string ⟨c.line.toArray⟩, .int .i64 0] by rw [printV, if_pos hok]]
                                  clear hok hli
                                  go_wp2_with fail
                                  exact ⟨⟨2 + 1, by omega, by go_num, HK4.out, Hn.out⟩, by simp [intOf] <;> omega⟩
                              · have Hn : RowKit.Hid (∀ j, j < 2 + 1 → refTry s j = none) := Lib.hid (Hno.out (by rw [HTk.out]; simp [hok]))
                                rw [show printV c = .tuple #[.string ⟨#[]⟩, .int .i64 130] by rw [printV, if_neg hok]]
                                clear hok
                                go_wp2_with fail
                                exact ⟨⟨2 + 1, by omega, by go_num, HK4.out, Hn.out⟩, by simp [intOf] <;> omega⟩
                    · have bm4 : ((m : Int) == 4) = false := beq_false_of_ne (by omega)
                      have Hce : RowKit.Hid ((⟨2, L1, [], decV (L2.take 6), []⟩ : Cmd) = c) := Lib.hid (by
                        have h := HM.out
                        have h4 : ¬ (L0 :: L1 :: L2 :: L'').length = 4 := by rw [h]; exact hm4'
                        rw [← Hc.out, refCmd, refData, if_neg (fun h => h4 h.2.1)]; simp [refDest, refPos])
                      have HX : RowKit.Hid (World.blk wr X (cmdC c) 30) := Lib.hid (by rw [← Hce.out]; exact HX2.out)
                      have HKX := HK2
                      clear hm4'
                      as_aux_lemma =>
                        obtain ⟨c0, c1, c2, c3, c4⟩ := cmd_cells HX.out
                        have hblX := blk_lt HX.out
                        clear hL1
                        go_wp2_with fail
                        refine (rprint_any c wr HS.out).mono ?_
                        rintro e w4 ⟨rfl, hk4⟩
                        have HK4 := Lib.hid (HKX.out.keep hk4)
                        have HX4 := Lib.hid (blk_mod hk4 HX.out id)
                        clear hk4 c0 c1 c2 c3 c4 HX HKX
                        by_cases hok : c.ok = true
                        · by_cases hli : c.line = s
                          · have Hp : RowKit.Hid (parseC s = some c) := Lib.hid (by
                              rw [← HP.out]; exact first_of (Nat.zero_le _) (by omega) (by rw [HTk.out]; simp [hok, hli]) (fun i _ hi => HA.out i hi))
                            rw [show printV c = .tuple #[.string ⟨s.toArray⟩, .int .i64 0] by rw [printV, if_pos hok, hli]]
                            have ess : (s == s) = true := beq_self_eq_true s
                            have hR := blk_mod HK4.out HR1.out id
                            have hlt2 := blk_lt hR
                            obtain ⟨c0, c1, c2, c3, c4⟩ := cmd_cells (putB_blk_other (c := cmdC Cmd.zero) (t := 30) HX4.out (k := X) (b := w.heap.size) (by have := blk_lt HR1.out; have := HXs.out; omega))
                            rw [← putB_self hR]
                            clear hR hok hli
                            unfold cmdC Cmd.zero at *
                            go_wp2_with fail
                            exact bodyPost_ret (v := .tuple #[cmdV c, .int .i64 0]) (by simp [results, Tryd.results16, go_sem, hlt2, cmdV, cmdC]) rfl ⟨by rw [parseV, Hp.out], (HK1.out.keep HK4.out).putB (.inr (Nat.le_refl _)) _ _⟩
                          · have Hn : RowKit.Hid (∀ j, j < 2 + 1 → refTry s j = none) := Lib.hid (Hno.out (by rw [HTk.out]; simp [hli]))
                            have bls : (c.line == s) = false := beq_false_of_ne hli
                            rw [show printV c = .tuple #[.string ⟨c.line.toArray⟩, .int .i64 0] by rw [printV, if_pos hok]]
                            clear hok hli
                            go_wp2_with fail
                            exact ⟨⟨2 + 1, by omega, by go_num, HK4.out, Hn.out⟩, by simp [intOf] <;> omega⟩
                        · have Hn : RowKit.Hid (∀ j, j < 2 + 1 → refTry s j = none) := Lib.hid (Hno.out (by rw [HTk.out]; simp [hok]))
                          rw [show printV c = .tuple #[.string ⟨#[]⟩, .int .i64 130] by rw [printV, if_neg hok]]
                          clear hok
                          go_wp2_with fail
                          exact ⟨⟨2 + 1, by omega, by go_num, HK4.out, Hn.out⟩, by simp [intOf] <;> omega⟩
                · have e6 : L2.take j = L2.take 6 := by rw [List.take_of_length_le (by omega), List.take_of_length_le (by omega)]
                  rw [e6] at HX2
                  have hjl' : ¬ (j : Int) < (L2.length : Int) := by omega
                  clear e6
                  by_cases hm4' : m = 4
                  · subst hm4'
                    obtain ⟨L3, rfl⟩ : ∃ L3, L'' = [L3] := by
                      have h := HM.out
                      rcases L'' with _ | ⟨a, _ | ⟨b, r⟩⟩
                      · simp at h
                      · exact ⟨_, rfl⟩
                      · simp at h
                    obtain ⟨b3, o3, e3, hb3, hc3⟩ := HC.out 3 L3 rfl
                    cases e3
                    have HC3 := Lib.hid hc3
                    have hL3 := hc3 wr HK2.out
                    have hl3 : L3.length < 4294967281 := Hnm.out L3 (by simp)
                    clear hc3
                    by_cases h45 : L3 = [45]
                    · have b45 : (L3 == [45]) = true := beq_iff_eq.2 h45
                      have Hce : RowKit.Hid ((⟨2, L1, [], decV (L2.take 6), []⟩ : Cmd) = c) := Lib.hid (by rw [← Hc.out, h45]; rfl)
                      have HX : RowKit.Hid (World.blk wr X (cmdC c) 30) := Lib.hid (by rw [← Hce.out]; exact HX2.out)
                      have HKX := HK2
                      clear h45
                      as_aux_lemma =>
                        obtain ⟨c0, c1, c2, c3, c4⟩ := cmd_cells HX.out
                        have hblX := blk_lt HX.out
                        clear hL1
                        go_wp2_with fail
                        refine (rprint_any c wr HS.out).mono ?_
                        rintro e w4 ⟨rfl, hk4⟩
                        have HK4 := Lib.hid (HKX.out.keep hk4)
                        have HX4 := Lib.hid (blk_mod hk4 HX.out id)
                        clear hk4 c0 c1 c2 c3 c4 HX HKX
                        by_cases hok : c.ok = true
                        · by_cases hli : c.line = s
                          · have Hp : RowKit.Hid (parseC s = some c) := Lib.hid (by
                              rw [← HP.out]; exact first_of (Nat.zero_le _) (by omega) (by rw [HTk.out]; simp [hok, hli]) (fun i _ hi => HA.out i hi))
                            rw [show printV c = .tuple #[.string ⟨s.toArray⟩, .int .i64 0] by rw [printV, if_pos hok, hli]]
                            have ess : (s == s) = true := beq_self_eq_true s
                            have hR := blk_mod HK4.out HR1.out id
                            have hlt2 := blk_lt hR
                            obtain ⟨c0, c1, c2, c3, c4⟩ := cmd_cells (putB_blk_other (c := cmdC Cmd.zero) (t := 30) HX4.out (k := X) (b := w.heap.size) (by have := blk_lt HR1.out; have := HXs.out; omega))
                            rw [← putB_self hR]
                            clear hR hok hli
                            unfold cmdC Cmd.zero at *
                            go_wp2_with fail
                            exact bodyPost_ret (v := .tuple #[cmdV c, .int .i64 0]) (by simp [results, Tryd.results16, go_sem, hlt2, cmdV, cmdC]) rfl ⟨by rw [parseV, Hp.out], (HK1.out.keep HK4.out).putB (.inr (Nat.le_refl _)) _ _⟩
                          · have Hn : RowKit.Hid (∀ j, j < 2 + 1 → refTry s j = none) := Lib.hid (Hno.out (by rw [HTk.out]; simp [hli]))
                            have bls : (c.line == s) = false := beq_false_of_ne hli
                            rw [show printV c = .tuple #[.string ⟨c.line.toArray⟩, .int .i64 0] by rw [printV, if_pos hok]]
                            clear hok hli
                            go_wp2_with fail
                            exact ⟨⟨2 + 1, by omega, by go_num, HK4.out, Hn.out⟩, by simp [intOf] <;> omega⟩
                        · have Hn : RowKit.Hid (∀ j, j < 2 + 1 → refTry s j = none) := Lib.hid (Hno.out (by rw [HTk.out]; simp [hok]))
                          rw [show printV c = .tuple #[.string ⟨#[]⟩, .int .i64 130] by rw [printV, if_neg hok]]
                          clear hok
                          go_wp2_with fail
                          exact ⟨⟨2 + 1, by omega, by go_num, HK4.out, Hn.out⟩, by simp [intOf] <;> omega⟩
                    · have b45 : (L3 == [45]) = false := beq_false_of_ne h45
                      have Hce : RowKit.Hid ((⟨2, L1, [], decV (L2.take 6), unhexes hval L3⟩ : Cmd) = c) := Lib.hid (by rw [← Hc.out]; simp [refCmd, refDest, refPos, refData, h45])
                      have HV0 : RowKit.Hid (OwnBytes (wr.alloc (.cells #[] 5)) wr.heap.size (.slice (some ⟨wr.heap.size, 0, none⟩) 0 0) []) := Lib.hid (own_bytes_new (blk_new _ _ _))
                      have HXa := Lib.hid (blk_alloc HX2.out (.cells #[] 5))
                      have HKa := Lib.hid (HK2.out.alloc (.cells #[] 5))
                      have HYs : RowKit.Hid (w1.heap.size ≤ wr.heap.size) := Lib.hid HK2.out.size
                      have HXY : RowKit.Hid (X < wr.heap.size) := Lib.hid (blk_lt HX2.out)
                      have HYa : RowKit.Hid (wr.heap.size ≤ (wr.alloc (.cells #[] 5)).heap.size) := Lib.hid (by simp)
                      clear h45
                      go_wp2_with fail
                      clear hL3 hL2 hL1 HX2 HK2
                      generalize wr.alloc (.cells #[] 5) = w5 at *
                      generalize wr.heap.size = Y at *
                      generalize decV (L2.take 6) = P at *
                      go_loopw [8, 9] (fun v iv wr => ∃ i : Nat, i ≤ L3.length + 1 ∧ iv = .int .i64 (i : Int) ∧ RowKit.Hid (∃ h, i = 2 * h) ∧ OwnBytes wr Y v (unhexes hval (L3.take i)) ∧ World.blk wr X (cmdC ⟨2, L1, [], P, []⟩) 30 ∧ Keep w1 wr ∧ Y ≤ wr.heap.size) (fun _ iv _ => L3.length + 2 - (intOf iv).toNat)
                      case atStart => exact ⟨0, by omega, rfl, Lib.hid ⟨0, rfl⟩, HV0.out, HXa.out, HKa.out, HYa.out⟩
                      case round =>
                        clear HV0 HXa HKa HYa
                        obtain ⟨i, hi, rfl, Hj, hV, hXj, hKj, hYw⟩ := hrel
                        have HV := Lib.hid hV
                        have HX2 := Lib.hid hXj
                        have HK2 := Lib.hid hKj
                        have hL3 := HC3.out wr HK2.out
                        have hL1 := HC1.out wr HK2.out
                        have hbw : b1 < wr.heap.size := lt_of_cell hL3
                        have HYw := Lib.hid hYw
                        clear hV hXj hKj hYw
                        by_cases hil : i + 1 < L3.length
                        · obtain ⟨a, ha⟩ : ∃ a, L3[i]? = some a := ⟨_, List.getElem?_eq_getElem (by omega)⟩
                          obtain ⟨b, hb⟩ : ∃ b, L3[i + 1]? = some b := ⟨_, List.getElem?_eq_getElem hil⟩
                          have Hst : RowKit.Hid (unhexes hval (L3.take (i + 2)) = unhexes hval (L3.take i) ++ [byteOf (16 * hval a + hval b)]) := Lib.hid (by
                            obtain ⟨h, rfl⟩ := Hj.out
                            exact unhexes_step hval ha hb)
                          have Hj2 : RowKit.Hid (∃ h, i + 2 = 2 * h) := Lib.hid (by obtain ⟨h, rfl⟩ := Hj.out; exact ⟨h + 1, by omega⟩)
                          have Hln : RowKit.Hid ((unhexes hval (L3.take i)).length ≤ L3.length) := Lib.hid (Nat.le_trans (unhexes_len hval _ _ (Nat.le_refl _)) (by rw [List.length_take]; omega))
                          have hi1 : ∀ W, (Instr.index 9 (.string ⟨L3.toArray⟩) (.int .i64 (i : Int))).run Tryd.prog W = .ok (.int .u8 (a.toNat : Int)) W := fun W => run_index_str Tryd.underlying9 L3 .i64 (i : Int) a (by omega) (by rw [Int.toNat_natCast]; exact ha) W
                          have hi2 : ∀ W, (Instr.index 9 (.string ⟨L3.toArray⟩) (.int .i64 ((i : Int) + 1))).run Tryd.prog W = .ok (.int .u8 (b.toNat : Int)) W := fun W => run_index_str Tryd.underlying9 L3 .i64 ((i : Int) + 1) b (by omega) (by rw [show ((i : Int) + 1).toNat = i + 1 by omega]; exact hb) W
                          have hva := hval_bd a
                          have hvb := hval_bd b
                          have q1 : IntKind.i64.wrap ((i : Int) + 1) = (i : Int) + 1 := IntWalk.i64_in _ (by omega)
                          have q2 : IntKind.i64.wrap (16 * hval a) = 16 * hval a := IntWalk.i64_in _ (by omega)
                          have q3 : IntKind.i64.wrap (16 * hval a + hval b) = 16 * hval a + hval b := IntWalk.i64_in _ (by omega)
                          have q4 := wrap_byte (16 * hval a + hval b)
                          clear ha hb
                          go_wp2_with fail
                          refine wp_region_km 1 17 (by kernel_rfl) (by kernel_rfl) (fun _ o _ _ _ h => by cases o <;> exact h) ?_
                          simp only [List.take_succ_cons, List.take_zero, List.drop_succ_cons, List.drop_zero]
                          refine wpPure_step (fun L hL => ?_)
                          go_simp
                          first | refine hL _ ?_ | refine ⟨_, fun _ => rfl, hL _ ?_⟩
                          clear hL L
                          refine wpPure_nil ?_
                          repeat (quiet_step (first | (with_reducible exact quiet_ext (value_any a _)) | (with_reducible exact quiet_ext (value_any b _))))
                          refine wpQuiet_nil ?_
                          intro _ hw'
                          obtain ⟨xq, rfl⟩ := hw'
                          have HV2 := Lib.hid (own_keep HV.out (keep_ext wr xq))
                          have HX3 := Lib.hid (blk_mod (keep_ext wr xq) HX2.out id)
                          have HK3 := Lib.hid (HK2.out.keep (keep_ext wr xq))
                          have hYw2 : Y ≤ (wr.ext xq).heap.size := Nat.le_trans HYw.out (keep_ext wr xq).size
                          generalize wr.ext xq = w6 at *
                          generalize unhexes hval (L3.take i) = acc at *
                          obtain ⟨v2, w7, hr, ho, hk2, hm2⟩ := append_own (P := Tryd.prog) Tryd.underlying50 info_u8 rfl Y u8 _ _ w6 w1 HV2.out (u8s [byteOf (16 * hval a + hval b)]) (u8s_one _) (by have := Hln.out; simp [u8s, maxLen]; omega) (by have := Hln.out; simp [u8s]; omega) hYw2 HK3.out HYs.out
                          have Hr := Lib.hid hr
                          have HV3 := Lib.hid (add_bytes ho (by simp [u8s]))
                          have HK4 := Lib.hid hk2
                          have HX4 := Lib.hid (blk_mod hm2 HX3.out (by have := HXY.out; omega))
                          have HYw3 := Lib.hid (Nat.le_trans hYw2 hm2.size)
                          clear hr ho hk2 hm2 q1 q2 q3 q4 hi1 hi2
                          go_wp2_with ((at_builtin; refine wpList_append_run Hr.out rfl rfl rfl rfl ?_))
                          exact ⟨⟨i + 2, by omega, by go_num, Hj2, by rw [Hst.out]; exact HV3.out, HX4.out, HK4.out, HYw3.out⟩, by simp [intOf]; omega⟩
                        · have Hx : RowKit.Hid (unhexes hval (L3.take i) = unhexes hval L3) := Lib.hid (by
                            obtain ⟨h, rfl⟩ := Hj.out
                            by_cases hh : 2 * h ≤ L3.length
                            · exact (unhexes_all hval hh (by omega)).symm
                            · rw [List.take_of_length_le (by omega)])
                          rw [Hx.out] at HV
                          have hst := run_str_any HV.out
                          obtain ⟨c0, c1, c2, c3, c4⟩ := cmd_cells HX2.out
                          have hblX := blk_lt HX2.out
                          have hfz : wr.frozen? ⟨X, 4, none⟩ = false := blk_free HX2.out _ rfl
                          go_upto_region 22 with (fail)
                          have HX : RowKit.Hid (World.blk (wr.setCell ⟨X, 4, none⟩ (.string ⟨(unhexes hval L3).toArray⟩)) X (cmdC c) 30) := Lib.hid (by rw [← Hce.out]; exact blk_set HX2.out _ _)
                          have HKX : RowKit.Hid (Keep w1 (wr.setCell ⟨X, 4, none⟩ (.string ⟨(unhexes hval L3).toArray⟩))) := Lib.hid (HK2.out.setCell (.inr HXs.out) _)
                          clear c0 c1 c2 c3 c4 hfz hst hL3 hblX
                          generalize wr.setCell ⟨X, 4, none⟩ (.string ⟨(unhexes hval L3).toArray⟩) = w6 at *
                          as_aux_lemma =>
                            obtain ⟨c0, c1, c2, c3, c4⟩ := cmd_cells HX.out
                            have hblX := blk_lt HX.out
                            clear hL1
                            go_wp2_with fail
                            refine (rprint_any c w6 HS.out).mono ?_
                            rintro e w4 ⟨rfl, hk4⟩
                            have HK4 := Lib.hid (HKX.out.keep hk4)
                            have HX4 := Lib.hid (blk_mod hk4 HX.out id)
                            clear hk4 c0 c1 c2 c3 c4 HX HKX
                            by_cases hok : c.ok = true
                            · by_cases hli : c.line = s
                              · have Hp : RowKit.Hid (parseC s = some c) := Lib.hid (by
                                  rw [← HP.out]; exact first_of (Nat.zero_le _) (by omega) (by rw [HTk.out]; simp [hok, hli]) (fun i _ hi => HA.out i hi))
                                rw [show printV c = .tuple #[.string ⟨s.toArray⟩, .int .i64 0] by rw [printV, if_pos hok, hli]]
                                have ess : (s == s) = true := beq_self_eq_true s
                                have hR := blk_mod HK4.out HR1.out id
                                have hlt2 := blk_lt hR
                                obtain ⟨c0, c1, c2, c3, c4⟩ := cmd_cells (putB_blk_other (c := cmdC Cmd.zero) (t := 30) HX4.out (k := X) (b := w.heap.size) (by have := blk_lt HR1.out; have := HXs.out; omega))
                                rw [← putB_self hR]
                                clear hR hok hli
                                unfold cmdC Cmd.zero at *
                                go_wp2_with fail
                                exact bodyPost_ret (v := .tuple #[cmdV c, .int .i64 0]) (by simp [results, Tryd.results16, go_sem, hlt2, cmdV, cmdC]) rfl ⟨by rw [parseV, Hp.out], (HK1.out.keep HK4.out).putB (.inr (Nat.le_refl _)) _ _⟩
                              · have Hn : RowKit.Hid (∀ j, j < 2 + 1 → refTry s j = none) := Lib.hid (Hno.out (by rw [HTk.out]; simp [hli]))
                                have bls : (c.line == s) = false := beq_false_of_ne hli
                                rw [show printV c = .tuple #[.string ⟨c.line.toArray⟩, .int .i64 0] by rw [printV, if_pos hok]]
                                clear hok hli
                                go_wp2_with fail
                                exact ⟨⟨2 + 1, by omega, by go_num, HK4.out, Hn.out⟩, by simp [intOf] <;> omega⟩
                            · have Hn : RowKit.Hid (∀ j, j < 2 + 1 → refTry s j = none) := Lib.hid (Hno.out (by rw [HTk.out]; simp [hok]))
                              rw [show printV c = .tuple #[.string ⟨#[]⟩, .int .i64 130] by rw [printV, if_neg hok]]
                              clear hok
                              go_wp2_with fail
                              exact ⟨⟨2 + 1, by omega, by go_num, HK4.out, Hn.out⟩, by simp [intOf] <;> omega⟩
                  · have bm4 : ((m : Int) == 4) = false := beq_false_of_ne (by omega)
                    have Hce : RowKit.Hid ((⟨2, L1, [], decV (L2.take 6), []⟩ : Cmd) = c) := Lib.hid (by
                      have h := HM.out
                      have h4 : ¬ (L0 :: L1 :: L2 :: L'').length = 4 := by rw [h]; exact hm4'
                      rw [← Hc.out, refCmd, refData, if_neg (fun h => h4 h.2.1)]; simp [refDest, refPos])
                    have HX : RowKit.Hid (World.blk wr X (cmdC c) 30) := Lib.hid (by rw [← Hce.out]; exact HX2.out)
                    have HKX := HK2
                    clear hm4'
                    as_aux_lemma =>
                      obtain ⟨c0, c1, c2, c3, c4⟩ := cmd_cells HX.out
                      have hblX := blk_lt HX.out
                      clear hL1
                      go_wp2_with fail
                      refine (rprint_any c wr HS.out).mono ?_
                      rintro e w4 ⟨rfl, hk4⟩
                      have HK4 := Lib.hid (HKX.out.keep hk4)
                      have HX4 := Lib.hid (blk_mod hk4 HX.out id)
                      clear hk4 c0 c1 c2 c3 c4 HX HKX
                      by_cases hok : c.ok = true
                      · by_cases hli : c.line = s
                        · have Hp : RowKit.Hid (parseC s = some c) := Lib.hid (by
                            rw [← HP.out]; exact first_of (Nat.zero_le _) (by omega) (by rw [HTk.out]; simp [hok, hli]) (fun i _ hi => HA.out i hi))
                          rw [show printV c = .tuple #[.string ⟨s.toArray⟩, .int .i64 0] by rw [printV, if_pos hok, hli]]
                          have ess : (s == s) = true := beq_self_eq_true s
                          have hR := blk_mod HK4.out HR1.out id
                          have hlt2 := blk_lt hR
                          obtain ⟨c0, c1, c2, c3, c4⟩ := cmd_cells (putB_blk_other (c := cmdC Cmd.zero) (t := 30) HX4.out (k := X) (b := w.heap.size) (by have := blk_lt HR1.out; have := HXs.out; omega))
                          rw [← putB_self hR]
                          clear hR hok hli
                          unfold cmdC Cmd.zero at *
                          go_wp2_with fail
                          exact bodyPost_ret (v := .tuple #[cmdV c, .int .i64 0]) (by simp [results, Tryd.results16, go_sem, hlt2, cmdV, cmdC]) rfl ⟨by rw [parseV, Hp.out], (HK1.out.keep HK4.out).putB (.inr (Nat.le_refl _)) _ _⟩
                        · have Hn : RowKit.Hid (∀ j, j < 2 + 1 → refTry s j = none) := Lib.hid (Hno.out (by rw [HTk.out]; simp [hli]))
                          have bls : (c.line == s) = false := beq_false_of_ne hli
                          rw [show printV c = .tuple #[.string ⟨c.line.toArray⟩, .int .i64 0] by rw [printV, if_pos hok]]
                          clear hok hli
                          go_wp2_with fail
                          exact ⟨⟨2 + 1, by omega, by go_num, HK4.out, Hn.out⟩, by simp [intOf] <;> omega⟩
                      · have Hn : RowKit.Hid (∀ j, j < 2 + 1 → refTry s j = none) := Lib.hid (Hno.out (by rw [HTk.out]; simp [hok]))
                        rw [show printV c = .tuple #[.string ⟨#[]⟩, .int .i64 130] by rw [printV, if_neg hok]]
                        clear hok
                        go_wp2_with fail
                        exact ⟨⟨2 + 1, by omega, by go_num, HK4.out, Hn.out⟩, by simp [intOf] <;> omega⟩
        · as_aux_lemma =>
            by_cases hm3 : m = 2
            · subst hm3
              have Hce : RowKit.Hid ((⟨3, L1, [], 0, []⟩ : Cmd) = c) := Lib.hid (by rw [← Hc.out]; simp [refCmd, refDest, refPos, refData, HM.out])
              have HX : RowKit.Hid (World.blk w2 X (cmdC c) 30) := Lib.hid (by rw [← Hce.out]; exact HX2.out)
              have HKX := HK2
              as_aux_lemma =>
                obtain ⟨c0, c1, c2, c3, c4⟩ := cmd_cells HX.out
                have hblX := blk_lt HX.out
                clear hL1
                go_wp2_with fail
                refine (rprint_any c w2 HS.out).mono ?_
                rintro e w4 ⟨rfl, hk4⟩
                have HK4 := Lib.hid (HKX.out.keep hk4)
                have HX4 := Lib.hid (blk_mod hk4 HX.out id)
                clear hk4 c0 c1 c2 c3 c4 HX HKX
                by_cases hok : c.ok = true
                · by_cases hli : c.line = s
                  · have Hp : RowKit.Hid (parseC s = some c) := Lib.hid (by
                      rw [← HP.out]; exact first_of (Nat.zero_le _) (by omega) (by rw [HTk.out]; simp [hok, hli]) (fun i _ hi => HA.out i hi))
                    rw [show printV c = .tuple #[.string ⟨s.toArray⟩, .int .i64 0] by rw [printV, if_pos hok, hli]]
                    have ess : (s == s) = true := beq_self_eq_true s
                    have hR := blk_mod HK4.out HR1.out id
                    have hlt2 := blk_lt hR
                    obtain ⟨c0, c1, c2, c3, c4⟩ := cmd_cells (putB_blk_other (c := cmdC Cmd.zero) (t := 30) HX4.out (k := X) (b := w.heap.size) (by have := blk_lt HR1.out; have := HXs.out; omega))
                    rw [← putB_self hR]
                    clear hR hok hli
                    unfold cmdC Cmd.zero at *
                    go_wp2_with fail
                    exact bodyPost_ret (v := .tuple #[cmdV c, .int .i64 0]) (by simp [results, Tryd.results16, go_sem, hlt2, cmdV, cmdC]) rfl ⟨by rw [parseV, Hp.out], (HK1.out.keep HK4.out).putB (.inr (Nat.le_refl _)) _ _⟩
                  · have Hn : RowKit.Hid (∀ j, j < 3 + 1 → refTry s j = none) := Lib.hid (Hno.out (by rw [HTk.out]; simp [hli]))
                    have bls : (c.line == s) = false := beq_false_of_ne hli
                    rw [show printV c = .tuple #[.string ⟨c.line.toArray⟩, .int .i64 0] by rw [printV, if_pos hok]]
                    clear hok hli
                    go_wp2_with fail
                    exact ⟨⟨3 + 1, by omega, by go_num, HK4.out, Hn.out⟩, by simp [intOf] <;> omega⟩
                · have Hn : RowKit.Hid (∀ j, j < 3 + 1 → refTry s j = none) := Lib.hid (Hno.out (by rw [HTk.out]; simp [hok]))
                  rw [show printV c = .tuple #[.string ⟨#[]⟩, .int .i64 130] by rw [printV, if_neg hok]]
                  clear hok
                  go_wp2_with fail
                  exact ⟨⟨3 + 1, by omega, by go_num, HK4.out, Hn.out⟩, by simp [intOf] <;> omega⟩
            · obtain ⟨L2, L'', rfl⟩ : ∃ L2 L'', L' = L2 :: L'' := by
                have h := HM.out
                rcases L' with _ | ⟨a, r⟩
                · simp at h; omega
                · exact ⟨_, _, rfl⟩
              have hm3' : (3 : Int) ≤ (m : Int) := by omega
              clear hm3
              rw [show ((3 : Nat) : Int) = 3 from rfl]
              obtain ⟨b2, o2, e2, hb2, hc2⟩ := HC.out 2 L2 rfl
              cases e2
              have HC2 := Lib.hid hc2
              have hL2 := hc2 w2 HK2.out
              have hl2 : L2.length < 4294967281 := Hnm.out L2 (by simp)
              clear hc2
              go_wp2_with fail
              go_loopw [7] (fun iv wr => ∃ j : Nat, j ≤ L2.length ∧ j ≤ 6 ∧ iv = .int .i64 (j : Int) ∧ World.blk wr X (cmdC ⟨3, L1, [], decV (L2.take j), []⟩) 30 ∧ Keep w1 wr) (fun iv _ => 6 - (intOf iv).toNat)
              case atStart => exact ⟨0, by omega, by omega, rfl, HX2.out, HK2.out⟩
              case round =>
                clear HX2 HK2 hL2 hL1
                obtain ⟨j, hj, hj6, rfl, hXj, hKj⟩ := hrel
                have HX2 := Lib.hid hXj
                have HK2 := Lib.hid hKj
                have hL2 := HC2.out wr HK2.out
                have hL1 := HC1.out wr HK2.out
                have g2 : (2 : Int) < (m : Int) := by omega
                have g3 : 2 < m := by omega
                clear hXj hKj
                by_cases hjl : j < L2.length
                · by_cases hj5 : j < 6
                  · obtain ⟨c0, c1, c2, c3, c4⟩ := cmd_cells HX2.out
                    have hblX := blk_lt HX2.out
                    obtain ⟨x, hx⟩ : ∃ x, L2[j]? = some x := ⟨_, List.getElem?_eq_getElem hjl⟩
                    have Hst : RowKit.Hid (decV (L2.take (j + 1)) = 10 * decV (L2.take j) + (x.toNat : Int) - 48) := Lib.hid (by rw [List.take_add_one, hx, Option.toList_some, decV_snoc])
                    have hix : ∀ W, (Instr.index 9 (.string ⟨L2.toArray⟩) (.int .i64 (j : Int))).run Tryd.prog W = .ok (.int .u8 (x.toNat : Int)) W := fun W => run_index_str Tryd.underlying9 L2 .i64 (j : Int) x (by omega) (by rw [Int.toNat_natCast]; exact hx) W
                    have hbd := decV_six (l := L2.take j) (by rw [List.length_take]; omega)
                    have hxb := x.toNat_lt
                    clear hx c0 c1 c2 c4 hL1
                    generalize decV (L2.take j) = V at *
                    have q0 : IntKind.i64.wrap (x.toNat : Int) = (x.toNat : Int) := IntWalk.i64_in _ (by omega)
                    have q1 : IntKind.i64.wrap (10 * V) = 10 * V := IntWalk.i64_in _ (by omega)
                    have q2 : IntKind.i64.wrap (10 * V + (x.toNat : Int)) = 10 * V + (x.toNat : Int) := IntWalk.i64_in _ (by omega)
                    have q3 : IntKind.i64.wrap (10 * V + (x.toNat : Int) - 48) = 10 * V + (x.toNat : Int) - 48 := IntWalk.i64_in _ (by omega)
                    have hfz : wr.frozen? ⟨X, 3, none⟩ = false := blk_free HX2.out _ rfl
                    go_wp2_with fail
                    refine wp_region_qd0 12 (by kernel_rfl) (by kernel_rfl) ?_
                    simp only [List.take_succ_cons, List.take_zero, List.drop_succ_cons, List.drop_zero]
                    repeat (quiet_step (fail))
                    refine wpQuiet_nil ?_
                    intro _ hw'
                    obtain ⟨nq, rfl⟩ := hw'
                    clear q0 q1 q2 q3 hix
                    go_wp2_with fail
                    exact ⟨⟨j + 1, by omega, by omega, by go_num, by rw [Hst.out]; exact blk_drewN (blk_set HX2.out 3 _) nq, (HK2.out.setCell (p := ⟨X, 3, none⟩) (.inr HXs.out) _).drewN nq⟩, by simp [intOf]; omega⟩
                  · have e6 : L2.take j = L2.take 6 := by rw [show j = 6 by omega]
                    rw [e6] at HX2
                    have hj6' : ¬ (j : Int) < 6 := by omega
                    have hjl' : (j : Int) < (L2.length : Int) := by omega
                    clear e6
                    have Hce : RowKit.Hid ((⟨3, L1, [], decV (L2.take 6), []⟩ : Cmd) = c) := Lib.hid (by rw [← Hc.out]; simp [refCmd, refDest, refPos, refData])
                    have HX : RowKit.Hid (World.blk wr X (cmdC c) 30) := Lib.hid (by rw [← Hce.out]; exact HX2.out)
                    have HKX := HK2
                    as_aux_lemma =>
                      obtain ⟨c0, c1, c2, c3, c4⟩ := cmd_cells HX.out
                      have hblX := blk_lt HX.out
                      clear hL1
                      go_wp2_with fail
                      refine (rprint_any c wr HS.out).mono ?_
                      rintro e w4 ⟨rfl, hk4⟩
                      have HK4 := Lib.hid (HKX.out.keep hk4)
                      have HX4 := Lib.hid (blk_mod hk4 HX.out id)
                      clear hk4 c0 c1 c2 c3 c4 HX HKX
                      by_cases hok : c.ok = true
                      · by_cases hli : c.line = s
                        · have Hp : RowKit.Hid (parseC s = some c) := Lib.hid (by
                            rw [← HP.out]; exact first_of (Nat.zero_le _) (by omega) (by rw [HTk.out]; simp [hok, hli]) (fun i _ hi => HA.out i hi))
                          rw [show printV c = .tuple #[.string ⟨s.toArray⟩, .int .i64 0] by rw [printV, if_pos hok, hli]]
                          have ess : (s == s) = true := beq_self_eq_true s
                          have hR := blk_mod HK4.out HR1.out id
                          have hlt2 := blk_lt hR
                          obtain ⟨c0, c1, c2, c3, c4⟩ := cmd_cells (putB_blk_other (c := cmdC Cmd.zero) (t := 30) HX4.out (k := X) (b := w.heap.size) (by have := blk_lt HR1.out; have := HXs.out; omega))
                          rw [← putB_self hR]
                          clear hR hok hli
                          unfold cmdC Cmd.zero at *
                          go_wp2_with fail
                          exact bodyPost_ret (v := .tuple #[cmdV c, .int .i64 0]) (by simp [results, Tryd.results16, go_sem, hlt2, cmdV, cmdC]) rfl ⟨by rw [parseV, Hp.out], (HK1.out.keep HK4.out).putB (.inr (Nat.le_refl _)) _ _⟩
                        · have Hn : RowKit.Hid (∀ j, j < 3 + 1 → refTry s j = none) := Lib.hid (Hno.out (by rw [HTk.out]; simp [hli]))
                          have bls : (c.line == s) = false := beq_false_of_ne hli
                          rw [show printV c = .tuple #[.string ⟨c.line.toArray⟩, .int .i64 0] by rw [printV, if_pos hok]]
                          clear hok hli
                          go_wp2_with fail
                          exact ⟨⟨3 + 1, by omega, by go_num, HK4.out, Hn.out⟩, by simp [intOf] <;> omega⟩
                      · have Hn : RowKit.Hid (∀ j, j < 3 + 1 → refTry s j = none) := Lib.hid (Hno.out (by rw [HTk.out]; simp [hok]))
                        rw [show printV c = .tuple #[.string ⟨#[]⟩, .int .i64 130] by rw [printV, if_neg hok]]
                        clear hok
                        go_wp2_with fail
                        exact ⟨⟨3 + 1, by omega, by go_num, HK4.out, Hn.out⟩, by simp [intOf] <;> omega⟩
                · have e6 : L2.take j = L2.take 6 := by rw [List.take_of_length_le (by omega), List.take_of_length_le (by omega)]
                  rw [e6] at HX2
                  have hjl' : ¬ (j : Int) < (L2.length : Int) := by omega
                  clear e6
                  have Hce : RowKit.Hid ((⟨3, L1, [], decV (L2.take 6), []⟩ : Cmd) = c) := Lib.hid (by rw [← Hc.out]; simp [refCmd, refDest, refPos, refData])
                  have HX : RowKit.Hid (World.blk wr X (cmdC c) 30) := Lib.hid (by rw [← Hce.out]; exact HX2.out)
                  have HKX := HK2
                  as_aux_lemma =>
                    obtain ⟨c0, c1, c2, c3, c4⟩ := cmd_cells HX.out
                    have hblX := blk_lt HX.out
                    clear hL1
                    go_wp2_with fail
                    refine (rprint_any c wr HS.out).mono ?_
                    rintro e w4 ⟨rfl, hk4⟩
                    have HK4 := Lib.hid (HKX.out.keep hk4)
                    have HX4 := Lib.hid (blk_mod hk4 HX.out id)
                    clear hk4 c0 c1 c2 c3 c4 HX HKX
                    by_cases hok : c.ok = true
                    · by_cases hli : c.line = s
                      · have Hp : RowKit.Hid (parseC s = some c) := Lib.hid (by
                          rw [← HP.out]; exact first_of (Nat.zero_le _) (by omega) (by rw [HTk.out]; simp [hok, hli]) (fun i _ hi => HA.out i hi))
                        rw [show printV c = .tuple #[.string ⟨s.toArray⟩, .int .i64 0] by rw [printV, if_pos hok, hli]]
                        have ess : (s == s) = true := beq_self_eq_true s
                        have hR := blk_mod HK4.out HR1.out id
                        have hlt2 := blk_lt hR
                        obtain ⟨c0, c1, c2, c3, c4⟩ := cmd_cells (putB_blk_other (c := cmdC Cmd.zero) (t := 30) HX4.out (k := X) (b := w.heap.size) (by have := blk_lt HR1.out; have := HXs.out; omega))
                        rw [← putB_self hR]
                        clear hR hok hli
                        unfold cmdC Cmd.zero at *
                        go_wp2_with fail
                        exact bodyPost_ret (v := .tuple #[cmdV c, .int .i64 0]) (by simp [results, Tryd.results16, go_sem, hlt2, cmdV, cmdC]) rfl ⟨by rw [parseV, Hp.out], (HK1.out.keep HK4.out).putB (.inr (Nat.le_refl _)) _ _⟩
                      · have Hn : RowKit.Hid (∀ j, j < 3 + 1 → refTry s j = none) := Lib.hid (Hno.out (by rw [HTk.out]; simp [hli]))
                        have bls : (c.line == s) = false := beq_false_of_ne hli
                        rw [show printV c = .tuple #[.string ⟨c.line.toArray⟩, .int .i64 0] by rw [printV, if_pos hok]]
                        clear hok hli
                        go_wp2_with fail
                        exact ⟨⟨3 + 1, by omega, by go_num, HK4.out, Hn.out⟩, by simp [intOf] <;> omega⟩
                    · have Hn : RowKit.Hid (∀ j, j < 3 + 1 → refTry s j = none) := Lib.hid (Hno.out (by rw [HTk.out]; simp [hok]))
                      rw [show printV c = .tuple #[.string ⟨#[]⟩, .int .i64 130] by rw [printV, if_neg hok]]
                      clear hok
                      go_wp2_with fail
                      exact ⟨⟨3 + 1, by omega, by go_num, HK4.out, Hn.out⟩, by simp [intOf] <;> omega⟩
        · as_aux_lemma =>
            by_cases hm3 : m = 3
            · subst hm3
              obtain ⟨L2, rfl⟩ : ∃ L2, L' = [L2] := by
                have h := HM.out
                rcases L' with _ | ⟨a, _ | ⟨b, r⟩⟩
                · simp at h
                · exact ⟨_, rfl⟩
                · simp at h
              obtain ⟨b2, o2, e2, hb2, hc2⟩ := HC.out 2 L2 rfl
              cases e2
              have hL2 := hc2 w2 HK2.out
              have Hce : RowKit.Hid ((⟨4, L1, L2, 0, []⟩ : Cmd) = c) := Lib.hid (by rw [← Hc.out]; rfl)
              obtain ⟨c0, c1, c2, c3, c4⟩ := cmd_cells HX2.out
              have hfz : w2.frozen? ⟨X, 2, none⟩ = false := blk_free HX2.out _ rfl
              clear hc2
              go_upto_region 9 with (fail)
              have HX : RowKit.Hid (World.blk (w2.setCell ⟨X, 2, none⟩ (.string ⟨L2.toArray⟩)) X (cmdC c) 30) := Lib.hid (by rw [← Hce.out]; exact blk_set HX2.out _ _)
              have HKX : RowKit.Hid (Keep w1 (w2.setCell ⟨X, 2, none⟩ (.string ⟨L2.toArray⟩))) := Lib.hid (HK2.out.setCell (.inr HXs.out) _)
              clear c0 c1 c2 c3 c4 hfz HX2 HK2 hL2
              generalize w2.setCell ⟨X, 2, none⟩ (.string ⟨L2.toArray⟩) = w3 at *
              as_aux_lemma =>
                obtain ⟨c0, c1, c2, c3, c4⟩ := cmd_cells HX.out
                have hblX := blk_lt HX.out
                clear hL1
                go_wp2_with fail
                refine (rprint_any c w3 HS.out).mono ?_
                rintro e w4 ⟨rfl, hk4⟩
                have HK4 := Lib.hid (HKX.out.keep hk4)
                have HX4 := Lib.hid (blk_mod hk4 HX.out id)
                clear hk4 c0 c1 c2 c3 c4 HX HKX
                by_cases hok : c.ok = true
                · by_cases hli : c.line = s
                  · have Hp : RowKit.Hid (parseC s = some c) := Lib.hid (by
                      rw [← HP.out]; exact first_of (Nat.zero_le _) (by omega) (by rw [HTk.out]; simp [hok, hli]) (fun i _ hi => HA.out i hi))
                    rw [show printV c = .tuple #[.string ⟨s.toArray⟩, .int .i64 0] by rw [printV, if_pos hok, hli]]
                    have ess : (s == s) = true := beq_self_eq_true s
                    have hR := blk_mod HK4.out HR1.out id
                    have hlt2 := blk_lt hR
                    obtain ⟨c0, c1, c2, c3, c4⟩ := cmd_cells (putB_blk_other (c := cmdC Cmd.zero) (t := 30) HX4.out (k := X) (b := w.heap.size) (by have := blk_lt HR1.out; have := HXs.out; omega))
                    rw [← putB_self hR]
                    clear hR hok hli
                    unfold cmdC Cmd.zero at *
                    go_wp2_with fail
                    exact bodyPost_ret (v := .tuple #[cmdV c, .int .i64 0]) (by simp [results, Tryd.results16, go_sem, hlt2, cmdV, cmdC]) rfl ⟨by rw [parseV, Hp.out], (HK1.out.keep HK4.out).putB (.inr (Nat.le_refl _)) _ _⟩
                  · have Hn : RowKit.Hid (∀ j, j < 4 + 1 → refTry s j = none) := Lib.hid (Hno.out (by rw [HTk.out]; simp [hli]))
                    have bls : (c.line == s) = false := beq_false_of_ne hli
                    rw [show printV c = .tuple #[.string ⟨c.line.toArray⟩, .int .i64 0] by rw [printV, if_pos hok]]
                    clear hok hli
                    go_wp2_with fail
                    exact ⟨⟨4 + 1, by omega, by go_num, HK4.out, Hn.out⟩, by simp [intOf] <;> omega⟩
                · have Hn : RowKit.Hid (∀ j, j < 4 + 1 → refTry s j = none) := Lib.hid (Hno.out (by rw [HTk.out]; simp [hok]))
                  rw [show printV c = .tuple #[.string ⟨#[]⟩, .int .i64 130] by rw [printV, if_neg hok]]
                  clear hok
                  go_wp2_with fail
                  exact ⟨⟨4 + 1, by omega, by go_num, HK4.out, Hn.out⟩, by simp [intOf] <;> omega⟩
            · have bm3 : ((m : Int) == 3) = false := beq_false_of_ne (by omega)
              have Hce : RowKit.Hid ((⟨4, L1, [], 0, []⟩ : Cmd) = c) := Lib.hid (by rw [← Hc.out]; simp [refCmd, refDest, refPos, refData, HM.out, hm3])
              have HX : RowKit.Hid (World.blk w2 X (cmdC c) 30) := Lib.hid (by rw [← Hce.out]; exact HX2.out)
              have HKX := HK2
              clear hm3
              as_aux_lemma =>
                obtain ⟨c0, c1, c2, c3, c4⟩ := cmd_cells HX.out
                have hblX := blk_lt HX.out
                clear hL1
                go_wp2_with fail
                refine (rprint_any c w2 HS.out).mono ?_
                rintro e w4 ⟨rfl, hk4⟩
                have HK4 := Lib.hid (HKX.out.keep hk4)
                have HX4 := Lib.hid (blk_mod hk4 HX.out id)
                clear hk4 c0 c1 c2 c3 c4 HX HKX
                by_cases hok : c.ok = true
                · by_cases hli : c.line = s
                  · have Hp : RowKit.Hid (parseC s = some c) := Lib.hid (by
                      rw [← HP.out]; exact first_of (Nat.zero_le _) (by omega) (by rw [HTk.out]; simp [hok, hli]) (fun i _ hi => HA.out i hi))
                    rw [show printV c = .tuple #[.string ⟨s.toArray⟩, .int .i64 0] by rw [printV, if_pos hok, hli]]
                    have ess : (s == s) = true := beq_self_eq_true s
                    have hR := blk_mod HK4.out HR1.out id
                    have hlt2 := blk_lt hR
                    obtain ⟨c0, c1, c2, c3, c4⟩ := cmd_cells (putB_blk_other (c := cmdC Cmd.zero) (t := 30) HX4.out (k := X) (b := w.heap.size) (by have := blk_lt HR1.out; have := HXs.out; omega))
                    rw [← putB_self hR]
                    clear hR hok hli
                    unfold cmdC Cmd.zero at *
                    go_wp2_with fail
                    exact bodyPost_ret (v := .tuple #[cmdV c, .int .i64 0]) (by simp [results, Tryd.results16, go_sem, hlt2, cmdV, cmdC]) rfl ⟨by rw [parseV, Hp.out], (HK1.out.keep HK4.out).putB (.inr (Nat.le_refl _)) _ _⟩
                  · have Hn : RowKit.Hid (∀ j, j < 4 + 1 → refTry s j = none) := Lib.hid (Hno.out (by rw [HTk.out]; simp [hli]))
                    have bls : (c.line == s) = false := beq_false_of_ne hli
                    rw [show printV c = .tuple #[.string ⟨c.line.toArray⟩, .int .i64 0] by rw [printV, if_pos hok]]
                    clear hok hli
                    go_wp2_with fail
                    exact ⟨⟨4 + 1, by omega, by go_num, HK4.out, Hn.out⟩, by simp [intOf] <;> omega⟩
                · have Hn : RowKit.Hid (∀ j, j < 4 + 1 → refTry s j = none) := Lib.hid (Hno.out (by rw [HTk.out]; simp [hok]))
                  rw [show printV c = .tuple #[.string ⟨#[]⟩, .int .i64 130] by rw [printV, if_neg hok]]
                  clear hok
                  go_wp2_with fail
                  exact ⟨⟨4 + 1, by omega, by go_num, HK4.out, Hn.out⟩, by simp [intOf] <;> omega⟩
        · as_aux_lemma =>
            by_cases hm3 : m = 3
            · subst hm3
              obtain ⟨L2, rfl⟩ : ∃ L2, L' = [L2] := by
                have h := HM.out
                rcases L' with _ | ⟨a, _ | ⟨b, r⟩⟩
                · simp at h
                · exact ⟨_, rfl⟩
                · simp at h
              obtain ⟨b2, o2, e2, hb2, hc2⟩ := HC.out 2 L2 rfl
              cases e2
              have hL2 := hc2 w2 HK2.out
              have Hce : RowKit.Hid ((⟨5, L1, L2, 0, []⟩ : Cmd) = c) := Lib.hid (by rw [← Hc.out]; rfl)
              obtain ⟨c0, c1, c2, c3, c4⟩ := cmd_cells HX2.out
              have hfz : w2.frozen? ⟨X, 2, none⟩ = false := blk_free HX2.out _ rfl
              clear hc2
              go_upto_region 9 with (fail)
              have HX : RowKit.Hid (World.blk (w2.setCell ⟨X, 2, none⟩ (.string ⟨L2.toArray⟩)) X (cmdC c) 30) := Lib.hid (by rw [← Hce.out]; exact blk_set HX2.out _ _)
              have HKX : RowKit.Hid (Keep w1 (w2.setCell ⟨X, 2, none⟩ (.string ⟨L2.toArray⟩))) := Lib.hid (HK2.out.setCell (.inr HXs.out) _)
              clear c0 c1 c2 c3 c4 hfz HX2 HK2 hL2
              generalize w2.setCell ⟨X, 2, none⟩ (.string ⟨L2.toArray⟩) = w3 at *
              as_aux_lemma =>
                obtain ⟨c0, c1, c2, c3, c4⟩ := cmd_cells HX.out
                have hblX := blk_lt HX.out
                clear hL1
                go_wp2_with fail
                refine (rprint_any c w3 HS.out).mono ?_
                rintro e w4 ⟨rfl, hk4⟩
                have HK4 := Lib.hid (HKX.out.keep hk4)
                have HX4 := Lib.hid (blk_mod hk4 HX.out id)
                clear hk4 c0 c1 c2 c3 c4 HX HKX
                by_cases hok : c.ok = true
                · by_cases hli : c.line = s
                  · have Hp : RowKit.Hid (parseC s = some c) := Lib.hid (by
                      rw [← HP.out]; exact first_of (Nat.zero_le _) (by omega) (by rw [HTk.out]; simp [hok, hli]) (fun i _ hi => HA.out i hi))
                    rw [show printV c = .tuple #[.string ⟨s.toArray⟩, .int .i64 0] by rw [printV, if_pos hok, hli]]
                    have ess : (s == s) = true := beq_self_eq_true s
                    have hR := blk_mod HK4.out HR1.out id
                    have hlt2 := blk_lt hR
                    obtain ⟨c0, c1, c2, c3, c4⟩ := cmd_cells (putB_blk_other (c := cmdC Cmd.zero) (t := 30) HX4.out (k := X) (b := w.heap.size) (by have := blk_lt HR1.out; have := HXs.out; omega))
                    rw [← putB_self hR]
                    clear hR hok hli
                    unfold cmdC Cmd.zero at *
                    go_wp2_with fail
                    exact bodyPost_ret (v := .tuple #[cmdV c, .int .i64 0]) (by simp [results, Tryd.results16, go_sem, hlt2, cmdV, cmdC]) rfl ⟨by rw [parseV, Hp.out], (HK1.out.keep HK4.out).putB (.inr (Nat.le_refl _)) _ _⟩
                  · have Hn : RowKit.Hid (∀ j, j < 5 + 1 → refTry s j = none) := Lib.hid (Hno.out (by rw [HTk.out]; simp [hli]))
                    have bls : (c.line == s) = false := beq_false_of_ne hli
                    rw [show printV c = .tuple #[.string ⟨c.line.toArray⟩, .int .i64 0] by rw [printV, if_pos hok]]
                    clear hok hli
                    go_wp2_with fail
                    exact ⟨⟨5 + 1, by omega, by go_num, HK4.out, Hn.out⟩, by simp [intOf] <;> omega⟩
                · have Hn : RowKit.Hid (∀ j, j < 5 + 1 → refTry s j = none) := Lib.hid (Hno.out (by rw [HTk.out]; simp [hok]))
                  rw [show printV c = .tuple #[.string ⟨#[]⟩, .int .i64 130] by rw [printV, if_neg hok]]
                  clear hok
                  go_wp2_with fail
                  exact ⟨⟨5 + 1, by omega, by go_num, HK4.out, Hn.out⟩, by simp [intOf] <;> omega⟩
            · have bm3 : ((m : Int) == 3) = false := beq_false_of_ne (by omega)
              have Hce : RowKit.Hid ((⟨5, L1, [], 0, []⟩ : Cmd) = c) := Lib.hid (by rw [← Hc.out]; simp [refCmd, refDest, refPos, refData, HM.out, hm3])
              have HX : RowKit.Hid (World.blk w2 X (cmdC c) 30) := Lib.hid (by rw [← Hce.out]; exact HX2.out)
              have HKX := HK2
              clear hm3
              as_aux_lemma =>
                obtain ⟨c0, c1, c2, c3, c4⟩ := cmd_cells HX.out
                have hblX := blk_lt HX.out
                clear hL1
                go_wp2_with fail
                refine (rprint_any c w2 HS.out).mono ?_
                rintro e w4 ⟨rfl, hk4⟩
                have HK4 := Lib.hid (HKX.out.keep hk4)
                have HX4 := Lib.hid (blk_mod hk4 HX.out id)
                clear hk4 c0 c1 c2 c3 c4 HX HKX
                by_cases hok : c.ok = true
                · by_cases hli : c.line = s
                  · have Hp : RowKit.Hid (parseC s = some c) := Lib.hid (by
                      rw [← HP.out]; exact first_of (Nat.zero_le _) (by omega) (by rw [HTk.out]; simp [hok, hli]) (fun i _ hi => HA.out i hi))
                    rw [show printV c = .tuple #[.string ⟨s.toArray⟩, .int .i64 0] by rw [printV, if_pos hok, hli]]
                    have ess : (s == s) = true := beq_self_eq_true s
                    have hR := blk_mod HK4.out HR1.out id
                    have hlt2 := blk_lt hR
                    obtain ⟨c0, c1, c2, c3, c4⟩ := cmd_cells (putB_blk_other (c := cmdC Cmd.zero) (t := 30) HX4.out (k := X) (b := w.heap.size) (by have := blk_lt HR1.out; have := HXs.out; omega))
                    rw [← putB_self hR]
                    clear hR hok hli
                    unfold cmdC Cmd.zero at *
                    go_wp2_with fail
                    exact bodyPost_ret (v := .tuple #[cmdV c, .int .i64 0]) (by simp [results, Tryd.results16, go_sem, hlt2, cmdV, cmdC]) rfl ⟨by rw [parseV, Hp.out], (HK1.out.keep HK4.out).putB (.inr (Nat.le_refl _)) _ _⟩
                  · have Hn : RowKit.Hid (∀ j, j < 5 + 1 → refTry s j = none) := Lib.hid (Hno.out (by rw [HTk.out]; simp [hli]))
                    have bls : (c.line == s) = false := beq_false_of_ne hli
                    rw [show printV c = .tuple #[.string ⟨c.line.toArray⟩, .int .i64 0] by rw [printV, if_pos hok]]
                    clear hok hli
                    go_wp2_with fail
                    exact ⟨⟨5 + 1, by omega, by go_num, HK4.out, Hn.out⟩, by simp [intOf] <;> omega⟩
                · have Hn : RowKit.Hid (∀ j, j < 5 + 1 → refTry s j = none) := Lib.hid (Hno.out (by rw [HTk.out]; simp [hok]))
                  rw [show printV c = .tuple #[.string ⟨#[]⟩, .int .i64 130] by rw [printV, if_neg hok]]
                  clear hok
                  go_wp2_with fail
                  exact ⟨⟨5 + 1, by omega, by go_num, HK4.out, Hn.out⟩, by simp [intOf] <;> omega⟩
        · as_aux_lemma =>
            have Hce : RowKit.Hid ((⟨k, L1, [], 0, []⟩ : Cmd) = c) := Lib.hid (by rw [← Hc.out]; simp [refCmd, refDest, refPos, refData, n2, n3, n4, n5])
            have b2 : ((k : Int) == 2) = false := beq_false_of_ne (by omega)
            have b3 : ((k : Int) == 3) = false := beq_false_of_ne (by omega)
            have b4 : ((k : Int) == 4) = false := beq_false_of_ne (by omega)
            have b5 : ((k : Int) == 5) = false := beq_false_of_ne (by omega)
            have HX : RowKit.Hid (World.blk w2 X (cmdC c) 30) := Lib.hid (by rw [← Hce.out]; exact HX2.out)
            have HKX := HK2
            clear n2 n3 n4 n5
            as_aux_lemma =>
              obtain ⟨c0, c1, c2, c3, c4⟩ := cmd_cells HX.out
              have hblX := blk_lt HX.out
              clear hL1
              go_wp2_with fail
              refine (rprint_any c w2 HS.out).mono ?_
              rintro e w4 ⟨rfl, hk4⟩
              have HK4 := Lib.hid (HKX.out.keep hk4)
              have HX4 := Lib.hid (blk_mod hk4 HX.out id)
              clear hk4 c0 c1 c2 c3 c4 HX HKX
              by_cases hok : c.ok = true
              · by_cases hli : c.line = s
                · have Hp : RowKit.Hid (parseC s = some c) := Lib.hid (by
                    rw [← HP.out]; exact first_of (Nat.zero_le _) (by omega) (by rw [HTk.out]; simp [hok, hli]) (fun i _ hi => HA.out i hi))
                  rw [show printV c = .tuple #[.string ⟨s.toArray⟩, .int .i64 0] by rw [printV, if_pos hok, hli]]
                  have ess : (s == s) = true := beq_self_eq_true s
                  have hR := blk_mod HK4.out HR1.out id
                  have hlt2 := blk_lt hR
                  obtain ⟨c0, c1, c2, c3, c4⟩ := cmd_cells (putB_blk_other (c := cmdC Cmd.zero) (t := 30) HX4.out (k := X) (b := w.heap.size) (by have := blk_lt HR1.out; have := HXs.out; omega))
                  rw [← putB_self hR]
                  clear hR hok hli
                  unfold cmdC Cmd.zero at *
                  go_wp2_with fail
                  exact bodyPost_ret (v := .tuple #[cmdV c, .int .i64 0]) (by simp [results, Tryd.results16, go_sem, hlt2, cmdV, cmdC]) rfl ⟨by rw [parseV, Hp.out], (HK1.out.keep HK4.out).putB (.inr (Nat.le_refl _)) _ _⟩
                · have Hn : RowKit.Hid (∀ j, j < k + 1 → refTry s j = none) := Lib.hid (Hno.out (by rw [HTk.out]; simp [hli]))
                  have bls : (c.line == s) = false := beq_false_of_ne hli
                  rw [show printV c = .tuple #[.string ⟨c.line.toArray⟩, .int .i64 0] by rw [printV, if_pos hok]]
                  clear hok hli
                  go_wp2_with fail
                  exact ⟨⟨k + 1, by omega, by go_num, HK4.out, Hn.out⟩, by simp [intOf] <;> omega⟩
              · have Hn : RowKit.Hid (∀ j, j < k + 1 → refTry s j = none) := Lib.hid (Hno.out (by rw [HTk.out]; simp [hok]))
                rw [show printV c = .tuple #[.string ⟨#[]⟩, .int .i64 130] by rw [printV, if_neg hok]]
                clear hok
                go_wp2_with fail
                exact ⟨⟨k + 1, by omega, by go_num, HK4.out, Hn.out⟩, by simp [intOf] <;> omega⟩
      · have Hn : RowKit.Hid (parseC s = none) := Lib.hid (by
          rw [← HP.out]; exact first_none (fun j _ _ => by rw [HT.out, if_neg hmm]))
        have hmd : (m < 2) ∨ (2 ≤ m ∧ 4 < m) := by omega
        have hlt2 := blk_lt (blk_mod HK.out HR1.out id)
        have hR := blk_mod HK.out HR1.out id
        rw [← putB_self hR]
        clear hR hmm
        unfold cmdC Cmd.zero at *
        rcases hmd with h | ⟨h, h'⟩
        all_goals
          go_wp2_with fail
          exact bodyPost_ret (v := .tuple #[cmdV Cmd.zero, .int .i64 130]) (by simp [results, Tryd.results16, go_sem, hlt2, cmdV, cmdC, Cmd.zero]) rfl ⟨by rw [parseV, Hn.out], (HK1.out.keep HK.out).putB (.inr (Nat.le_refl _)) _ _⟩
    · obtain rfl : k = 9 := by omega
      have Hn : RowKit.Hid (parseC s = none) := Lib.hid (by
        rw [← HP.out]; exact first_none (fun j _ hj => HA.out j (by omega)))
      have hlt2 := blk_lt (blk_mod HK.out HR1.out id)
      have hR := blk_mod HK.out HR1.out id
      rw [← putB_self hR]
      clear hR
      unfold cmdC Cmd.zero at *
      go_wp2_with fail
      exact bodyPost_ret (v := .tuple #[cmdV Cmd.zero, .int .i64 130]) (by simp [results, Tryd.results16, go_sem, hlt2, cmdV, cmdC, Cmd.zero]) rfl ⟨by rw [parseV, Hn.out], (HK1.out.keep HK.out).putB (.inr (Nat.le_refl _)) _ _⟩
end Go.Proofs.YtpjfeonhdkkfpaaDoor
