/-
  The walk of FileDoes.
-/
import Derived.Test.YthmpblccplphfaaGreatDoorFilFixed
import Derived.Test.YthmpblccplphfaaGreatDoorFilClone
import Derived.Test.YthmpblccplphfaaGreatDoorRefLaw
import Derived.Test.YthmpblccplphfaaGreatDoorSameStrs
namespace Go.Proofs.YthmpblccplphfaaGreatDoor
open Go.RowKit
theorem clone_in2 {w0 w : World} {p : Nat} {T : Tr} {role : Nat → Role} (h : TreeIn w0 w p T role) : Calls Tryz.prog 22 #[.pointer (some ⟨p, 0, none⟩)] w fun e w' => ∃ q role2, e = .returned (.pointer (some ⟨q, 0, none⟩)) ∧ TreeIn w0 w' q T role2 ∧ (∀ b, role2 b ≠ .none → w.heap.size ≤ b) ∧ Keep w w' := by
  obtain ⟨tb, A, M, ht⟩ := h.tree
  obtain ⟨d, hw⟩ := h.wf
  refine (clone_any ht hw).mono ?_
  rintro e w' ⟨q, tb, A, M, role2, rfl, h1, h2, h3⟩
  exact ⟨q, role2, rfl, ⟨⟨tb, A, M, h1⟩, fun b hb => Nat.le_trans h.keep.size (h2 b hb), h.keep.keep h3, ⟨d, hw⟩⟩, h2, h3⟩
theorem getV_shape (r : Except Int Nd) : ∃ y f, getV r = .tuple #[nodeV y, .int .i64 f] := by
  cases r with
  | error e => exact ⟨_, _, rfl⟩
  | ok n => exact ⟨_, _, rfl⟩
theorem readV_shape (x : List UInt8 × Int) : readV x = .tuple #[.string ⟨x.1.toArray⟩, .int .i64 x.2] := rfl
theorem listR_len {T : Tr} {d : Int → Nat} (hw : WF T d) (path : List UInt8) : (listR (nodeT T path)).1.length ≤ 60 := by
  rcases node_cases hw path with ⟨e, _, hn, _⟩ | ⟨j, n, _, hg, hn⟩
  · rw [hn]; simp [listR]
  · rw [hn]
    have := (hw.names n ((get_iff hw.sorted).1 hg).1).1
    unfold listR
    simp only
    split
    · simpa using this
    · simp
set_option maxRecDepth 100000 in
set_option maxHeartbeats 16000000 in
theorem law_does (v : Value) (l : List Cmd) (v2 : Value) (l2 : List Look) (w : World) (he : Env w) (hv : RowF cmdL 5 w v l) (hl : l.length ≤ 1048576) (hc : ∀ c ∈ l, c.Small) (hv2 : RowF lookL 3 w v2 l2) (hl2 : l2.length ≤ 1048576) (hc2 : ∀ c ∈ l2, c.Small) :
    Calls Tryz.prog 9 #[v, v2] w fun e w' => e = .returned (.bool true) ∧ Keep w w' := by
  obtain ⟨av, cap, rfl, hrow⟩ := hv
  obtain ⟨av2, cap2, rfl, hrow2⟩ := hv2
  have He := Lib.hid he
  have HR := Lib.hid hrow
  have HC := Lib.hid hc
  have HR2 := Lib.hid hrow2
  have HC2 := Lib.hid hc2
  have hn : (l.length : Int) ≤ 1048576 := by omega
  have hn2 : (l2.length : Int) ≤ 1048576 := by omega
  clear he hrow hc hrow2 hc2
  go_enter Tryz.func9, Tryz.ntmps9
  go_wp2_with fail
  refine (new_in w w (Mod.refl _ _)).mono ?_
  rintro e w1 ⟨p, ro, rfl, h1, _, k1⟩
  have H1 := Lib.hid h1
  have HK1 := Lib.hid k1
  clear h1 k1
  go_wp2_with fail
  refine (rnew_any w1).mono ?_
  rintro e w2 ⟨m, rfl, hr, hm, k2⟩
  have H2 := Lib.hid (H1.out.kept k2)
  have HRf := Lib.hid hr
  have Hm : RowKit.Hid (w.heap.size ≤ m) := Lib.hid (Nat.le_trans HK1.out.size hm)
  clear hr hm k2 H1 HK1
  go_wp2_with fail
  go_loopw [5, 7] (fun t i wr => ∃ (k : Nat) (T : Tr) (p : Nat) (role : Nat → Role), k ≤ l.length ∧ k ≤ 150 ∧ i = .int .i64 (k : Int) ∧ t = .pointer (some ⟨p, 0, none⟩) ∧ TreeIn w wr p T role ∧ RefAt wr m (toldT T)) (fun _ i _ => 150 - (intOf i).toNat)
  case atStart => exact ⟨0, _, _, _, by omega, by omega, rfl, rfl, H2.out, HRf.out⟩
  case round =>
    clear H2 HRf
    obtain ⟨k, T, p, role, hkn, hk150, rfl, rfl, hT, hRf⟩ := hrel
    have HT := Lib.hid hT
    have HF := Lib.hid hRf
    obtain ⟨d, hw⟩ := hT.wf
    have HW := Lib.hid hw
    have HT60 := Lib.hid hT.many
    clear hT hRf hw
    by_cases hlt : k < l.length ∧ k < 150
    · obtain ⟨hlt1, hlt2⟩ := hlt
      obtain ⟨c, hcx⟩ : ∃ c, l[k]? = some c := ⟨_, List.getElem?_eq_getElem hlt1⟩
      have Hsm := Lib.hid (HC.out c (List.mem_of_getElem? hcx))
      obtain ⟨b, o, rfl, hcell⟩ := HR.out k c hcx
      have HCell := Lib.hid hcell
      have d1 : (k : Int) < 150 := by omega
      have d2 : (k : Int) < l.length := by omega
      have dr : (0 : Int) ≤ k := by omega
      have HCW : RowKit.Hid (∀ W, Keep w W → W.cell? ⟨b, o + k * 5, none⟩ = some (.int .i64 c.kind) ∧ W.cell? ⟨b, o + k * 5 + 1, none⟩ = some (.string ⟨c.path.toArray⟩) ∧ W.cell? ⟨b, o + k * 5 + 2, none⟩ = some (.string ⟨c.dest.toArray⟩) ∧ W.cell? ⟨b, o + k * 5 + 3, none⟩ = some (.int .i64 c.pos) ∧ W.cell? ⟨b, o + k * 5 + 4, none⟩ = some (.string ⟨c.data.toArray⟩)) := Lib.hid (fun W hk => by
        have h0 := hcell 0 _ rfl
        have h1 := hcell 1 _ rfl
        have h2 := hcell 2 _ rfl
        have h3 := hcell 3 _ rfl
        have h4 := hcell 4 _ rfl
        refine ⟨?_, ?_, ?_, ?_, ?_⟩
        · rw [hk.cell (p := ⟨b, o + k * 5, none⟩) (lt_of_cell h0) id]; exact h0
        · rw [hk.cell (p := ⟨b, o + k * 5 + 1, none⟩) (lt_of_cell h1) id]; exact h1
        · rw [hk.cell (p := ⟨b, o + k * 5 + 2, none⟩) (lt_of_cell h2) id]; exact h2
        · rw [hk.cell (p := ⟨b, o + k * 5 + 3, none⟩) (lt_of_cell h3) id]; exact h3
        · rw [hk.cell (p := ⟨b, o + k * 5 + 4, none⟩) (lt_of_cell h4) id]; exact h4)
      clear hcell hcx HCell
      rcases Bool.eq_false_or_eq_true ((k : Int) % 11 == 10) with h11 | h11
      · go_wp2_with fail
        refine (clone_in2 HT.out).mono ?_
        rintro e w3 ⟨q, rq, rfl, h3, hq3, hk3⟩
        have H3 := Lib.hid (HT.out.kept hk3)
        have G3 := Lib.hid h3
        have HF3 := Lib.hid (HF.out.keep hk3)
        have A3 : RowKit.Hid (Apart role rq) := Lib.hid fun x hx => Classical.byContradiction fun hn => by
          have h5 := hq3 x hn
          have h6 := HT.out.lt hx
          omega
        clear h3 hq3 hk3 HT HF
        go_wp2_with fail
        refine (do_beside H3.out He.out ⟨0, [47, 108, 101, 102, 116], [], 0, []⟩ ⟨by simp, by simp, by simp, by simp⟩ HF3.out (rooted_wf HW.out)).mono ?_
        rintro e w4 ⟨rfl, ⟨r4, h4, g4⟩, m4, hf4⟩
        have G4 := Lib.hid (G3.out.beside H3.out A3.out m4)
        have A4 := Lib.hid (A3.out.grew G3.out g4)
        have H4 := Lib.hid h4
        have HF4 := Lib.hid hf4
        clear h4 g4 m4 hf4 H3 G3 A3 HF3
        go_wp2_with fail
        refine (do_beside H4.out He.out ⟨2, [47, 97], [], 0, [108, 101, 102, 116]⟩ ⟨by simp, by simp, by simp, by simp⟩ HF4.out (rooted_wf HW.out)).mono ?_
        rintro e w5 ⟨rfl, ⟨r5, h5, g5⟩, m5, hf5⟩
        have HTc := Lib.hid (G4.out.beside H4.out A4.out m5)
        have HFc := Lib.hid hf5
        clear h5 g5 m5 hf5 H4 G4 A4 HF4 h11
        obtain ⟨c0, c1, c2, c3, c4⟩ := HCW.out _ HTc.out.keep
        go_wp2_with fail
        refine (do_beside HTc.out He.out c Hsm.out HFc.out (rooted_wf HW.out)).mono ?_
        obtain ⟨T', e0, hd⟩ : ∃ T' e0, doT T c = (T', e0) := ⟨_, _, rfl⟩
        have Hd := Lib.hid hd
        rw [hd]
        rintro e w6 ⟨rfl, ⟨r6, h6, _⟩, _, hf6⟩
        have H6 : RowKit.Hid (TreeIn w w6 _ T' r6) := Lib.hid h6
        have HF6 := Lib.hid hf6
        clear c0 c1 c2 c3 c4 h6 hf6 HTc HFc hd
        obtain ⟨c0, c1, c2, c3, c4⟩ := HCW.out _ H6.out.keep
        go_wp2_with fail
        refine (rdo_in H6.out Hm.out HF6.out HW.out c Hsm.out).mono ?_
        rw [Hd.out]
        rintro e w7 ⟨rfl, hf7, r7, h7⟩
        have H7 : RowKit.Hid (TreeIn w w7 _ T' r7) := Lib.hid h7
        have F7 : RowKit.Hid (RefAt w7 m (toldT T')) := Lib.hid hf7
        have hee : (e0 != e0) = false := by simp
        clear c0 c1 c2 c3 c4 h7 hf7 H6 HF6 HCW
        have hne : toldT T' ≠ [] := by
          obtain ⟨d', hw'⟩ := H7.out.wf
          obtain ⟨x, r, e, _⟩ := rooted_wf hw'
          rw [e]; simp
        have Hne := Lib.hid hne
        have hL60 : (toldT T').length ≤ 60 := by rw [told_len]; exact H7.out.many
        obtain ⟨L, hL⟩ : ∃ L, (toldT T').length = L := ⟨_, rfl⟩
        have HL := Lib.hid hL
        have hLi : (L : Int) ≤ 60 := by omega
        have HL60 := Lib.hid hL60
        clear hne hL60 hL
        go_wp2_with fail
        clear hee
        go_loopw [11] (fun i wt => ∃ n : Nat, n ≤ 2 ∧ i = .int .i64 (n : Int) ∧ Keep w7 wt) (fun i _ => 2 - (intOf i).toNat)
        case atStart => exact ⟨0, by omega, rfl, Mod.refl _ _⟩
        case round =>
          obtain ⟨n, hn2', rfl, hK⟩ := hrel
          have HK := Lib.hid hK
          clear hK
          by_cases hn2 : n < 2
          · have dn : (n : Int) < 2 := by omega
            clear hn2
            go_wp2_with fail
            refine (nodes_in (H7.out.kept HK.out)).mono ?_
            rintro e w8 ⟨v1, rfl, ho8, hk8⟩
            have HV8 := Lib.hid (rowF_own nodeC_len ho8)
            obtain ⟨g, vcap, cur, rfl, hg, hgb, hgc, hgs⟩ := own_open ho8 Hne.out
            have hg7 : w7.heap.size ≤ g := Nat.le_trans HK.out.size hg
            have HK8 := Lib.hid (HK.out.keep hk8)
            obtain ⟨a, mcap, hmb, hmr⟩ := ((F7.out.keep HK.out).keep hk8).rowF
            have HMR := Lib.hid hmr
            rw [HL.out] at HV8 HMR hmb hgc
            have hm0 : w8.cell? ⟨m, 0, none⟩ = some (.slice a L mcap) := blk_cell hmb 0
            have HGB := Lib.hid hgb
            clear ho8 hk8 hmb hmr hg hgb HK
            rw [HL.out]
            go_wp2_with fail
            refine (same_nodes _ _ (toldT T') (toldT T') w8 HV8.out HMR.out (by have := HL60.out; omega) (by have := HL60.out; omega)).mono ?_
            rw [show decide (toldT T' = toldT T') = true from decide_eq_true rfl]
            rintro e w9 ⟨rfl, hk9⟩
            have HK9 := Lib.hid (HK8.out.keep hk9)
            have HGB9 := Lib.hid (blk_mod hk9 HGB.out id)
            clear hk9 hm0 HMR HV8 HK8 HGB
            go_wp2_with fail
            go_loopw [13] (fun i wu => ∃ (j : Nat) (cur : Array Value), j ≤ L ∧ i = .int .i64 (j : Int) ∧ Keep w7 wu ∧ World.blk wu g cur 41 ∧ cur.size = vcap * 4) (fun i _ => L - (intOf i).toNat)
            case atStart => exact ⟨0, cur, by omega, rfl, HK9.out, HGB9.out, hgs⟩
            case round =>
              clear HK9 HGB9 hgs
              obtain ⟨j, cur2, hjL, rfl, hK, hB, hsz⟩ := hrel
              have HK := Lib.hid hK
              have HB := Lib.hid hB
              clear hK hB
              by_cases hj : j < L
              · have dj : (j : Int) < L := by omega
                have y0 : wr.cell? ⟨g, j * 4, none⟩ = some (cur2[j * 4]'(by omega)) := (blk_cell HB.out _).trans (Array.getElem?_eq_getElem _)
                have y1 : wr.cell? ⟨g, j * 4 + 1, none⟩ = some (cur2[j * 4 + 1]'(by omega)) := (blk_cell HB.out _).trans (Array.getElem?_eq_getElem _)
                have y2 : wr.cell? ⟨g, j * 4 + 2, none⟩ = some (cur2[j * 4 + 2]'(by omega)) := (blk_cell HB.out _).trans (Array.getElem?_eq_getElem _)
                have y3 : wr.cell? ⟨g, j * 4 + 3, none⟩ = some (cur2[j * 4 + 3]'(by omega)) := (blk_cell HB.out _).trans (Array.getElem?_eq_getElem _)
                have g0 : wr.frozen? ⟨g, j * 4, none⟩ = false := blk_free HB.out _ rfl
                have g1 : wr.frozen? ⟨g, j * 4 + 1, none⟩ = false := blk_free HB.out _ rfl
                have g2 : wr.frozen? ⟨g, j * 4 + 2, none⟩ = false := blk_free HB.out _ rfl
                have g3 : wr.frozen? ⟨g, j * 4 + 3, none⟩ = false := blk_free HB.out _ rfl
                go_wp2_with fail
                exact ⟨⟨j + 1, _, by omega, by go_num, (((HK.out.setCell (p := ⟨g, j * 4, none⟩) (.inr hg7) _).setCell (p := ⟨g, j * 4 + 1, none⟩) (.inr hg7) _).setCell (p := ⟨g, j * 4 + 2, none⟩) (.inr hg7) _).setCell (p := ⟨g, j * 4 + 3, none⟩) (.inr hg7) _, blk_set (blk_set (blk_set (blk_set HB.out _ _) _ _) _ _) _ _, by simp [hsz]⟩, by simp [intOf]; omega⟩
              · obtain rfl : j = L := by omega
                go_wp2_with fail
                exact ⟨⟨n + 1, by omega, by go_num, HK.out⟩, by simp [intOf]; omega⟩
          · obtain rfl : n = 2 := by omega
            by_cases hlo : k < l2.length
            · obtain ⟨x, hx⟩ : ∃ x, l2[k]? = some x := ⟨_, List.getElem?_eq_getElem hlo⟩
              have Hxs := Lib.hid (HC2.out x (List.mem_of_getElem? hx))
              obtain ⟨b2, o2, rfl, hcell2⟩ := HR2.out k x hx
              have hkw := H7.out.keep.keep HK.out
              have e0 : wr.cell? ⟨b2, o2 + k * 3, none⟩ = some (.string ⟨x.path.toArray⟩) := by have h := hcell2 0 _ rfl; rw [hkw.cell (p := ⟨b2, o2 + k * 3, none⟩) (lt_of_cell h) id]; exact h
              have e1 : wr.cell? ⟨b2, o2 + k * 3 + 1, none⟩ = some (.int .i64 x.i) := by have h := hcell2 1 _ rfl; rw [hkw.cell (p := ⟨b2, o2 + k * 3 + 1, none⟩) (lt_of_cell h) id]; exact h
              have e2 : wr.cell? ⟨b2, o2 + k * 3 + 2, none⟩ = some (.int .i64 x.n) := by have h := hcell2 2 _ rfl; rw [hkw.cell (p := ⟨b2, o2 + k * 3 + 2, none⟩) (lt_of_cell h) id]; exact h
              have d3 : (k : Int) < l2.length := by omega
              have HLB : RowKit.Hid (World.blk (wr.alloc (.cells #[.string ⟨x.path.toArray⟩, .int .i64 x.i, .int .i64 x.n] 57)) wr.heap.size #[.string ⟨x.path.toArray⟩, .int .i64 x.i, .int .i64 x.n] 57) := Lib.hid (blk_new _ _ _)
              have HKL : RowKit.Hid (Keep w7 (wr.alloc (.cells #[.string ⟨x.path.toArray⟩, .int .i64 x.i, .int .i64 x.n] 57))) := Lib.hid (HK.out.alloc _)
              have l0 : World.cell? (wr.alloc (.cells #[.string ⟨x.path.toArray⟩, .int .i64 x.i, .int .i64 x.n] 57)) ⟨wr.heap.size, 0, none⟩ = some (.string ⟨x.path.toArray⟩) := blk_cell HLB.out 0
              clear hcell2 hkw hx
              go_wp2_with fail
              clear l0 e0 e1 e2
              generalize (wr.alloc (.cells #[.string ⟨x.path.toArray⟩, .int .i64 x.i, .int .i64 x.n] 57)) = w10 at *
              generalize wr.heap.size = lb at *
              obtain ⟨y, f, hyf⟩ := getV_shape (nodeT T' x.path)
              unfold nodeV at hyf
              refine (get_in (H7.out.kept HKL.out) He.out x.path Hxs.out.path).mono ?_
              rw [hyf]
              rintro e w11 ⟨rfl, hk⟩
              have HKA := Lib.hid ((HKL.out.keep hk).alloc (.cells #[.int .i64 y.num, .bool y.dir, .int .i64 y.links, .string ⟨y.data.toArray⟩] 41))
              have HLA := Lib.hid (blk_alloc (blk_mod hk HLB.out id) (.cells #[.int .i64 y.num, .bool y.dir, .int .i64 y.links, .string ⟨y.data.toArray⟩] 41))
              have HXA : RowKit.Hid (World.blk (w11.alloc (.cells #[.int .i64 y.num, .bool y.dir, .int .i64 y.links, .string ⟨y.data.toArray⟩] 41)) w11.heap.size #[.int .i64 y.num, .bool y.dir, .int .i64 y.links, .string ⟨y.data.toArray⟩] 41) := Lib.hid (blk_new _ _ _)
              have l0 : World.cell? (w11.alloc (.cells #[.int .i64 y.num, .bool y.dir, .int .i64 y.links, .string ⟨y.data.toArray⟩] 41)) ⟨lb, 0, none⟩ = some (.string ⟨x.path.toArray⟩) := blk_cell HLA.out 0
              have l1 : World.cell? (w11.alloc (.cells #[.int .i64 y.num, .bool y.dir, .int .i64 y.links, .string ⟨y.data.toArray⟩] 41)) ⟨lb, 1, none⟩ = some (.int .i64 x.i) := blk_cell HLA.out 1
              have l2' : World.cell? (w11.alloc (.cells #[.int .i64 y.num, .bool y.dir, .int .i64 y.links, .string ⟨y.data.toArray⟩] 41)) ⟨lb, 2, none⟩ = some (.int .i64 x.n) := blk_cell HLA.out 2
              clear hk HKL HLB
              go_wp2_with fail
              clear l0 l1 l2'
              generalize (w11.alloc (.cells #[.int .i64 y.num, .bool y.dir, .int .i64 y.links, .string ⟨y.data.toArray⟩] 41)) = w12 at *
              generalize w11.heap.size = xb at *
              obtain ⟨dd, hw'⟩ := H7.out.wf
              refine (rget_any (F7.out.keep HKA.out) hw' x.path Hxs.out.path).mono ?_
              rw [hyf]
              rintro e w13 ⟨rfl, hk⟩
              have HKB := Lib.hid ((HKA.out.keep hk).alloc (.cells #[.int .i64 y.num, .bool y.dir, .int .i64 y.links, .string ⟨y.data.toArray⟩] 41))
              have HLBb := Lib.hid (blk_alloc (blk_mod hk HLA.out id) (.cells #[.int .i64 y.num, .bool y.dir, .int .i64 y.links, .string ⟨y.data.toArray⟩] 41))
              have HXB := Lib.hid (blk_alloc (blk_mod hk HXA.out id) (.cells #[.int .i64 y.num, .bool y.dir, .int .i64 y.links, .string ⟨y.data.toArray⟩] 41))
              have HYB : RowKit.Hid (World.blk (w13.alloc (.cells #[.int .i64 y.num, .bool y.dir, .int .i64 y.links, .string ⟨y.data.toArray⟩] 41)) w13.heap.size #[.int .i64 y.num, .bool y.dir, .int .i64 y.links, .string ⟨y.data.toArray⟩] 41) := Lib.hid (blk_new _ _ _)
              have l0 : World.cell? (w13.alloc (.cells #[.int .i64 y.num, .bool y.dir, .int .i64 y.links, .string ⟨y.data.toArray⟩] 41)) ⟨lb, 0, none⟩ = some (.string ⟨x.path.toArray⟩) := blk_cell HLBb.out 0
              have l1 : World.cell? (w13.alloc (.cells #[.int .i64 y.num, .bool y.dir, .int .i64 y.links, .string ⟨y.data.toArray⟩] 41)) ⟨lb, 1, none⟩ = some (.int .i64 x.i) := blk_cell HLBb.out 1
              have l2' : World.cell? (w13.alloc (.cells #[.int .i64 y.num, .bool y.dir, .int .i64 y.links, .string ⟨y.data.toArray⟩] 41)) ⟨lb, 2, none⟩ = some (.int .i64 x.n) := blk_cell HLBb.out 2
              clear hk HKA HLA HXA hyf
              go_wp2_with fail
              clear l0 l1 l2'
              generalize (w13.alloc (.cells #[.int .i64 y.num, .bool y.dir, .int .i64 y.links, .string ⟨y.data.toArray⟩] 41)) = w14 at *
              generalize w13.heap.size = yb at *
              refine (read_in (H7.out.kept HKB.out) He.out x.path Hxs.out.path x.i x.n Hxs.out.i.2 Hxs.out.n.2).mono ?_
              obtain ⟨rd, hrd⟩ : ∃ rd, readR (nodeT T' x.path) x.i x.n = rd := ⟨_, rfl⟩
              rw [hrd, readV_shape]
              rintro e w15 ⟨rfl, hk⟩
              have HKC := Lib.hid (HKB.out.keep hk)
              have HLC := Lib.hid (blk_mod hk HLBb.out id)
              have HXC := Lib.hid (blk_mod hk HXB.out id)
              have HYC := Lib.hid (blk_mod hk HYB.out id)
              have l0 : World.cell? w15 ⟨lb, 0, none⟩ = some (.string ⟨x.path.toArray⟩) := blk_cell HLC.out 0
              have l1 : World.cell? w15 ⟨lb, 1, none⟩ = some (.int .i64 x.i) := blk_cell HLC.out 1
              have l2' : World.cell? w15 ⟨lb, 2, none⟩ = some (.int .i64 x.n) := blk_cell HLC.out 2
              clear hk HKB HLBb HXB HYB
              go_wp2_with fail
              clear l0 l1 l2'
              refine (rread_any (F7.out.keep HKC.out) hw' x.path Hxs.out.path x.i x.n Hxs.out.i.2 Hxs.out.n.2).mono ?_
              rw [hrd, readV_shape]
              rintro e w16 ⟨rfl, hk⟩
              have HKD := Lib.hid (HKC.out.keep hk)
              have HLD := Lib.hid (blk_mod hk HLC.out id)
              have HXD := Lib.hid (blk_mod hk HXC.out id)
              have HYD := Lib.hid (blk_mod hk HYC.out id)
              have l0 : World.cell? w16 ⟨lb, 0, none⟩ = some (.string ⟨x.path.toArray⟩) := blk_cell HLD.out 0
              have l1 : World.cell? w16 ⟨lb, 1, none⟩ = some (.int .i64 x.i) := blk_cell HLD.out 1
              have l2' : World.cell? w16 ⟨lb, 2, none⟩ = some (.int .i64 x.n) := blk_cell HLD.out 2
              clear hk HKC HLC HXC HYC
              go_wp2_with fail
              clear l0 l1 l2'
              obtain ⟨lr, hlr⟩ : ∃ lr, listR (nodeT T' x.path) = lr := ⟨_, rfl⟩
              refine (list_in (H7.out.kept HKD.out) He.out x.path Hxs.out.path).mono ?_
              rw [hlr]
              rintro e w17 ⟨va, rfl, hoa, hk⟩
              have HVA := Lib.hid (row_strs hoa)
              clear hoa
              have HKE := Lib.hid (HKD.out.keep hk)
              have HLE := Lib.hid (blk_mod hk HLD.out id)
              have HXE := Lib.hid (blk_mod hk HXD.out id)
              have HYE := Lib.hid (blk_mod hk HYD.out id)
              have l0 : World.cell? w17 ⟨lb, 0, none⟩ = some (.string ⟨x.path.toArray⟩) := blk_cell HLE.out 0
              have l1 : World.cell? w17 ⟨lb, 1, none⟩ = some (.int .i64 x.i) := blk_cell HLE.out 1
              have l2' : World.cell? w17 ⟨lb, 2, none⟩ = some (.int .i64 x.n) := blk_cell HLE.out 2
              clear hk HKD HLD HXD HYD
              go_wp2_with fail
              clear l0 l1 l2'
              refine (rlist_any (F7.out.keep HKE.out) hw' x.path Hxs.out.path).mono ?_
              rw [hlr]
              rintro e w18 ⟨vb, rfl, hob, hk⟩
              have HVB := Lib.hid (row_strs hob)
              have HVA2 := Lib.hid (row_keep HVA.out hk)
              clear hob HVA
              have HKF := Lib.hid (HKE.out.keep hk)
              have HLF := Lib.hid (blk_mod hk HLE.out id)
              have HXF := Lib.hid (blk_mod hk HXE.out id)
              have HYF := Lib.hid (blk_mod hk HYE.out id)
              have l0 : World.cell? w18 ⟨lb, 0, none⟩ = some (.string ⟨x.path.toArray⟩) := blk_cell HLF.out 0
              have l1 : World.cell? w18 ⟨lb, 1, none⟩ = some (.int .i64 x.i) := blk_cell HLF.out 1
              have l2' : World.cell? w18 ⟨lb, 2, none⟩ = some (.int .i64 x.n) := blk_cell HLF.out 2
              clear hk HKE HLE HXE HYE
              have p0 : w18.cell? ⟨xb, 0, none⟩ = some (.int .i64 y.num) := blk_cell HXF.out 0
              have p1 : w18.cell? ⟨xb, 1, none⟩ = some (.bool y.dir) := blk_cell HXF.out 1
              have p2 : w18.cell? ⟨xb, 2, none⟩ = some (.int .i64 y.links) := blk_cell HXF.out 2
              have p3 : w18.cell? ⟨xb, 3, none⟩ = some (.string ⟨y.data.toArray⟩) := blk_cell HXF.out 3
              have q0 : w18.cell? ⟨yb, 0, none⟩ = some (.int .i64 y.num) := blk_cell HYF.out 0
              have q1 : w18.cell? ⟨yb, 1, none⟩ = some (.bool y.dir) := blk_cell HYF.out 1
              have q2 : w18.cell? ⟨yb, 2, none⟩ = some (.int .i64 y.links) := blk_cell HYF.out 2
              have q3 : w18.cell? ⟨yb, 3, none⟩ = some (.string ⟨y.data.toArray⟩) := blk_cell HYF.out 3
              have hll : lr.1.length ≤ 140737488355328 := by
                have := listR_len hw' x.path
                rw [hlr] at this; omega
              clear hrd hlr
              go_wp2_with fail
              refine (same_strs va vb lr.1 lr.1 w18 HVA2.out HVB.out hll hll).mono ?_
              rw [show (lr.1 == lr.1) = true by simp]
              rintro e w19 ⟨rfl, hk19⟩
              have HKG := Lib.hid (HKF.out.keep hk19)
              clear hk19 HKF HLF HXF HYF HVA2 HVB p0 p1 p2 p3 q0 q1 q2 q3 hll l0 l1 l2'
              go_wp2_with fail
              exact ⟨⟨k + 1, T', _, r7, by omega, by omega, by go_num, rfl, H7.out.kept HKG.out, F7.out.keep HKG.out⟩, by simp [intOf]; omega⟩
            · have d3 : ¬ (k : Int) < l2.length := by omega
              go_wp2_with fail
              exact ⟨⟨k + 1, T', _, r7, by omega, by omega, by go_num, rfl, H7.out.kept HK.out, F7.out.keep HK.out⟩, by simp [intOf]; omega⟩
      · have HTc := Lib.hid HT.out
        have HFc := Lib.hid HF.out
        clear HT HF
        obtain ⟨c0, c1, c2, c3, c4⟩ := HCW.out _ HTc.out.keep
        go_wp2_with fail
        refine (do_beside HTc.out He.out c Hsm.out HFc.out (rooted_wf HW.out)).mono ?_
        obtain ⟨T', e0, hd⟩ : ∃ T' e0, doT T c = (T', e0) := ⟨_, _, rfl⟩
        have Hd := Lib.hid hd
        rw [hd]
        rintro e w6 ⟨rfl, ⟨r6, h6, _⟩, _, hf6⟩
        have H6 : RowKit.Hid (TreeIn w w6 _ T' r6) := Lib.hid h6
        have HF6 := Lib.hid hf6
        clear c0 c1 c2 c3 c4 h6 hf6 HTc HFc hd
        obtain ⟨c0, c1, c2, c3, c4⟩ := HCW.out _ H6.out.keep
        go_wp2_with fail
        refine (rdo_in H6.out Hm.out HF6.out HW.out c Hsm.out).mono ?_
        rw [Hd.out]
        rintro e w7 ⟨rfl, hf7, r7, h7⟩
        have H7 : RowKit.Hid (TreeIn w w7 _ T' r7) := Lib.hid h7
        have F7 : RowKit.Hid (RefAt w7 m (toldT T')) := Lib.hid hf7
        have hee : (e0 != e0) = false := by simp
        clear c0 c1 c2 c3 c4 h7 hf7 H6 HF6 HCW
        have hne : toldT T' ≠ [] := by
          obtain ⟨d', hw'⟩ := H7.out.wf
          obtain ⟨x, r, e, _⟩ := rooted_wf hw'
          rw [e]; simp
        have Hne := Lib.hid hne
        have hL60 : (toldT T').length ≤ 60 := by rw [told_len]; exact H7.out.many
        obtain ⟨L, hL⟩ : ∃ L, (toldT T').length = L := ⟨_, rfl⟩
        have HL := Lib.hid hL
        have hLi : (L : Int) ≤ 60 := by omega
        have HL60 := Lib.hid hL60
        clear hne hL60 hL
        go_wp2_with fail
        clear hee
        go_loopw [11] (fun i wt => ∃ n : Nat, n ≤ 2 ∧ i = .int .i64 (n : Int) ∧ Keep w7 wt) (fun i _ => 2 - (intOf i).toNat)
        case atStart => exact ⟨0, by omega, rfl, Mod.refl _ _⟩
        case round =>
          obtain ⟨n, hn2', rfl, hK⟩ := hrel
          have HK := Lib.hid hK
          clear hK
          by_cases hn2 : n < 2
          · have dn : (n : Int) < 2 := by omega
            clear hn2
            go_wp2_with fail
            refine (nodes_in (H7.out.kept HK.out)).mono ?_
            rintro e w8 ⟨v1, rfl, ho8, hk8⟩
            have HV8 := Lib.hid (rowF_own nodeC_len ho8)
            obtain ⟨g, vcap, cur, rfl, hg, hgb, hgc, hgs⟩ := own_open ho8 Hne.out
            have hg7 : w7.heap.size ≤ g := Nat.le_trans HK.out.size hg
            have HK8 := Lib.hid (HK.out.keep hk8)
            obtain ⟨a, mcap, hmb, hmr⟩ := ((F7.out.keep HK.out).keep hk8).rowF
            have HMR := Lib.hid hmr
            rw [HL.out] at HV8 HMR hmb hgc
            have hm0 : w8.cell? ⟨m, 0, none⟩ = some (.slice a L mcap) := blk_cell hmb 0
            have HGB := Lib.hid hgb
            clear ho8 hk8 hmb hmr hg hgb HK
            rw [HL.out]
            go_wp2_with fail
            refine (same_nodes _ _ (toldT T') (toldT T') w8 HV8.out HMR.out (by have := HL60.out; omega) (by have := HL60.out; omega)).mono ?_
            rw [show decide (toldT T' = toldT T') = true from decide_eq_true rfl]
            rintro e w9 ⟨rfl, hk9⟩
            have HK9 := Lib.hid (HK8.out.keep hk9)
            have HGB9 := Lib.hid (blk_mod hk9 HGB.out id)
            clear hk9 hm0 HMR HV8 HK8 HGB
            go_wp2_with fail
            go_loopw [13] (fun i wu => ∃ (j : Nat) (cur : Array Value), j ≤ L ∧ i = .int .i64 (j : Int) ∧ Keep w7 wu ∧ World.blk wu g cur 41 ∧ cur.size = vcap * 4) (fun i _ => L - (intOf i).toNat)
            case atStart => exact ⟨0, cur, by omega, rfl, HK9.out, HGB9.out, hgs⟩
            case round =>
              clear HK9 HGB9 hgs
              obtain ⟨j, cur2, hjL, rfl, hK, hB, hsz⟩ := hrel
              have HK := Lib.hid hK
              have HB := Lib.hid hB
              clear hK hB
              by_cases hj : j < L
              · have dj : (j : Int) < L := by omega
                have y0 : wr.cell? ⟨g, j * 4, none⟩ = some (cur2[j * 4]'(by omega)) := (blk_cell HB.out _).trans (Array.getElem?_eq_getElem _)
                have y1 : wr.cell? ⟨g, j * 4 + 1, none⟩ = some (cur2[j * 4 + 1]'(by omega)) := (blk_cell HB.out _).trans (Array.getElem?_eq_getElem _)
                have y2 : wr.cell? ⟨g, j * 4 + 2, none⟩ = some (cur2[j * 4 + 2]'(by omega)) := (blk_cell HB.out _).trans (Array.getElem?_eq_getElem _)
                have y3 : wr.cell? ⟨g, j * 4 + 3, none⟩ = some (cur2[j * 4 + 3]'(by omega)) := (blk_cell HB.out _).trans (Array.getElem?_eq_getElem _)
                have g0 : wr.frozen? ⟨g, j * 4, none⟩ = false := blk_free HB.out _ rfl
                have g1 : wr.frozen? ⟨g, j * 4 + 1, none⟩ = false := blk_free HB.out _ rfl
                have g2 : wr.frozen? ⟨g, j * 4 + 2, none⟩ = false := blk_free HB.out _ rfl
                have g3 : wr.frozen? ⟨g, j * 4 + 3, none⟩ = false := blk_free HB.out _ rfl
                go_wp2_with fail
                exact ⟨⟨j + 1, _, by omega, by go_num, (((HK.out.setCell (p := ⟨g, j * 4, none⟩) (.inr hg7) _).setCell (p := ⟨g, j * 4 + 1, none⟩) (.inr hg7) _).setCell (p := ⟨g, j * 4 + 2, none⟩) (.inr hg7) _).setCell (p := ⟨g, j * 4 + 3, none⟩) (.inr hg7) _, blk_set (blk_set (blk_set (blk_set HB.out _ _) _ _) _ _) _ _, by simp [hsz]⟩, by simp [intOf]; omega⟩
              · obtain rfl : j = L := by omega
                go_wp2_with fail
                exact ⟨⟨n + 1, by omega, by go_num, HK.out⟩, by simp [intOf]; omega⟩
          · obtain rfl : n = 2 := by omega
            by_cases hlo : k < l2.length
            · obtain ⟨x, hx⟩ : ∃ x, l2[k]? = some x := ⟨_, List.getElem?_eq_getElem hlo⟩
              have Hxs := Lib.hid (HC2.out x (List.mem_of_getElem? hx))
              obtain ⟨b2, o2, rfl, hcell2⟩ := HR2.out k x hx
              have hkw := H7.out.keep.keep HK.out
              have e0 : wr.cell? ⟨b2, o2 + k * 3, none⟩ = some (.string ⟨x.path.toArray⟩) := by have h := hcell2 0 _ rfl; rw [hkw.cell (p := ⟨b2, o2 + k * 3, none⟩) (lt_of_cell h) id]; exact h
              have e1 : wr.cell? ⟨b2, o2 + k * 3 + 1, none⟩ = some (.int .i64 x.i) := by have h := hcell2 1 _ rfl; rw [hkw.cell (p := ⟨b2, o2 + k * 3 + 1, none⟩) (lt_of_cell h) id]; exact h
              have e2 : wr.cell? ⟨b2, o2 + k * 3 + 2, none⟩ = some (.int .i64 x.n) := by have h := hcell2 2 _ rfl; rw [hkw.cell (p := ⟨b2, o2 + k * 3 + 2, none⟩) (lt_of_cell h) id]; exact h
              have d3 : (k : Int) < l2.length := by omega
              have HLB : RowKit.Hid (World.blk (wr.alloc (.cells #[.string ⟨x.path.toArray⟩, .int .i64 x.i, .int .i64 x.n] 57)) wr.heap.size #[.string ⟨x.path.toArray⟩, .int .i64 x.i, .int .i64 x.n] 57) := Lib.hid (blk_new _ _ _)
              have HKL : RowKit.Hid (Keep w7 (wr.alloc (.cells #[.string ⟨x.path.toArray⟩, .int .i64 x.i, .int .i64 x.n] 57))) := Lib.hid (HK.out.alloc _)
              have l0 : World.cell? (wr.alloc (.cells #[.string ⟨x.path.toArray⟩, .int .i64 x.i, .int .i64 x.n] 57)) ⟨wr.heap.size, 0, none⟩ = some (.string ⟨x.path.toArray⟩) := blk_cell HLB.out 0
              clear hcell2 hkw hx
              go_wp2_with fail
              clear l0 e0 e1 e2
              generalize (wr.alloc (.cells #[.string ⟨x.path.toArray⟩, .int .i64 x.i, .int .i64 x.n] 57)) = w10 at *
              generalize wr.heap.size = lb at *
              obtain ⟨y, f, hyf⟩ := getV_shape (nodeT T' x.path)
              unfold nodeV at hyf
              refine (get_in (H7.out.kept HKL.out) He.out x.path Hxs.out.path).mono ?_
              rw [hyf]
              rintro e w11 ⟨rfl, hk⟩
              have HKA := Lib.hid ((HKL.out.keep hk).alloc (.cells #[.int .i64 y.num, .bool y.dir, .int .i64 y.links, .string ⟨y.data.toArray⟩] 41))
              have HLA := Lib.hid (blk_alloc (blk_mod hk HLB.out id) (.cells #[.int .i64 y.num, .bool y.dir, .int .i64 y.links, .string ⟨y.data.toArray⟩] 41))
              have HXA : RowKit.Hid (World.blk (w11.alloc (.cells #[.int .i64 y.num, .bool y.dir, .int .i64 y.links, .string ⟨y.data.toArray⟩] 41)) w11.heap.size #[.int .i64 y.num, .bool y.dir, .int .i64 y.links, .string ⟨y.data.toArray⟩] 41) := Lib.hid (blk_new _ _ _)
              have l0 : World.cell? (w11.alloc (.cells #[.int .i64 y.num, .bool y.dir, .int .i64 y.links, .string ⟨y.data.toArray⟩] 41)) ⟨lb, 0, none⟩ = some (.string ⟨x.path.toArray⟩) := blk_cell HLA.out 0
              have l1 : World.cell? (w11.alloc (.cells #[.int .i64 y.num, .bool y.dir, .int .i64 y.links, .string ⟨y.data.toArray⟩] 41)) ⟨lb, 1, none⟩ = some (.int .i64 x.i) := blk_cell HLA.out 1
              have l2' : World.cell? (w11.alloc (.cells #[.int .i64 y.num, .bool y.dir, .int .i64 y.links, .string ⟨y.data.toArray⟩] 41)) ⟨lb, 2, none⟩ = some (.int .i64 x.n) := blk_cell HLA.out 2
              clear hk HKL HLB
              go_wp2_with fail
              clear l0 l1 l2'
              generalize (w11.alloc (.cells #[.int .i64 y.num, .bool y.dir, .int .i64 y.links, .string ⟨y.data.toArray⟩] 41)) = w12 at *
              generalize w11.heap.size = xb at *
              obtain ⟨dd, hw'⟩ := H7.out.wf
              refine (rget_any (F7.out.keep HKA.out) hw' x.path Hxs.out.path).mono ?_
              rw [hyf]
              rintro e w13 ⟨rfl, hk⟩
              have HKB := Lib.hid ((HKA.out.keep hk).alloc (.cells #[.int .i64 y.num, .bool y.dir, .int .i64 y.links, .string ⟨y.data.toArray⟩] 41))
              have HLBb := Lib.hid (blk_alloc (blk_mod hk HLA.out id) (.cells #[.int .i64 y.num, .bool y.dir, .int .i64 y.links, .string ⟨y.data.toArray⟩] 41))
              have HXB := Lib.hid (blk_alloc (blk_mod hk HXA.out id) (.cells #[.int .i64 y.num, .bool y.dir, .int .i64 y.links, .string ⟨y.data.toArray⟩] 41))
              have HYB : RowKit.Hid (World.blk (w13.alloc (.cells #[.int .i64 y.num, .bool y.dir, .int .i64 y.links, .string ⟨y.data.toArray⟩] 41)) w13.heap.size #[.int .i64 y.num, .bool y.dir, .int .i64 y.links, .string ⟨y.data.toArray⟩] 41) := Lib.hid (blk_new _ _ _)
              have l0 : World.cell? (w13.alloc (.cells #[.int .i64 y.num, .bool y.dir, .int .i64 y.links, .string ⟨y.data.toArray⟩] 41)) ⟨lb, 0, none⟩ = some (.string ⟨x.path.toArray⟩) := blk_cell HLBb.out 0
              have l1 : World.cell? (w13.alloc (.cells #[.int .i64 y.num, .bool y.dir, .int .i64 y.links, .string ⟨y.data.toArray⟩] 41)) ⟨lb, 1, none⟩ = some (.int .i64 x.i) := blk_cell HLBb.out 1
              have l2' : World.cell? (w13.alloc (.cells #[.int .i64 y.num, .bool y.dir, .int .i64 y.links, .string ⟨y.data.toArray⟩] 41)) ⟨lb, 2, none⟩ = some (.int .i64 x.n) := blk_cell HLBb.out 2
              clear hk HKA HLA HXA hyf
              go_wp2_with fail
              clear l0 l1 l2'
              generalize (w13.alloc (.cells #[.int .i64 y.num, .bool y.dir, .int .i64 y.links, .string ⟨y.data.toArray⟩] 41)) = w14 at *
              generalize w13.heap.size = yb at *
              refine (read_in (H7.out.kept HKB.out) He.out x.path Hxs.out.path x.i x.n Hxs.out.i.2 Hxs.out.n.2).mono ?_
              obtain ⟨rd, hrd⟩ : ∃ rd, readR (nodeT T' x.path) x.i x.n = rd := ⟨_, rfl⟩
              rw [hrd, readV_shape]
              rintro e w15 ⟨rfl, hk⟩
              have HKC := Lib.hid (HKB.out.keep hk)
              have HLC := Lib.hid (blk_mod hk HLBb.out id)
              have HXC := Lib.hid (blk_mod hk HXB.out id)
              have HYC := Lib.hid (blk_mod hk HYB.out id)
              have l0 : World.cell? w15 ⟨lb, 0, none⟩ = some (.string ⟨x.path.toArray⟩) := blk_cell HLC.out 0
              have l1 : World.cell? w15 ⟨lb, 1, none⟩ = some (.int .i64 x.i) := blk_cell HLC.out 1
              have l2' : World.cell? w15 ⟨lb, 2, none⟩ = some (.int .i64 x.n) := blk_cell HLC.out 2
              clear hk HKB HLBb HXB HYB
              go_wp2_with fail
              clear l0 l1 l2'
              refine (rread_any (F7.out.keep HKC.out) hw' x.path Hxs.out.path x.i x.n Hxs.out.i.2 Hxs.out.n.2).mono ?_
              rw [hrd, readV_shape]
              rintro e w16 ⟨rfl, hk⟩
              have HKD := Lib.hid (HKC.out.keep hk)
              have HLD := Lib.hid (blk_mod hk HLC.out id)
              have HXD := Lib.hid (blk_mod hk HXC.out id)
              have HYD := Lib.hid (blk_mod hk HYC.out id)
              have l0 : World.cell? w16 ⟨lb, 0, none⟩ = some (.string ⟨x.path.toArray⟩) := blk_cell HLD.out 0
              have l1 : World.cell? w16 ⟨lb, 1, none⟩ = some (.int .i64 x.i) := blk_cell HLD.out 1
              have l2' : World.cell? w16 ⟨lb, 2, none⟩ = some (.int .i64 x.n) := blk_cell HLD.out 2
              clear hk HKC HLC HXC HYC
              go_wp2_with fail
              clear l0 l1 l2'
              obtain ⟨lr, hlr⟩ : ∃ lr, listR (nodeT T' x.path) = lr := ⟨_, rfl⟩
              refine (list_in (H7.out.kept HKD.out) He.out x.path Hxs.out.path).mono ?_
              rw [hlr]
              rintro e w17 ⟨va, rfl, hoa, hk⟩
              have HVA := Lib.hid (row_strs hoa)
              clear hoa
              have HKE := Lib.hid (HKD.out.keep hk)
              have HLE := Lib.hid (blk_mod hk HLD.out id)
              have HXE := Lib.hid (blk_mod hk HXD.out id)
              have HYE := Lib.hid (blk_mod hk HYD.out id)
              have l0 : World.cell? w17 ⟨lb, 0, none⟩ = some (.string ⟨x.path.toArray⟩) := blk_cell HLE.out 0
              have l1 : World.cell? w17 ⟨lb, 1, none⟩ = some (.int .i64 x.i) := blk_cell HLE.out 1
              have l2' : World.cell? w17 ⟨lb, 2, none⟩ = some (.int .i64 x.n) := blk_cell HLE.out 2
              clear hk HKD HLD HXD HYD
              go_wp2_with fail
              clear l0 l1 l2'
              refine (rlist_any (F7.out.keep HKE.out) hw' x.path Hxs.out.path).mono ?_
              rw [hlr]
              rintro e w18 ⟨vb, rfl, hob, hk⟩
              have HVB := Lib.hid (row_strs hob)
              have HVA2 := Lib.hid (row_keep HVA.out hk)
              clear hob HVA
              have HKF := Lib.hid (HKE.out.keep hk)
              have HLF := Lib.hid (blk_mod hk HLE.out id)
              have HXF := Lib.hid (blk_mod hk HXE.out id)
              have HYF := Lib.hid (blk_mod hk HYE.out id)
              have l0 : World.cell? w18 ⟨lb, 0, none⟩ = some (.string ⟨x.path.toArray⟩) := blk_cell HLF.out 0
              have l1 : World.cell? w18 ⟨lb, 1, none⟩ = some (.int .i64 x.i) := blk_cell HLF.out 1
              have l2' : World.cell? w18 ⟨lb, 2, none⟩ = some (.int .i64 x.n) := blk_cell HLF.out 2
              clear hk HKE HLE HXE HYE
              have p0 : w18.cell? ⟨xb, 0, none⟩ = some (.int .i64 y.num) := blk_cell HXF.out 0
              have p1 : w18.cell? ⟨xb, 1, none⟩ = some (.bool y.dir) := blk_cell HXF.out 1
              have p2 : w18.cell? ⟨xb, 2, none⟩ = some (.int .i64 y.links) := blk_cell HXF.out 2
              have p3 : w18.cell? ⟨xb, 3, none⟩ = some (.string ⟨y.data.toArray⟩) := blk_cell HXF.out 3
              have q0 : w18.cell? ⟨yb, 0, none⟩ = some (.int .i64 y.num) := blk_cell HYF.out 0
              have q1 : w18.cell? ⟨yb, 1, none⟩ = some (.bool y.dir) := blk_cell HYF.out 1
              have q2 : w18.cell? ⟨yb, 2, none⟩ = some (.int .i64 y.links) := blk_cell HYF.out 2
              have q3 : w18.cell? ⟨yb, 3, none⟩ = some (.string ⟨y.data.toArray⟩) := blk_cell HYF.out 3
              have hll : lr.1.length ≤ 140737488355328 := by
                have := listR_len hw' x.path
                rw [hlr] at this; omega
              clear hrd hlr
              go_wp2_with fail
              refine (same_strs va vb lr.1 lr.1 w18 HVA2.out HVB.out hll hll).mono ?_
              rw [show (lr.1 == lr.1) = true by simp]
              rintro e w19 ⟨rfl, hk19⟩
              have HKG := Lib.hid (HKF.out.keep hk19)
              clear hk19 HKF HLF HXF HYF HVA2 HVB p0 p1 p2 p3 q0 q1 q2 q3 hll l0 l1 l2'
              go_wp2_with fail
              exact ⟨⟨k + 1, T', _, r7, by omega, by omega, by go_num, rfl, H7.out.kept HKG.out, F7.out.keep HKG.out⟩, by simp [intOf]; omega⟩
            · have d3 : ¬ (k : Int) < l2.length := by omega
              go_wp2_with fail
              exact ⟨⟨k + 1, T', _, r7, by omega, by omega, by go_num, rfl, H7.out.kept HK.out, F7.out.keep HK.out⟩, by simp [intOf]; omega⟩
    · by_cases hk2 : k < l.length
      · obtain rfl : k = 150 := by omega
        have hkn3 : (150 : Int) < l.length := by omega
        clear hlt
        go_wp2_with fail
        refine (fixed_any wr (He.out.keep HT.out.keep)).mono ?_
        rintro e w6 ⟨rfl, hk6⟩
        have HK6 := Lib.hid (HT.out.keep.keep hk6)
        clear hk6
        go_wp2_with fail
        go_ret
        exact ⟨rfl, HK6.out⟩
      · obtain rfl : k = l.length := by omega
        clear hlt
        go_wp2_with fail
        refine (fixed_any wr (He.out.keep HT.out.keep)).mono ?_
        rintro e w6 ⟨rfl, hk6⟩
        have HK6 := Lib.hid (HT.out.keep.keep hk6)
        clear hk6
        go_wp2_with fail
        go_ret
        exact ⟨rfl, HK6.out⟩
end Go.Proofs.YthmpblccplphfaaGreatDoor
