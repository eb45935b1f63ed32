/-
  commands.Print.
-/
import Derived.Test.YthmpblccplphfaaGreatDoorCmdTake
import Derived.Lib.ItoaLen
namespace Go.Proofs.YthmpblccplphfaaGreatDoor
open Go.RowKit
def printV (c : Cmd) : Value := if c.ok = true then .tuple #[.string ⟨c.line.toArray⟩, .int .i64 0] else .tuple #[.string ⟨#[]⟩, .int .i64 130]
theorem fields_in {k f : Nat} (h : f ∈ fieldsOf k) : 1 ≤ f ∧ f ≤ 5 := by
  rcases (by omega : k = 0 ∨ k = 1 ∨ k = 2 ∨ k = 3 ∨ k = 4 ∨ k = 5 ∨ k = 6 ∨ k = 7 ∨ k = 8 ∨ 9 ≤ k) with e | e | e | e | e | e | e | e | e | e
  all_goals first | (subst e; simp [fieldsOf] at h; omega) | skip
  rw [show fieldsOf k = [] from by unfold fieldsOf; split <;> first | omega | rfl] at h
  cases h
theorem fields_len (k : Nat) : (fieldsOf k).length ≤ 3 := by unfold fieldsOf; split <;> simp
theorem kOf_le (kind : Int) : kOf kind ≤ 9 := by unfold kOf; split <;> omega
theorem field_len {c : Cmd} (hc : c.Small) (f : Nat) : (c.fieldText f).length ≤ 2199023255553 := by
  unfold Cmd.fieldText
  split
  · have := hc.dest; omega
  · have := Lib.itoa_length_le c.pos hc.pos.1 hc.pos.2; omega
  · have := hc.data
    unfold hexed; split
    · simp
    · rw [hexes_len]; omega
  · have := hc.path; omega
def bareTo (c : Cmd) (fs : List Nat) (k : Nat) : Cmd := (fs.take k).foldl (fun b f => b.take f (c.fieldText f)) ⟨c.kind, [], [], 0, []⟩
theorem bareTo_all (c : Cmd) (fs : List Nat) : bareTo c fs fs.length = c.bare fs := by rw [bareTo, List.take_length]; rfl
theorem bareTo_step (c : Cmd) (fs : List Nat) {k f : Nat} (h : fs[k]? = some f) : bareTo c fs (k + 1) = (bareTo c fs k).take f (c.fieldText f) := by
  rw [bareTo, bareTo, List.take_add_one, h, Option.toList_some, List.foldl_append]; rfl
theorem word_len (k : Nat) : (wordOf k).length ≤ 6 := by unfold wordOf; split <;> simp
theorem line_len {c : Cmd} (hc : c.Small) (K : Nat) : (Lib.join (wordOf K :: (fieldsOf K).map c.fieldText) [32]).length ≤ 8796093022208 := by
  have hw := word_len K
  have h1 := field_len hc 1
  have h2 := field_len hc 2
  have h3 := field_len hc 3
  have h4 := field_len hc 4
  have h5 := field_len hc 5
  rw [Lib.join_length]
  unfold fieldsOf
  split <;> simp [Lib.lens] <;> omega
set_option maxRecDepth 100000 in
set_option maxHeartbeats 1000000 in
theorem print_any (c : Cmd) (w : World) (he : Env w) (hc : c.Small) :
    Calls Tryz.prog 36 #[cmdV c] w fun e w' => e = .returned (printV c) ∧ Keep w w' := by
  have He := Lib.hid he
  have Hc := Lib.hid hc
  clear he hc
  go_enter Tryz.func36, Tryz.ntmps36
  unfold cmdV cmdC
  go_wp2_with fail
  refine (word_any c.kind _).mono ?_
  rintro e w1 ⟨v, rfl, hr, hk⟩
  have hB1 : World.blk w1 w.heap.size (cmdC c) 38 := blk_mod hk (blk_new w (cmdC c) _) id
  have HB1 := Lib.hid hB1
  have HK1 : RowKit.Hid (Keep w w1) := Lib.hid (((Mod.refl _ _).alloc (.cells (cmdC c) 38)).keep hk)
  obtain ⟨c0, c1, c2, c3, c4⟩ := cmd_cells hB1
  obtain ⟨fa, fcap, rfl, hF⟩ := hr
  have HF := Lib.hid hF
  have Hkk := Lib.hid (k_kOf c)
  obtain ⟨K, hK⟩ : ∃ K, kOf c.kind = K := ⟨_, rfl⟩
  have hK9 := kOf_le c.kind
  rw [hK] at Hkk HF hK9 ⊢
  have HKK := Lib.hid hK
  obtain ⟨N, hN⟩ : ∃ N, (fieldsOf K).length = N := ⟨_, rfl⟩
  have hN3 := fields_len K
  rw [ints_len, show (fieldsI K).length = N from by simp [fieldsI, hN]]
  rw [hN] at hN3
  have HN := Lib.hid hN
  clear hk hF hB1 hK hN
  go_upto_region 4 with (fail)
  have HB2 : RowKit.Hid (World.blk ((w1.alloc (.cells (cmdC (bareTo c (fieldsOf K) 0)) 38)).alloc (.cells (scells [wordOf K]) 9)) w.heap.size (cmdC c) 38) := Lib.hid (blk_alloc (blk_alloc HB1.out _) _)
  have HX2 : RowKit.Hid (World.blk ((w1.alloc (.cells (cmdC (bareTo c (fieldsOf K) 0)) 38)).alloc (.cells (scells [wordOf K]) 9)) w1.heap.size (cmdC (bareTo c (fieldsOf K) 0)) 38) := Lib.hid (blk_alloc (blk_new _ _ _) _)
  have HV2 : RowKit.Hid (OwnStrs ((w1.alloc (.cells (cmdC (bareTo c (fieldsOf K) 0)) 38)).alloc (.cells (scells [wordOf K]) 9)) (w1.heap.size + 1) (.slice (some ⟨w1.heap.size + 1, 0, none⟩) 1 1) [wordOf K]) := Lib.hid (own_made (l := [wordOf K]) (blk_new_at (by simp) _ _) (Nat.le_refl _) (by simp [maxLen]))
  have HK2 : RowKit.Hid (Keep w ((w1.alloc (.cells (cmdC (bareTo c (fieldsOf K) 0)) 38)).alloc (.cells (scells [wordOf K]) 9))) := Lib.hid ((HK1.out.alloc _).alloc _)
  have HK3 : RowKit.Hid (Mod (fun b => w1.heap.size ≤ b) w1 ((w1.alloc (.cells (cmdC (bareTo c (fieldsOf K) 0)) 38)).alloc (.cells (scells [wordOf K]) 9))) := Lib.hid (((Mod.refl _ _).alloc _).alloc _)
  have Hs : RowKit.Hid (w1.heap.size + 1 < ((w1.alloc (.cells (cmdC (bareTo c (fieldsOf K) 0)) 38)).alloc (.cells (scells [wordOf K]) 9)).heap.size) := Lib.hid (by simp)
  have hlt1 : w.heap.size < w1.heap.size := blk_lt HB1.out
  have HFl : RowKit.Hid (∀ j x, (ints (fieldsI K))[j]? = some x → ∃ b o, fa = some ⟨b, o, none⟩ ∧ b < w1.heap.size ∧ w1.cell? ⟨b, o + j, none⟩ = some x) := Lib.hid (fun j x hx => by
    obtain ⟨b, o, e, hc⟩ := HF.out j x hx
    exact ⟨b, o, e, lt_of_cell hc, hc⟩)
  clear c0 c1 c2 c3 c4 HB1 HK1 HF
  go_wp2_with fail
  change Code.wp _ _ _ _ ((w1.alloc (.cells (cmdC (bareTo c (fieldsOf K) 0)) 38)).alloc (.cells (scells [wordOf K]) 9))
  generalize (w1.alloc (.cells (cmdC (bareTo c (fieldsOf K) 0)) 38)).alloc (.cells (scells [wordOf K]) 9) = w2 at *
  generalize w1.heap.size = B1 at *
  go_loopw [7, 25] (fun v i wr => ∃ k : Nat, k ≤ N ∧ i = .int .i64 (k : Int) ∧ World.blk wr w.heap.size (cmdC c) 38 ∧ World.blk wr B1 (cmdC (bareTo c (fieldsOf K) k)) 38 ∧ OwnStrs wr (B1 + 1) v (wordOf K :: ((fieldsOf K).take k).map c.fieldText) ∧ Keep w wr ∧ Mod (fun b => B1 ≤ b) w1 wr ∧ B1 + 1 < wr.heap.size ∧ (∀ f ∈ (fieldsOf K).take k, c.fieldOk f = true)) (fun _ i _ => N - (intOf i).toNat)
  case atStart => exact ⟨0, by omega, rfl, HB2.out, HX2.out, by simpa using HV2.out, HK2.out, HK3.out, Hs.out, by simp⟩
  case round =>
    clear HB2 HX2 HV2 HK2 HK3 Hs
    obtain ⟨k, hk, rfl, hB, hX, hV, hK, hM, hs, hA⟩ := hrel
    have HB := Lib.hid hB
    have HX := Lib.hid hX
    have HV := Lib.hid hV
    have HK := Lib.hid hK
    have HM := Lib.hid hM
    have HA := Lib.hid hA
    have Hs := Lib.hid hs
    clear hB hX hV hK hM hA hs
    by_cases hlt : k < N
    · obtain ⟨f, hf⟩ : ∃ f, (fieldsOf K)[k]? = some f := ⟨_, List.getElem?_eq_getElem (by rw [HN.out]; exact hlt)⟩
      have Hf := Lib.hid hf
      have Hf5 := Lib.hid (fields_in (List.mem_of_getElem? hf))
      obtain ⟨b, o, rfl, hblt, hc⟩ := HFl.out k (.int .i64 (f : Int)) (by simp [ints, fieldsI, hf])
      have hc2 : wr.cell? ⟨b, o + k, none⟩ = some (.int .i64 (f : Int)) := by rw [HM.out.cell (p := ⟨b, o + k, none⟩) (lt_of_cell hc) (by simp; omega)]; exact hc
      clear hf hc hblt
      go_wp2_with fail
      refine (field_any c f Hf5.out w.heap.size wr (He.out.keep HK.out) Hc.out HB.out).mono ?_
      rintro e w3 ⟨rfl, hk3⟩
      have HB3 := Lib.hid (blk_mod hk3 HB.out id)
      have HX3 := Lib.hid (blk_mod hk3 HX.out id)
      have HV3 := Lib.hid (own_keep HV.out hk3)
      have HK3 := Lib.hid (HK.out.keep hk3)
      have HM3 := Lib.hid (HM.out.keep hk3)
      have Hs3 := Lib.hid (Nat.lt_of_lt_of_le Hs.out hk3.size)
      clear hk3 HB HX HV HK HM Hs hc2
      rcases hok : c.fieldOk f with _ | _
      · have Hn : RowKit.Hid (c.ok = false) := Lib.hid (by
          rw [Cmd.ok, Hkk.out]
          have : (fieldsOf K).all c.fieldOk = false := by
            rw [Bool.eq_false_iff]
            intro h
            have := List.all_eq_true.1 h f (List.mem_of_getElem? Hf.out)
            rw [hok] at this; cases this
          rw [this]; simp)
        clear hok
        go_wp2_with fail
        go_ret2
        exact ⟨by rw [printV, Hn.out]; rfl, HK3.out⟩
      · have HA2 : RowKit.Hid (∀ g ∈ (fieldsOf K).take (k + 1), c.fieldOk g = true) := Lib.hid (fun g hg => by
          rw [List.take_add_one, Hf.out] at hg
          rcases List.mem_append.1 hg with h | h
          · exact HA.out g h
          · simp at h; subst h; exact hok)
        clear hok
        have Htl := Lib.hid (field_len Hc.out f)
        have Hmp : RowKit.Hid (wordOf K :: ((fieldsOf K).take (k + 1)).map c.fieldText = (wordOf K :: ((fieldsOf K).take k).map c.fieldText) ++ [c.fieldText f]) := Lib.hid (by
          rw [List.take_add_one, Hf.out]; simp)
        have Hbs := Lib.hid (bareTo_step c (fieldsOf K) Hf.out)
        generalize hacc : wordOf K :: ((fieldsOf K).take k).map c.fieldText = acc at *
        have hal : acc.length ≤ 4 := by rw [← hacc]; simp; omega
        clear hacc
        obtain ⟨v2, w4, hr, ho, hk2, hm2⟩ := append_own (P := Tryz.prog) Tryz.underlying43 info_str rfl (B1 + 1) u7 _ _ w3 w HV3.out [.string ⟨(c.fieldText f).toArray⟩] (by intro u hu; simp at hu; subst hu; rfl) (by simp [maxLen]; omega) (by simp; omega) (by have := Hs3.out; omega) HK3.out (by omega)
        have Hr1 := Lib.hid hr
        have HV4 := Lib.hid (add_str_cells (ys := [c.fieldText f]) ho)
        have HK4 := Lib.hid hk2
        have HB4 := Lib.hid (blk_mod hm2 HB3.out (by simp; omega))
        have HX4 := Lib.hid (blk_mod hm2 HX3.out (by simp))
        have HM4 := Lib.hid (HM3.out.trans hm2 (fun i _ h => by omega))
        have Hs4 := Lib.hid (Nat.lt_of_lt_of_le Hs3.out hm2.size)
        clear hr ho hk2 hm2 HV3 HB3 HX3 HM3 HK3 Hs3
        go_wp2_with ((at_builtin; refine wpList_append_run Hr1.out rfl rfl rfl rfl ?_))
        refine (take_any (bareTo c (fieldsOf K) k) f Hf5.out (c.fieldText f) B1 w4 (He.out.keep HK4.out) (by have := Htl.out; omega) HX4.out).mono ?_
        rintro e w5 ⟨rfl, hm5, hx5⟩
        have HX5 := Lib.hid hx5
        have HB5 := Lib.hid (blk_mod hm5 HB4.out (by omega))
        have HV5 := Lib.hid (own_mod HV4.out hm5 (fun b hb e => by omega))
        have HK5 := Lib.hid (HK4.out.new hm5 (by omega))
        have HM5 := Lib.hid (HM4.out.trans hm5 (fun i _ h => by omega))
        have Hs5 := Lib.hid (Nat.lt_of_lt_of_le Hs4.out hm5.size)
        clear hm5 hx5
        go_wp2_with fail
        exact ⟨⟨k + 1, by omega, by go_num, HB5.out, by rw [Hbs.out]; exact HX5.out, by rw [Hmp.out]; exact HV5.out, HK5.out, HM5.out, Hs5.out, HA2.out⟩, by simp [intOf]; omega⟩
    · obtain rfl : k = N := by omega
      have e1 : bareTo c (fieldsOf K) k = c.bare (fieldsOf K) := by rw [← HN.out]; exact bareTo_all _ _
      have e2 : (fieldsOf K).take k = fieldsOf K := List.take_of_length_le (by rw [HN.out]; exact Nat.le_refl _)
      rw [e1] at HX
      rw [e2] at HV HA
      clear e1 e2
      by_cases hK9' : K = 9
      · have Hn : RowKit.Hid (c.ok = false) := Lib.hid (by rw [Cmd.ok, Hkk.out, hK9']; rfl)
        have hw : wordOf K = [] := by rw [hK9']; rfl
        rw [hw]
        clear hw hK9'
        go_wp2_with fail
        go_ret2
        exact ⟨by rw [printV, Hn.out]; rfl, HK.out⟩
      · have HK8 : RowKit.Hid (K < 9) := Lib.hid (by omega)
        have hw1 : (wordOf K == []) = false := by
          rcases (by omega : K = 0 ∨ K = 1 ∨ K = 2 ∨ K = 3 ∨ K = 4 ∨ K = 5 ∨ K = 6 ∨ K = 7 ∨ K = 8) with e | e | e | e | e | e | e | e | e <;> rw [e] <;> rfl
        have hw2 : (wordOf K).isEmpty = false := by
          rcases (by omega : K = 0 ∨ K = 1 ∨ K = 2 ∨ K = 3 ∨ K = 4 ∨ K = 5 ∨ K = 6 ∨ K = 7 ∨ K = 8) with e | e | e | e | e | e | e | e | e <;> rw [e] <;> rfl
        obtain ⟨c0, c1, c2, c3, c4⟩ := cmd_cells HB.out
        clear hK9'
        by_cases hbc : c.bare (fieldsOf K) = c
        · have Hn : RowKit.Hid (c.ok = true) := Lib.hid (by
            rw [Cmd.ok, Hkk.out]
            simp only [Bool.and_eq_true, decide_eq_true_eq]
            exact ⟨HK8.out, List.all_eq_true.2 HA.out, Cmd.eqB_iff.2 hbc⟩)
          have Hl : RowKit.Hid (c.line = Lib.join (wordOf K :: (fieldsOf K).map c.fieldText) [32]) := Lib.hid (by rw [Cmd.line, Hkk.out]; rfl)
          rw [hbc] at HX
          obtain ⟨d0, d1, d2, d3, d4⟩ := cmd_cells HX.out
          clear hbc
          go_wp2_with fail
          refine (join_any 32 (wordOf K :: (fieldsOf K).map c.fieldText) (B1 + 1) _ wr HV.out (by have := fields_len K; simp; omega) (Nat.le_trans (line_len Hc.out K) (by decide))).mono ?_
          rintro e w3 ⟨rfl, hk3⟩
          have HK3 := Lib.hid (HK.out.keep hk3)
          clear hk3 c0 c1 c2 c3 c4 d0 d1 d2 d3 d4
          go_wp2_with fail
          go_ret2
          exact ⟨by rw [printV, Hn.out, Hl.out]; rfl, HK3.out⟩
        · have Hn : RowKit.Hid (c.ok = false) := Lib.hid (by
            rw [Cmd.ok, Hkk.out, Bool.eq_false_iff]
            intro h
            simp only [Bool.and_eq_true] at h
            exact hbc (Cmd.eqB_iff.1 h.2.2))
          obtain ⟨d0, d1, d2, d3, d4⟩ := cmd_cells HX.out
          have Hbc := Lib.hid hbc
          clear hbc
          go_upto_region 14 with (fail)
          all_goals first
            | (go_wp2_with fail; go_ret2; exact ⟨by rw [printV, Hn.out]; rfl, HK.out⟩)
            | (exfalso; exact Hbc.out (Cmd.ext' (by assumption) (by assumption) (by assumption) (by assumption) (by assumption)))
end Go.Proofs.YthmpblccplphfaaGreatDoor
