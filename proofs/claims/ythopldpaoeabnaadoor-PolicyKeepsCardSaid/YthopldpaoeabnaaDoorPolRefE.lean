/-
  stillageref22.Keeps.
-/
import Derived.Test.YthopldpaoeabnaaDoorPolKLaw
import Derived.Test.YthopldpaoeabnaaDoorPolRefB
import Derived.Test.YthopldpaoeabnaaDoorPolRefC
import Derived.Test.YthopldpaoeabnaaDoorPolStrs
namespace Go.Proofs.YthopldpaoeabnaaDoor
open Go.RowKit
/-- each is asked how many of its class stand behind it -/
def kSuf (K : Nat → Int) : List (List UInt8) → List (List UInt8)
  | [] => []
  | s :: r => match cls s with
    | none => s :: kSuf K r
    | some (c, _) => if ((ofCls (c : Int) r).length : Int) < K c then s :: kSuf K r else kSuf K r
def lastOne (k n : Int) (s : List UInt8) : List (List UInt8) := if k ≤ n then [] else [s]
def lastAs (K h : Nat → Int) (l : List (List UInt8)) (s : List UInt8) : List (List UInt8) := match cls s with | none => [s] | some (c, _) => lastOne (K c) (h c + ((ofCls (c : Int) l).length : Int)) s
theorem kRun_snoc (K : Nat → Int) (s : List UInt8) (l : List (List UInt8)) : ∀ h, kRun K (l ++ [s]) h = kRun K l h ++ lastAs K h (kRun K l h) s := by
  induction l with
  | nil =>
    intro h
    rw [List.nil_append, kRun, kRun, List.nil_append, lastAs]
    rcases cls s with _ | ⟨c, t⟩
    · rfl
    · have e : h c + ((ofCls (c : Int) []).length : Int) = h c := by simp [ofCls]
      simp only [kRun]
      rw [e, lastOne]
  | cons x l ih =>
    intro h
    rw [List.cons_append, kRun, kRun]
    rcases hx : cls x with _ | ⟨d, u⟩
    · have hn := clsNo_none hx
      simp only
      rw [ih h, List.cons_append]
      congr 2
      unfold lastAs
      rcases cls s with _ | ⟨c, t⟩
      · rfl
      · have hne : ((-1 : Int) == ((c : Nat) : Int)) = false := beq_false_of_ne (by omega)
        have e : ofCls (c : Int) (x :: kRun K l h) = ofCls (c : Int) (kRun K l h) := by simp [ofCls, List.filter_cons, hn, hne]
        simp only [e]
    · simp only
      have hn := clsNo_some hx
      by_cases hk : K d ≤ h d
      · rw [if_pos hk, if_pos hk, ih h]
      · rw [if_neg hk, if_neg hk, ih, List.cons_append]
        congr 2
        unfold lastAs
        rcases cls s with _ | ⟨c, t⟩
        · rfl
        · simp only
          congr 1
          by_cases hd : c = d
          · subst hd
            simp only [ofCls, List.filter_cons, hn, beq_self_eq_true, if_true, List.length_cons]
            omega
          · have hne : (((d : Nat) : Int) == ((c : Nat) : Int)) = false := beq_false_of_ne (by omega)
            rw [if_neg hd]
            have e : ∀ m, ofCls (c : Int) (x :: m) = ofCls (c : Int) m := fun m => by simp [ofCls, List.filter_cons, hn, hne]
            rw [e]
theorem keeps_suf (K : Nat → Int) (names : List (List UInt8)) : keeps K names = kSuf K names := by
  induction names with
  | nil => simp [keeps, kRun, kSuf]
  | cons s r ih =>
    rw [kSuf, ← ih, keeps, keeps, List.reverse_cons, kRun_snoc, List.reverse_append, lastAs]
    rcases cls s with _ | ⟨c, t⟩
    · simp
    · have e : ((ofCls (c : Int) (kRun K r.reverse (fun _ => 0))).length : Int) = min ((K c).toNat : Int) ((ofCls (c : Int) r).length : Int) := by
        rw [kRun_cls, List.length_take, ofCls_reverse, List.length_reverse]
        omega
      simp only
      rw [e, Int.zero_add, lastOne]
      by_cases hk : ((ofCls (c : Int) r).length : Int) < K c
      · rw [if_pos hk, if_neg (by omega)]; simp
      · rw [if_neg hk, if_pos (by omega)]; simp
theorem ofCls_step (c : Int) (l : List (List UInt8)) {k i : Nat} {s : List UInt8} (hi : i ≤ k) (hs : l[k]? = some s) : ofCls c ((l.take (k + 1)).drop i) = ofCls c ((l.take k).drop i) ++ (if clsNo s = c then [s] else []) := by
  have hlt := (List.getElem?_eq_some_iff.1 hs).1
  rw [List.take_add_one, hs, Option.toList_some, List.drop_append_of_le_length (by rw [List.length_take]; omega)]
  simp only [ofCls, List.filter_append, List.filter_cons, List.filter_nil]
  by_cases h : clsNo s = c
  · rw [if_pos (by simpa using h), if_pos h]
  · rw [if_neg (by simpa using h), if_neg h]
theorem kSuf_drop {K : Nat → Int} {names : List (List UInt8)} {i : Nat} {s : List UInt8} (hs : names[i]? = some s) : names.drop i = s :: names.drop (i + 1) := by
  have hlt := (List.getElem?_eq_some_iff.1 hs).1
  rw [List.drop_eq_getElem_cons hlt]; congr 1; exact (List.getElem?_eq_some_iff.1 hs).2
set_option maxRecDepth 100000 in
set_option maxHeartbeats 2000000 in
theorem rkeeps_any (E K : Nat → Int) (names : List (List UInt8)) (va : Value) (w : World) (hK : ∀ i, i < 3 → -9223372036854775808 ≤ K i ∧ K i ≤ 9223372036854775807) (ha : RowAt w va (srow names)) (hn : names.length ≤ 1048576) (hl : ∀ x ∈ names, x.length ≤ 140737488355328) :
    Calls Tryd.prog 24 #[polV E K, va] w fun e w' => ∃ v, e = .returned v ∧ RowAt w' v (srow (keeps K names)) ∧ Keep w w' := by
  obtain ⟨a, ca, rfl, hA⟩ := ha
  rw [srow_len, keeps_suf]
  obtain ⟨N, hN⟩ : ∃ N, names.length = N := ⟨_, rfl⟩
  rw [hN] at hn ⊢
  have HN := Lib.hid hN
  have HKb := Lib.hid hK
  have HA := Lib.hid hA
  have Hl := Lib.hid hl
  clear hK hA hl hN
  go_enter Tryd.func24, Tryd.ntmps24
  unfold polV
  go_wp2_with fail
  have HP0 : RowKit.Hid (World.blk ((w.alloc (.cells (boxV E K) 24)).alloc (.cells #[] 9)) w.heap.size (boxV E K) 24) := Lib.hid (blk_alloc (blk_new _ _ _) _)
  go_loopw [5, 6] (fun v i wr => ∃ (k : Nat) (acc : List (List UInt8)), k ≤ N ∧ i = .int .i64 (k : Int) ∧ World.blk wr w.heap.size (boxV E K) 24 ∧ Keep w wr ∧ OwnStrs wr (w.heap.size + 1) v acc ∧ acc.length ≤ k ∧ acc ++ kSuf K (names.drop k) = kSuf K names) (fun _ i _ => N - (intOf i).toNat)
  case atStart => exact ⟨0, [], by omega, rfl, HP0.out, ((Mod.refl _ _).alloc _).alloc _, ⟨rfl, .inr ⟨w.heap.size + 1, 0, #[], rfl, Nat.le_refl _, blk_new_atD (by simp) _ _, by decide, by decide, by simp, by simp [scells]⟩⟩, by simp, rfl⟩
  case round =>
    clear HP0
    obtain ⟨k, acc, hk, rfl, hP, hKK, hV, hacc, hrun⟩ := hrel
    have HP := Lib.hid hP
    have HK := Lib.hid hKK
    have HV := Lib.hid hV
    have Hacc := Lib.hid hacc
    have Hrun := Lib.hid hrun
    have Hsz := Lib.hid (blk_lt hP)
    clear hP hKK hV hacc hrun
    by_cases hlt : k < N
    · obtain ⟨s, hs⟩ : ∃ s, names[k]? = some s := ⟨_, List.getElem?_eq_getElem (by rw [HN.out]; exact hlt)⟩
      have Hdrop := Lib.hid (kSuf_drop (K := K) hs)
      have Hsl := Lib.hid (Hl.out s (List.mem_of_getElem? hs))
      obtain ⟨b, o, rfl, hc⟩ := HA.out k (.string ⟨s.toArray⟩) (by simp [srow, hs])
      have hblt := lt_of_cell hc
      have hc2 : wr.cell? ⟨b, o + k, none⟩ = some (.string ⟨s.toArray⟩) := by rw [HK.out.cell (p := ⟨b, o + k, none⟩) hblt id]; exact hc
      have Hc := Lib.hid hc
      clear hs hc hblt
      go_wp2_with fail
      refine (rclass_any s _ Hsl.out).mono ?_
      rintro e w2 ⟨rfl, hk2⟩
      have HP2 := Lib.hid (blk_mod hk2 HP.out id)
      have HK2 := Lib.hid (HK.out.keep hk2)
      have HV2 := Lib.hid (own_keep HV.out hk2)
      have Hsz2 := Lib.hid (Nat.lt_of_lt_of_le Hsz.out hk2.size)
      clear hk2 HP HK HV Hsz hc2
      rcases hcl : cls s with _ | ⟨c, t⟩
      · rw [show clsV none = .tuple #[.int .i64 0, .int .i64 0, .bool false] from rfl]
        have HC := Lib.hid hcl
        clear hcl
        go_wp2_with fail
        go_loopw [10, 11] (fun v i wr => v = .int .i64 0 ∧ i = .int .i64 ((k : Int) + 1) ∧ wr = w2) (fun _ _ _ => 0)
        case atStart => exact ⟨rfl, rfl, rfl⟩
        case round =>
          obtain ⟨rfl, rfl, rfl⟩ := hrel
          have hc3 : wr.cell? ⟨b, o + k, none⟩ = some (.string ⟨s.toArray⟩) := by rw [HK2.out.cell (p := ⟨b, o + k, none⟩) (lt_of_cell Hc.out) id]; exact Hc.out
          obtain ⟨v2, w4, hr, ho, hk2, hm2⟩ := append_own (P := Tryd.prog) Tryd.underlying40 info_str rfl (w.heap.size + 1) u5 _ _ wr w HV2.out [.string ⟨s.toArray⟩] (by intro u hu; simp at hu; subst hu; rfl) (by have := Hacc.out; simp [maxLen]; omega) (by have := Hacc.out; simp; omega) (by have := Hsz2.out; omega) HK2.out (by omega)
          have Hr := Lib.hid hr
          have Ho := Lib.hid ho
          have Hk2 := Lib.hid hk2
          have HP4 := Lib.hid (blk_mod hm2 HP2.out (by omega))
          clear hr ho hk2 hm2
          go_wp2_with ((at_builtin; refine wpList_append_run Hr.out rfl rfl rfl rfl ?_))
          all_goals
            refine ⟨⟨k + 1, acc ++ [s], by omega, by go_num, HP4.out, Hk2.out, add_str_cells (ys := [s]) Ho.out, by have := Hacc.out; simp; omega, ?_⟩, by simp [intOf]; omega⟩
            have h1 := Hrun.out
            rw [Hdrop.out, kSuf, HC.out] at h1
            rw [List.append_assoc]; exact h1
      · rw [show clsV (some (c, t)) = .tuple #[.int .i64 (c : Int), .int .i64 t, .bool true] from rfl]
        have HC := Lib.hid hcl
        have Hc3 : RowKit.Hid (c < 3) := Lib.hid (by rcases cls_lt hcl with rfl | rfl | rfl <;> omega)
        clear hcl
        go_wp2_with fail
        go_loopw [10, 11] (fun v i wr => ∃ (j : Nat), k + 1 ≤ j ∧ j ≤ N ∧ i = .int .i64 (j : Int) ∧ v = .int .i64 ((ofCls (c : Int) ((names.take j).drop (k + 1))).length : Int) ∧ Keep w2 wr) (fun _ i _ => N - (intOf i).toNat)
        case atStart => exact ⟨k + 1, by omega, by omega, by go_num, by rw [List.drop_eq_nil_of_le (by rw [List.length_take]; omega)]; rfl, Mod.refl _ _⟩
        case round =>
          obtain ⟨j, hj1, hj2, rfl, rfl, hKj⟩ := hrel
          have HKj := Lib.hid hKj
          clear hKj
          have hbd : (ofCls (c : Int) ((names.take j).drop (k + 1))).length ≤ N := Nat.le_trans (List.length_filter_le _ _) (by rw [List.length_drop, List.length_take]; omega)
          by_cases hltj : j < N
          · obtain ⟨x, hx⟩ : ∃ x, names[j]? = some x := ⟨_, List.getElem?_eq_getElem (by rw [HN.out]; exact hltj)⟩
            have Hst := Lib.hid (ofCls_step (c : Int) names (i := k + 1) hj1 hx)
            have Hxl := Lib.hid (Hl.out x (List.mem_of_getElem? hx))
            obtain ⟨b', o', hbo, hcx⟩ := HA.out j (.string ⟨x.toArray⟩) (by simp [srow, hx])
            cases hbo
            have hc4 : wr.cell? ⟨b, o + j, none⟩ = some (.string ⟨x.toArray⟩) := by rw [(HK2.out.keep HKj.out).cell (p := ⟨b, o + j, none⟩) (lt_of_cell hcx) id]; exact hcx
            clear hx hcx
            generalize (ofCls (c : Int) ((names.take j).drop (k + 1))) = m at *
            go_wp2_with fail
            refine (rclass_any x _ Hxl.out).mono ?_
            rintro e w5 ⟨rfl, hk5⟩
            have HK5 := Lib.hid (HKj.out.keep hk5)
            clear hk5 hc4
            rcases hcx : cls x with _ | ⟨d, u⟩
            · rw [show clsV none = .tuple #[.int .i64 0, .int .i64 0, .bool false] from rfl]
              have Hn := Lib.hid (clsNo_none hcx)
              clear hcx
              go_wp2_with fail
              exact ⟨⟨j + 1, by omega, by omega, by go_num, by rw [Hst.out, Hn.out, if_neg (by omega), List.append_nil], HK5.out⟩, by simp [intOf]; omega⟩
            · rw [show clsV (some (d, u)) = .tuple #[.int .i64 (d : Int), .int .i64 u, .bool true] from rfl]
              have Hn := Lib.hid (clsNo_some hcx)
              clear hcx
              by_cases hdc : d = c
              · have hq : ((d : Int) == (c : Int)) = true := by rw [beq_iff_eq]; omega
                have Hdc := Lib.hid hdc
                clear hdc
                go_wp2_with fail
                exact ⟨⟨j + 1, by omega, by omega, by go_num, by rw [Hst.out, Hn.out, if_pos (by have := Hdc.out; omega), List.length_append]; simp, HK5.out⟩, by simp [intOf]; omega⟩
              · have hq : ((d : Int) == (c : Int)) = false := beq_false_of_ne (by omega)
                have Hdc := Lib.hid hdc
                clear hdc
                go_wp2_with fail
                exact ⟨⟨j + 1, by omega, by omega, by go_num, by rw [Hst.out, Hn.out, if_neg (by have := Hdc.out; omega), List.append_nil], HK5.out⟩, by simp [intOf]; omega⟩
          · obtain rfl : j = N := by omega
            have e0 : (names.take j).drop (k + 1) = names.drop (k + 1) := by rw [List.take_of_length_le (by rw [HN.out]; exact Nat.le_refl _)]
            rw [e0] at hbd ⊢
            clear e0
            have HP3 := Lib.hid (blk_mod HKj.out HP2.out id)
            have HV3 := Lib.hid (own_keep HV2.out HKj.out)
            have HK3 := Lib.hid (HK2.out.keep HKj.out)
            have hsz3 : w.heap.size < wr.heap.size := blk_lt HP3.out
            have Hsz3 := Lib.hid hsz3
            clear hsz3
            have hbc := (box_E HP3.out Hc3.out).2
            have hc3 : wr.cell? ⟨b, o + k, none⟩ = some (.string ⟨s.toArray⟩) := by rw [HK3.out.cell (p := ⟨b, o + k, none⟩) (lt_of_cell Hc.out) id]; exact Hc.out
            have hc3' : c < 3 := Hc3.out
            generalize hm : ofCls (c : Int) (names.drop (k + 1)) = m at *
            have Hm := Lib.hid hm
            clear hm
            by_cases hkp : (m.length : Int) < K c
            · have Hkp := Lib.hid hkp
              obtain ⟨v2, w4, hr, ho, hk2, hm2⟩ := append_own (P := Tryd.prog) Tryd.underlying40 info_str rfl (w.heap.size + 1) u5 _ _ wr w HV3.out [.string ⟨s.toArray⟩] (by intro u hu; simp at hu; subst hu; rfl) (by have := Hacc.out; simp [maxLen]; omega) (by have := Hacc.out; simp; omega) (by have := Hsz3.out; omega) HK3.out (by omega)
              have Hr := Lib.hid hr
              have Ho := Lib.hid ho
              have Hk2 := Lib.hid hk2
              have HP4 := Lib.hid (blk_mod hm2 HP3.out (by omega))
              clear hr ho hk2 hm2
              go_wp2_with ((at_builtin; refine wpList_append_run Hr.out rfl rfl rfl rfl ?_))
              refine ⟨⟨k + 1, acc ++ [s], by omega, by go_num, HP4.out, Hk2.out, add_str_cells (ys := [s]) Ho.out, by have := Hacc.out; simp; omega, ?_⟩, by simp [intOf]; omega⟩
              have h1 := Hrun.out
              rw [Hdrop.out, kSuf, HC.out] at h1
              simp only at h1
              rw [Hm.out, if_pos Hkp.out] at h1
              rw [List.append_assoc]; exact h1
            · have Hkp := Lib.hid hkp
              go_wp2_with fail
              refine ⟨⟨k + 1, acc, by omega, by go_num, HP3.out, HK3.out, HV3.out, by have := Hacc.out; omega, ?_⟩, by simp [intOf]; omega⟩
              have h1 := Hrun.out
              rw [Hdrop.out, kSuf, HC.out] at h1
              simp only at h1
              rw [Hm.out, if_neg Hkp.out] at h1
              exact h1
    · have hk2 : k = N := by omega
      have Hacc2 : RowKit.Hid (acc = kSuf K names) := Lib.hid (by
        have h := Hrun.out
        rw [List.drop_eq_nil_of_le (by rw [HN.out]; omega)] at h
        simpa [kSuf] using h)
      clear hk2
      have HR := Lib.hid (row_of_own HV.out)
      go_wp2_with fail
      go_ret
      exact ⟨_, rfl, by have h := HR.out; rw [Hacc2.out] at h; simpa [scells, srow] using h, HK.out⟩
end Go.Proofs.YthopldpaoeabnaaDoor
