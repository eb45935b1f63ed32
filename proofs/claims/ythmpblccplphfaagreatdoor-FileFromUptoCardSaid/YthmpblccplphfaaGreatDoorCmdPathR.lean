/-
  stillageref13.Path.
-/
import Derived.Test.YthmpblccplphfaaGreatDoorCmdPath
namespace Go.Proofs.YthmpblccplphfaaGreatDoor
open Go.RowKit
theorem own_form {w : World} {base : Nat} {v : Value} {xs : List (List UInt8)} (h : OwnStrs w base v xs) : ∃ ao cap, v = .slice ao xs.length cap ∧ xs.length ≤ cap := by
  rcases h.2 with ⟨rfl, h0⟩ | ⟨g, cap, cur, hv, _, _, hc, _⟩
  · exact ⟨none, 0, by rw [h0], by omega⟩
  · exact ⟨_, _, hv, hc⟩
theorem piece_end {s : List UInt8} {f i : Nat} (hf : f ≤ i) (hx : s[i]? = some 47) (hn : (47 : UInt8) ∉ (s.drop f).take (i - f)) : spl 47 (s.drop f) = (s.drop f).take (i - f) :: spl 47 (s.drop (i + 1)) := by
  have hlt := (List.getElem?_eq_some_iff.1 hx).1
  have e : s.drop f = (s.drop f).take (i - f) ++ 47 :: s.drop (i + 1) := by
    conv => lhs; rw [← List.take_append_drop (i - f) (s.drop f)]
    congr 1
    rw [List.drop_drop, show f + (i - f) = i by omega, List.drop_eq_getElem_cons hlt]
    congr 1
    exact (List.getElem?_eq_some_iff.1 hx).2
  conv => lhs; rw [e]
  exact spl_cons 47 _ _ hn
theorem no_step {s : List UInt8} {f i : Nat} {x : UInt8} (hf : f ≤ i) (hx : s[i]? = some x) (hne : x ≠ 47) (hn : (47 : UInt8) ∉ (s.drop f).take (i - f)) : (47 : UInt8) ∉ (s.drop f).take (i + 1 - f) := by
  have e : (s.drop f).take (i + 1 - f) = (s.drop f).take (i - f) ++ [x] := by
    rw [show i + 1 - f = (i - f) + 1 by omega, List.take_add_one, List.getElem?_drop, show f + (i - f) = i by omega, hx]; rfl
  rw [e]
  simp only [List.mem_append, List.mem_singleton, not_or]
  exact ⟨hn, fun h => hne h.symm⟩
def PathInv (s r : List UInt8) (acc : List (List UInt8)) (f i : Nat) : Prop :=
  acc.length ≤ 8 ∧ acc.all nameOk = true ∧ ((f ≤ s.length ∧ f ≤ i ∧ i ≤ s.length ∧ spl 47 r = acc ++ spl 47 (s.drop f) ∧ (47 : UInt8) ∉ (s.drop f).take (i - f)) ∨ (i = s.length + 1 ∧ spl 47 r = acc))
theorem inv_put {s r : List UInt8} {acc : List (List UInt8)} {f i : Nat} {p : List UInt8} (h : PathInv s r acc f i) (hp : nameOk p = true) (h8 : acc.length ≠ 8) (hq : (i < s.length ∧ spl 47 (s.drop f) = p :: spl 47 (s.drop (i + 1))) ∨ (i = s.length ∧ spl 47 (s.drop f) = [p])) : PathInv s r (acc ++ [p]) (i + 1) (i + 1) := by
  obtain ⟨h1, h2, h3⟩ := h
  refine ⟨by simp; omega, by simp [h2, hp], ?_⟩
  rcases h3 with ⟨a, b, _, c, d⟩ | ⟨a, b⟩
  · rcases hq with ⟨q1, q2⟩ | ⟨q1, q2⟩
    · exact .inl ⟨by omega, by omega, by omega, by rw [c, q2]; simp, by simp⟩
    · exact .inr ⟨by omega, by rw [c, q2]⟩
  · rcases hq with ⟨q1, _⟩ | ⟨q1, _⟩ <;> omega
theorem inv_no {s r : List UInt8} {acc : List (List UInt8)} {f i : Nat} {p : List UInt8} (hr : r ≠ []) (hs : s = 47 :: r) (h : PathInv s r acc f i) (hq : (i < s.length ∧ spl 47 (s.drop f) = p :: spl 47 (s.drop (i + 1))) ∨ (i = s.length ∧ spl 47 (s.drop f) = [p])) (hbad : nameOk p = false ∨ acc.length = 8) : pathOf s = none := by
  obtain ⟨h1, h2, h3⟩ := h
  rw [hs, path_cons hr, if_neg]
  rintro ⟨g1, g2⟩
  have hi : i ≤ s.length := by rcases hq with ⟨q, _⟩ | ⟨q, _⟩ <;> omega
  obtain ⟨rest, hrest⟩ : ∃ rest, spl 47 r = acc ++ p :: rest := by
    rcases h3 with ⟨_, _, _, c, _⟩ | ⟨a, _⟩
    · rcases hq with ⟨_, q2⟩ | ⟨_, q2⟩
      · exact ⟨_, by rw [c, q2]⟩
      · exact ⟨[], by rw [c, q2]⟩
    · omega
  rcases hbad with hb | hb
  · rw [hrest] at g2
    simp [hb] at g2
  · rw [hrest] at g1
    simp [hb] at g1
    omega
set_option maxRecDepth 100000 in
set_option maxHeartbeats 2000000 in
theorem rpath_any (s : List UInt8) (w : World) (hs : s.length < 4294967281) :
    Calls Tryz.prog 43 #[.string ⟨s.toArray⟩] w fun e w' => ∃ v, e = .returned (.tuple #[v, .int .i64 (pathErr s)]) ∧ OwnStrs w' w.heap.size v (pathNames s) ∧ Keep w w' := by
  have HB0 : RowKit.Hid (OwnStrs (w.alloc (.cells #[] 9)) w.heap.size (.slice (some ⟨w.heap.size, 0, none⟩) 0 0) []) := Lib.hid (own_made (l := []) (blk_new _ _ _) (Nat.le_refl _) (by simp))
  have HK0 : RowKit.Hid (Keep w (w.alloc (.cells #[] 9))) := Lib.hid ((Mod.refl _ _).alloc _)
  by_cases h0 : s = [47]
  · subst h0
    go_enter Tryz.func43, Tryz.ntmps43
    go_wp2_with fail
    go_ret2
    exact ⟨_, by rw [pathErr, path_root]; rfl, by rw [pathNames, path_root]; exact HB0.out, HK0.out⟩
  · have e0 : (s == [47]) = false := beq_false_of_ne h0
    rcases hsc : s with _ | ⟨c, r⟩
    · subst hsc
      go_enter Tryz.func43, Tryz.ntmps43
      go_wp2_with fail
      go_ret2
      exact ⟨_, rfl, nil_own _ _ _, HK0.out⟩
    · have hix : ∀ W, (Instr.index 9 (.string ⟨(c :: r).toArray⟩) (.int .i64 0)).run Tryz.prog W = .ok (.int .u8 (c.toNat : Int)) W := fun W => run_index_str Tryz.underlying9 (c :: r) .i64 0 c (by omega) rfl W
      by_cases hc : c = 47
      · subst hc
        have hr : r ≠ [] := fun e => h0 (by rw [hsc, e])
        have c47 : (((47 : UInt8).toNat : Int) != 47) = false := by decide
        obtain ⟨x, r', hrr⟩ : ∃ x r', r = x :: r' := by cases r; exact absurd rfl hr; exact ⟨_, _, rfl⟩
        have Hr := Lib.hid hr
        have Hsc := Lib.hid hsc
        have Hinv : RowKit.Hid (PathInv s r [] 1 1) := Lib.hid ⟨by simp, by simp, .inl ⟨by rw [hsc]; simp, by omega, by rw [hsc]; simp, by rw [hsc]; simp, by simp⟩⟩
        have e1 : (s == []) = false := by rw [hsc]; rfl
        have e2 : s.isEmpty = false := by rw [hsc]; rfl
        rw [← hsc] at hix ⊢
        clear h0 hr hsc hrr
        go_enter Tryz.func43, Tryz.ntmps43
        go_wp2_with fail
        clear hix e0 e1 e2 c47
        generalize w.alloc (.cells #[] 9) = w0 at *
        go_loopw [4, 5, 6] (fun v fv iv wr => ∃ (acc : List (List UInt8)) (f i : Nat), 1 ≤ i ∧ i ≤ s.length + 1 ∧ fv = .int .i64 (f : Int) ∧ iv = .int .i64 (i : Int) ∧ OwnStrs wr w.heap.size v acc ∧ Keep w wr ∧ w.heap.size ≤ wr.heap.size ∧ PathInv s r acc f i) (fun _ _ iv _ => s.length + 1 - (intOf iv).toNat)
        case atStart => exact ⟨[], 1, 1, by omega, by omega, rfl, rfl, HB0.out, HK0.out, HK0.out.size, Hinv.out⟩
        case round =>
          clear HB0 HK0 Hinv
          obtain ⟨acc, f, i, hi1, hi2, rfl, rfl, hV, hK, hz, hI⟩ := hrel
          have HV := Lib.hid hV
          have HK := Lib.hid hK
          have HI := Lib.hid hI
          have hacc := hI.1
          obtain ⟨ao, cap, rfl, _⟩ := own_form hV
          clear hV hK hI
          by_cases hle : i ≤ s.length
          · have hff : f ≤ i ∧ f ≤ s.length := by
              rcases HI.out.2.2 with ⟨a, b, _⟩ | ⟨a, _⟩ <;> omega
            obtain ⟨hf1, hf2⟩ := hff
            have hpl : ((s.drop f).take (i - f)).length ≤ 140737488355328 := by rw [List.length_take, List.length_drop]; omega
            have Hpl := Lib.hid hpl
            clear hpl
            by_cases hlt : i < s.length
            · obtain ⟨x, hx⟩ : ∃ x, s[i]? = some x := ⟨_, List.getElem?_eq_getElem hlt⟩
              have Hx := Lib.hid hx
              have hix : ∀ W, (Instr.index 9 (.string ⟨s.toArray⟩) (.int .i64 (i : Int))).run Tryz.prog W = .ok (.int .u8 (x.toNat : Int)) W := fun W => run_index_str Tryz.underlying9 s .i64 (i : Int) x (by omega) (by rw [Int.toNat_natCast]; exact hx) W
              clear hx
              by_cases hx47 : x = 47
              · subst hx47
                have c47 : (((47 : UInt8).toNat : Int) != 47) = false := by decide
                have Hq : RowKit.Hid ((i < s.length ∧ spl 47 (s.drop f) = (s.drop f).take (i - f) :: spl 47 (s.drop (i + 1))) ∨ (i = s.length ∧ spl 47 (s.drop f) = [(s.drop f).take (i - f)])) := Lib.hid (.inl ⟨hlt, piece_end hf1 Hx.out (by rcases HI.out.2.2 with ⟨_, _, _, _, d⟩ | ⟨a, _⟩; exact d; omega)⟩)
                go_wp2_with fail
                refine (rname_any ((s.drop f).take (i - f)) wr Hpl.out).mono ?_
                rintro e w1 ⟨rfl, hw⟩
                subst hw
                rcases hok : nameOk ((s.drop f).take (i - f)) with _ | _
                · have Hn : RowKit.Hid (pathOf s = none) := Lib.hid (inv_no Hr.out Hsc.out HI.out Hq.out (.inl hok))
                  clear hok
                  go_wp2_with fail
                  go_ret2
                  exact ⟨_, by rw [pathErr, Hn.out]; rfl, by rw [pathNames, Hn.out]; exact nil_own _ _ _, HK.out⟩
                · by_cases h8 : acc.length = 8
                  · have Hn : RowKit.Hid (pathOf s = none) := Lib.hid (inv_no Hr.out Hsc.out HI.out Hq.out (.inr h8))
                    have b8 : ((acc.length : Int) == 8) = true := by rw [beq_iff_eq]; omega
                    clear hok h8
                    go_wp2_with fail
                    go_ret2
                    exact ⟨_, by rw [pathErr, Hn.out]; rfl, by rw [pathNames, Hn.out]; exact nil_own _ _ _, HK.out⟩
                  · have HI2 := Lib.hid (inv_put HI.out hok h8 Hq.out)
                    have b8 : ((acc.length : Int) == 8) = false := beq_false_of_ne (by omega)
                    clear hok h8 Hq
                    obtain ⟨v2, w4, hr, ho, hk2, hm2⟩ := append_own (P := Tryz.prog) Tryz.underlying43 info_str rfl w.heap.size (.slice ao acc.length cap) _ _ wr w HV.out [.string ⟨((s.drop f).take (i - f)).toArray⟩] (by intro u hu; simp at hu; subst hu; rfl) (by simp [maxLen]; omega) (by simp; omega) hz HK.out (Nat.le_refl _)
                    have Hr1 := Lib.hid hr
                    have Ho := Lib.hid ho
                    have Hk2 := Lib.hid hk2
                    clear hr ho hk2 hm2
                    go_wp2_with ((at_builtin; refine wpList_append_run Hr1.out rfl rfl rfl rfl ?_))
                    exact ⟨⟨acc ++ [(s.drop f).take (i - f)], i + 1, i + 1, by omega, by omega, by go_num, by go_num, add_str_cells (ys := [(s.drop f).take (i - f)]) Ho.out, Hk2.out, Hk2.out.size, HI2.out⟩, by simp [intOf]; omega⟩
              · have c47 : ((x.toNat : Int) != 47) = true := by
                  rw [bne_iff_ne]; intro e; apply hx47
                  have : x.toNat = 47 := by omega
                  exact UInt8.toNat_inj.1 (by rw [this]; rfl)
                have HI2 : RowKit.Hid (PathInv s r acc f (i + 1)) := Lib.hid (by
                  obtain ⟨a, b, c⟩ := HI.out
                  refine ⟨a, b, ?_⟩
                  rcases c with ⟨c1, c2, _, c3, c4⟩ | ⟨c1, _⟩
                  · exact .inl ⟨c1, by omega, by omega, c3, no_step hf1 Hx.out hx47 c4⟩
                  · omega)
                clear hx47
                go_wp2_with fail
                exact ⟨⟨acc, f, i + 1, by omega, by omega, rfl, by go_num, HV.out, HK.out, HK.out.size, HI2.out⟩, by simp [intOf]; omega⟩
            · obtain rfl : i = s.length := by omega
              have e9 : (s.drop f).take (s.length - f) = s.drop f := List.take_of_length_le (by rw [List.length_drop]; exact Nat.le_refl _)
              rw [e9] at Hpl
              have Hq : RowKit.Hid (spl 47 (s.drop f) = [s.drop f]) := Lib.hid (spl_one 47 _ (by rcases HI.out.2.2 with ⟨_, _, _, _, d⟩ | ⟨a, _⟩; rwa [e9] at d; omega))
              clear e9
              go_wp2_with fail
              refine (rname_any (s.drop f) wr Hpl.out).mono ?_
              rintro e w1 ⟨rfl, hw⟩
              subst hw
              rcases hok : nameOk (s.drop f) with _ | _
              · have Hn : RowKit.Hid (pathOf s = none) := Lib.hid (inv_no Hr.out Hsc.out HI.out (.inr ⟨rfl, Hq.out⟩) (.inl hok))
                clear hok
                go_wp2_with fail
                go_ret2
                exact ⟨_, by rw [pathErr, Hn.out]; rfl, by rw [pathNames, Hn.out]; exact nil_own _ _ _, HK.out⟩
              · by_cases h8 : acc.length = 8
                · have Hn : RowKit.Hid (pathOf s = none) := Lib.hid (inv_no Hr.out Hsc.out HI.out (.inr ⟨rfl, Hq.out⟩) (.inr h8))
                  have b8 : ((acc.length : Int) == 8) = true := by rw [beq_iff_eq]; omega
                  clear hok h8
                  go_wp2_with fail
                  go_ret2
                  exact ⟨_, by rw [pathErr, Hn.out]; rfl, by rw [pathNames, Hn.out]; exact nil_own _ _ _, HK.out⟩
                · have HI2 := Lib.hid (inv_put HI.out hok h8 (.inr ⟨rfl, Hq.out⟩))
                  have b8 : ((acc.length : Int) == 8) = false := beq_false_of_ne (by omega)
                  clear hok h8 Hq
                  obtain ⟨v2, w4, hr, ho, hk2, hm2⟩ := append_own (P := Tryz.prog) Tryz.underlying43 info_str rfl w.heap.size (.slice ao acc.length cap) _ _ wr w HV.out [.string ⟨(s.drop f).toArray⟩] (by intro u hu; simp at hu; subst hu; rfl) (by simp [maxLen]; omega) (by simp; omega) hz HK.out (Nat.le_refl _)
                  have Hr1 := Lib.hid hr
                  have Ho := Lib.hid ho
                  have Hk2 := Lib.hid hk2
                  clear hr ho hk2 hm2
                  go_wp2_with ((at_builtin; refine wpList_append_run Hr1.out rfl rfl rfl rfl ?_))
                  exact ⟨⟨acc ++ [s.drop f], s.length + 1, s.length + 1, by omega, by omega, by go_num, by go_num, add_str_cells (ys := [s.drop f]) Ho.out, Hk2.out, Hk2.out.size, HI2.out⟩, by simp [intOf]⟩
          · have hil : i = s.length + 1 := by omega
            have Hn : RowKit.Hid (pathOf s = some acc) := Lib.hid (by
              obtain ⟨a, b, c⟩ := HI.out
              rcases c with ⟨_, _, c3, _, _⟩ | ⟨_, c2⟩
              · omega
              · rw [Hsc.out, path_cons Hr.out, c2, if_pos ⟨a, b⟩])
            clear hil
            go_wp2_with fail
            go_ret2
            exact ⟨_, by rw [pathErr, Hn.out]; rfl, by rw [pathNames, Hn.out]; exact HV.out, HK.out⟩
      · have Hn : RowKit.Hid (pathOf (c :: r) = none) := Lib.hid (path_not (fun r' e => hc (List.cons.inj e).1))
        have c47 : ((c.toNat : Int) != 47) = true := by
          rw [bne_iff_ne]; intro e; apply hc
          have : c.toNat = 47 := by omega
          exact UInt8.toNat_inj.1 (by rw [this]; rfl)
        rw [hsc] at e0
        clear h0 hsc hc
        go_enter Tryz.func43, Tryz.ntmps43
        go_wp2_with fail
        go_ret2
        exact ⟨_, by rw [pathErr, Hn.out]; rfl, by rw [pathNames, Hn.out]; exact nil_own _ _ _, HK0.out⟩
end Go.Proofs.YthmpblccplphfaaGreatDoor
