/-
  stillageref22.Class.
-/
import Derived.Test.YthopldpaoeabnaaDoorPolRefA
namespace Go.Proofs.YthopldpaoeabnaaDoor
open Go.RowKit
theorem decV_small {l : List UInt8} (h : ∀ c ∈ l, isDig c) (hl : l.length ≤ 10) : 0 ≤ decV l ∧ decV l < 10000000000 := by
  have h1 := decV_bd l h
  have : (10 : Int) ^ l.length ≤ 10 ^ 10 := by
    rcases (by omega : l.length = 0 ∨ l.length = 1 ∨ l.length = 2 ∨ l.length = 3 ∨ l.length = 4 ∨ l.length = 5 ∨ l.length = 6 ∨ l.length = 7 ∨ l.length = 8 ∨ l.length = 9 ∨ l.length = 10) with e | e | e | e | e | e | e | e | e | e | e <;> rw [e] <;> decide
  have e : (10 : Int) ^ 10 = 10000000000 := by decide
  omega
theorem take_all {s : List UInt8} {k : Nat} (h : ∀ i x, 2 ≤ i → i < k → s[i]? = some x → isDig x) : ∀ c ∈ (s.take k).drop 2, isDig c := by
  intro c hc
  obtain ⟨i, hi⟩ := List.mem_iff_getElem?.1 hc
  rw [List.getElem?_drop, List.getElem?_take] at hi
  split at hi
  · exact h (2 + i) c (by omega) (by omega) hi
  · cases hi
theorem take_step {s : List UInt8} {k : Nat} {x : UInt8} (hk : 2 ≤ k) (h : s[k]? = some x) : (s.take (k + 1)).drop 2 = (s.take k).drop 2 ++ [x] := by
  have hlt := (List.getElem?_eq_some_iff.1 h).1
  rw [List.take_add_one, h, Option.toList_some, List.drop_append_of_le_length (by rw [List.length_take]; omega)]
set_option maxRecDepth 100000 in
set_option maxHeartbeats 1000000 in
theorem rclass_any (s : List UInt8) (w : World) (hs : s.length ≤ 140737488355328) :
    Calls Tryd.prog 18 #[.string ⟨s.toArray⟩] w fun e w' => e = .returned (clsV (cls s)) ∧ Keep w w' := by
  by_cases hl : s.length < 3 ∨ 12 < s.length
  · have Hc := Lib.hid (cls_no_len hl)
    have hn : s.length < 3 ∨ (¬ s.length < 3 ∧ 12 < s.length) := by omega
    clear hl
    rcases hn with h | ⟨h, h1⟩
    all_goals
      go_enter Tryd.func18, Tryd.ntmps18
      go_wp2_with fail
      go_ret3
      exact ⟨by rw [Hc.out]; rfl, Mod.refl _ _⟩
  · have h3 : ¬ s.length < 3 := by omega
    have h12 : ¬ 12 < s.length := by omega
    obtain ⟨y, hy⟩ : ∃ y, s[1]? = some y := ⟨_, List.getElem?_eq_getElem (by omega)⟩
    have hix : ∀ W, (Instr.index 9 (.string ⟨s.toArray⟩) (.int .i64 1)).run Tryd.prog W = .ok (.int .u8 (y.toNat : Int)) W := fun W => run_index_str Tryd.underlying9 s .i64 1 y (by omega) hy W
    have b3 : decide ((s.length : Int) < 3) = false := by rw [decide_eq_false_iff_not]; omega
    have b12 : decide (12 < (s.length : Int)) = false := by rw [decide_eq_false_iff_not]; omega
    have Hl3 := Lib.hid h3
    have Hl12 := Lib.hid h12
    clear hl h3 h12
    by_cases hd : y = 46
    · subst hd
      have b46 : (((46 : UInt8).toNat : Int) != 46) = false := by decide
      clear hy
      go_enter Tryd.func18, Tryd.ntmps18
      go_wp2_with fail
      clear hix b3 b12
      go_loop [5, 6] (fun n i => ∃ (k : Nat), 2 ≤ k ∧ k ≤ s.length ∧ i = .int .i64 (k : Int) ∧ n = .int .i64 (decV ((s.take k).drop 2)) ∧ RowKit.Hid (∀ i x, 2 ≤ i → i < k → s[i]? = some x → isDig x)) (fun _ i => s.length - (intOf i).toNat)
      case atStart => exact ⟨2, by omega, by have := Hl3.out; omega, rfl, by simp [decV], Lib.hid (fun i x h1 h2 _ => by omega)⟩
      case round =>
        obtain ⟨k, hk2, hk, rfl, rfl, Hd⟩ := hrel
        by_cases hlt : k < s.length
        · obtain ⟨x, hx⟩ : ∃ x, s[k]? = some x := ⟨_, List.getElem?_eq_getElem hlt⟩
          have Hx := Lib.hid hx
          have hix : ∀ W, (Instr.index 9 (.string ⟨s.toArray⟩) (.int .i64 (k : Int))).run Tryd.prog W = .ok (.int .u8 (x.toNat : Int)) W := fun W => run_index_str Tryd.underlying9 s .i64 (k : Int) x (by omega) (by rw [Int.toNat_natCast]; exact hx) W
          clear hx
          by_cases hdg : isDig x
          · have Hstep := Lib.hid (take_step hk2 Hx.out)
            have hb := decV_small (take_all Hd.out) (by rw [List.length_drop, List.length_take]; have := Hl12.out; omega)
            have Hd2 : RowKit.Hid (∀ i x, 2 ≤ i → i < k + 1 → s[i]? = some x → isDig x) := Lib.hid (fun i z h1 h2 h3 => by
              by_cases e : i = k
              · subst e; rw [Hx.out] at h3; rw [← Option.some.inj h3]; exact hdg
              · exact Hd.out i z h1 (by omega) h3)
            unfold isDig at hdg
            have c1 : ¬ ((x.toNat : Int) < 48) := by omega
            have c2 : ¬ (57 < (x.toNat : Int)) := by omega
            have c3 : (48 : Int) ≤ x.toNat := by omega
            have c4 : (x.toNat : Int) ≤ 57 := by omega
            clear hdg
            have Hv := Lib.hid (decV_snoc ((s.take k).drop 2) x)
            generalize decV ((s.take k).drop 2) = v at *
            go_wp2_with fail
            go_round
            case rel => exact ⟨k + 1, by omega, by omega, by go_num, by rw [Hstep.out, Hv.out], Hd2⟩
            case measure => simp [intOf]; omega
          · have Hc := Lib.hid (cls_no_dig hk2 Hx.out hdg)
            have hn : (x.toNat : Int) < 48 ∨ (¬ (x.toNat : Int) < 48 ∧ 57 < (x.toNat : Int)) := by unfold isDig at hdg; omega
            clear hdg
            rcases hn with h | ⟨h, h1⟩
            all_goals
              go_wp2_with fail
              go_ret3
              exact ⟨by rw [Hc.out]; rfl, Mod.refl _ _⟩
        · have hkl : k = s.length := by omega
          subst hkl
          have Hall : RowKit.Hid (∀ c ∈ s.drop 2, isDig c) := Lib.hid (by have h := take_all Hd.out; rwa [List.take_length] at h)
          have hb := decV_small Hall.out (by rw [List.length_drop]; have := Hl12.out; omega)
          rw [List.take_length]
          have Hno := Lib.hid (cls_none_of (s := s))
          have Hyes := Lib.hid (fun (c : Nat) t => (cls_iff (s := s) (c := c) (t := t)).2)
          generalize decV (s.drop 2) = v at *
          clear Hd
          go_wp2_with fail
          go_loopw [7] (fun i wr => ∃ (k : Nat), k ≤ 3 ∧ i = .int .i64 (k : Int) ∧ Keep w wr ∧ (∀ i : Nat, i < k → ¬ (nameFits i v ∧ nameText i v = s))) (fun i _ => 3 - (intOf i).toNat)
          case atStart => exact ⟨0, by omega, rfl, Mod.refl _ _, fun i hi => by omega⟩
          case round =>
            obtain ⟨k, hk, rfl, hK, hF⟩ := hrel
            have HK := Lib.hid hK
            have HF := Lib.hid hF
            clear hK hF
            by_cases hlt : k < 3
            · go_wp2_with fail
              refine (rname_any (k : Int) v _).mono ?_
              rintro e w1 ⟨rfl, hk1⟩
              have HK1 := Lib.hid (HK.out.keep hk1)
              clear hk1
              by_cases hh : nameFits k v ∧ nameText k v = s
              · have Hc := Lib.hid (Hyes.out k v ⟨hlt, hh.1, hh.2⟩)
                rw [show nameV (k : Int) v = .tuple #[.string ⟨s.toArray⟩, .int .i64 0] by rw [nameV, nameOf, if_pos hh.1, hh.2]]
                clear hh
                have ess : (s == s) = true := beq_self_eq_true s
                go_wp2_with fail
                go_ret3
                exact ⟨by rw [Hc.out]; rfl, HK1.out⟩
              · have HF2 : RowKit.Hid (∀ i : Nat, i < k + 1 → ¬ (nameFits i v ∧ nameText i v = s)) := Lib.hid (fun i hi => by
                  by_cases e : i = k
                  · subst e; exact hh
                  · exact HF.out i (by omega))
                by_cases hf : nameFits k v
                · have hne : (nameText (k : Int) v == s) = false := beq_false_of_ne (fun e => hh ⟨hf, e⟩)
                  rw [show nameV (k : Int) v = .tuple #[.string ⟨(nameText (k : Int) v).toArray⟩, .int .i64 0] by rw [nameV, nameOf, if_pos hf]]
                  clear hh hf
                  generalize nameText (k : Int) v = m at *
                  go_wp2_with fail
                  exact ⟨⟨k + 1, by omega, by go_num, HK1.out, HF2.out⟩, by simp [intOf]; omega⟩
                · rw [show nameV (k : Int) v = .tuple #[.string ⟨#[]⟩, .int .i64 220] by rw [nameV, nameOf, if_neg hf]]
                  clear hh hf
                  go_wp2_with fail
                  exact ⟨⟨k + 1, by omega, by go_num, HK1.out, HF2.out⟩, by simp [intOf]; omega⟩
            · have hk3 : k = 3 := by omega
              subst hk3
              have Hc := Lib.hid (Hno.out HF.out)
              go_wp2_with fail
              go_ret3
              exact ⟨by rw [Hc.out]; rfl, HK.out⟩
    · have Hc := Lib.hid (cls_no_dot hy hd)
      have b46 : ((y.toNat : Int) != 46) = true := by
        rw [bne_iff_ne]; intro e; apply hd
        have : y.toNat = 46 := by omega
        exact UInt8.toNat_inj.1 (by rw [this]; rfl)
      clear hd hy
      go_enter Tryd.func18, Tryd.ntmps18
      go_wp2_with fail
      go_ret3
      exact ⟨by rw [Hc.out]; rfl, Mod.refl _ _⟩
end Go.Proofs.YthopldpaoeabnaaDoor
