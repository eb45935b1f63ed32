/-
  The walk of CommandKinds.
-/
import Derived.Test.YtpjfeonhdkkfpaaDoorCmdLawD
namespace Go.Proofs.YtpjfeonhdkkfpaaDoor
open Go.RowKit
theorem path_len1 {c : Cmd} {f : Nat} (hf : f = 1 ∨ f = 5) (h : c.fieldOk f = true) : c.fieldText f ≠ [] := by
  rcases hf with rfl | rfl
  · show c.path ≠ []
    intro e
    rw [show c.fieldOk 1 = (pathOf c.path).isSome from rfl, e] at h
    cases h
  · show c.path ≠ []
    intro e
    rw [show c.fieldOk 5 = nameOk c.path from rfl, e] at h
    revert h; decide
theorem line_kind {c : Cmd} (h : c.ok = true) : ∃ t, t ≠ [] ∧ c.line = wordOf c.k ++ 32 :: t := by
  obtain ⟨h1, h2, _⟩ := ok_parts h
  generalize hk : c.k = k at *
  rcases (by omega : k = 0 ∨ k = 1 ∨ k = 2 ∨ k = 3 ∨ k = 4 ∨ k = 5 ∨ k = 6 ∨ k = 7 ∨ k = 8) with rfl | rfl | rfl | rfl | rfl | rfl | rfl | rfl | rfl
  · exact ⟨_, path_len1 (.inl rfl) (h2 1 (by decide)), line_one hk rfl⟩
  · exact ⟨_, path_len1 (.inl rfl) (h2 1 (by decide)), line_one hk rfl⟩
  · exact ⟨_, by simp, line_three hk rfl⟩
  · exact ⟨_, by simp, line_two hk rfl⟩
  · exact ⟨_, by simp, line_two hk rfl⟩
  · exact ⟨_, by simp, line_two hk rfl⟩
  · exact ⟨_, path_len1 (.inl rfl) (h2 1 (by decide)), line_one hk rfl⟩
  · exact ⟨_, path_len1 (.inr rfl) (h2 5 (by decide)), line_one hk rfl⟩
  · exact ⟨_, path_len1 (.inr rfl) (h2 5 (by decide)), line_one hk rfl⟩
theorem line_blanks {c : Cmd} (h : c.ok = true) : c.line.count 32 = (fieldsOf c.k).length := by
  have h1 := spl_len 32 c.line
  rw [words_line h] at h1
  simp at h1; omega
/-- what the law asks of a line of kind k -/
def KindLine (s : List UInt8) (k : Nat) : Prop := ∃ t, t ≠ [] ∧ s = wordOf k ++ 32 :: t ∧ s.count 32 = (fieldsOf k).length
theorem kind_line {c : Cmd} (h : c.ok = true) : KindLine c.line c.k := by
  obtain ⟨t, h1, h2⟩ := line_kind h
  exact ⟨t, h1, h2, line_blanks h⟩
theorem kind_take {s : List UInt8} {k : Nat} (h : KindLine s k) : s.take ((wordOf k).length + 1) = wordOf k ++ [32] ∧ (wordOf k).length + 1 < s.length ∧ s.count 32 = (fieldsOf k).length := by
  obtain ⟨t, h1, h2, h3⟩ := h
  refine ⟨?_, ?_, h3⟩
  · subst h2
    rw [show wordOf k ++ 32 :: t = (wordOf k ++ [32]) ++ t by simp, List.take_append_of_le_length (by simp), List.take_of_length_le (by simp)]
  · subst h2
    have : 1 ≤ t.length := Nat.one_le_iff_ne_zero.2 (fun e => h1 (List.length_eq_zero_iff.1 e))
    simp; omega
theorem ne32 {x : UInt8} (h : x ≠ 32) : ((x.toNat : Int) == 32) = false := beq_false_of_ne (fun e => h (UInt8.toNat_inj.1 (by show x.toNat = 32; omega)))
theorem count32 {s : List UInt8} {k : Nat} {x : UInt8} (hx : s[k]? = some x) : (s.take (k + 1)).count 32 = (s.take k).count 32 + if x = 32 then 1 else 0 := by
  rw [List.take_add_one, hx, Option.toList_some, List.count_append]
  by_cases h : x = 32
  · subst h; rfl
  · rw [if_neg h, List.count_eq_zero_of_not_mem (fun hm => h (List.mem_singleton.1 hm).symm)]
def blanksA : Array Value := #[.int .i64 1, .int .i64 1, .int .i64 3, .int .i64 2, .int .i64 2, .int .i64 2, .int .i64 1, .int .i64 1, .int .i64 1]
set_option maxRecDepth 100000 in
set_option maxHeartbeats 40000000 in
theorem law_kinds (c : Cmd) (w : World) (he : Env w) (hc : c.Small) (hcl : c.path.length + c.dest.length + c.data.length ≤ 1048576) :
    Calls Tryd.prog 8 #[cmdV c] w fun e w' => e = .returned (.bool true) ∧ Keep w w' := by
  have He := Lib.hid he
  have Hc := Lib.hid hc
  have Hcl := Lib.hid hcl
  clear he hc hcl
  rcases print_cases c with ⟨hok, hp⟩ | ⟨hok, hp⟩
  · have Hok := Lib.hid hok
    have Hp := Lib.hid hp
    have Hk := Lib.hid (ok_parts hok).1
    have Hkk := Lib.hid (k_lt Hk.out)
    have Hkl := Lib.hid (kind_take (kind_line hok))
    have Hsl := Lib.hid (line_short Hc.out Hcl.out hok)
    clear hp hok
    clear Hok
    go_enter Tryd.func8, Tryd.ntmps8
    unfold cmdV cmdC
    go_wp2_with fail
    refine (print_any c _ (He.out.keep ((Mod.refl _ _).alloc _)) Hc.out).mono ?_
    rintro e w1 ⟨rfl, hw⟩
    have HB1 : RowKit.Hid (World.blk w1 w.heap.size (cmdC c) 30) := Lib.hid (blk_mod hw (blk_new _ _ _) id)
    have HK1 : RowKit.Hid (Keep w w1) := Lib.hid (((Mod.refl _ w).alloc _).keep hw)
    clear hw
    rw [Hp.out]
    clear Hp
    have hkk : (c.kind = 0 ∧ c.k = 0) ∨ (c.kind = 1 ∧ c.k = 1) ∨ (c.kind = 2 ∧ c.k = 2) ∨ (c.kind = 3 ∧ c.k = 3) ∨ (c.kind = 4 ∧ c.k = 4) ∨ (c.kind = 5 ∧ c.k = 5) ∨ (c.kind = 6 ∧ c.k = 6) ∨ (c.kind = 7 ∧ c.k = 7) ∨ (c.kind = 8 ∧ c.k = 8) := by
      have := Hk.out
      have := Hkk.out
      omega
    clear Hk Hkk
    have c0 := (cmd_cells HB1.out).1
    have hlt := blk_lt HB1.out
    generalize c.line = s at *
    generalize c.k = k at *
    rcases hkk with ⟨hkk, rfl⟩ | ⟨hkk, rfl⟩ | ⟨hkk, rfl⟩ | ⟨hkk, rfl⟩ | ⟨hkk, rfl⟩ | ⟨hkk, rfl⟩ | ⟨hkk, rfl⟩ | ⟨hkk, rfl⟩ | ⟨hkk, rfl⟩
    all_goals
      rw [hkk] at c0
      obtain ⟨ht, hl, hb⟩ := Hkl.out
      have Hb := Lib.hid hb
      have Ht := Lib.hid ht
      have Hl := Lib.hid hl
      have Hkk := Lib.hid hkk
      clear hb ht hl Hkl hkk
      go_wp2_with fail
      go_loopw [8, 9] (fun m i wr => ∃ k : Nat, k ≤ s.length ∧ i = .int .i64 (k : Int) ∧ m = .int .i64 (((s.take k).count 32 : Nat) : Int) ∧ World.blk wr w.heap.size (cmdC c) 30 ∧ World.blk wr (w1.heap.size + 1) blanksA 3 ∧ Keep w wr) (fun _ i _ => s.length - (intOf i).toNat)
      case atStart => exact ⟨0, by omega, rfl, rfl, blk_alloc (blk_alloc HB1.out _) _, blk_new_at (by simp) _ _, (HK1.out.alloc _).alloc _⟩
      case round =>
        clear HB1 HK1
        obtain ⟨k, hk, rfl, rfl, hB, hN, hK⟩ := hrel
        have HB := Lib.hid hB
        have HN := Lib.hid hN
        have HK := Lib.hid hK
        clear hB hN hK
        by_cases hlt : k < s.length
        · obtain ⟨x, hx⟩ : ∃ x, s[k]? = some x := ⟨_, List.getElem?_eq_getElem hlt⟩
          have hix : ∀ W, (Instr.index 9 (.string ⟨s.toArray⟩) (.int .i64 (k : Int))).run Tryd.prog W = .ok (.int .u8 (x.toNat : Int)) W := fun W => run_index_str Tryd.underlying9 s .i64 (k : Int) x (by omega) (by rw [Int.toNat_natCast]; exact hx) W
          have Hst : RowKit.Hid ((s.take (k + 1)).count 32 = (s.take k).count 32 + if x = 32 then 1 else 0) := Lib.hid (count32 hx)
          have hkb : k < 4294967281 := by have := Hsl.out; omega
          have hcb : (s.take k).count 32 < 4294967281 := by
            have h1 := List.count_le_length (a := (32 : UInt8)) (l := s.take k)
            have h2 := Hsl.out
            rw [List.length_take] at h1
            omega
          clear hx
          generalize (s.take k).count 32 = m at *
          by_cases h32 : x = 32
          · subst h32
            have Hst2 : RowKit.Hid ((s.take (k + 1)).count 32 = m + 1) := Lib.hid Hst.out
            clear Hst
            go_wp2_with fail
            exact ⟨⟨k + 1, by omega, by go_num, by rw [Hst2.out]; go_num, HB.out, HN.out, HK.out⟩, by simp [intOf]; omega⟩
          · have Hst2 : RowKit.Hid ((s.take (k + 1)).count 32 = m) := Lib.hid (by rw [Hst.out, if_neg h32]; rfl)
            have hb : ((x.toNat : Int) == 32) = false := ne32 h32
            clear Hst h32
            go_wp2_with fail
            exact ⟨⟨k + 1, by omega, by go_num, by rw [Hst2.out], HB.out, HN.out, HK.out⟩, by simp [intOf]; omega⟩
        · obtain rfl : k = s.length := by omega
          rw [List.take_length, Hb.out]
          go_wp2_with fail
          refine (fixed_any wr (He.out.keep HK.out)).mono ?_
          rintro e w3 ⟨rfl, hk⟩
          have HK2 := Lib.hid (HK.out.keep hk)
          have c0 := (cmd_cells (blk_mod hk HB.out id)).1
          rw [Hkk.out] at c0
          have n0 := blk_cell (blk_mod hk HN.out id)
          have m0 := n0 0; have m1 := n0 1; have m2 := n0 2; have m3 := n0 3; have m4 := n0 4; have m5 := n0 5; have m6 := n0 6; have m7 := n0 7; have m8 := n0 8
          simp only [blanksA] at m0 m1 m2 m3 m4 m5 m6 m7 m8
          have hl := Hl.out
          have ht := Ht.out
          simp only [wordOf, List.length_cons, List.length_nil, List.cons_append, List.nil_append, Nat.reduceAdd] at hl ht
          clear hk n0
          go_wp2_with fail
          go_ret
          exact ⟨rfl, HK2.out⟩
  · have Hp := Lib.hid hp
    clear hp
    go_enter Tryd.func8, Tryd.ntmps8
    unfold cmdV cmdC
    go_wp2_with fail
    refine (print_any c _ (He.out.keep ((Mod.refl _ _).alloc _)) Hc.out).mono ?_
    rintro e w1 ⟨rfl, hk⟩
    have HK1 : RowKit.Hid (Keep w w1) := Lib.hid (((Mod.refl _ w).alloc _).keep hk)
    clear hk
    rw [Hp.out]
    go_wp2_with fail
    refine (fixed_any w1 (He.out.keep HK1.out)).mono ?_
    rintro e w2 ⟨rfl, hk⟩
    have HK2 := Lib.hid (HK1.out.keep hk)
    clear hk
    go_wp2_with fail
    go_ret
    exact ⟨rfl, HK2.out⟩
end Go.Proofs.YtpjfeonhdkkfpaaDoor
