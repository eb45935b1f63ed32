/-
  stillageref13.words, value.
-/
import Derived.Test.YtpjfeonhdkkfpaaDoorCmdRefP
namespace Go.Proofs.YtpjfeonhdkkfpaaDoor
open Go.RowKit
theorem cut_end {c : UInt8} {s : List UInt8} {f i : Nat} (hf : f ≤ i) (hx : s[i]? = some c) (hn : c ∉ (s.drop f).take (i - f)) : spl c (s.drop f) = (s.drop f).take (i - f) :: spl c (s.drop (i + 1)) := by
  have hlt := (List.getElem?_eq_some_iff.1 hx).1
  have e : s.drop f = (s.drop f).take (i - f) ++ c :: s.drop (i + 1) := by
    conv => lhs; rw [← List.take_append_drop (i - f) (s.drop f)]
    congr 1
    rw [List.drop_drop, show f + (i - f) = i by omega, List.drop_eq_getElem_cons hlt]
    congr 1
    exact (List.getElem?_eq_some_iff.1 hx).2
  conv => lhs; rw [e]
  exact spl_cons c _ _ hn
theorem cut_step {c : UInt8} {s : List UInt8} {f i : Nat} {x : UInt8} (hf : f ≤ i) (hx : s[i]? = some x) (hne : x ≠ c) (hn : c ∉ (s.drop f).take (i - f)) : c ∉ (s.drop f).take (i + 1 - f) := by
  have e : (s.drop f).take (i + 1 - f) = (s.drop f).take (i - f) ++ [x] := by
    rw [show i + 1 - f = (i - f) + 1 by omega, List.take_add_one, List.getElem?_drop, show f + (i - f) = i by omega, hx]; rfl
  rw [e]
  simp only [List.mem_append, List.mem_singleton, not_or]
  exact ⟨hn, fun h => hne h.symm⟩
def CutInv (c : UInt8) (s : List UInt8) (acc : List (List UInt8)) (f i : Nat) : Prop :=
  acc.length ≤ i ∧ ((f ≤ s.length ∧ f ≤ i ∧ i ≤ s.length ∧ spl c s = acc ++ spl c (s.drop f) ∧ c ∉ (s.drop f).take (i - f)) ∨ (i = s.length + 1 ∧ spl c s = acc))
set_option maxRecDepth 100000 in
set_option maxHeartbeats 2000000 in
theorem words_any (s : List UInt8) (w : World) (hs : s.length < 4294967281) :
    Calls Tryd.prog 28 #[.string ⟨s.toArray⟩] w fun e w' => ∃ v, e = .returned v ∧ OwnStrs w' w.heap.size v (spl 32 s) ∧ Keep w w' := by
  have HB0 : RowKit.Hid (OwnStrs (w.alloc (.cells #[] 9)) w.heap.size (.slice (some ⟨w.heap.size, 0, none⟩) 0 0) []) := Lib.hid (own_made (l := []) (blk_new _ _ _) (Nat.le_refl _) (by simp))
  have HK0 : RowKit.Hid (Keep w (w.alloc (.cells #[] 9))) := Lib.hid ((Mod.refl _ _).alloc _)
  have HI0 : RowKit.Hid (CutInv 32 s [] 0 0) := Lib.hid ⟨by simp, .inl ⟨by omega, by omega, by omega, by simp, by simp⟩⟩
  go_enter Tryd.func28, Tryd.ntmps28
  go_wp2_with fail
  generalize w.alloc (.cells #[] 9) = w0 at *
  go_loopw [3, 4, 5] (fun v fv iv wr => ∃ (acc : List (List UInt8)) (f i : Nat), i ≤ s.length + 1 ∧ fv = .int .i64 (f : Int) ∧ iv = .int .i64 (i : Int) ∧ OwnStrs wr w.heap.size v acc ∧ Keep w wr ∧ w.heap.size ≤ wr.heap.size ∧ CutInv 32 s acc f i) (fun _ _ iv _ => s.length + 1 - (intOf iv).toNat)
  case atStart => exact ⟨[], 0, 0, by omega, rfl, rfl, HB0.out, HK0.out, HK0.out.size, HI0.out⟩
  case round =>
    clear HB0 HK0 HI0
    obtain ⟨acc, f, i, hi2, rfl, rfl, hV, hK, hz, hI⟩ := hrel
    have HV := Lib.hid hV
    have HK := Lib.hid hK
    have HI := Lib.hid hI
    have hacc := hI.1
    obtain ⟨ao, cap, rfl, _⟩ := own_form hV
    clear hV hK hI
    by_cases hle : i ≤ s.length
    · have hff : f ≤ i ∧ f ≤ s.length := by
        rcases HI.out.2 with ⟨a, b, _⟩ | ⟨a, _⟩ <;> omega
      obtain ⟨hf1, hf2⟩ := hff
      have Hno : RowKit.Hid (spl 32 s = acc ++ spl 32 (s.drop f) ∧ (32 : UInt8) ∉ (s.drop f).take (i - f)) := Lib.hid (by
        rcases HI.out.2 with ⟨_, _, _, a, b⟩ | ⟨a, _⟩
        · exact ⟨a, b⟩
        · omega)
      by_cases hlt : i < s.length
      · obtain ⟨x, hx⟩ : ∃ x, s[i]? = some x := ⟨_, List.getElem?_eq_getElem hlt⟩
        have Hx := Lib.hid hx
        have hix : ∀ W, (Instr.index 9 (.string ⟨s.toArray⟩) (.int .i64 (i : Int))).run Tryd.prog W = .ok (.int .u8 (x.toNat : Int)) W := fun W => run_index_str Tryd.underlying9 s .i64 (i : Int) x (by omega) (by rw [Int.toNat_natCast]; exact hx) W
        have bil : ((i : Int) == (s.length : Int)) = false := beq_false_of_ne (by omega)
        clear hx
        by_cases hx32 : x = 32
        · subst hx32
          have c32 : (((32 : UInt8).toNat : Int) == 32) = true := by decide
          have HI2 : RowKit.Hid (CutInv 32 s (acc ++ [(s.drop f).take (i - f)]) (i + 1) (i + 1)) := Lib.hid ⟨by simp; omega, .inl ⟨by omega, by omega, by omega, by rw [Hno.out.1, cut_end hf1 Hx.out Hno.out.2]; simp, by simp⟩⟩
          obtain ⟨v2, w4, hr, ho, hk2, hm2⟩ := append_own (P := Tryd.prog) Tryd.underlying22 info_str rfl w.heap.size (.slice ao acc.length cap) _ _ wr w HV.out [.string ⟨((s.drop f).take (i - f)).toArray⟩] (by intro u hu; simp at hu; subst hu; rfl) (by simp [maxLen]; omega) (by simp; omega) hz HK.out (Nat.le_refl _)
          have Hr1 := Lib.hid hr
          have Ho := Lib.hid ho
          have Hk2 := Lib.hid hk2
          clear hr ho hk2 hm2
          go_wp2_with ((at_builtin; refine wpList_append_run Hr1.out rfl rfl rfl rfl ?_))
          exact ⟨⟨acc ++ [(s.drop f).take (i - f)], i + 1, i + 1, by omega, by go_num, by go_num, add_str_cells (ys := [(s.drop f).take (i - f)]) Ho.out, Hk2.out, Hk2.out.size, HI2.out⟩, by simp [intOf]; omega⟩
        · have c32 : ((x.toNat : Int) == 32) = false := beq_false_of_ne (fun e => hx32 (UInt8.toNat_inj.1 (by show x.toNat = 32; omega)))
          have HI2 : RowKit.Hid (CutInv 32 s acc f (i + 1)) := Lib.hid ⟨by omega, .inl ⟨by omega, by omega, by omega, Hno.out.1, cut_step hf1 Hx.out hx32 Hno.out.2⟩⟩
          clear hx32
          go_wp2_with fail
          exact ⟨⟨acc, f, i + 1, by omega, rfl, by go_num, HV.out, HK.out, HK.out.size, HI2.out⟩, by simp [intOf]; omega⟩
      · obtain rfl : i = s.length := by omega
        have e9 : (s.drop f).take (s.length - f) = s.drop f := List.take_of_length_le (by rw [List.length_drop]; exact Nat.le_refl _)
        have HI2 : RowKit.Hid (CutInv 32 s (acc ++ [s.drop f]) (s.length + 1) (s.length + 1)) := Lib.hid ⟨by simp; omega, .inr ⟨rfl, by
          have h := Hno.out
          rw [e9] at h
          rw [h.1, spl_one 32 _ h.2]⟩⟩
        clear e9
        have bil : ((s.length : Int) == (s.length : Int)) = true := by rw [beq_iff_eq]
        obtain ⟨v2, w4, hr, ho, hk2, hm2⟩ := append_own (P := Tryd.prog) Tryd.underlying22 info_str rfl w.heap.size (.slice ao acc.length cap) _ _ wr w HV.out [.string ⟨(s.drop f).toArray⟩] (by intro u hu; simp at hu; subst hu; rfl) (by simp [maxLen]; omega) (by simp; omega) hz HK.out (Nat.le_refl _)
        have Hr1 := Lib.hid hr
        have Ho := Lib.hid ho
        have Hk2 := Lib.hid hk2
        clear hr ho hk2 hm2
        go_wp2_with ((at_builtin; refine wpList_append_run Hr1.out rfl rfl rfl rfl ?_))
        exact ⟨⟨acc ++ [s.drop f], s.length + 1, s.length + 1, by omega, by go_num, by go_num, add_str_cells (ys := [s.drop f]) Ho.out, Hk2.out, Hk2.out.size, HI2.out⟩, by simp [intOf]⟩
    · have Hn : RowKit.Hid (spl 32 s = acc) := Lib.hid (by
        rcases HI.out.2 with ⟨_, _, a, _, _⟩ | ⟨_, a⟩
        · omega
        · exact a)
      go_wp2_with fail
      go_ret
      exact ⟨_, rfl, by rw [Hn.out]; exact HV.out, HK.out⟩
def hval (c : UInt8) : Int := if 97 ≤ c.toNat then (c.toNat : Int) - 97 + 10 else (c.toNat : Int) - 48
theorem value_any (c : UInt8) (w : World) :
    Calls Tryd.prog 29 #[.int .u8 (c.toNat : Int)] w fun e w' => e = .returned (.int .i64 (hval c)) ∧ w = w' := by
  have hb := c.toNat_lt
  by_cases h : 97 ≤ c.toNat
  · have Hv : RowKit.Hid (hval c = (c.toNat : Int) - 97 + 10) := Lib.hid (by rw [hval, if_pos h])
    have h' : (97 : Int) ≤ c.toNat := by omega
    go_enter Tryd.func29, Tryd.ntmps29
    go_wp2_with fail
    go_ret
    exact ⟨by rw [Hv.out]; rfl, rfl⟩
  · have Hv : RowKit.Hid (hval c = (c.toNat : Int) - 48) := Lib.hid (by rw [hval, if_neg h])
    have h' : ¬ (97 : Int) ≤ c.toNat := by omega
    go_enter Tryd.func29, Tryd.ntmps29
    go_wp2_with fail
    go_ret
    exact ⟨by rw [Hv.out]; rfl, rfl⟩
end Go.Proofs.YtpjfeonhdkkfpaaDoor
