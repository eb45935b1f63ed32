/-
  PolicyBack's walk; what is printed is parsed as it was.
-/
import Derived.Test.YthopldpaoeabnaaDoorPolFixed
import Derived.Test.YthopldpaoeabnaaDoorDec
import Derived.Deep.DeepCutAuto
namespace Go.Proofs.YthopldpaoeabnaaDoor
open Go.RowKit
theorem words_no (E K : Nat → Int) (h : polFits E K) : ∀ x ∈ polWords E K 3, (32 : UInt8) ∉ x := by
  have hi : ∀ n : Int, 0 ≤ n → (32 : UInt8) ∉ Lib.itoa n := fun n hn hc => by have := itoa_bytes n hn 32 hc; simp at this
  have e : polWords E K 3 = [[104], Lib.itoa (E 0), Lib.itoa (K 0), [100], Lib.itoa (E 1), Lib.itoa (K 1), [119], Lib.itoa (E 2), Lib.itoa (K 2)] := rfl
  rw [e]
  intro x hx
  simp only [List.mem_cons, List.not_mem_nil, or_false] at hx
  rcases hx with rfl | rfl | rfl | rfl | rfl | rfl | rfl | rfl | rfl
  · decide
  · exact hi _ h.1.1
  · exact hi _ h.1.2.2.1
  · decide
  · exact hi _ h.2.1.1
  · exact hi _ h.2.1.2.2.1
  · decide
  · exact hi _ h.2.2.1
  · exact hi _ h.2.2.2.2.1
theorem spl_text (E K : Nat → Int) (h : polFits E K) : spl 32 (polText E K) = polWords E K 3 :=
  spl_of_join 32 _ (by intro e; have := polWords_len E K 3; rw [e] at this; simp at this) (words_no E K h)
theorem back_q (E K : Nat → Int) (h : polFits E K) : (∀ i, i < 3 → qE (spl 32 (polText E K)) 3 i = E i) ∧ (∀ i, i < 3 → qK (spl 32 (polText E K)) 3 i = K i) := by
  rw [spl_text E K h]
  obtain ⟨⟨a0, a1, a2, a3⟩, ⟨b0, b1, b2, b3⟩, ⟨c0, c1, c2, c3⟩⟩ := h
  refine ⟨three ?_ ?_ ?_, three ?_ ?_ ?_⟩
  · exact atoi_itoa (E 0) a0 (by omega)
  · exact atoi_itoa (E 1) b0 (by omega)
  · exact atoi_itoa (E 2) c0 (by omega)
  · exact atoi_itoa (K 0) a2 (by omega)
  · exact atoi_itoa (K 1) b2 (by omega)
  · exact atoi_itoa (K 2) c2 (by omega)
/-- What is printed is parsed as it was. -/
theorem parse_print (E K : Nat → Int) (h : polFits E K) : parseV (polText E K) = .tuple #[polV E K, .int .i64 0] := by
  obtain ⟨hE, hK⟩ := back_q E K h
  rw [parseV, if_pos ⟨by rw [spl_text E K h, polWords_len], fits_congr hE hK h, polText_congr hE hK⟩, polV_congr hE hK]
/-- What is parsed: a policy whose text it is; or nothing. -/
theorem parse_cases (s : List UInt8) : (∃ E K, polFits E K ∧ polText E K = s ∧ parseV s = .tuple #[polV E K, .int .i64 0]) ∨ ((∀ E K, polFits E K → polText E K ≠ s) ∧ parseV s = .tuple #[polZ, .int .i64 220]) := by
  by_cases h : ∃ E K, polFits E K ∧ polText E K = s
  · obtain ⟨E, K, hf, rfl⟩ := h
    exact .inl ⟨E, K, hf, rfl, parse_print E K hf⟩
  · refine .inr ⟨fun E K hf e => h ⟨E, K, hf, e⟩, ?_⟩
    rw [parseV, if_neg (fun hp => h ⟨_, _, hp.2.1, hp.2.2⟩)]
set_option maxRecDepth 100000 in
set_option maxHeartbeats 1000000 in
theorem law_back (E K : Nat → Int) (s : List UInt8) (w : World) (he : Env w) (hs : s.length < 4294967281) :
    Calls Tryd.prog 8 #[polV E K, .string ⟨s.toArray⟩] w fun e w' => e = .returned (.bool true) ∧ Keep w w' := by
  have He := Lib.hid he
  have Hs := Lib.hid hs
  clear he hs
  have hz : ∀ W, (Op.equalIn 9999 22 (.agg #[.int .i64 0, .int .i64 0, .int .i64 0]) (.agg #[.int .i64 0, .int .i64 0, .int .i64 0])).run Tryd.prog W = .ok true W := fun W => eq3 0 0 0 0 0 0 W
  have hq1 : ∀ W, (Op.equalIn 9999 22 (.agg #[.int .i64 (E 0), .int .i64 (E 1), .int .i64 (E 2)]) (.agg #[.int .i64 (E 0), .int .i64 (E 1), .int .i64 (E 2)])).run Tryd.prog W = .ok true W := fun W => by rw [eq3]; simp
  have hq2 : ∀ W, (Op.equalIn 9999 22 (.agg #[.int .i64 (K 0), .int .i64 (K 1), .int .i64 (K 2)]) (.agg #[.int .i64 (K 0), .int .i64 (K 1), .int .i64 (K 2)])).run Tryd.prog W = .ok true W := fun W => by rw [eq3]; simp
  go_enter Tryd.func8, Tryd.ntmps8
  unfold polV
  go_wp2_with fail
  refine (print_any E K _ (He.out.keep ((Mod.refl _ _).alloc _))).mono ?_
  rintro e w1 ⟨rfl, hk⟩
  have HB1 : RowKit.Hid (World.blk w1 w.heap.size (boxV E K) 24) := Lib.hid (blk_mod hk (blk_new _ _ _) id)
  have HK1 : RowKit.Hid (Keep w w1) := Lib.hid (((Mod.refl _ w).alloc _).keep hk)
  clear hk
  have Hz := Lib.hid hz
  have Hq1 := Lib.hid hq1
  have Hq2 := Lib.hid hq2
  clear hz hq1 hq2
  have hpr : ∃ m er, printV E K = .tuple #[.string ⟨m.toArray⟩, .int .i64 er] ∧ ((er = 220) ∨ (er = 0 ∧ polFits E K ∧ m = polText E K)) := by
    rw [printV]
    split
    · exact ⟨_, _, rfl, .inr ⟨rfl, by assumption, rfl⟩⟩
    · exact ⟨[], _, rfl, .inl rfl⟩
  obtain ⟨m, er, hm1, hm2⟩ := hpr
  rw [hm1]
  clear hm1
  have Hm := Lib.hid hm2
  clear hm2
  go_upto_if 19 with (fail)
  go_cut [7] (fun _ wr => World.blk wr w.heap.size (boxV E K) 24 ∧ Keep w wr)
  case first =>
    rcases Hm.out with rfl | ⟨rfl, hf, rfl⟩
    · go_wp2_with fail
      go_meet
      case rel => exact ⟨HB1.out, HK1.out⟩
    · have Hf := Lib.hid hf
      clear hf
      go_wp2_with fail
      refine (parse_any (polText E K) w1 (He.out.keep HK1.out) (by have := polText_len Hf.out; omega)).mono ?_
      rintro e w2 ⟨rfl, hk⟩
      have HB2 := Lib.hid (blk_mod hk HB1.out id)
      have HK2 := Lib.hid (HK1.out.keep hk)
      clear hk
      rw [parse_print E K Hf.out]
      unfold polV
      have hbx := box_cells HB2.out
      have hlt := blk_lt HB2.out
      have hq1 := Hq1.out
      have hq2 := Hq2.out
      go_wp2_with fail
      go_meet
      case rel => exact ⟨blk_alloc HB2.out _, HK2.out.alloc _⟩
  case rest =>
  clear HB1 HK1 Hm
  obtain ⟨hB, hK⟩ := hcut
  have HB := Lib.hid hB
  have HK := Lib.hid hK
  clear hB hK
  go_wp2_with fail
  refine (parse_any s _ (He.out.keep HK.out) Hs.out).mono ?_
  rintro e w2 ⟨rfl, hk⟩
  have HK2 := Lib.hid (HK.out.keep hk)
  clear hk HB HK
  rcases parse_cases s with ⟨E', K', hf, hs, hp⟩ | ⟨-, hp⟩
  · rw [hp]
    have Hf := Lib.hid hf
    have Hs2 := Lib.hid hs
    clear hf hs hp
    unfold polV
    go_wp2_with fail
    refine (print_any E' K' _ (He.out.keep (HK2.out.alloc _))).mono ?_
    rintro e w3 ⟨rfl, hk⟩
    have HK3 := Lib.hid ((HK2.out.alloc _).keep hk)
    clear hk
    rw [printV, if_pos Hf.out, Hs2.out]
    go_wp2_with fail
    refine (fixed_any w3 (He.out.keep HK3.out)).mono ?_
    rintro e w4 ⟨rfl, hk⟩
    have HK4 := Lib.hid (HK3.out.keep hk)
    clear hk
    go_wp2_with fail
    go_ret
    exact ⟨rfl, HK4.out⟩
  · rw [hp]
    clear hp
    unfold polZ polV
    have hz := Hz.out
    go_wp2_with fail
    refine (fixed_any _ (He.out.keep (HK2.out.alloc _))).mono ?_
    rintro e w4 ⟨rfl, hk⟩
    have HK4 := Lib.hid ((HK2.out.alloc _).keep hk)
    clear hk
    go_wp2_with fail
    go_ret
    exact ⟨rfl, HK4.out⟩
end Go.Proofs.YthopldpaoeabnaaDoor
