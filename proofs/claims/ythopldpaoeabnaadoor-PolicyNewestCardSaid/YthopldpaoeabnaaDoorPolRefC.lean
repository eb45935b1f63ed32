/-
  stillageref22: Print, number.
-/
import Derived.Test.YthopldpaoeabnaaDoorPolRefB
import Derived.Test.YthopldpaoeabnaaDoorPolTextsL
namespace Go.Proofs.YthopldpaoeabnaaDoor
open Go.RowKit
/-- the text of the first k classes -/
def accT (E K : Nat → Int) : Nat → List UInt8
  | 0 => []
  | k + 1 => (if k = 0 then accT E K k else accT E K k ++ [32]) ++ seg E K k
theorem accT_three (E K : Nat → Int) : accT E K 3 = polText E K := by
  rw [polText_seg]; simp [accT]
theorem seg_len (E K : Nat → Int) (k : Nat) (h : fitsAt E K k) : (seg E K k).length ≤ 23 := by
  have h1 := (itoa_short (E k) h.1 (by have := h.2.1; omega)).2
  have h2 := (itoa_short (K k) h.2.2.1 (by have := h.2.2.2; omega)).2
  simp [seg]; omega
theorem accT_len (E K : Nat → Int) : ∀ k, (∀ i, i < k → fitsAt E K i) → (accT E K k).length ≤ 24 * k
  | 0, _ => by simp [accT]
  | k + 1, h => by
    have h1 := accT_len E K k (fun i hi => h i (by omega))
    have h2 := seg_len E K k (h k (by omega))
    rw [accT]
    split <;> simp <;> omega
theorem box_E {w : World} {b : Nat} {E K : Nat → Int} {t : TypeId} (h : World.blk w b (boxV E K) t) {k : Nat} (hk : k < 3) : w.cell? ⟨b, k, none⟩ = some (.int .i64 (E k)) ∧ w.cell? ⟨b, 3 + k, none⟩ = some (.int .i64 (K k)) := by
  rcases (by omega : k = 0 ∨ k = 1 ∨ k = 2) with rfl | rfl | rfl <;> exact ⟨blk_cell h _, blk_cell h _⟩
theorem letter_keep (c : Nat) (hc : c < 3) (w : World) : Calls Tryd.prog 27 #[.int .i64 (c : Int)] w fun e w' => e = .returned (.string ⟨[letterOf c].toArray⟩) ∧ Keep w w' :=
  (letter_any c hc w).mono fun _ _ ⟨a, b⟩ => ⟨a, b ▸ Mod.refl _ _⟩
set_option maxRecDepth 100000 in
set_option maxHeartbeats 1000000 in
theorem rprint_any (E K : Nat → Int) (w : World) :
    Calls Tryd.prog 11 #[polV E K] w fun e w' => e = .returned (printV E K) ∧ Keep w w' := by
  go_enter Tryd.func11, Tryd.ntmps11
  unfold polV
  go_wp2_with fail
  go_loopw [4, 5] (fun v i wr => ∃ (k : Nat), k ≤ 3 ∧ i = .int .i64 (k : Int) ∧ World.blk wr w.heap.size (boxV E K) 24 ∧ Keep w wr ∧ v = .string ⟨(accT E K k).toArray⟩ ∧ (∀ i, i < k → fitsAt E K i)) (fun _ i _ => 3 - (intOf i).toNat)
  case atStart => exact ⟨0, by omega, rfl, blk_new _ _ _, (Mod.refl _ _).alloc _, rfl, fun i hi => by omega⟩
  case round =>
    obtain ⟨k, hk, rfl, hB, hK, rfl, hF⟩ := hrel
    have HB := Lib.hid hB
    have HK := Lib.hid hK
    have HF := Lib.hid hF
    have hal := accT_len E K k hF
    clear hB hK hF
    by_cases hlt : k < 3
    · obtain ⟨hc1, hc2⟩ := box_E HB.out hlt
      have hbl := blk_lt HB.out
      by_cases hf : fitsAt E K k
      · have HF2 : RowKit.Hid (∀ i, i < k + 1 → fitsAt E K i) := Lib.hid (fun i hi => by
          by_cases e : i = k
          · subst e; exact hf
          · exact HF.out i (by omega))
        have hl1 := (itoa_short (E k) hf.1 (by have := hf.2.1; omega)).2
        have hl2 := (itoa_short (K k) hf.2.2.1 (by have := hf.2.2.2; omega)).2
        obtain ⟨f0, f1, f2, f3⟩ := hf
        have Hf1 : RowKit.Hid (0 ≤ E k ∧ E k ≤ 1073741824) := Lib.hid (by omega)
        have Hf2 : RowKit.Hid (0 ≤ K k ∧ K k ≤ 1073741824) := Lib.hid (by omega)
        have n0 : ¬ E k < 0 := by omega
        have n1 : ¬ E k > 1000 := by omega
        have n2 : ¬ K k < 0 := by omega
        have n3 : ¬ K k > 31 := by omega
        clear f0 f1 f2 f3
        have Hstep : RowKit.Hid (accT E K (k + 1) = (if k = 0 then accT E K k else accT E K k ++ [32]) ++ seg E K k) := Lib.hid rfl
        have Hlt := Lib.hid hlt
        have hk3 : k ≤ 2 := by omega
        have g1 : ¬ (9223372036854775807 < 2 + (Lib.itoa (E k)).length) := by omega
        have g2 : ¬ (9223372036854775807 < (Lib.itoa (E k)).length + 1 + 1 + 1) := by omega
        have g3 : ¬ (9223372036854775807 < (Lib.itoa (E k)).length + 1 + 1 + 1 + (Lib.itoa (K k)).length) := by omega
        clear hlt hk
        rcases Nat.eq_zero_or_pos k with hk0 | hk0
        · subst hk0
          rw [show accT E K 0 = [] from rfl] at *
          have g4 : ¬ (9223372036854775807 < (Lib.itoa (E 0)).length + ((Lib.itoa (K 0)).length + 1) + 1 + 1) := by omega
          go_wp2_with fail
          clear n0 n1 n2 n3
          refine wp_region_ke (by kernel_rfl) (by kernel_rfl) ?_
          repeat (quiet_step (first | (with_reducible exact quiet_keep (letter_keep 0 Hlt.out _)) | (with_reducible exact quiet_keep (num_any (E 0) _ Hf1.out.1 Hf1.out.2)) | (with_reducible exact quiet_keep (num_any (K 0) _ Hf2.out.1 Hf2.out.2))))
          refine wpQuiet_nil ?_
          intro _ hw'
          obtain ⟨xq, rfl⟩ := hw'
          clear g1 g2 g3 g4
          go_wp2_with fail
          exact ⟨⟨1, by omega, rfl, blk_mod (keep_ext _ _) HB.out id, HK.out.keep (keep_ext _ _), by rw [Hstep.out]; simp [seg], HF2.out⟩, by decide⟩
        · have hk1 : ¬ k = 0 := by omega
          rw [if_neg hk1] at Hstep
          have g4 : ¬ (9223372036854775807 < (accT E K k).length + 1 + ((Lib.itoa (E k)).length + ((Lib.itoa (K k)).length + 1) + 1 + 1)) := by omega
          generalize accT E K k = acc at *
          clear hk1
          go_wp2_with fail
          clear n0 n1 n2 n3
          refine wp_region_ke (by kernel_rfl) (by kernel_rfl) ?_
          repeat (quiet_step (first | (with_reducible exact quiet_keep (letter_keep k Hlt.out _)) | (with_reducible exact quiet_keep (num_any (E k) _ Hf1.out.1 Hf1.out.2)) | (with_reducible exact quiet_keep (num_any (K k) _ Hf2.out.1 Hf2.out.2))))
          refine wpQuiet_nil ?_
          intro _ hw'
          obtain ⟨xq, rfl⟩ := hw'
          clear g1 g2 g3 g4
          go_wp2_with fail
          exact ⟨⟨k + 1, by omega, by go_num, blk_mod (keep_ext _ _) HB.out id, HK.out.keep (keep_ext _ _), by rw [Hstep.out]; simp [seg], HF2.out⟩, by simp [intOf]; omega⟩
      · have Hn : RowKit.Hid (¬ polFits E K) := Lib.hid (fun h => hf (fits_upto h k hlt))
        have hn : E k < 0 ∨ (¬ E k < 0 ∧ E k > 1000) ∨ (¬ E k < 0 ∧ ¬ E k > 1000 ∧ K k < 0) ∨ (¬ E k < 0 ∧ ¬ E k > 1000 ∧ ¬ K k < 0 ∧ K k > 31) := by
          unfold fitsAt at hf; omega
        clear hf
        rcases hn with h | ⟨h, h1⟩ | ⟨h, h1, h2⟩ | ⟨h, h1, h2, h3⟩
        all_goals
          go_wp2_with fail
          go_ret2
          exact ⟨by rw [printV, if_neg Hn.out]; rfl, HK.out⟩
    · obtain rfl : k = 3 := by omega
      have Hp : RowKit.Hid (polFits E K) := Lib.hid (fits_of HF.out)
      have Ht := Lib.hid (accT_three E K)
      go_wp2_with fail
      go_ret2
      exact ⟨by rw [printV, if_pos Hp.out, ← Ht.out]; rfl, HK.out⟩
set_option maxRecDepth 100000 in
set_option maxHeartbeats 1000000 in
theorem number_any (s : List UInt8) (p : Nat) (w : World) (hp : p ≤ 1000) (hs : s.length ≤ 140737488355328) :
    Calls Tryd.prog 31 #[.string ⟨s.toArray⟩, .int .i64 (p : Int)] w fun e w' => e = .returned (.tuple #[.int .i64 (decV (digs 5 (s.drop p))), .int .i64 ((digs 5 (s.drop p)).length : Int)]) ∧ w' = w := by
  go_enter Tryd.func31, Tryd.ntmps31
  go_wp2_with fail
  go_loop [6, 7] (fun n m => ∃ (k : Nat) (d : List UInt8), k ≤ 5 ∧ m = .int .i64 (k : Int) ∧ n = .int .i64 (decV d) ∧ RowKit.Hid (d.length = k ∧ (∀ c ∈ d, isDig c) ∧ digs 5 (s.drop p) = d ++ digs (5 - k) (s.drop (p + k)))) (fun _ m => 5 - (intOf m).toNat)
  case atStart => exact ⟨0, [], by omega, rfl, rfl, Lib.hid ⟨rfl, by simp, by simp⟩⟩
  case round =>
    obtain ⟨k, d, hk, rfl, rfl, Hd⟩ := hrel
    have hb := decV_five Hd.out.2.1 (by have := Hd.out.1; omega)
    by_cases h1 : p + k < s.length
    · by_cases h2 : k < 5
      · obtain ⟨x, hx⟩ : ∃ x, s[p + k]? = some x := ⟨_, List.getElem?_eq_getElem h1⟩
        have hix : ∀ W, (Instr.index 9 (.string ⟨s.toArray⟩) (.int .i64 ((p : Int) + (k : Int)))).run Tryd.prog W = .ok (.int .u8 (x.toNat : Int)) W := fun W => run_index_str Tryd.underlying9 s .i64 ((p : Int) + (k : Int)) x (by omega) (by rw [show ((p : Int) + (k : Int)).toNat = p + k by omega]; exact hx) W
        have Hdr : RowKit.Hid (s.drop (p + k) = x :: s.drop (p + k + 1)) := Lib.hid (by
          rw [List.drop_eq_getElem_cons h1]; congr 1; exact (List.getElem?_eq_some_iff.1 hx).2)
        have h1' : (p : Int) + (k : Int) < (s.length : Int) := by omega
        have h2' : (k : Int) < 5 := by omega
        by_cases hdg : isDig x
        · have Hst : RowKit.Hid ((d ++ [x]).length = k + 1 ∧ (∀ c ∈ d ++ [x], isDig c) ∧ digs 5 (s.drop p) = (d ++ [x]) ++ digs (5 - (k + 1)) (s.drop (p + (k + 1)))) := Lib.hid (by
            obtain ⟨a, b, c⟩ := Hd.out
            refine ⟨by simp [a], fun y hy => ?_, ?_⟩
            · rcases List.mem_append.1 hy with hy | hy
              · exact b y hy
              · simp at hy; subst hy; exact hdg
            · rw [c, Hdr.out, show 5 - k = (5 - (k + 1)) + 1 by omega, digs, if_pos hdg]
              simp [Nat.add_assoc])
          have Hv := Lib.hid (decV_snoc d x)
          unfold isDig at hdg
          have c1 : (48 : Int) ≤ x.toNat := by omega
          have c2 : (x.toNat : Int) ≤ 57 := by omega
          clear hdg hx
          generalize decV d = v at *
          go_wp2_with fail
          go_round
          case rel => exact ⟨k + 1, d ++ [x], by omega, by go_num, by rw [Hv.out], Hst⟩
          case measure => simp [intOf]; omega
        · have He : RowKit.Hid (digs 5 (s.drop p) = d) := Lib.hid (by
            rw [Hd.out.2.2, Hdr.out, show 5 - k = (5 - (k + 1)) + 1 by omega, digs, if_neg hdg, List.append_nil])
          have Hl := Lib.hid Hd.out.1
          have hn : ¬ (48 : Int) ≤ x.toNat ∨ ((48 : Int) ≤ x.toNat ∧ ¬ (x.toNat : Int) ≤ 57) := by unfold isDig at hdg; omega
          clear hdg hx Hd
          rcases hn with h | ⟨h, h'⟩
          all_goals
            go_wp2_with fail
            go_ret2
            exact ⟨by rw [He.out, Hl.out]; rfl, rfl⟩
      · have He : RowKit.Hid (digs 5 (s.drop p) = d) := Lib.hid (by
          rw [Hd.out.2.2, show 5 - k = 0 by omega, digs, List.append_nil])
        have Hl := Lib.hid Hd.out.1
        have h1' : (p : Int) + (k : Int) < (s.length : Int) := by omega
        have h2' : ¬ (k : Int) < 5 := by omega
        clear Hd
        go_wp2_with fail
        go_ret2
        exact ⟨by rw [He.out, Hl.out]; rfl, rfl⟩
    · have He : RowKit.Hid (digs 5 (s.drop p) = d) := Lib.hid (by
        rw [Hd.out.2.2, List.drop_eq_nil_of_le (by omega)]
        cases 5 - k <;> simp [digs])
      have Hl := Lib.hid Hd.out.1
      have h1' : ¬ (p : Int) + (k : Int) < (s.length : Int) := by omega
      clear Hd
      go_wp2_with fail
      go_ret2
      exact ⟨by rw [He.out, Hl.out]; rfl, rfl⟩
end Go.Proofs.YthopldpaoeabnaaDoor
