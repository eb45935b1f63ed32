/-
  policy.Print.
-/
import Derived.Test.YthopldpaoeabnaaDoorPolText
import Derived.Deep.DeepCutAuto
namespace Go.Proofs.YthopldpaoeabnaaDoor
open Go.RowKit
theorem info_str : (Tryd.prog.info? 9).map (fun i => (i.zero, i.size, i.bytes)) = some (some (.string ⟨#[]⟩), 1, 16) := by kernel_rfl
theorem own_keep {w w' : World} {base n : Nat} {t : TypeId} {v : Value} {xs : List Value} (h : w.ownsRow base t 1 v n xs) (k : Keep w w') : w'.ownsRow base t 1 v n xs := by
  obtain ⟨h1, h2⟩ := h
  refine ⟨h1, ?_⟩
  rcases h2 with h2 | ⟨g, cap, cur, a, b, c, d⟩
  · exact .inl h2
  · exact .inr ⟨g, cap, cur, a, b, k.obj c id, d⟩
theorem add_str_cells {w : World} {base : Nat} {v : Value} {xs ys : List (List UInt8)} (h : w.ownsRow base 9 1 v (xs.length + (scells ys).toList.length) ((scells xs).toList ++ (scells ys).toList)) : OwnStrs w base v (xs ++ ys) := by
  have e : (scells (xs ++ ys)).toList = (scells xs).toList ++ (scells ys).toList := by simp [scells]
  have e2 : (xs ++ ys).length = xs.length + (scells ys).toList.length := by simp [scells]
  unfold OwnStrs
  rw [e, e2]; exact h
def boxV (E K : Nat → Int) : Array Value := #[.int .i64 (E 0), .int .i64 (E 1), .int .i64 (E 2), .int .i64 (K 0), .int .i64 (K 1), .int .i64 (K 2)]
theorem box_cells {w : World} {b : Nat} {E K : Nat → Int} {t : TypeId} (h : World.blk w b (boxV E K) t) :
    w.cell? ⟨b, 0, none⟩ = some (.int .i64 (E 0)) ∧ w.cell? ⟨b, 1, none⟩ = some (.int .i64 (E 1)) ∧ w.cell? ⟨b, 2, none⟩ = some (.int .i64 (E 2)) ∧
    w.cell? ⟨b, 3, none⟩ = some (.int .i64 (K 0)) ∧ w.cell? ⟨b, 4, none⟩ = some (.int .i64 (K 1)) ∧ w.cell? ⟨b, 5, none⟩ = some (.int .i64 (K 2)) :=
  ⟨blk_cell h 0, blk_cell h 1, blk_cell h 2, blk_cell h 3, blk_cell h 4, blk_cell h 5⟩
set_option maxRecDepth 100000 in
set_option maxHeartbeats 1000000 in
theorem print_any (E K : Nat → Int) (w : World) (he : Env w) :
    Calls Tryd.prog 10 #[polV E K] w fun e w' => e = .returned (printV E K) ∧ Keep w w' := by
  have He := Lib.hid he
  clear he
  go_enter Tryd.func10, Tryd.ntmps10
  unfold polV
  go_wp2_with fail
  go_loopw [4, 6] (fun v i wr => ∃ (k : Nat), k ≤ 3 ∧ i = .int .i64 (k : Int) ∧ World.blk wr w.heap.size (boxV E K) 24 ∧ Keep w wr ∧ OwnStrs wr (w.heap.size + 1) v (polWords E K k) ∧ (∀ i, i < k → fitsAt E K i)) (fun _ i _ => 3 - (intOf i).toNat)
  case atStart => exact ⟨0, by omega, rfl, blk_new _ _ _, (Mod.refl _ _).alloc _, ⟨rfl, .inl ⟨rfl, rfl⟩⟩, fun i hi => by omega⟩
  case round =>
    obtain ⟨k, hk, rfl, hB, hK, hV, hF⟩ := hrel
    have HB := Lib.hid hB
    have HK := Lib.hid hK
    have HV := Lib.hid hV
    have HF := Lib.hid hF
    have hbx := box_cells hB
    have hlt := blk_lt hB
    have hsz := hK.size
    clear hB hK hV hF
    rcases (by omega : k = 0 ∨ k = 1 ∨ k = 2 ∨ k = 3) with rfl | rfl | rfl | rfl
    · by_cases hf : fitsAt E K 0
      · have HF2 : RowKit.Hid (∀ i, i < 0 + 1 → fitsAt E K i) := Lib.hid (fun i hi => by
          rcases (by omega : i < 0 ∨ i = 0) with h | rfl
          · exact HF.out i h
          · exact hf)
        obtain ⟨f0, f1, f2, f3⟩ := hf
        have n0 : ¬ E 0 < 0 := by omega
        have n1 : ¬ E 0 > 1000 := by omega
        have n2 : ¬ K 0 < 0 := by omega
        have n3 : ¬ K 0 > 31 := by omega
        have Hf := Lib.hid (And.intro f0 (And.intro f1 (And.intro f2 f3)))
        clear f0 f1 f2 f3 hk
        have HE := Lib.hid (He.out.keep HK.out)
        go_wp2_with fail
        clear n0 n1 n2 n3
        have q1 : IntKind.i64.wrap 1 = 1 := rfl
        have q2 : IntKind.i64.wrap 2 = 2 := rfl
        have q3 : IntKind.i64.wrap 3 = 3 := rfl
        refine wp_region_km 1 15 (by kernel_rfl) (by kernel_rfl) (fun _ o _ _ _ h => by cases o <;> exact h) ?_
        simp only [List.take_succ_cons, List.take_zero, List.drop_succ_cons, List.drop_zero]
        refine wpPure_step (fun L hL => ?_)
        go_simp
        first | refine hL _ ?_ | refine ⟨_, fun _ => rfl, hL _ ?_⟩
        clear hL L
        refine wpPure_nil ?_
        repeat (quiet_step ((refine quiet_keep (itoa_any _ ?_ ?_ _ (HE.out.keep (keep_ext _ _))) <;> (have := Hf.out; omega))))
        refine wpQuiet_nil ?_
        intro _ hw'
        obtain ⟨xq, rfl⟩ := hw'
        have HB2 := Lib.hid (blk_mod (keep_ext wr xq) HB.out id)
        have HV2 := Lib.hid (own_keep HV.out (keep_ext wr xq))
        have HK2 := Lib.hid (HK.out.keep (keep_ext wr xq))
        have hsz2 := (keep_ext wr xq).size
        generalize wr.ext xq = w1 at *
        obtain ⟨v2, w2, hr, ho, hk2, hm2⟩ := append_own (P := Tryd.prog) Tryd.underlying40 info_str rfl (w.heap.size + 1) u4 _ _ w1 w HV2.out [.string ⟨#[104]⟩, .string ⟨(Lib.itoa (E 0)).toArray⟩, .string ⟨(Lib.itoa (K 0)).toArray⟩] (by intro u hu; simp at hu; rcases hu with rfl | rfl | rfl <;> rfl) (by rw [polWords_len]; show 3 ≤ maxLen; decide) (by rw [polWords_len]; show 3 * 16 ≤ 140737488355328; decide) (by omega) HK2.out (by omega)
        have Hr := Lib.hid hr
        have Ho := Lib.hid ho
        have Hk2 := Lib.hid hk2
        have HB3 := Lib.hid (blk_mod hm2 HB2.out (by omega))
        clear hr ho hk2 hbx hm2
        go_wp2_with ((at_builtin; refine wpList_append_run Hr.out rfl rfl rfl rfl ?_))
        exact ⟨⟨1, by omega, rfl, HB3.out, Hk2.out, add_str_cells (ys := [[104], Lib.itoa (E 0), Lib.itoa (K 0)]) Ho.out, HF2.out⟩, by decide⟩
      · have Hn : RowKit.Hid (¬ polFits E K) := Lib.hid (fun h => hf (h.1))
        have hn : E 0 < 0 ∨ (¬ E 0 < 0 ∧ E 0 > 1000) ∨ (¬ E 0 < 0 ∧ ¬ E 0 > 1000 ∧ K 0 < 0) ∨ (¬ E 0 < 0 ∧ ¬ E 0 > 1000 ∧ ¬ K 0 < 0 ∧ K 0 > 31) := by
          unfold fitsAt at hf; omega
        clear hf hk hlt hsz
        rcases hn with h | ⟨h, h1⟩ | ⟨h, h1, h2⟩ | ⟨h, h1, h2, h3⟩
        all_goals
          go_wp2_with fail
          go_ret2
          exact ⟨by rw [printV, if_neg Hn.out]; rfl, HK.out⟩
    · by_cases hf : fitsAt E K 1
      · have HF2 : RowKit.Hid (∀ i, i < 1 + 1 → fitsAt E K i) := Lib.hid (fun i hi => by
          rcases (by omega : i < 1 ∨ i = 1) with h | rfl
          · exact HF.out i h
          · exact hf)
        obtain ⟨f0, f1, f2, f3⟩ := hf
        have n0 : ¬ E 1 < 0 := by omega
        have n1 : ¬ E 1 > 1000 := by omega
        have n2 : ¬ K 1 < 0 := by omega
        have n3 : ¬ K 1 > 31 := by omega
        have Hf := Lib.hid (And.intro f0 (And.intro f1 (And.intro f2 f3)))
        clear f0 f1 f2 f3 hk
        have HE := Lib.hid (He.out.keep HK.out)
        go_wp2_with fail
        clear n0 n1 n2 n3
        have q1 : IntKind.i64.wrap 1 = 1 := rfl
        have q2 : IntKind.i64.wrap 2 = 2 := rfl
        have q3 : IntKind.i64.wrap 3 = 3 := rfl
        refine wp_region_km 1 15 (by kernel_rfl) (by kernel_rfl) (fun _ o _ _ _ h => by cases o <;> exact h) ?_
        simp only [List.take_succ_cons, List.take_zero, List.drop_succ_cons, List.drop_zero]
        refine wpPure_step (fun L hL => ?_)
        go_simp
        first | refine hL _ ?_ | refine ⟨_, fun _ => rfl, hL _ ?_⟩
        clear hL L
        refine wpPure_nil ?_
        repeat (quiet_step ((refine quiet_keep (itoa_any _ ?_ ?_ _ (HE.out.keep (keep_ext _ _))) <;> (have := Hf.out; omega))))
        refine wpQuiet_nil ?_
        intro _ hw'
        obtain ⟨xq, rfl⟩ := hw'
        have HB2 := Lib.hid (blk_mod (keep_ext wr xq) HB.out id)
        have HV2 := Lib.hid (own_keep HV.out (keep_ext wr xq))
        have HK2 := Lib.hid (HK.out.keep (keep_ext wr xq))
        have hsz2 := (keep_ext wr xq).size
        generalize wr.ext xq = w1 at *
        obtain ⟨v2, w2, hr, ho, hk2, hm2⟩ := append_own (P := Tryd.prog) Tryd.underlying40 info_str rfl (w.heap.size + 1) u4 _ _ w1 w HV2.out [.string ⟨#[100]⟩, .string ⟨(Lib.itoa (E 1)).toArray⟩, .string ⟨(Lib.itoa (K 1)).toArray⟩] (by intro u hu; simp at hu; rcases hu with rfl | rfl | rfl <;> rfl) (by rw [polWords_len]; show 6 ≤ maxLen; decide) (by rw [polWords_len]; show 6 * 16 ≤ 140737488355328; decide) (by omega) HK2.out (by omega)
        have Hr := Lib.hid hr
        have Ho := Lib.hid ho
        have Hk2 := Lib.hid hk2
        have HB3 := Lib.hid (blk_mod hm2 HB2.out (by omega))
        clear hr ho hk2 hbx hm2
        go_wp2_with ((at_builtin; refine wpList_append_run Hr.out rfl rfl rfl rfl ?_))
        exact ⟨⟨2, by omega, rfl, HB3.out, Hk2.out, add_str_cells (ys := [[100], Lib.itoa (E 1), Lib.itoa (K 1)]) Ho.out, HF2.out⟩, by decide⟩
      · have Hn : RowKit.Hid (¬ polFits E K) := Lib.hid (fun h => hf (h.2.1))
        have hn : E 1 < 0 ∨ (¬ E 1 < 0 ∧ E 1 > 1000) ∨ (¬ E 1 < 0 ∧ ¬ E 1 > 1000 ∧ K 1 < 0) ∨ (¬ E 1 < 0 ∧ ¬ E 1 > 1000 ∧ ¬ K 1 < 0 ∧ K 1 > 31) := by
          unfold fitsAt at hf; omega
        clear hf hk hlt hsz
        rcases hn with h | ⟨h, h1⟩ | ⟨h, h1, h2⟩ | ⟨h, h1, h2, h3⟩
        all_goals
          go_wp2_with fail
          go_ret2
          exact ⟨by rw [printV, if_neg Hn.out]; rfl, HK.out⟩
    · by_cases hf : fitsAt E K 2
      · have HF2 : RowKit.Hid (∀ i, i < 2 + 1 → fitsAt E K i) := Lib.hid (fun i hi => by
          rcases (by omega : i < 2 ∨ i = 2) with h | rfl
          · exact HF.out i h
          · exact hf)
        obtain ⟨f0, f1, f2, f3⟩ := hf
        have n0 : ¬ E 2 < 0 := by omega
        have n1 : ¬ E 2 > 1000 := by omega
        have n2 : ¬ K 2 < 0 := by omega
        have n3 : ¬ K 2 > 31 := by omega
        have Hf := Lib.hid (And.intro f0 (And.intro f1 (And.intro f2 f3)))
        clear f0 f1 f2 f3 hk
        have HE := Lib.hid (He.out.keep HK.out)
        go_wp2_with fail
        clear n0 n1 n2 n3
        have q1 : IntKind.i64.wrap 1 = 1 := rfl
        have q2 : IntKind.i64.wrap 2 = 2 := rfl
        have q3 : IntKind.i64.wrap 3 = 3 := rfl
        refine wp_region_km 1 15 (by kernel_rfl) (by kernel_rfl) (fun _ o _ _ _ h => by cases o <;> exact h) ?_
        simp only [List.take_succ_cons, List.take_zero, List.drop_succ_cons, List.drop_zero]
        refine wpPure_step (fun L hL => ?_)
        go_simp
        first | refine hL _ ?_ | refine ⟨_, fun _ => rfl, hL _ ?_⟩
        clear hL L
        refine wpPure_nil ?_
        repeat (quiet_step ((refine quiet_keep (itoa_any _ ?_ ?_ _ (HE.out.keep (keep_ext _ _))) <;> (have := Hf.out; omega))))
        refine wpQuiet_nil ?_
        intro _ hw'
        obtain ⟨xq, rfl⟩ := hw'
        have HB2 := Lib.hid (blk_mod (keep_ext wr xq) HB.out id)
        have HV2 := Lib.hid (own_keep HV.out (keep_ext wr xq))
        have HK2 := Lib.hid (HK.out.keep (keep_ext wr xq))
        have hsz2 := (keep_ext wr xq).size
        generalize wr.ext xq = w1 at *
        obtain ⟨v2, w2, hr, ho, hk2, hm2⟩ := append_own (P := Tryd.prog) Tryd.underlying40 info_str rfl (w.heap.size + 1) u4 _ _ w1 w HV2.out [.string ⟨#[119]⟩, .string ⟨(Lib.itoa (E 2)).toArray⟩, .string ⟨(Lib.itoa (K 2)).toArray⟩] (by intro u hu; simp at hu; rcases hu with rfl | rfl | rfl <;> rfl) (by rw [polWords_len]; show 9 ≤ maxLen; decide) (by rw [polWords_len]; show 9 * 16 ≤ 140737488355328; decide) (by omega) HK2.out (by omega)
        have Hr := Lib.hid hr
        have Ho := Lib.hid ho
        have Hk2 := Lib.hid hk2
        have HB3 := Lib.hid (blk_mod hm2 HB2.out (by omega))
        clear hr ho hk2 hbx hm2
        go_wp2_with ((at_builtin; refine wpList_append_run Hr.out rfl rfl rfl rfl ?_))
        exact ⟨⟨3, by omega, rfl, HB3.out, Hk2.out, add_str_cells (ys := [[119], Lib.itoa (E 2), Lib.itoa (K 2)]) Ho.out, HF2.out⟩, by decide⟩
      · have Hn : RowKit.Hid (¬ polFits E K) := Lib.hid (fun h => hf (h.2.2))
        have hn : E 2 < 0 ∨ (¬ E 2 < 0 ∧ E 2 > 1000) ∨ (¬ E 2 < 0 ∧ ¬ E 2 > 1000 ∧ K 2 < 0) ∨ (¬ E 2 < 0 ∧ ¬ E 2 > 1000 ∧ ¬ K 2 < 0 ∧ K 2 > 31) := by
          unfold fitsAt at hf; omega
        clear hf hk hlt hsz
        rcases hn with h | ⟨h, h1⟩ | ⟨h, h1, h2⟩ | ⟨h, h1, h2, h3⟩
        all_goals
          go_wp2_with fail
          go_ret2
          exact ⟨by rw [printV, if_neg Hn.out]; rfl, HK.out⟩
    · have hp : polFits E K := fits_of HF.out
      have Hp := Lib.hid hp
      clear hp hk
      obtain ⟨-, -, -, -, -, -⟩ := hbx
      go_wp2_with fail
      refine (join_any 32 (polWords E K 3) _ u4 wr HV.out (by rw [polWords_len]; omega) (by have := polText_len Hp.out; unfold polText at this; omega)).mono ?_
      rintro e w1 ⟨rfl, hk1⟩
      have HK1 := Lib.hid (HK.out.keep hk1)
      clear hk1 hlt hsz
      go_wp2_with fail
      go_ret2
      refine ⟨?_, HK1.out⟩
      rw [printV, if_pos Hp.out]; rfl
end Go.Proofs.YthopldpaoeabnaaDoor
