/-
  commands.Parse.
-/
import Derived.Test.YtpjfeonhdkkfpaaDoorCmdPrint
namespace Go.Proofs.YtpjfeonhdkkfpaaDoor
open Go.RowKit
def parseV (s : List UInt8) : Value := match parseC s with | some c => .tuple #[cmdV c, .int .i64 0] | none => .tuple #[cmdV Cmd.zero, .int .i64 130]
theorem takes_snoc (f : Nat) (x : List UInt8) : ∀ (fs : List Nat) (l : List (List UInt8)) (c : Cmd) (j : Nat), fs[j]? = some f → l[j]? = some x → takes c (fs.take (j + 1)) l = (takes c (fs.take j) l).take f x
  | [], _, _, _, h, _ => by simp at h
  | _ :: _, [], _, _, _, h => by simp at h
  | g :: fs, y :: l, c, 0, h1, h2 => by
    simp at h1 h2
    subst h1 h2
    simp [takes]
  | g :: fs, y :: l, c, j + 1, h1, h2 => by
    simp only [List.getElem?_cons_succ] at h1 h2
    rw [List.take_succ_cons, List.take_succ_cons, takes, takes]
    exact takes_snoc f x fs l (c.take g y) j h1 h2
theorem unhexed_len (s : List UInt8) : (unhexed s).length ≤ s.length := by
  unfold unhexed; split
  · simp
  · exact unhexes_len hexv _ _ (Nat.le_refl _)
theorem small_take {c : Cmd} (hc : c.Small) (f : Nat) {x : List UInt8} (hx : x.length < 4294967281) : (c.take f x).Small := by
  unfold Cmd.take
  split
  · exact ⟨hc.path, hx, hc.data, hc.pos⟩
  · exact ⟨hc.path, hc.dest, hc.data, atoiV_bounds x⟩
  · exact ⟨hc.path, hc.dest, by have := unhexed_len x; show (unhexed x).length ≤ _; omega, hc.pos⟩
  · exact ⟨hx, hc.dest, hc.data, hc.pos⟩
theorem small_takes {l : List (List UInt8)} : ∀ (fs : List Nat) (l : List (List UInt8)) (c : Cmd), c.Small → (∀ x ∈ l, x.length < 4294967281) → (takes c fs l).Small
  | [], _, c, hc, _ => by cases ‹List (List UInt8)› <;> exact hc
  | f :: fs, [], c, hc, _ => hc
  | f :: fs, x :: l, c, hc, hl => small_takes (l := l) fs l _ (small_take hc f (hl x (by simp))) (fun y hy => hl y (by simp [hy]))
theorem small_kind (k : Int) : (⟨k, [], [], 0, []⟩ : Cmd).Small := ⟨by simp, by simp, by simp, by simp⟩
theorem kOf_nat (k : Nat) (h : k < 9) : kOf (k : Int) = k := by rw [kOf, if_pos (by omega)]; omega
set_option maxRecDepth 100000 in
set_option maxHeartbeats 2000000 in
theorem parse_any (s : List UInt8) (w : World) (he : Env w) (hs : s.length < 4294967281) :
    Calls Tryd.prog 15 #[.string ⟨s.toArray⟩] w fun e w' => e = .returned (parseV s) ∧ Keep w w' := by
  have He := Lib.hid he
  have Hs := Lib.hid hs
  clear he hs
  go_enter Tryd.func15, Tryd.ntmps15
  go_wp2_with fail
  refine (split_any 32 s Hs.out _ (He.out.keep ((Mod.refl _ _).alloc _))).mono ?_
  rintro e w2 ⟨rfl, hw⟩
  subst hw
  have Hnm : RowKit.Hid (∀ x ∈ spl 32 s, x.length < 4294967281) := Lib.hid (fun x hx => by
    obtain ⟨i, hi⟩ := List.mem_iff_getElem?.1 hx
    have h1 := spl_piece 32 s i
    rw [List.getD_eq_getElem?_getD, hi] at h1
    have := Hs.out
    simp at h1; omega)
  have hNl : (spl 32 s).length ≤ 4294967281 := by rw [spl_len]; have := List.count_le_length (a := (32 : UInt8)) (l := s); have := Hs.out; omega
  have HT : RowKit.Hid (∀ k, tryKind s k = if kindHit (spl 32 s) k then (if (takes ⟨k, [], [], 0, []⟩ (fieldsOf k) (spl 32 s).tail).ok && (takes ⟨k, [], [], 0, []⟩ (fieldsOf k) (spl 32 s).tail).line == s then some (takes ⟨k, [], [], 0, []⟩ (fieldsOf k) (spl 32 s).tail) else none) else none) := Lib.hid (fun k => rfl)
  have HL := spl_ne 32 s
  generalize spl 32 s = L at *
  obtain ⟨L0, Lt, rfl⟩ : ∃ L0 Lt, L = L0 :: Lt := by cases L; exact absurd rfl HL; exact ⟨_, _, rfl⟩
  clear HL
  have HR0 : RowKit.Hid (World.blk ((w.alloc (.cells (cmdC Cmd.zero) 30)).alloc (.cells (scells (L0 :: Lt)) 9)) w.heap.size (cmdC Cmd.zero) 30) := Lib.hid (blk_alloc (blk_new _ _ _) _)
  have HB0 : RowKit.Hid (World.blk ((w.alloc (.cells (cmdC Cmd.zero) 30)).alloc (.cells (scells (L0 :: Lt)) 9)) (w.heap.size + 1) (scells (L0 :: Lt)) 9) := Lib.hid (blk_new_at (by simp) _ _)
  have HK0 : RowKit.Hid (Keep w ((w.alloc (.cells (cmdC Cmd.zero) 30)).alloc (.cells (scells (L0 :: Lt)) 9))) := Lib.hid (((Mod.refl _ _).alloc _).alloc _)
  obtain ⟨N, hN⟩ : ∃ N, Lt.length = N := ⟨_, rfl⟩
  have HN := Lib.hid hN
  rw [List.length_cons, hN] at hNl ⊢
  clear hN
  go_upto_region 2 with (fail)
  change Code.wp _ _ _ _ ((w.alloc (.cells (cmdC Cmd.zero) 30)).alloc (.cells (scells (L0 :: Lt)) 9))
  generalize (w.alloc (.cells (cmdC Cmd.zero) 30)).alloc (.cells (scells (L0 :: Lt)) 9) = w0 at *
  go_wp2_with fail
  go_loopw [15] (fun i wr => ∃ k : Nat, k ≤ 9 ∧ i = .int .i64 (k : Int) ∧ World.blk wr w.heap.size (cmdC Cmd.zero) 30 ∧ World.blk wr (w.heap.size + 1) (scells (L0 :: Lt)) 9 ∧ Keep w wr ∧ (∀ j, j < k → tryKind s j = none)) (fun i _ => 9 - (intOf i).toNat)
  case atStart => exact ⟨0, by omega, rfl, HR0.out, HB0.out, HK0.out, fun j hj => by omega⟩
  case round =>
    clear HR0 HB0 HK0
    obtain ⟨k, hk, rfl, hR, hB, hK, hA⟩ := hrel
    have HR := Lib.hid hR
    have HB := Lib.hid hB
    have HK := Lib.hid hK
    have HA := Lib.hid hA
    clear hR hB hK hA
    by_cases hlt : k < 9
    · have Hko := Lib.hid (kOf_nat k hlt)
      go_wp2_with fail
      refine (word_any (k : Int) wr).mono ?_
      rintro e w1 ⟨v, rfl, hr, hk1⟩
      rw [Hko.out] at hr ⊢
      have HR1 := Lib.hid (blk_mod hk1 HR.out id)
      have HB1 := Lib.hid (blk_mod hk1 HB.out id)
      have HK1 := Lib.hid (HK.out.keep hk1)
      obtain ⟨fa, fcap, rfl, hF⟩ := hr
      obtain ⟨M, hM⟩ : ∃ M, (fieldsOf k).length = M := ⟨_, rfl⟩
      have hM3 := fields_len k
      rw [ints_len, show (fieldsI k).length = M from by simp [fieldsI, hM]]
      rw [hM] at hM3
      have HM := Lib.hid hM
      have HF := Lib.hid hF
      have hl0 : w1.cell? ⟨w.heap.size + 1, 0, none⟩ = some (.string ⟨L0.toArray⟩) := by rw [blk_cell HB1.out, scells_get]; rfl
      clear hk1 hF HR HB HK hM
      by_cases hw : wordOf k = L0
      · by_cases hlen : M = N
        · have HH : RowKit.Hid (kindHit (L0 :: Lt) k = true) := Lib.hid (by simp [kindHit, hw, HM.out, HN.out, hlen])
          have HTk : RowKit.Hid (tryKind s k = if (takes ⟨k, [], [], 0, []⟩ (fieldsOf k) Lt).ok && (takes ⟨k, [], [], 0, []⟩ (fieldsOf k) Lt).line == s then some (takes ⟨k, [], [], 0, []⟩ (fieldsOf k) Lt) else none) := Lib.hid (by rw [HT.out, if_pos HH.out]; rfl)
          have b1 : (wordOf k == L0) = true := beq_iff_eq.2 hw
          have b2 : ((M : Int) != (N : Int)) = false := by rw [bne_eq_false_iff_eq]; omega
          have b3 : ((M : Int) != (N : Int) + 1 - 1) = false := by rw [bne_eq_false_iff_eq]; omega
          have Hlen := Lib.hid hlen
          clear hw hlen HH
          go_upto_region 8 with (fail)
          have HX : RowKit.Hid (World.blk (w1.alloc (.cells (cmdC ⟨k, [], [], 0, []⟩) 30)) w1.heap.size (cmdC ⟨k, [], [], 0, []⟩) 30) := Lib.hid (blk_new _ _ _)
          have HR2 := Lib.hid (blk_alloc HR1.out (.cells (cmdC ⟨k, [], [], 0, []⟩) 30))
          have HB2 := Lib.hid (blk_alloc HB1.out (.cells (cmdC ⟨k, [], [], 0, []⟩) 30))
          have HK2 := Lib.hid (HK1.out.alloc (.cells (cmdC ⟨k, [], [], 0, []⟩) 30))
          have HF2 : RowKit.Hid (∀ j x, (ints (fieldsI k))[j]? = some x → ∃ b o, fa = some ⟨b, o, none⟩ ∧ b < w1.heap.size ∧ (w1.alloc (.cells (cmdC ⟨k, [], [], 0, []⟩) 30)).cell? ⟨b, o + j, none⟩ = some x) := Lib.hid (fun j x hx => by
            obtain ⟨b, o, e, hc⟩ := HF.out j x hx
            refine ⟨b, o, e, lt_of_cell hc, ?_⟩
            rw [Mod.cell ((Mod.refl (fun _ => False) w1).alloc _) (lt_of_cell hc) id]; exact hc)
          have hlt1 : w.heap.size + 1 < w1.heap.size := blk_lt HB1.out
          clear hl0 HR1 HB1 HF b1 b2 b3
          go_wp2_with fail
          change Code.wp _ _ _ _ (w1.alloc (.cells (cmdC ⟨k, [], [], 0, []⟩) 30))
          generalize w1.alloc (.cells (cmdC ⟨k, [], [], 0, []⟩) 30) = w2 at *
          generalize w1.heap.size = X at *
          go_loopw [40] (fun i wr => ∃ j : Nat, j ≤ M ∧ i = .int .i64 (j : Int) ∧ World.blk wr X (cmdC (takes ⟨k, [], [], 0, []⟩ ((fieldsOf k).take j) Lt)) 30 ∧ Mod (· = X) w2 wr) (fun i _ => M - (intOf i).toNat)
          case atStart => exact ⟨0, by omega, rfl, by simpa [takes] using HX.out, Mod.refl _ _⟩
          case round =>
            clear HX
            obtain ⟨j, hj, rfl, hX, hM2⟩ := hrel
            have HX := Lib.hid hX
            have HM2 := Lib.hid hM2
            clear hX hM2
            by_cases hltj : j < M
            · obtain ⟨f, hf⟩ : ∃ f, (fieldsOf k)[j]? = some f := ⟨_, List.getElem?_eq_getElem (by rw [HM.out]; exact hltj)⟩
              obtain ⟨x, hx⟩ : ∃ x, Lt[j]? = some x := ⟨_, List.getElem?_eq_getElem (by rw [HN.out, ← Hlen.out]; exact hltj)⟩
              have Hf := Lib.hid hf
              have Hx := Lib.hid hx
              have Hf5 := Lib.hid (fields_in (List.mem_of_getElem? hf))
              have Hst := Lib.hid (takes_snoc f x (fieldsOf k) Lt ⟨k, [], [], 0, []⟩ j hf hx)
              have Hxl : RowKit.Hid (x.length < 4294967281) := Lib.hid (Hnm.out x (by simp [List.mem_of_getElem? hx]))
              obtain ⟨b, o, rfl, hblt, hc⟩ := HF2.out j (.int .i64 (f : Int)) (by simp [ints, fieldsI, hf])
              have hc2 : wr.cell? ⟨b, o + j, none⟩ = some (.int .i64 (f : Int)) := by rw [HM2.out.cell (p := ⟨b, o + j, none⟩) (lt_of_cell hc) (by simp; omega)]; exact hc
              have hc3 : wr.cell? ⟨w.heap.size + 1, j + 1, none⟩ = some (.string ⟨x.toArray⟩) := by
                rw [blk_cell (blk_mod HM2.out HB2.out (by omega)), scells_get, List.getElem?_cons_succ, hx]; rfl
              have hjN : j < N := by have := Hlen.out; omega
              clear hf hx hc hblt
              go_wp2_with fail
              refine (take_any (takes ⟨k, [], [], 0, []⟩ ((fieldsOf k).take j) Lt) f Hf5.out x X wr (He.out.keep (HK2.out.trans HM2.out (fun i hi e => by have := HK1.out.size; omega))) (by have := Hxl.out; omega) HX.out).mono ?_
              rintro e w3 ⟨rfl, hm3, hx3⟩
              have HX3 := Lib.hid hx3
              have HM3 := Lib.hid (HM2.out.trans hm3 (fun _ _ h => h))
              clear hm3 hx3 hc2 hc3
              go_wp2_with fail
              exact ⟨⟨j + 1, by omega, by go_num, by rw [Hst.out]; exact HX3.out, HM3.out⟩, by simp [intOf]; omega⟩
            · obtain rfl : j = M := by omega
              rw [List.take_of_length_le (by rw [HM.out]; exact Nat.le_refl _)] at HX
              have HS := Lib.hid (small_takes (l := Lt) (fieldsOf k) Lt ⟨k, [], [], 0, []⟩ (small_kind k) (fun x hx => Hnm.out x (by simp [hx])))
              generalize takes ⟨k, [], [], 0, []⟩ (fieldsOf k) Lt = c at *
              have HK3 : RowKit.Hid (Keep w wr) := Lib.hid (HK2.out.trans HM2.out (fun i hi e => by have := HK1.out.size; omega))
              have HR3 := Lib.hid (blk_mod HM2.out HR2.out (by omega))
              have HB3 := Lib.hid (blk_mod HM2.out HB2.out (by omega))
              obtain ⟨c0, c1, c2, c3, c4⟩ := cmd_cells HX.out
              clear HR2 HB2 HK2 HF2 HM2
              go_wp2_with fail
              refine (print_any c wr (He.out.keep HK3.out) HS.out).mono ?_
              rintro e w4 ⟨rfl, hk4⟩
              have HK4 := Lib.hid (HK3.out.keep hk4)
              have HR4 := Lib.hid (blk_mod hk4 HR3.out id)
              have HB4 := Lib.hid (blk_mod hk4 HB3.out id)
              have HX4 := Lib.hid (blk_mod hk4 HX.out id)
              clear hk4 c0 c1 c2 c3 c4 HR3 HB3 HK3 HX
              have Hno : RowKit.Hid (tryKind s k = none → ∀ j, j < k + 1 → tryKind s j = none) := Lib.hid (fun h j hj => by
                by_cases e : j = k
                · subst e; exact h
                · exact HA.out j (by omega))
              by_cases hok : c.ok = true
              · by_cases hli : c.line = s
                · have Hp : RowKit.Hid (parseC s = some c) := Lib.hid (first_of (Nat.zero_le k) (by omega) (by rw [HTk.out]; simp [hok, hli]) (fun i _ hi => HA.out i hi))
                  rw [show printV c = .tuple #[.string ⟨s.toArray⟩, .int .i64 0] by rw [printV, if_pos hok, hli]]
                  have ess : (s == s) = true := beq_self_eq_true s
                  have hlt2 := blk_lt HR4.out
                  have hR := HR4.out
                  obtain ⟨c0, c1, c2, c3, c4⟩ := cmd_cells (putB_blk_other (c := cmdC Cmd.zero) (t := 30) HX4.out (k := X) (b := w.heap.size) (by omega))
                  rw [← putB_self hR]
                  clear hR hok hli
                  unfold cmdC Cmd.zero at *
                  go_wp2_with fail
                  exact bodyPost_ret (v := .tuple #[cmdV c, .int .i64 0]) (by simp [results, Tryd.results15, go_sem, hlt2, cmdV, cmdC]) rfl ⟨by rw [parseV, Hp.out], HK4.out.putB (.inr (Nat.le_refl _)) _ _⟩
                · have Hn : RowKit.Hid (tryKind s k = none) := Lib.hid (by rw [HTk.out]; simp [hli])
                  have bls : (c.line == s) = false := beq_false_of_ne hli
                  rw [show printV c = .tuple #[.string ⟨c.line.toArray⟩, .int .i64 0] by rw [printV, if_pos hok]]
                  clear hok hli
                  go_wp2_with fail
                  exact ⟨⟨k + 1, by omega, by go_num, HR4.out, HB4.out, HK4.out, Hno.out Hn.out⟩, by simp [intOf]; omega⟩
              · have Hn : RowKit.Hid (tryKind s k = none) := Lib.hid (by rw [HTk.out]; simp [hok])
                rw [show printV c = .tuple #[.string ⟨#[]⟩, .int .i64 130] by rw [printV, if_neg hok]]
                clear hok
                go_wp2_with fail
                exact ⟨⟨k + 1, by omega, by go_num, HR4.out, HB4.out, HK4.out, Hno.out Hn.out⟩, by simp [intOf]; omega⟩
        · have HH : RowKit.Hid (tryKind s k = none) := Lib.hid (by rw [HT.out, if_neg]; simp [kindHit, HM.out, HN.out]; omega)
          have b1 : (wordOf k == L0) = true := beq_iff_eq.2 hw
          have b2 : ((M : Int) != (N : Int)) = true := by rw [bne_iff_ne]; omega
          have b3 : ((M : Int) != (N : Int) + 1 - 1) = true := by rw [bne_iff_ne]; omega
          clear hw hlen
          go_wp2_with fail
          exact ⟨⟨k + 1, by omega, by go_num, HR1.out, HB1.out, HK1.out, fun j hj => by
            by_cases e : j = k
            · subst e; exact HH.out
            · exact HA.out j (by omega)⟩, by simp [intOf]; omega⟩
      · have HH : RowKit.Hid (tryKind s k = none) := Lib.hid (by rw [HT.out, if_neg]; simp [kindHit, hw])
        have b1 : (wordOf k == L0) = false := beq_false_of_ne hw
        clear hw
        go_wp2_with fail
        exact ⟨⟨k + 1, by omega, by go_num, HR1.out, HB1.out, HK1.out, fun j hj => by
          by_cases e : j = k
          · subst e; exact HH.out
          · exact HA.out j (by omega)⟩, by simp [intOf]; omega⟩
    · obtain rfl : k = 9 := by omega
      have Hn : RowKit.Hid (parseC s = none) := Lib.hid (first_none (fun j _ hj => HA.out j (by omega)))
      have hlt2 := blk_lt HR.out
      have hR := HR.out
      rw [← putB_self hR]
      clear hR
      unfold cmdC Cmd.zero at *
      go_wp2_with fail
      exact bodyPost_ret (v := .tuple #[cmdV Cmd.zero, .int .i64 130]) (by simp [results, Tryd.results15, go_sem, hlt2, cmdV, cmdC, Cmd.zero]) rfl ⟨by rw [parseV, Hn.out], HK.out.putB (.inr (Nat.le_refl _)) _ _⟩
end Go.Proofs.YtpjfeonhdkkfpaaDoor
