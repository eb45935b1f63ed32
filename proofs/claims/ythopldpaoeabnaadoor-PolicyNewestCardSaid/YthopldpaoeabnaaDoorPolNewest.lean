/-
  PolicyNewest's walk.
-/
import Derived.Test.YthopldpaoeabnaaDoorPolNewA
import Derived.Test.YthopldpaoeabnaaDoorPolRefC
import Derived.Test.YthopldpaoeabnaaDoorPolFixed
import Derived.Deep.DeepCutAuto
namespace Go.Proofs.YthopldpaoeabnaaDoor
open Go.RowKit
theorem cls_split {c : Int} (h0 : -1 ≤ c) (h1 : c < 3) : c = -1 ∨ ∃ d : Nat, d < 3 ∧ c = (d : Int) := by
  by_cases h : c = -1
  · exact .inl h
  · exact .inr ⟨c.toNat, by omega, by omega⟩
theorem and_1 (x : Int) : ∃ n : Nat, n ≤ 1 ∧ bits .and .i64 x 1 = (n : Int) := by
  refine ⟨(BitVec.ofInt 64 x).toNat &&& 1, Nat.and_le_right, ?_⟩
  have hle : (BitVec.ofInt 64 x).toNat &&& 1 ≤ 1 := Nat.and_le_right
  have h2 : (BitVec.ofInt 64 (1 : Int)).toNat = 1 := by decide
  show IntKind.i64.wrap ((BitVec.ofInt 64 x &&& BitVec.ofInt 64 (1 : Int)).toNat : Int) = _
  rw [BitVec.toNat_and, h2]
  exact IntWalk.i64_in _ (by omega)
def oneMore (K : Nat → Int) (c : Nat) (i : Nat) : Int := if i = c ∧ K c < 1000 then K c + 1 else K i
theorem box_more (E K : Nat → Int) (c : Nat) (hc : c < 2) (h : K c < 1000) : (boxV E K).setIfInBounds (3 + c) (.int .i64 (K c + 1)) = boxV E (oneMore K c) := by
  rcases (by omega : c = 0 ∨ c = 1) with rfl | rfl <;> simp [boxV, oneMore, h]
theorem more_same (K : Nat → Int) (c : Nat) (h : ¬ K c < 1000) : oneMore K c = K := by
  funext i; simp [oneMore, h]
theorem more_le (K : Nat → Int) (c : Nat) : ∀ i, i < 3 → K i ≤ oneMore K c i := fun i _ => by
  unfold oneMore; split
  · rename_i h; obtain ⟨rfl, _⟩ := h; omega
  · omega
set_option maxRecDepth 100000 in
set_option maxHeartbeats 20000000 in
theorem law_newest (E K : Nat → Int) (a : Option Addr) (n cap : Nat) (f : Nat → List UInt8) (more : Int) (w : World) (he : Env w) (hK : ∀ i, i < 3 → -9223372036854775808 ≤ K i ∧ K i ≤ 9223372036854775807) (hS : StrsAt w a n f) (hcap : n ≤ cap ∧ (a = none → n = 0)) :
    Calls Tryd.prog 7 #[polV E K, .slice a n cap, .int .i64 more] w fun e w' => e = .returned (.bool true) ∧ Keep w w' := by
  have He := Lib.hid he
  have HKb := Lib.hid hK
  have HS := Lib.hid hS
  have hnb := hS.1
  clear he hK hS
  go_enter Tryd.func7, Tryd.ntmps7
  unfold polV
  go_upto_region 1 with (fail)
  go_cut [1] (fun s1 wr => ∃ names : List (List UInt8), names.length ≤ 300 ∧ RowKit.Hid (∀ x ∈ names, x.length ≤ 140737488355328) ∧ RowAt wr s1 (srow names) ∧ World.blk wr w.heap.size (boxV E K) 24 ∧ Keep w wr)
  case first =>
    obtain ⟨hc1, hc2⟩ := hcap
    have HB : RowKit.Hid (World.blk (w.alloc (.cells #[.int .i64 (E 0), .int .i64 (E 1), .int .i64 (E 2), .int .i64 (K 0), .int .i64 (K 1), .int .i64 (K 2)] 24)) w.heap.size (boxV E K) 24) := Lib.hid (blk_new _ _ _)
    rcases a with _ | ⟨b, o, sp⟩
    · obtain rfl := hc2 rfl
      clear hc2
      go_wp2_with fail
      go_meet
      case rel => exact ⟨[], by simp, Lib.hid (fun x hx => by cases hx), ⟨none, _, rfl, fun j x hj => by simp [srow] at hj⟩, HB.out, (Mod.refl _ _).alloc _⟩
    · clear hc2
      by_cases h3 : n ≤ 300
      · have h4 : ¬ ((300 : Int) < (n : Int)) := by omega
        go_wp2_with fail
        go_meet
        case rel => exact ⟨namesOf f n, by rw [namesOf_len]; exact h3, Lib.hid (names_short HS.out (Nat.le_refl _)), by rw [show (min (n : Int) 300).toNat = n by omega]; exact row_keep (row_of_strs cap HS.out (Nat.le_refl _)) ((Mod.refl _ _).alloc _), HB.out, (Mod.refl _ _).alloc _⟩
      · have h4 : (300 : Int) < (n : Int) := by omega
        have h5 : 300 ≤ cap := by omega
        go_wp2_with fail
        go_meet
        case rel => exact ⟨namesOf f 300, by rw [namesOf_len]; omega, Lib.hid (names_short HS.out (by omega)), by rw [show (min (n : Int) 300).toNat = 300 by omega]; exact row_keep (row_of_strs (m := 300) cap HS.out (by omega)) ((Mod.refl _ _).alloc _), HB.out, (Mod.refl _ _).alloc _⟩
  case rest =>
  clear hcap HS hnb
  obtain ⟨names, hn, Hl, hrow, hB, hK⟩ := hcut
  have HB := Lib.hid hB
  have HK := Lib.hid hK
  have HR := Lib.hid hrow
  have hbx := box_cells hB
  clear hB hK hrow
  go_wp2_with fail
  refine (keeps_any E K names _ _ (He.out.keep HK.out) (fun i hi => (HKb.out i hi).2) HR.out (by omega) Hl.out).mono ?_
  rintro e w1 ⟨v, rfl, hr, hk⟩
  have HB1 := Lib.hid (blk_mod hk HB.out id)
  have HK1 := Lib.hid (HK.out.keep hk)
  have HR1 := Lib.hid (row_keep HR.out hk)
  have HV1 := Lib.hid hr
  have hbx := box_cells HB1.out
  clear hk hr HB HK HR
  go_wp2_with fail
  refine (keeps_any E K (keeps K names) v _ (He.out.keep HK1.out) (fun i hi => (HKb.out i hi).2) HV1.out (by have := keeps_len K names; omega) (keeps_short K names Hl.out)).mono ?_
  rintro e w2 ⟨v2, rfl, hr, hk⟩
  have HB2 := Lib.hid (blk_mod hk HB1.out id)
  have HK2 := Lib.hid (HK1.out.keep hk)
  have HR2 := Lib.hid (row_keep HR1.out hk)
  have HV2 := Lib.hid (row_keep HV1.out hk)
  have HU2 := Lib.hid hr
  clear hk hr HB1 HK1 HR1 HV1 hbx
  go_wp2_with fail
  refine (same_strs v2 v (keeps K (keeps K names)) (keeps K names) w2 HU2.out HV2.out (by have := keeps_len K names; have := keeps_len K (keeps K names); omega) (by have := keeps_len K names; omega)).mono ?_
  rintro e w3 ⟨rfl, hk⟩
  have HB3 := Lib.hid (blk_mod hk HB2.out id)
  have HK3 := Lib.hid (HK2.out.keep hk)
  have HR3 := Lib.hid (row_keep HR2.out hk)
  have HV3 := Lib.hid (row_keep HV2.out hk)
  rw [keeps_again, show ((keeps K names == keeps K names) : Bool) = true from beq_self_eq_true _]
  clear hk HB2 HK2 HR2 HV2 HU2
  have hl := keeps_len K names
  have Hl2 := Lib.hid (keeps_short K names Hl.out)
  obtain ⟨N, hN⟩ : ∃ N, names.length = N := ⟨_, rfl⟩
  obtain ⟨L, hL⟩ : ∃ L, (keeps K names).length = L := ⟨_, rfl⟩
  rw [hN] at hl hn
  rw [hL] at hl
  have HN := Lib.hid hN
  have HL := Lib.hid hL
  obtain ⟨na, ncap, hv1, hcell1⟩ := HR3.out
  obtain ⟨la, lcap, hv2, hcell2⟩ := HV3.out
  rw [srow_len, hN] at hv1
  rw [srow_len, hL] at hv2
  subst hv1 hv2
  have HC1 := Lib.hid hcell1
  have HC2 := Lib.hid hcell2
  clear hcell1 hcell2 hN hL
  go_wp2_with fail
  go_loopw [9] (fun i wr => ∃ c : Int, -1 ≤ c ∧ c ≤ 3 ∧ i = .int .i64 c ∧ Keep w3 wr) (fun i _ => (3 - intOf i).toNat)
  case atStart => exact ⟨-1, by omega, by omega, rfl, Mod.refl _ _⟩
  case round =>
    obtain ⟨c, hc0, hc3, rfl, hk⟩ := hrel
    have HK4 := Lib.hid hk
    clear hk
    by_cases hlt : c < 3
    · go_upto_region 11 with (fail)
      have HA0 : RowKit.Hid (World.blk ((wr.alloc (.cells #[] 9)).alloc (.cells #[] 9)) wr.heap.size #[] 9) := Lib.hid (blk_alloc (blk_new _ _ _) _)
      have HA1 : RowKit.Hid (World.blk ((wr.alloc (.cells #[] 9)).alloc (.cells #[] 9)) (wr.heap.size + 1) #[] 9) := Lib.hid (blk_new_atD (by simp) _ _)
      have HK5 : RowKit.Hid (Keep w3 ((wr.alloc (.cells #[] 9)).alloc (.cells #[] 9))) := Lib.hid ((HK4.out.alloc _).alloc _)
      have Hs : RowKit.Hid (w3.heap.size ≤ wr.heap.size) := Lib.hid HK4.out.size
      have hs0 : ((wr.alloc (.cells #[] 9)).alloc (.cells #[] 9)).heap.size = wr.heap.size + 1 + 1 := by simp
      have Hs0 := Lib.hid hs0
      clear hs0
      generalize (wr.alloc (.cells #[] 9)).alloc (.cells #[] 9) = w4 at *
      generalize wr.heap.size = B at *
      go_loopw [10, 12] (fun v i wr => ∃ (k : Nat), k ≤ N ∧ i = .int .i64 (k : Int) ∧ Keep w3 wr ∧ OwnStrs wr B v (ofCls c (names.take k)) ∧ World.blk wr (B + 1) #[] 9 ∧ (∀ b, v.ownBlock = some b → b ≠ B + 1)) (fun _ i _ => N - (intOf i).toNat)
      case atStart => exact ⟨0, by omega, rfl, HK5.out, ⟨rfl, .inr ⟨B, 0, #[], rfl, Nat.le_refl _, HA0.out, by simp [ofCls], by decide, by simp [ofCls], by simp [ofCls, scells]⟩⟩, HA1.out, fun b hb => by simp [Value.ownBlock] at hb; omega⟩
      case round =>
        clear HA0 HA1 HK5 Hs0
        obtain ⟨k, hk, rfl, hK, hV, hA, hne⟩ := hrel
        have HK := Lib.hid hK
        have HV := Lib.hid hV
        have HA := Lib.hid hA
        have Hne := Lib.hid hne
        clear hK hV hA hne
        by_cases hkN : k < N
        · obtain ⟨s, hs⟩ : ∃ s, names[k]? = some s := ⟨_, List.getElem?_eq_getElem (by rw [HN.out]; exact hkN)⟩
          obtain ⟨b, o, hna, hc⟩ := HC1.out k (.string ⟨s.toArray⟩) (by simp [srow, hs])
          have Hst : RowKit.Hid (ofCls c (names.take (k + 1)) = ofCls c (names.take k) ++ (if clsNo s = c then [s] else [])) := Lib.hid (by
            rw [List.take_add_one, hs]
            simp only [ofCls, List.filter_append, Option.toList_some, List.filter_cons, List.filter_nil]
            by_cases h : clsNo s = c
            · rw [if_pos (by simpa using h), if_pos h]
            · rw [if_neg (by simpa using h), if_neg h])
          have Hsl := Lib.hid (Hl.out s (List.mem_of_getElem? hs))
          have hc2 : wr.cell? ⟨b, o + k, none⟩ = some (.string ⟨s.toArray⟩) := by rw [HK.out.cell (p := ⟨b, o + k, none⟩) (lt_of_cell hc) id]; exact hc
          have Hlen : RowKit.Hid ((ofCls c (names.take k)).length ≤ 300) := Lib.hid (Nat.le_trans (List.length_filter_le _ _) (by rw [List.length_take]; omega))
          clear hs hc
          subst hna
          go_wp2_with fail
          refine (class_any s wr (He.out.keep (HK3.out.keep HK.out)) Hsl.out).mono ?_
          rintro e w5 ⟨rfl, hk5⟩
          have HK5 := Lib.hid (HK.out.keep hk5)
          have HV5 := Lib.hid (own_keep HV.out hk5)
          have HA5 := Lib.hid (blk_mod hk5 HA.out id)
          have hc5 : w5.cell? ⟨b, o + k, none⟩ = some (.string ⟨s.toArray⟩) := by rw [hk5.cell (p := ⟨b, o + k, none⟩) (lt_of_cell hc2) id]; exact hc2
          have hAl := blk_lt HA5.out
          have hsz5 : w3.heap.size ≤ B := Hs.out
          clear hk5 HK HV HA hc2
          obtain ⟨v2', w6, hr, ho, hk6, hm6, hb6⟩ := append_own2 (P := Tryd.prog) Tryd.underlying40 info_str rfl B u10 _ _ w5 w3 HV5.out [.string ⟨s.toArray⟩] (by intro u hu; simp at hu; subst hu; rfl) (by have := Hlen.out; simp [maxLen]; omega) (by have := Hlen.out; simp; omega) (by omega) HK5.out (by omega)
          have Hr := Lib.hid hr
          have Ho := Lib.hid ho
          have Hk6 := Lib.hid hk6
          have HA6 := Lib.hid (blk_mod hm6 HA5.out (fun e => Hne.out _ e rfl))
          have Hne6 : RowKit.Hid (∀ b, v2'.ownBlock = some b → b ≠ B + 1) := Lib.hid (fun b hb => by
            rcases hb6 with h | h
            · rw [h] at hb; exact Hne.out b hb
            · rw [h] at hb; have := Option.some.inj hb; omega)
          clear hr ho hk6 hm6 hb6 hAl hsz5
          have Hyes : RowKit.Hid (clsNo s = c → (∃ (j : Nat), j ≤ N ∧ Value.int .i64 ((k : Int) + 1) = .int .i64 (j : Int) ∧ Keep w3 w6 ∧ OwnStrs w6 B v2' (ofCls c (names.take j)) ∧ World.blk w6 (B + 1) #[] 9 ∧ (∀ b, v2'.ownBlock = some b → b ≠ B + 1))) := Lib.hid (fun h => ⟨k + 1, by omega, by go_num, Hk6.out, by rw [Hst.out, if_pos h]; exact add_str_cells (ys := [s]) Ho.out, HA6.out, Hne6.out⟩)
          have Hno : RowKit.Hid (clsNo s ≠ c → (∃ (j : Nat), j ≤ N ∧ Value.int .i64 ((k : Int) + 1) = .int .i64 (j : Int) ∧ Keep w3 w5 ∧ OwnStrs w5 B u10 (ofCls c (names.take j)) ∧ World.blk w5 (B + 1) #[] 9 ∧ (∀ b, u10.ownBlock = some b → b ≠ B + 1))) := Lib.hid (fun h => ⟨k + 1, by omega, by go_num, HK5.out, by rw [Hst.out, if_neg h, List.append_nil]; exact HV5.out, HA5.out, Hne.out⟩)
          rcases hcl : cls s with _ | ⟨d, t⟩
          · rw [show clsV none = .tuple #[.int .i64 0, .int .i64 0, .bool false] from rfl]
            have hcn := clsNo_none hcl
            clear hcl
            by_cases hcc : c = -1
            · have Hcc := Lib.hid (hcn.trans hcc.symm)
              have hc9 : c < 0 := by omega
              clear hcn hcc
              go_wp2_with ((at_builtin; refine wpList_append_run Hr.out rfl rfl rfl rfl ?_))
              exact ⟨Hyes.out Hcc.out, by simp [intOf]; omega⟩
            · have Hcc : RowKit.Hid (clsNo s ≠ c) := Lib.hid (by rw [hcn]; exact fun e => hcc e.symm)
              have hc9 : ¬ c < 0 := by omega
              clear hcn hcc
              go_wp2_with fail
              exact ⟨Hno.out Hcc.out, by simp [intOf]; omega⟩
          · rw [show clsV (some (d, t)) = .tuple #[.int .i64 (d : Int), .int .i64 t, .bool true] from rfl]
            have hcn := clsNo_some hcl
            clear hcl
            by_cases hcc : (d : Int) = c
            · have Hcc := Lib.hid (hcn.trans hcc)
              have hc9 : ((d : Int) == c) = true := by rw [beq_iff_eq]; exact hcc
              clear hcn hcc
              go_wp2_with ((at_builtin; refine wpList_append_run Hr.out rfl rfl rfl rfl ?_))
              exact ⟨Hyes.out Hcc.out, by simp [intOf]; omega⟩
            · have Hcc : RowKit.Hid (clsNo s ≠ c) := Lib.hid (by rw [hcn]; exact hcc)
              have hc9 : ((d : Int) == c) = false := beq_false_of_ne hcc
              clear hcn hcc
              go_wp2_with fail
              exact ⟨Hno.out Hcc.out, by simp [intOf]; omega⟩
        · have hkN2 : k = N := by omega
          subst hkN2
          have Hall : RowKit.Hid (OwnStrs wr B u10 (ofCls c names)) := Lib.hid (by have h := HV.out; rwa [List.take_of_length_le (by rw [HN.out]; exact Nat.le_refl _)] at h)
          go_upto_region 17 with (fail)
          clear HV
          go_loopw [11, 16] (fun v i wr => ∃ (k : Nat), k ≤ L ∧ i = .int .i64 (k : Int) ∧ Keep w3 wr ∧ B + 1 < wr.heap.size ∧ OwnStrs wr (B + 1) v (ofCls c ((keeps K names).take k)) ∧ OwnStrs wr B u10 (ofCls c names) ∧ (∀ b, v.ownBlock = some b → u10.ownBlock ≠ some b)) (fun _ i _ => L - (intOf i).toNat)
          case atStart => exact ⟨0, by omega, rfl, HK.out, blk_lt HA.out, ⟨rfl, .inr ⟨B + 1, 0, #[], rfl, Nat.le_refl _, HA.out, by simp [ofCls], by decide, by simp [ofCls], by simp [ofCls, scells]⟩⟩, Hall.out, fun b hb e => by simp [Value.ownBlock] at hb; exact Hne.out b e hb.symm⟩
          case round =>
            clear HK HA Hne Hall
            obtain ⟨k, hk, rfl, hK, hbw, hV, hA, hne⟩ := hrel
            have HBw := Lib.hid hbw
            have HK := Lib.hid hK
            have HV := Lib.hid hV
            have HA := Lib.hid hA
            have Hne := Lib.hid hne
            clear hK hbw hV hA hne
            by_cases hkN : k < L
            · obtain ⟨s, hs⟩ : ∃ s, (keeps K names)[k]? = some s := ⟨_, List.getElem?_eq_getElem (by rw [HL.out]; exact hkN)⟩
              obtain ⟨b, o, hna, hc⟩ := HC2.out k (.string ⟨s.toArray⟩) (by simp [srow, hs])
              have Hst : RowKit.Hid (ofCls c ((keeps K names).take (k + 1)) = ofCls c ((keeps K names).take k) ++ (if clsNo s = c then [s] else [])) := Lib.hid (by
                rw [List.take_add_one, hs]
                simp only [ofCls, List.filter_append, Option.toList_some, List.filter_cons, List.filter_nil]
                by_cases h : clsNo s = c
                · rw [if_pos (by simpa using h), if_pos h]
                · rw [if_neg (by simpa using h), if_neg h])
              have Hsl := Lib.hid (Hl2.out s (List.mem_of_getElem? hs))
              have hc2 : wr.cell? ⟨b, o + k, none⟩ = some (.string ⟨s.toArray⟩) := by rw [HK.out.cell (p := ⟨b, o + k, none⟩) (lt_of_cell hc) id]; exact hc
              have Hlen : RowKit.Hid ((ofCls c ((keeps K names).take k)).length ≤ 300) := Lib.hid (Nat.le_trans (List.length_filter_le _ _) (by rw [List.length_take]; omega))
              clear hs hc
              subst hna
              go_wp2_with fail
              refine (class_any s wr (He.out.keep (HK3.out.keep HK.out)) Hsl.out).mono ?_
              rintro e w5 ⟨rfl, hk5⟩
              have HK5 := Lib.hid (HK.out.keep hk5)
              have HV5 := Lib.hid (own_keep HV.out hk5)
              have HA5 := Lib.hid (own_keep HA.out hk5)
              have hc5 : w5.cell? ⟨b, o + k, none⟩ = some (.string ⟨s.toArray⟩) := by rw [hk5.cell (p := ⟨b, o + k, none⟩) (lt_of_cell hc2) id]; exact hc2
              have hAl := Nat.lt_of_lt_of_le HBw.out (hk5.size)
              have hsz5 : w3.heap.size ≤ B := Hs.out
              clear hk5 HK HV HA hc2
              obtain ⟨v2', w6, hr, ho, hk6, hm6, hb6⟩ := append_own2 (P := Tryd.prog) Tryd.underlying40 info_str rfl (B + 1) u11 _ _ w5 w3 HV5.out [.string ⟨s.toArray⟩] (by intro u hu; simp at hu; subst hu; rfl) (by have := Hlen.out; simp [maxLen]; omega) (by have := Hlen.out; simp; omega) (by omega) HK5.out (by omega)
              have Hr := Lib.hid hr
              have Ho := Lib.hid ho
              have Hk6 := Lib.hid hk6
              have HA6 := Lib.hid (own_mod3 HA5.out hm6 (fun b hb e => Hne.out b e hb))
              have Hne6 : RowKit.Hid (∀ b, v2'.ownBlock = some b → u10.ownBlock ≠ some b) := Lib.hid (fun b hb e => by
                rcases hb6 with h | h
                · rw [h] at hb; exact Hne.out b hb e
                · rw [h] at hb; have := Option.some.inj hb; have := own_block_lt HA5.out b e; omega)
              have Hw5 := Lib.hid hAl
              have Hw6 := Lib.hid (Nat.lt_of_lt_of_le hAl hm6.size)
              clear hr ho hk6 hm6 hb6 hAl hsz5
              have Hyes : RowKit.Hid (clsNo s = c → (∃ (j : Nat), j ≤ L ∧ Value.int .i64 ((k : Int) + 1) = .int .i64 (j : Int) ∧ Keep w3 w6 ∧ B + 1 < w6.heap.size ∧ OwnStrs w6 (B + 1) v2' (ofCls c ((keeps K names).take j)) ∧ OwnStrs w6 B u10 (ofCls c names) ∧ (∀ b, v2'.ownBlock = some b → u10.ownBlock ≠ some b))) := Lib.hid (fun h => ⟨k + 1, by omega, by go_num, Hk6.out, Hw6.out, by rw [Hst.out, if_pos h]; exact add_str_cells (ys := [s]) Ho.out, HA6.out, Hne6.out⟩)
              have Hno : RowKit.Hid (clsNo s ≠ c → (∃ (j : Nat), j ≤ L ∧ Value.int .i64 ((k : Int) + 1) = .int .i64 (j : Int) ∧ Keep w3 w5 ∧ B + 1 < w5.heap.size ∧ OwnStrs w5 (B + 1) u11 (ofCls c ((keeps K names).take j)) ∧ OwnStrs w5 B u10 (ofCls c names) ∧ (∀ b, u11.ownBlock = some b → u10.ownBlock ≠ some b))) := Lib.hid (fun h => ⟨k + 1, by omega, by go_num, HK5.out, Hw5.out, by rw [Hst.out, if_neg h, List.append_nil]; exact HV5.out, HA5.out, Hne.out⟩)
              rcases hcl : cls s with _ | ⟨d, t⟩
              · rw [show clsV none = .tuple #[.int .i64 0, .int .i64 0, .bool false] from rfl]
                have hcn := clsNo_none hcl
                clear hcl
                by_cases hcc : c = -1
                · have Hcc := Lib.hid (hcn.trans hcc.symm)
                  have hc9 : c < 0 := by omega
                  clear hcn hcc
                  go_wp2_with ((at_builtin; refine wpList_append_run Hr.out rfl rfl rfl rfl ?_))
                  exact ⟨Hyes.out Hcc.out, by simp [intOf]; omega⟩
                · have Hcc : RowKit.Hid (clsNo s ≠ c) := Lib.hid (by rw [hcn]; exact fun e => hcc e.symm)
                  have hc9 : ¬ c < 0 := by omega
                  clear hcn hcc
                  go_wp2_with fail
                  exact ⟨Hno.out Hcc.out, by simp [intOf]; omega⟩
              · rw [show clsV (some (d, t)) = .tuple #[.int .i64 (d : Int), .int .i64 t, .bool true] from rfl]
                have hcn := clsNo_some hcl
                clear hcl
                by_cases hcc : (d : Int) = c
                · have Hcc := Lib.hid (hcn.trans hcc)
                  have hc9 : ((d : Int) == c) = true := by rw [beq_iff_eq]; exact hcc
                  clear hcn hcc
                  go_wp2_with ((at_builtin; refine wpList_append_run Hr.out rfl rfl rfl rfl ?_))
                  exact ⟨Hyes.out Hcc.out, by simp [intOf]; omega⟩
                · have Hcc : RowKit.Hid (clsNo s ≠ c) := Lib.hid (by rw [hcn]; exact hcc)
                  have hc9 : ((d : Int) == c) = false := beq_false_of_ne hcc
                  clear hcn hcc
                  go_wp2_with fail
                  exact ⟨Hno.out Hcc.out, by simp [intOf]; omega⟩
            · have hkL : k = L := by omega
              subst hkL
              have Hkept : RowKit.Hid (OwnStrs wr (B + 1) u11 (ofCls c (keeps K names))) := Lib.hid (by have h := HV.out; rwa [List.take_of_length_le (by rw [HL.out]; exact Nat.le_refl _)] at h)
              clear HV
              have HBx := Lib.hid (blk_mod HK.out HB3.out id)
              have hbx := box_cells HBx.out
              obtain ⟨r, hr⟩ : ∃ r, (ofCls c names).length = r := ⟨_, rfl⟩
              have Hr := Lib.hid hr
              have hr3 : r ≤ 300 := by rw [← hr]; exact Nat.le_trans (List.length_filter_le _ _) (by have := HN.out; omega)
              have hown := HA.out.2
              rw [hr] at hown
              clear hr
              have Hk3 : RowKit.Hid ((ofCls c (keeps K names)).length ≤ 140737488355328) := Lib.hid (Nat.le_trans (List.length_filter_le _ _) (by have := HL.out; omega))
              have Hr3 : RowKit.Hid ((ofCls c names).length ≤ 140737488355328) := Lib.hid (by have := Hr.out; omega)
              rcases cls_split hc0 hlt with rfl | ⟨d, hd3, rfl⟩
              · have Heq : RowKit.Hid (ofCls (-1) (keeps K names) = (ofCls (-1) names).drop 0) := Lib.hid (keeps_none K names)
                clear hbx
                rcases hown with ⟨rfl, h0⟩ | ⟨g, cp, cur, rfl, hgb, hg, hnc, -⟩
                · subst h0
                  have Hnil : RowKit.Hid ((ofCls (-1) names).drop 0 = []) := Lib.hid (List.length_eq_zero_iff.1 Hr.out)
                  go_wp2_with fail
                  refine (same_strs u11 _ (ofCls (-1) (keeps K names)) ((ofCls (-1) names).drop 0) wr (row_strs Hkept.out) (row_nil Hnil.out) Hk3.out (by have := Hr3.out; rw [List.length_drop]; omega)).mono ?_
                  rintro e w7 ⟨rfl, hk7⟩
                  have HK7 := Lib.hid (HK.out.keep hk7)
                  clear hk7
                  rw [← Heq.out, show ((ofCls (-1) (keeps K names) == ofCls (-1) (keeps K names)) : Bool) = true from beq_self_eq_true _]
                  go_wp2_with fail
                  exact ⟨⟨(-1) + 1, by omega, by omega, rfl, HK7.out⟩, by decide⟩
                · have Hrow : RowKit.Hid (RowAt wr (.slice (some ⟨g, 0, none⟩) r cp) (srow ((ofCls (-1) names).drop 0))) := Lib.hid (by
                    have h := row_drop HA.out 0 (Nat.zero_le _) cp
                    rw [scells_drop, scells_toList_len, Hr.out] at h; exact h)
                  clear hg
                  go_wp2_with fail
                  refine (same_strs u11 _ (ofCls (-1) (keeps K names)) ((ofCls (-1) names).drop 0) wr (row_strs Hkept.out) Hrow.out Hk3.out (by have := Hr3.out; rw [List.length_drop]; omega)).mono ?_
                  rintro e w7 ⟨rfl, hk7⟩
                  have HK7 := Lib.hid (HK.out.keep hk7)
                  clear hk7
                  rw [← Heq.out, show ((ofCls (-1) (keeps K names) == ofCls (-1) (keeps K names)) : Bool) = true from beq_self_eq_true _]
                  go_wp2_with fail
                  exact ⟨⟨(-1) + 1, by omega, by omega, rfl, HK7.out⟩, by decide⟩
              · have hbc := (box_E HBx.out hd3).2
                clear hbx
                obtain ⟨q, hq⟩ : ∃ q : Nat, (q : Int) = max 0 (min (r : Int) (K d)) := ⟨(max 0 (min (r : Int) (K d))).toNat, by omega⟩
                have hqr : q ≤ r := by omega
                have Heq : RowKit.Hid (ofCls d (keeps K names) = (ofCls d names).drop (r - q)) := Lib.hid (by
                  have h := keeps_cls K d names
                  rw [Hr.out] at h
                  rw [h]; congr 1; omega)
                have hq2 := hq.symm
                clear hq
                obtain ⟨low, hlow⟩ : ∃ low, r - q = low := ⟨_, rfl⟩
                rw [hlow] at Heq
                have hlow2 : (r : Int) - (q : Int) = (low : Int) := by omega
                have hlr : low ≤ r := by omega
                have Hql := Lib.hid (show r - low = q by omega)
                clear hlow
                rcases hown with ⟨rfl, h0⟩ | ⟨g, cp, cur, rfl, hgb, hg, hnc, -⟩
                · subst h0
                  obtain rfl : low = 0 := by omega
                  obtain rfl : q = 0 := by omega
                  have Hnil : RowKit.Hid ((ofCls d names).drop 0 = []) := Lib.hid (List.length_eq_zero_iff.1 Hr.out)
                  go_wp2_with fail
                  refine (same_strs u11 _ (ofCls d (keeps K names)) ((ofCls d names).drop 0) wr (row_strs Hkept.out) (row_nil Hnil.out) Hk3.out (by have := Hr3.out; rw [List.length_drop]; omega)).mono ?_
                  rintro e w7 ⟨rfl, hk7⟩
                  have HK7 := Lib.hid (HK.out.keep hk7)
                  clear hk7
                  rw [← Heq.out, show ((ofCls (d : Int) (keeps K names) == ofCls (d : Int) (keeps K names)) : Bool) = true from beq_self_eq_true _]
                  go_wp2_with fail
                  exact ⟨⟨(d : Int) + 1, by omega, by omega, rfl, HK7.out⟩, by simp [intOf]; omega⟩
                · by_cases hcl : cp = low
                  · obtain rfl : low = r := by omega
                    subst hcl
                    have Hnil : RowKit.Hid ((ofCls d names).drop cp = []) := Lib.hid (List.drop_eq_nil_of_le (by rw [Hr.out]; exact Nat.le_refl _))
                    have Hrow : RowKit.Hid (∀ ca, RowAt wr (.slice (some ⟨g, 0, none⟩) 0 ca) (srow ((ofCls d names).drop cp))) := Lib.hid (fun ca => by rw [Hnil.out]; exact ⟨_, ca, rfl, fun j x hj => by simp [srow] at hj⟩)
                    obtain rfl : q = 0 := by omega
                    clear hg
                    go_wp2_with fail
                    refine (same_strs u11 _ (ofCls d (keeps K names)) ((ofCls d names).drop cp) wr (row_strs Hkept.out) (Hrow.out _) Hk3.out (by have := Hr3.out; rw [List.length_drop]; omega)).mono ?_
                    rintro e w7 ⟨rfl, hk7⟩
                    have HK7 := Lib.hid (HK.out.keep hk7)
                    clear hk7
                    rw [← Heq.out, show ((ofCls (d : Int) (keeps K names) == ofCls (d : Int) (keeps K names)) : Bool) = true from beq_self_eq_true _]
                    go_wp2_with fail
                    exact ⟨⟨(d : Int) + 1, by omega, by omega, rfl, HK7.out⟩, by simp [intOf]; omega⟩
                  · have Hrow : RowKit.Hid (RowAt wr (.slice (some ⟨g, 0 + low, none⟩) (r - low) (cp - low)) (srow ((ofCls d names).drop low))) := Lib.hid (by
                      have h := row_drop HA.out low (by rw [scells_toList_len, Hr.out]; omega) (cp - low)
                      rw [scells_drop, scells_toList_len, Hr.out] at h; exact h)
                    have hlc : low ≤ cp := by omega
                    rw [Nat.zero_add] at Hrow
                    clear hg
                    go_wp2_with fail
                    refine (same_strs u11 _ (ofCls d (keeps K names)) ((ofCls d names).drop low) wr (row_strs Hkept.out) Hrow.out Hk3.out (by have := Hr3.out; rw [List.length_drop]; omega)).mono ?_
                    rintro e w7 ⟨rfl, hk7⟩
                    have HK7 := Lib.hid (HK.out.keep hk7)
                    clear hk7
                    rw [← Heq.out, show ((ofCls (d : Int) (keeps K names) == ofCls (d : Int) (keeps K names)) : Bool) = true from beq_self_eq_true _]
                    go_wp2_with fail
                    exact ⟨⟨(d : Int) + 1, by omega, by omega, rfl, HK7.out⟩, by simp [intOf]; omega⟩
    · obtain rfl : c = 3 := by omega
      obtain ⟨b, hb, hand⟩ := and_1 more
      have HB4 := Lib.hid (blk_mod HK4.out HB3.out id)
      have hbx := box_cells HB4.out
      have HR4 : RowKit.Hid (RowAt wr (.slice na N ncap) (srow names)) := Lib.hid (row_keep ⟨_, _, by rw [srow_len, HN.out], HC1.out⟩ HK4.out)
      have Hsz4 := Lib.hid (blk_lt HB4.out)
      go_upto_region 29 with (fail)
      have HQ : RowKit.Hid (World.blk (wr.alloc (.cells #[.int .i64 (E 0), .int .i64 (E 1), .int .i64 (E 2), .int .i64 (K 0), .int .i64 (K 1), .int .i64 (K 2)] 24)) wr.heap.size (boxV E K) 24) := Lib.hid (blk_new _ _ _)
      have HKq : RowKit.Hid (Keep w (wr.alloc (.cells #[.int .i64 (E 0), .int .i64 (E 1), .int .i64 (E 2), .int .i64 (K 0), .int .i64 (K 1), .int .i64 (K 2)] 24))) := Lib.hid ((HK3.out.keep HK4.out).alloc _)
      have HRq : RowKit.Hid (RowAt (wr.alloc (.cells #[.int .i64 (E 0), .int .i64 (E 1), .int .i64 (E 2), .int .i64 (K 0), .int .i64 (K 1), .int .i64 (K 2)] 24)) (.slice na N ncap) (srow names)) := Lib.hid (row_keep HR4.out ((Mod.refl _ _).alloc _))
      have Hss : RowKit.Hid (w.heap.size ≤ wr.heap.size) := Lib.hid (HK3.out.keep HK4.out).size
      have Hna : RowKit.Hid (∀ j x, (srow names)[j]? = some x → ∃ b' o', na = some ⟨b', o', none⟩ ∧ b' < wr.heap.size) := Lib.hid (fun j x hx => by
        obtain ⟨b', o', e, hc⟩ := HC1.out j x hx
        exact ⟨b', o', e, Nat.lt_of_lt_of_le (lt_of_cell hc) HK4.out.size⟩)
      clear hbx HB4 HR4 Hsz4
      generalize wr.alloc (.cells #[.int .i64 (E 0), .int .i64 (E 1), .int .i64 (E 2), .int .i64 (K 0), .int .i64 (K 1), .int .i64 (K 2)] 24) = w5 at *
      generalize wr.heap.size = Q at *
      have hbc := (box_E HQ.out (show b < 3 by omega)).2
      have hfz : w5.frozen? ⟨Q, 3 + b, none⟩ = false := blk_free HQ.out _ rfl
      have HM := Lib.hid (keeps_more (more_le K b) names)
      have HMb : RowKit.Hid (∀ i, i < 3 → oneMore K b i ≤ 9223372036854775807) := Lib.hid (fun i hi => by
        have := HKb.out i hi
        unfold oneMore; split <;> omega)
      have hfin : ∃ K' : Nat → Int, oneMore K b = K' := ⟨_, rfl⟩
      by_cases hk : K b < 1000
      · have HQ2 : RowKit.Hid (World.blk (w5.setCell ⟨Q, 3 + b, none⟩ (.int .i64 (K b + 1))) Q (boxV E (oneMore K b)) 24) := Lib.hid (by rw [← box_more E K b (by omega) hk]; exact blk_set HQ.out _ _)
        have HK2 : RowKit.Hid (Keep w (w5.setCell ⟨Q, 3 + b, none⟩ (.int .i64 (K b + 1)))) := Lib.hid (HKq.out.setCell (.inr Hss.out) _)
        have HR2 : RowKit.Hid (RowAt (w5.setCell ⟨Q, 3 + b, none⟩ (.int .i64 (K b + 1))) (.slice na N ncap) (srow names)) := Lib.hid (by
          obtain ⟨a', c', hv, hx⟩ := HRq.out
          refine ⟨a', c', hv, fun j x hj => ?_⟩
          obtain ⟨b', o', e, hc⟩ := hx j x hj
          refine ⟨b', o', e, ?_⟩
          obtain ⟨b2, o2, e2, hlt2⟩ := Hna.out j x hj
          cases hv
          rw [e] at e2
          cases e2
          rw [World.cell?_of_block (Below.heap_setCell _ _ _ _ (by show b' ≠ Q; omega))]
          exact hc)
        have hkl : -9223372036854775808 ≤ K b := (HKb.out b (by omega)).1
        go_upto_region 31 with (fail)
        generalize w5.setCell ⟨Q, 3 + b, none⟩ (.int .i64 (K b + 1)) = w6 at *
        clear hbc hfz hk HQ HRq HKq
        have hbx := box_cells HQ2.out
        generalize hK' : oneMore K b = K' at *
        go_wp2_with fail
        refine (keeps_any E K' names _ _ (He.out.keep HK2.out) HMb.out HR2.out (by rw [HN.out]; omega) Hl.out).mono ?_
        rintro e w7 ⟨v7, rfl, hr, hk⟩
        have HK7 := Lib.hid (HK2.out.keep hk)
        obtain ⟨ma, mcap, rfl, -⟩ := hr
        have hML := HM.out
        rw [HL.out] at hML
        have hMm := keeps_len K' names
        rw [srow_len]
        generalize (keeps K' names).length = M at *
        have hMN : M ≤ N := by rw [← HN.out]; exact hMm
        clear hk hMm hbx HM HL
        go_wp2_with fail
        refine (fixed_any _ (He.out.keep HK7.out)).mono ?_
        rintro e w8 ⟨rfl, hk⟩
        have HK8 := Lib.hid (HK7.out.keep hk)
        clear hk
        go_wp2_with fail
        go_ret
        exact ⟨rfl, HK8.out⟩
      · rw [more_same K b hk] at HM
        go_upto_region 31 with (fail)
        clear hbc hfz hk
        have hbx := box_cells HQ.out
        go_wp2_with fail
        refine (keeps_any E K names _ _ (He.out.keep HKq.out) (fun i hi => (HKb.out i hi).2) HRq.out (by rw [HN.out]; omega) Hl.out).mono ?_
        rintro e w7 ⟨v7, rfl, hr, hk⟩
        have HK7 := Lib.hid (HKq.out.keep hk)
        obtain ⟨ma, mcap, rfl, -⟩ := hr
        rw [srow_len, HL.out]
        clear hk hbx HM
        go_wp2_with fail
        refine (fixed_any _ (He.out.keep HK7.out)).mono ?_
        rintro e w8 ⟨rfl, hk⟩
        have HK8 := Lib.hid (HK7.out.keep hk)
        clear hk
        go_wp2_with fail
        go_ret
        exact ⟨rfl, HK8.out⟩
end Go.Proofs.YthopldpaoeabnaaDoor
