/-
  stillageref13: num, digit, hex, is.
-/
import Derived.Test.YtpjfeonhdkkfpaaDoorCmdParse
namespace Go.Proofs.YtpjfeonhdkkfpaaDoor
open Go.RowKit
theorem nDigits_mono : ∀ (k u : Nat), u < 10 ^ k → 1 ≤ k → Lib.nDigits u ≤ k
  | 0, _, _, h => by omega
  | k + 1, u, h, _ => by
    by_cases h1 : u < 10
    · rw [Lib.nDigits_small h1]; omega
    · rw [Lib.nDigits_big h1]
      rw [Nat.pow_succ] at h
      by_cases hk : 1 ≤ k
      · have := nDigits_mono k (u / 10) (by omega) hk; omega
      · obtain rfl : k = 0 := by omega
        simp at h; omega
theorem itoa_short (n : Int) (h : 0 ≤ n) (h1 : n ≤ 1073741824) : 1 ≤ (Lib.itoa n).length ∧ (Lib.itoa n).length ≤ 10 := by
  obtain ⟨u, rfl⟩ : ∃ u : Nat, n = u := ⟨n.toNat, by omega⟩
  rw [Lib.itoa_nonneg, Lib.decDigits_length]
  exact ⟨Lib.nDigits_pos u, nDigits_mono 10 u (by omega) (by omega)⟩
set_option maxRecDepth 100000 in
set_option maxHeartbeats 1000000 in
theorem num_fuel (m : Nat) : ∀ (n : Int) (w : World), 0 ≤ n → n ≤ 1073741824 → n < m →
    Calls Tryd.prog 26 #[.int .i64 n] w fun e w' => e = .returned (.string ⟨(Lib.itoa n).toArray⟩) ∧ Keep w w' := by
  induction m with
  | zero => intro n w h0 h1 h2; omega
  | succ m ih =>
    intro n w h0 h1 h2
    have Ih := Lib.hid ih
    clear ih
    have hst := fun x hx W b h => run_str_one (P := Tryd.prog) Tryd.underlying50 Tryd.underlying5 Tryd.underlying9 x hx W b h
    by_cases hn : n < 10
    · have He := Lib.hid (itoa_digit n h0 hn)
      have hw : IntKind.u8.wrap (48 + n) = 48 + n := wrap8 _ (by omega)
      have hs2 := hst (48 + n) (by omega)
      clear hst
      go_enter Tryd.func26, Tryd.ntmps26
      go_wp2_with fail
      go_ret
      exact ⟨by rw [He.out]; rfl, (Mod.refl _ _).alloc _⟩
    · have He := Lib.hid (itoa_step n (by omega))
      have hw : IntKind.u8.wrap (48 + n % 10) = 48 + n % 10 := wrap8 _ (by omega)
      have hs2 := hst (48 + n % 10) (by omega)
      have hb0 : 0 ≤ n % 10 := by omega
      have hb1 : n % 10 < 10 := by omega
      have e1 : n.tdiv 10 = n / 10 := Int.tdiv_eq_ediv_of_nonneg h0
      have e2 : n.tmod 10 = n % 10 := Int.tmod_eq_emod_of_nonneg h0
      have e3 : IntKind.i64.wrap (n / 10) = n / 10 := IntWalk.i64_in _ (by omega)
      have e4 : IntKind.i64.wrap (48 + n % 10) = 48 + n % 10 := IntWalk.i64_in _ (by omega)
      have hlim : (Lib.itoa (n / 10)).length ≤ 10 := (itoa_short (n / 10) (by omega) (by omega)).2
      have Hb := Lib.hid (show 0 ≤ n / 10 ∧ n / 10 ≤ 1073741824 ∧ n / 10 < m by omega)
      clear hst
      go_enter Tryd.func26, Tryd.ntmps26
      go_wp2_with fail
      go_region_with (go_at_call 26; refine (Ih.out _ _ Hb.out.1 Hb.out.2.1 Hb.out.2.2).mono ?_; rintro e w1 ⟨rfl, hk⟩; have hcc := fun b i (h : b < _) => hk.cell (p := ⟨b, i, none⟩) h id)
      all_goals
        go_wp2_with fail
        go_ret
        first
          | exact ⟨by rw [He.out]; rfl, ((Mod.refl _ w).drew.keep hk).alloc _⟩
          | exact ⟨by rw [He.out]; rfl, ((Mod.refl _ w).drew.alloc _).keep hk⟩
          | exact ⟨by rw [He.out]; rfl, ((Mod.refl _ w).alloc _).drew.keep hk⟩
theorem num_any (n : Int) (w : World) (h0 : 0 ≤ n) (h1 : n ≤ 1073741824) :
    Calls Tryd.prog 26 #[.int .i64 n] w fun e w' => e = .returned (.string ⟨(Lib.itoa n).toArray⟩) ∧ Keep w w' := num_fuel (n.toNat + 1) n w h0 h1 (by omega)

set_option maxRecDepth 100000 in
theorem digit_any (n : Nat) (i : Int) (hi : i = (n : Int)) (hn : n < 16) (w : World) :
    Calls Tryd.prog 41 #[.int .u8 i] w fun e w' => e = .returned (.int .u8 ((hexd n).toNat : Int)) ∧ w = w' := by
  subst hi
  by_cases h : n < 10
  · have Hv : RowKit.Hid (((hexd n).toNat : Int) = 48 + n) := Lib.hid (by rw [hexd, if_pos h, digit_nat n h]; omega)
    have h' : (n : Int) < 10 := by omega
    go_enter Tryd.func41, Tryd.ntmps41
    go_wp2_with fail
    go_ret
    exact ⟨by rw [Hv.out]; rfl, rfl⟩
  · have Hv : RowKit.Hid (((hexd n).toNat : Int) = 87 + n) := Lib.hid (by
      rw [hexd, if_neg h]
      have : (UInt8.ofNat (87 + n)).toNat = 87 + n := by simp; omega
      rw [this]; omega)
    have h' : ¬ (n : Int) < 10 := by omega
    go_enter Tryd.func41, Tryd.ntmps41
    go_wp2_with fail
    go_ret
    exact ⟨by rw [Hv.out, show (87 + (n : Int)) = 97 + (n : Int) - 10 by omega]; rfl, rfl⟩
abbrev OwnBytes (w : World) (base : Nat) (v : Value) (l : List UInt8) : Prop := w.ownsRow base 5 1 v l.length (u8s l)
theorem run_str_own {w : World} {base : Nat} {v : Value} {l : List UInt8} (h : OwnBytes w base v l) (hl : l ≠ []) : (convert 50 9 v).run Tryd.prog w = .ok (.string ⟨l.toArray⟩) w := by
  rcases h.2 with ⟨rfl, h0⟩ | ⟨g, cap, cur, rfl, hb, hg, hnc, hm, hsz, htk⟩
  · exact absurd (List.length_eq_zero_iff.1 h0) hl
  · refine run_str w _ _ 5 g 0 _ _ l Tryd.underlying50 Tryd.underlying5 Tryd.underlying9 rfl (fun j hj => ?_)
    rw [Nat.zero_add]
    have : w.cell? ⟨g, j, none⟩ = cur[j]? := by simp [World.cell?, hg]
    rw [this, ← Array.getElem?_toList, ← htk, List.getElem?_take, if_pos (by omega)]
theorem own_bytes_new {w : World} {b : Nat} (h : World.blk w b #[] 5) : OwnBytes w b (.slice (some ⟨b, 0, none⟩) 0 0) [] :=
  ⟨by simp [u8s], .inr ⟨b, 0, #[], rfl, Nat.le_refl _, h, Nat.le_refl _, by simp, by simp, by simp [u8s]⟩⟩
theorem add_bytes {w : World} {base : Nat} {v : Value} {l m : List UInt8} {k : Nat} (h : w.ownsRow base 5 1 v (l.length + k) (u8s l ++ u8s m)) (hk : k = m.length) : OwnBytes w base v (l ++ m) := by
  have e : u8s (l ++ m) = u8s l ++ u8s m := by simp [u8s]
  unfold OwnBytes
  rw [e, List.length_append, ← hk]; exact h
theorem u8s_one (l : List UInt8) : ∀ u ∈ u8s l, u.oneCell' = true := by
  intro u hu
  simp only [u8s, List.mem_map] at hu
  obtain ⟨x, _, rfl⟩ := hu
  rfl
theorem quiet_ext {P : Program} {f : FuncId} {args : Array Value} {w : World} {x : Later} {v : Value}
    (h : Calls P f args (w.ext x) fun e w' => e = .returned v ∧ w.ext x = w') : Calls P f args (w.ext x) fun e w'' => e = .returned v ∧ ∃ y, w'' = w.ext y :=
  h.mono fun _ _ ⟨he, hk⟩ => ⟨he, x, hk.symm⟩
set_option maxRecDepth 100000 in
set_option maxHeartbeats 1000000 in
theorem hex_any (d : List UInt8) (w : World) (hd : d.length ≤ 1099511627776) :
    Calls Tryd.prog 27 #[.string ⟨d.toArray⟩] w fun e w' => e = .returned (.string ⟨(hexed d).toArray⟩) ∧ Keep w w' := by
  by_cases h0 : d = []
  · subst h0
    go_enter Tryd.func27, Tryd.ntmps27
    go_wp2_with fail
    go_ret
    exact ⟨rfl, Mod.refl _ _⟩
  · have e0 : (d == []) = false := beq_false_of_ne h0
    have e1 : d.isEmpty = false := by cases d; exact absurd rfl h0; rfl
    have He : RowKit.Hid (hexed d = hexes d ∧ hexes d ≠ []) := Lib.hid ⟨by rw [hexed, if_neg h0], fun e => by have := hexes_len d; rw [e] at this; exact h0 (List.length_eq_zero_iff.1 (by simp at this; omega))⟩
    have HV0 : RowKit.Hid (OwnBytes (w.alloc (.cells #[] 5)) w.heap.size (.slice (some ⟨w.heap.size, 0, none⟩) 0 0) []) := Lib.hid (own_bytes_new (blk_new _ _ _))
    have HK0 : RowKit.Hid (Keep w (w.alloc (.cells #[] 5))) := Lib.hid ((Mod.refl _ _).alloc _)
    clear h0
    go_enter Tryd.func27, Tryd.ntmps27
    go_wp2_with fail
    generalize w.alloc (.cells #[] 5) = w0 at *
    go_loopw [3, 4] (fun v i wr => ∃ k : Nat, k ≤ d.length ∧ i = .int .i64 (k : Int) ∧ OwnBytes wr w.heap.size v (hexes (d.take k)) ∧ Keep w wr) (fun _ i _ => d.length - (intOf i).toNat)
    case atStart => exact ⟨0, by omega, rfl, HV0.out, HK0.out⟩
    case round =>
      clear HV0 HK0
      obtain ⟨k, hk, rfl, hV, hK⟩ := hrel
      have HV := Lib.hid hV
      have HK := Lib.hid hK
      clear hV hK
      by_cases hlt : k < d.length
      · obtain ⟨x, hx⟩ : ∃ x, d[k]? = some x := ⟨_, List.getElem?_eq_getElem hlt⟩
        have Hst : RowKit.Hid (hexes (d.take (k + 1)) = hexes (d.take k) ++ [hexd (x.toNat / 16), hexd (x.toNat % 16)]) := Lib.hid (by rw [List.take_add_one, hx, Option.toList_some, hexes_snoc]; simp)
        have hix : ∀ W, (Instr.index 9 (.string ⟨d.toArray⟩) (.int .i64 (k : Int))).run Tryd.prog W = .ok (.int .u8 (x.toNat : Int)) W := fun W => run_index_str Tryd.underlying9 d .i64 (k : Int) x (by omega) (by rw [Int.toNat_natCast]; exact hx) W
        clear hx
        have Hln : RowKit.Hid ((hexes (d.take k)).length ≤ 2 * d.length) := Lib.hid (by rw [hexes_len, List.length_take]; omega)
        have Hxb := Lib.hid x.toNat_lt
        have q1 : (x.toNat : Int).tdiv 16 = (x.toNat : Int) / 16 := Int.tdiv_eq_ediv_of_nonneg (by omega)
        have q2 : (x.toNat : Int).tmod 16 = (x.toNat : Int) % 16 := Int.tmod_eq_emod_of_nonneg (by omega)
        have q3 : IntKind.u8.wrap ((x.toNat : Int) / 16) = (x.toNat : Int) / 16 := wrap8 _ (by have := x.toNat_lt; omega)
        have q4 : IntKind.u8.wrap ((x.toNat : Int) % 16) = (x.toNat : Int) % 16 := wrap8 _ (by omega)
        go_wp2_with fail
        refine wp_region_km 1 11 (by kernel_rfl) (by kernel_rfl) (fun _ o _ _ _ h => by cases o <;> exact h) ?_
        simp only [List.take_succ_cons, List.take_zero, List.drop_succ_cons, List.drop_zero]
        refine wpPure_step (fun L hL => ?_)
        go_simp
        first | refine hL _ ?_ | refine ⟨_, fun _ => rfl, hL _ ?_⟩
        clear hL L
        refine wpPure_nil ?_
        repeat (quiet_step (first | (with_reducible exact quiet_ext (digit_any (x.toNat / 16) ((x.toNat : Int) / 16) (by omega) (by have := Hxb.out; omega) _)) | (with_reducible exact quiet_ext (digit_any (x.toNat % 16) ((x.toNat : Int) % 16) (by omega) (by omega) _))))
        refine wpQuiet_nil ?_
        intro _ hw'
        obtain ⟨xq, rfl⟩ := hw'
        have HV2 := Lib.hid (own_keep HV.out (keep_ext wr xq))
        have HK2 := Lib.hid (HK.out.keep (keep_ext wr xq))
        generalize wr.ext xq = w1 at *
        generalize hexes (d.take k) = acc at *
        obtain ⟨v2, w2, hr, ho, hk2, hm2⟩ := append_own (P := Tryd.prog) Tryd.underlying50 info_u8 rfl w.heap.size u3 _ _ w1 w HV2.out (u8s [hexd (x.toNat / 16), hexd (x.toNat % 16)]) (u8s_one _) (by have := Hln.out; simp [u8s, maxLen]; omega) (by have := Hln.out; simp [u8s]; omega) HK2.out.size HK2.out (Nat.le_refl _)
        have Hr := Lib.hid hr
        have HV3 := Lib.hid (add_bytes ho (by simp [u8s]))
        have HK3 := Lib.hid hk2
        clear hr ho hk2 hm2 q1 q2 q3 q4 hix
        go_wp2_with ((at_builtin; refine wpList_append_run Hr.out rfl rfl rfl rfl ?_))
        exact ⟨⟨k + 1, by omega, by go_num, by rw [Hst.out]; exact HV3.out, HK3.out⟩, by simp [intOf]; omega⟩
      · obtain rfl : k = d.length := by omega
        rw [List.take_length] at HV
        have hst := run_str_own HV.out He.out.2
        go_wp2_with fail
        go_ret
        exact ⟨by rw [He.out.1]; rfl, HK.out⟩
theorem is_any (s : List UInt8) (w : World) (hs : s.length < 4294967281) :
    Calls Tryd.prog 25 #[.string ⟨s.toArray⟩] w fun e w' => e = .returned (.bool (pathOf s).isSome) ∧ Keep w w' := by
  go_enter Tryd.func25, Tryd.ntmps25
  go_wp2_with fail
  refine (rpath_any s w hs).mono ?_
  rintro e w1 ⟨v, rfl, -, hk⟩
  have HK := Lib.hid hk
  have hok := pathErr_ok s
  clear hk
  generalize hb : (pathOf s).isSome = ok at *
  have Hb := Lib.hid hb
  clear hb
  go_wp2_with fail
  go_ret
  exact ⟨by rw [Hb.out]; rfl, HK.out⟩
end Go.Proofs.YtpjfeonhdkkfpaaDoor
