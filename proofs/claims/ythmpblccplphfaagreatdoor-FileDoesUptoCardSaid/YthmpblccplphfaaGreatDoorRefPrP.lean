/-
  stillageref13.Print (num, digit, hex, is).
-/
import Derived.Test.YthmpblccplphfaaGreatDoorCmdPrint
namespace Go.Proofs.YthmpblccplphfaaGreatDoor.RP
section
open Go.RowKit
theorem nDigits_mono : ∀ (k u : Nat), u < 10 ^ k → 1 ≤ k → Lib.nDigits u ≤ k
  | 0, _, _, h => by omega
  | k + 1, u, h, _ => by
    by_cases h1 : u < 10
    · rw [Lib.nDigits_small h1]; omega
    · rw [Lib.nDigits_big h1]
      rw [Nat.pow_succ] at h
      by_cases hk : 1 ≤ k
      · have := nDigits_mono k (u / 10) (by omega) hk; omega
      · obtain rfl : k = 0 := by omega
        simp at h; omega
theorem itoa_short (n : Int) (h : 0 ≤ n) (h1 : n ≤ 1073741824) : 1 ≤ (Lib.itoa n).length ∧ (Lib.itoa n).length ≤ 10 := by
  obtain ⟨u, rfl⟩ : ∃ u : Nat, n = u := ⟨n.toNat, by omega⟩
  rw [Lib.itoa_nonneg, Lib.decDigits_length]
  exact ⟨Lib.nDigits_pos u, nDigits_mono 10 u (by omega) (by omega)⟩
set_option maxRecDepth 100000 in
set_option maxHeartbeats 1000000 in
theorem num_fuel (m : Nat) : ∀ (n : Int) (w : World), 0 ≤ n → n ≤ 1073741824 → n < m →
    Calls Tryz.prog 80 #[.int .i64 n] w fun e w' => e = .returned (.string ⟨(Lib.itoa n).toArray⟩) ∧ Keep w w' := by
  induction m with
  | zero => intro n w h0 h1 h2; omega
  | succ m ih =>
    intro n w h0 h1 h2
    have Ih := Lib.hid ih
    clear ih
    have hst := fun x hx W b h => run_str_one (P := Tryz.prog) Tryz.underlying156 Tryz.underlying5 Tryz.underlying9 x hx W b h
    by_cases hn : n < 10
    · have He := Lib.hid (itoa_digit n h0 hn)
      have hw : IntKind.u8.wrap (48 + n) = 48 + n := wrap8 _ (by omega)
      have hs2 := hst (48 + n) (by omega)
      clear hst
      go_enter Tryz.func80, Tryz.ntmps80
      go_wp2_with fail
      go_ret
      exact ⟨by rw [He.out]; rfl, (Mod.refl _ _).alloc _⟩
    · have He := Lib.hid (itoa_step n (by omega))
      have hw : IntKind.u8.wrap (48 + n % 10) = 48 + n % 10 := wrap8 _ (by omega)
      have hs2 := hst (48 + n % 10) (by omega)
      have hb0 : 0 ≤ n % 10 := by omega
      have hb1 : n % 10 < 10 := by omega
      have e1 : n.tdiv 10 = n / 10 := Int.tdiv_eq_ediv_of_nonneg h0
      have e2 : n.tmod 10 = n % 10 := Int.tmod_eq_emod_of_nonneg h0
      have e3 : IntKind.i64.wrap (n / 10) = n / 10 := IntWalk.i64_in _ (by omega)
      have e4 : IntKind.i64.wrap (48 + n % 10) = 48 + n % 10 := IntWalk.i64_in _ (by omega)
      have hlim : (Lib.itoa (n / 10)).length ≤ 10 := (itoa_short (n / 10) (by omega) (by omega)).2
      have Hb := Lib.hid (show 0 ≤ n / 10 ∧ n / 10 ≤ 1073741824 ∧ n / 10 < m by omega)
      clear hst
      go_enter Tryz.func80, Tryz.ntmps80
      go_wp2_with fail
      go_region_with (go_at_call 80; refine (Ih.out _ _ Hb.out.1 Hb.out.2.1 Hb.out.2.2).mono ?_; rintro e w1 ⟨rfl, hk⟩; have hcc := fun b i (h : b < _) => hk.cell (p := ⟨b, i, none⟩) h id)
      all_goals
        go_wp2_with fail
        go_ret
        first
          | exact ⟨by rw [He.out]; rfl, ((Mod.refl _ w).drew.keep hk).alloc _⟩
          | exact ⟨by rw [He.out]; rfl, ((Mod.refl _ w).drew.alloc _).keep hk⟩
          | exact ⟨by rw [He.out]; rfl, ((Mod.refl _ w).alloc _).drew.keep hk⟩
theorem num_any (n : Int) (w : World) (h0 : 0 ≤ n) (h1 : n ≤ 1073741824) :
    Calls Tryz.prog 80 #[.int .i64 n] w fun e w' => e = .returned (.string ⟨(Lib.itoa n).toArray⟩) ∧ Keep w w' := num_fuel (n.toNat + 1) n w h0 h1 (by omega)

set_option maxRecDepth 100000 in
theorem digit_any (n : Nat) (i : Int) (hi : i = (n : Int)) (hn : n < 16) (w : World) :
    Calls Tryz.prog 107 #[.int .u8 i] w fun e w' => e = .returned (.int .u8 ((hexd n).toNat : Int)) ∧ w = w' := by
  subst hi
  by_cases h : n < 10
  · have Hv : RowKit.Hid (((hexd n).toNat : Int) = 48 + n) := Lib.hid (by rw [hexd, if_pos h, digit_nat n h]; omega)
    have h' : (n : Int) < 10 := by omega
    go_enter Tryz.func107, Tryz.ntmps107
    go_wp2_with fail
    go_ret
    exact ⟨by rw [Hv.out]; rfl, rfl⟩
  · have Hv : RowKit.Hid (((hexd n).toNat : Int) = 87 + n) := Lib.hid (by
      rw [hexd, if_neg h]
      have : (UInt8.ofNat (87 + n)).toNat = 87 + n := by simp; omega
      rw [this]; omega)
    have h' : ¬ (n : Int) < 10 := by omega
    go_enter Tryz.func107, Tryz.ntmps107
    go_wp2_with fail
    go_ret
    exact ⟨by rw [Hv.out, show (87 + (n : Int)) = 97 + (n : Int) - 10 by omega]; rfl, rfl⟩
abbrev OwnBytes (w : World) (base : Nat) (v : Value) (l : List UInt8) : Prop := w.ownsRow base 5 1 v l.length (u8s l)
theorem run_str_own {w : World} {base : Nat} {v : Value} {l : List UInt8} (h : OwnBytes w base v l) (hl : l ≠ []) : (convert 156 9 v).run Tryz.prog w = .ok (.string ⟨l.toArray⟩) w := by
  rcases h.2 with ⟨rfl, h0⟩ | ⟨g, cap, cur, rfl, hb, hg, hnc, hm, hsz, htk⟩
  · exact absurd (List.length_eq_zero_iff.1 h0) hl
  · refine run_str w _ _ 5 g 0 _ _ l Tryz.underlying156 Tryz.underlying5 Tryz.underlying9 rfl (fun j hj => ?_)
    rw [Nat.zero_add]
    have : w.cell? ⟨g, j, none⟩ = cur[j]? := by simp [World.cell?, hg]
    rw [this, ← Array.getElem?_toList, ← htk, List.getElem?_take, if_pos (by omega)]
theorem own_bytes_new {w : World} {b : Nat} (h : World.blk w b #[] 5) : OwnBytes w b (.slice (some ⟨b, 0, none⟩) 0 0) [] :=
  ⟨by simp [u8s], .inr ⟨b, 0, #[], rfl, Nat.le_refl _, h, Nat.le_refl _, by simp, by simp, by simp [u8s]⟩⟩
theorem add_bytes {w : World} {base : Nat} {v : Value} {l m : List UInt8} {k : Nat} (h : w.ownsRow base 5 1 v (l.length + k) (u8s l ++ u8s m)) (hk : k = m.length) : OwnBytes w base v (l ++ m) := by
  have e : u8s (l ++ m) = u8s l ++ u8s m := by simp [u8s]
  unfold OwnBytes
  rw [e, List.length_append, ← hk]; exact h
theorem u8s_one (l : List UInt8) : ∀ u ∈ u8s l, u.oneCell' = true := by
  intro u hu
  simp only [u8s, List.mem_map] at hu
  obtain ⟨x, _, rfl⟩ := hu
  rfl
theorem quiet_ext {P : Program} {f : FuncId} {args : Array Value} {w : World} {x : Later} {v : Value}
    (h : Calls P f args (w.ext x) fun e w' => e = .returned v ∧ w.ext x = w') : Calls P f args (w.ext x) fun e w'' => e = .returned v ∧ ∃ y, w'' = w.ext y :=
  h.mono fun _ _ ⟨he, hk⟩ => ⟨he, x, hk.symm⟩
set_option maxRecDepth 100000 in
set_option maxHeartbeats 1000000 in
theorem hex_any (d : List UInt8) (w : World) (hd : d.length ≤ 1099511627776) :
    Calls Tryz.prog 81 #[.string ⟨d.toArray⟩] w fun e w' => e = .returned (.string ⟨(hexed d).toArray⟩) ∧ Keep w w' := by
  by_cases h0 : d = []
  · subst h0
    go_enter Tryz.func81, Tryz.ntmps81
    go_wp2_with fail
    go_ret
    exact ⟨rfl, Mod.refl _ _⟩
  · have e0 : (d == []) = false := beq_false_of_ne h0
    have e1 : d.isEmpty = false := by cases d; exact absurd rfl h0; rfl
    have He : RowKit.Hid (hexed d = hexes d ∧ hexes d ≠ []) := Lib.hid ⟨by rw [hexed, if_neg h0], fun e => by have := hexes_len d; rw [e] at this; exact h0 (List.length_eq_zero_iff.1 (by simp at this; omega))⟩
    have HV0 : RowKit.Hid (OwnBytes (w.alloc (.cells #[] 5)) w.heap.size (.slice (some ⟨w.heap.size, 0, none⟩) 0 0) []) := Lib.hid (own_bytes_new (blk_new _ _ _))
    have HK0 : RowKit.Hid (Keep w (w.alloc (.cells #[] 5))) := Lib.hid ((Mod.refl _ _).alloc _)
    clear h0
    go_enter Tryz.func81, Tryz.ntmps81
    go_wp2_with fail
    generalize w.alloc (.cells #[] 5) = w0 at *
    go_loopw [3, 4] (fun v i wr => ∃ k : Nat, k ≤ d.length ∧ i = .int .i64 (k : Int) ∧ OwnBytes wr w.heap.size v (hexes (d.take k)) ∧ Keep w wr) (fun _ i _ => d.length - (intOf i).toNat)
    case atStart => exact ⟨0, by omega, rfl, HV0.out, HK0.out⟩
    case round =>
      clear HV0 HK0
      obtain ⟨k, hk, rfl, hV, hK⟩ := hrel
      have HV := Lib.hid hV
      have HK := Lib.hid hK
      clear hV hK
      by_cases hlt : k < d.length
      · obtain ⟨x, hx⟩ : ∃ x, d[k]? = some x := ⟨_, List.getElem?_eq_getElem hlt⟩
        have Hst : RowKit.Hid (hexes (d.take (k + 1)) = hexes (d.take k) ++ [hexd (x.toNat / 16), hexd (x.toNat % 16)]) := Lib.hid (by rw [List.take_add_one, hx, Option.toList_some, hexes_snoc]; simp)
        have hix : ∀ W, (Instr.index 9 (.string ⟨d.toArray⟩) (.int .i64 (k : Int))).run Tryz.prog W = .ok (.int .u8 (x.toNat : Int)) W := fun W => run_index_str Tryz.underlying9 d .i64 (k : Int) x (by omega) (by rw [Int.toNat_natCast]; exact hx) W
        clear hx
        have Hln : RowKit.Hid ((hexes (d.take k)).length ≤ 2 * d.length) := Lib.hid (by rw [hexes_len, List.length_take]; omega)
        have Hxb := Lib.hid x.toNat_lt
        have q1 : (x.toNat : Int).tdiv 16 = (x.toNat : Int) / 16 := Int.tdiv_eq_ediv_of_nonneg (by omega)
        have q2 : (x.toNat : Int).tmod 16 = (x.toNat : Int) % 16 := Int.tmod_eq_emod_of_nonneg (by omega)
        have q3 : IntKind.u8.wrap ((x.toNat : Int) / 16) = (x.toNat : Int) / 16 := wrap8 _ (by have := x.toNat_lt; omega)
        have q4 : IntKind.u8.wrap ((x.toNat : Int) % 16) = (x.toNat : Int) % 16 := wrap8 _ (by omega)
        go_wp2_with fail
        refine wp_region_km 1 11 (by kernel_rfl) (by kernel_rfl) (fun _ o _ _ _ h => by cases o <;> exact h) ?_
        simp only [List.take_succ_cons, List.take_zero, List.drop_succ_cons, List.drop_zero]
        refine wpPure_step (fun L hL => ?_)
        go_simp
        first | refine hL _ ?_ | refine ⟨_, fun _ => rfl, hL _ ?_⟩
        clear hL L
        refine wpPure_nil ?_
        repeat (quiet_step (first | (with_reducible exact quiet_ext (digit_any (x.toNat / 16) ((x.toNat : Int) / 16) (by omega) (by have := Hxb.out; omega) _)) | (with_reducible exact quiet_ext (digit_any (x.toNat % 16) ((x.toNat : Int) % 16) (by omega) (by omega) _))))
        refine wpQuiet_nil ?_
        intro _ hw'
        obtain ⟨xq, rfl⟩ := hw'
        have HV2 := Lib.hid (own_keep HV.out (keep_ext wr xq))
        have HK2 := Lib.hid (HK.out.keep (keep_ext wr xq))
        generalize wr.ext xq = w1 at *
        generalize hexes (d.take k) = acc at *
        obtain ⟨v2, w2, hr, ho, hk2, hm2⟩ := append_own (P := Tryz.prog) Tryz.underlying156 info_u8 rfl w.heap.size u3 _ _ w1 w HV2.out (u8s [hexd (x.toNat / 16), hexd (x.toNat % 16)]) (u8s_one _) (by have := Hln.out; simp [u8s, maxLen]; omega) (by have := Hln.out; simp [u8s]; omega) HK2.out.size HK2.out (Nat.le_refl _)
        have Hr := Lib.hid hr
        have HV3 := Lib.hid (add_bytes ho (by simp [u8s]))
        have HK3 := Lib.hid hk2
        clear hr ho hk2 hm2 q1 q2 q3 q4 hix
        go_wp2_with ((at_builtin; refine wpList_append_run Hr.out rfl rfl rfl rfl ?_))
        exact ⟨⟨k + 1, by omega, by go_num, by rw [Hst.out]; exact HV3.out, HK3.out⟩, by simp [intOf]; omega⟩
      · obtain rfl : k = d.length := by omega
        rw [List.take_length] at HV
        have hst := run_str_own HV.out He.out.2
        go_wp2_with fail
        go_ret
        exact ⟨by rw [He.out.1]; rfl, HK.out⟩
theorem is_any (s : List UInt8) (w : World) (hs : s.length < 4294967281) :
    Calls Tryz.prog 79 #[.string ⟨s.toArray⟩] w fun e w' => e = .returned (.bool (pathOf s).isSome) ∧ Keep w w' := by
  go_enter Tryz.func79, Tryz.ntmps79
  go_wp2_with fail
  refine (rpath_any s w hs).mono ?_
  rintro e w1 ⟨v, rfl, -, hk⟩
  have HK := Lib.hid hk
  have hok := pathErr_ok s
  clear hk
  generalize hb : (pathOf s).isSome = ok at *
  have Hb := Lib.hid hb
  clear hb
  go_wp2_with fail
  go_ret
  exact ⟨by rw [Hb.out]; rfl, HK.out⟩
end
open Go.RowKit
theorem and4 {a b c d : Bool} (h : (a && (b && (c && d))) = false) : a = false ∨ (a = true ∧ b = false) ∨ (a = true ∧ b = true ∧ c = false) ∨ (a = true ∧ b = true ∧ c = true ∧ d = false) := by
  revert a b c d; decide
theorem and4t {a b c d : Bool} (h : (a && (b && (c && d))) = true) : a = true ∧ b = true ∧ c = true ∧ d = true := by
  revert a b c d; decide
theorem isEmpty_beq {l : List UInt8} {b : Bool} (h : (l == []) = b) : l.isEmpty = b := by rw [← h]; cases l <;> rfl
theorem k_lit (k : Nat) (h : k < 9) (p d : List UInt8) (n : Int) (x : List UInt8) : (⟨(k : Int), p, d, n, x⟩ : Cmd).k = k := k_of k h _ rfl
theorem beq_nil_comm (l : List UInt8) : (([] : List UInt8) == l) = (l == []) := by cases l <;> rfl
theorem beq_zero_comm (n : Int) : ((0 : Int) == n) = (n == 0) := by rw [Bool.eq_iff_iff, beq_iff_eq, beq_iff_eq]; exact eq_comm
def fitAt (n : Int) : Bool := decide (0 ≤ n) && decide (n ≤ 16384)
theorem atoi_fit {n : Int} (h : fitAt n = true) : atoiV (Lib.itoa n) = n := by
  simp only [fitAt, Bool.and_eq_true, decide_eq_true_eq] at h
  exact atoi_itoa n h.1 (by omega)
theorem cmd_cells5 {w : World} {b : Nat} {kd n : Int} {p d x : List UInt8} {t : TypeId} (h : World.blk w b (cmdC ⟨kd, p, d, n, x⟩) t) :
    w.cell? ⟨b, 0, none⟩ = some (.int .i64 kd) ∧ w.cell? ⟨b, 1, none⟩ = some (.string ⟨p.toArray⟩) ∧ w.cell? ⟨b, 2, none⟩ = some (.string ⟨d.toArray⟩) ∧
    w.cell? ⟨b, 3, none⟩ = some (.int .i64 n) ∧ w.cell? ⟨b, 4, none⟩ = some (.string ⟨x.toArray⟩) := cmd_cells h
theorem line_one {c : Cmd} {k : Nat} (hk : c.k = k) {f : Nat} (hf : fieldsOf k = [f]) : c.line = wordOf k ++ 32 :: c.fieldText f := by
  rw [Cmd.line, hk, hf]; simp [lineOf, Lib.join, List.intercalate]
theorem line_two {c : Cmd} {k : Nat} (hk : c.k = k) {f g : Nat} (hf : fieldsOf k = [f, g]) : c.line = wordOf k ++ 32 :: (c.fieldText f ++ 32 :: c.fieldText g) := by
  rw [Cmd.line, hk, hf]; simp [lineOf, Lib.join, List.intercalate]
theorem line_three {c : Cmd} {k : Nat} (hk : c.k = k) {f g h : Nat} (hf : fieldsOf k = [f, g, h]) : c.line = wordOf k ++ 32 :: (c.fieldText f ++ 32 :: (c.fieldText g ++ 32 :: c.fieldText h)) := by
  rw [Cmd.line, hk, hf]; simp [lineOf, Lib.join, List.intercalate]
theorem hexed_len {x : List UInt8} (h : x.length ≤ 512) : (hexed x).length ≤ 1024 := by
  unfold hexed; split
  · simp
  · rw [hexes_len]; omega
theorem ok_plain (k : Nat) (hk : k < 9) (hf : fieldsOf k = [1]) (p d : List UInt8) (n : Int) (x : List UInt8) : (⟨(k : Int), p, d, n, x⟩ : Cmd).ok = ((pathOf p).isSome && ((d == []) && ((n == 0) && (x == [])))) := by
  rw [Cmd.ok, k_lit k hk, hf]
  simp only [hk, decide_true, Bool.true_and, List.all_cons, List.all_nil, Bool.and_true, Cmd.fieldOk, Cmd.bare, List.foldl_cons, List.foldl_nil, Cmd.take, Cmd.fieldText, Cmd.eqB, beq_self_eq_true, beq_nil_comm, beq_zero_comm]
theorem ok_name (k : Nat) (hk : k < 9) (hf : fieldsOf k = [5]) (p d : List UInt8) (n : Int) (x : List UInt8) : (⟨(k : Int), p, d, n, x⟩ : Cmd).ok = (nameOk p && ((d == []) && ((n == 0) && (x == [])))) := by
  rw [Cmd.ok, k_lit k hk, hf]
  simp only [hk, decide_true, Bool.true_and, List.all_cons, List.all_nil, Bool.and_true, Cmd.fieldOk, Cmd.bare, List.foldl_cons, List.foldl_nil, Cmd.take, Cmd.fieldText, Cmd.eqB, beq_self_eq_true, beq_nil_comm, beq_zero_comm]
theorem ok_two (k : Nat) (hk : k < 9) (hf : fieldsOf k = [1, 2]) (p d : List UInt8) (n : Int) (x : List UInt8) : (⟨(k : Int), p, d, n, x⟩ : Cmd).ok = ((pathOf p).isSome && ((pathOf d).isSome && ((n == 0) && (x == [])))) := by
  rw [Cmd.ok, k_lit k hk, hf]
  simp only [hk, decide_true, Bool.true_and, List.all_cons, List.all_nil, Bool.and_true, Cmd.fieldOk, Cmd.bare, List.foldl_cons, List.foldl_nil, Cmd.take, Cmd.fieldText, Cmd.eqB, beq_self_eq_true, beq_nil_comm, beq_zero_comm]
  cases (pathOf p).isSome <;> cases (pathOf d).isSome <;> rfl
theorem ok_cut (p d : List UInt8) (n : Int) (x : List UInt8) : (⟨3, p, d, n, x⟩ : Cmd).ok = ((pathOf p).isSome && (fitAt n && ((d == []) && (x == [])))) := by
  have h := k_lit 3 (by omega) p d n x
  rw [show ((3 : Nat) : Int) = 3 from rfl] at h
  rw [Cmd.ok, h, show fieldsOf 3 = [1, 3] from rfl]
  simp only [decide_true, Bool.true_and, List.all_cons, List.all_nil, Bool.and_true, Cmd.fieldOk, Cmd.bare, List.foldl_cons, List.foldl_nil, Cmd.take, Cmd.fieldText, Cmd.eqB, beq_self_eq_true, beq_nil_comm, Nat.reduceLT]
  rw [show (decide (0 ≤ n) && decide (n ≤ 16384)) = fitAt n from rfl]
  rcases hf : fitAt n with _ | _
  · cases (pathOf p).isSome <;> rfl
  · rw [atoi_fit hf, beq_self_eq_true]
    cases (pathOf p).isSome <;> cases (d == []) <;> rfl
theorem ok_write (p d : List UInt8) (n : Int) (x : List UInt8) : (⟨2, p, d, n, x⟩ : Cmd).ok = ((pathOf p).isSome && (fitAt n && (decide ((x.length : Int) ≤ 512) && (d == [])))) := by
  have h := k_lit 2 (by omega) p d n x
  rw [show ((2 : Nat) : Int) = 2 from rfl] at h
  have e : decide ((x.length : Int) ≤ 512) = decide (x.length ≤ 512) := by congr 1; exact propext (by omega)
  rw [Cmd.ok, h, show fieldsOf 2 = [1, 3, 4] from rfl, e]
  simp only [decide_true, Bool.true_and, List.all_cons, List.all_nil, Bool.and_true, Cmd.fieldOk, Cmd.bare, List.foldl_cons, List.foldl_nil, Cmd.take, Cmd.fieldText, Cmd.eqB, beq_self_eq_true, beq_nil_comm, Nat.reduceLT, unhexed_hexed]
  rw [show (decide (0 ≤ n) && decide (n ≤ 16384)) = fitAt n from rfl]
  rcases hf : fitAt n with _ | _
  · cases (pathOf p).isSome <;> rfl
  · rw [atoi_fit hf, beq_self_eq_true]
    cases (pathOf p).isSome <;> cases decide (x.length ≤ 512) <;> cases (d == []) <;> rfl
set_option maxRecDepth 100000 in
set_option maxHeartbeats 8000000 in
theorem rprint_any (c : Cmd) (w : World) (hc : c.Small) :
    Calls Tryz.prog 45 #[cmdV c] w fun e w' => e = .returned (printV c) ∧ Keep w w' := by
  obtain ⟨kd, p, d, n, x⟩ := c
  have hp : p.length < 4294967281 := hc.path
  have hd : d.length < 4294967281 := hc.dest
  have hx : x.length ≤ 1099511627776 := hc.data
  clear hc
  have Hp := Lib.hid hp
  have Hd := Lib.hid hd
  have Hx := Lib.hid hx
  go_enter Tryz.func45, Tryz.ntmps45
  unfold cmdV cmdC
  go_upto_region 1 with (fail)
  have HB0 : RowKit.Hid (World.blk (w.alloc (.cells (cmdC ⟨kd, p, d, n, x⟩) 38)) w.heap.size (cmdC ⟨kd, p, d, n, x⟩) 38) := Lib.hid (blk_new _ _ _)
  have HK0 : RowKit.Hid (Keep w (w.alloc (.cells (cmdC ⟨kd, p, d, n, x⟩) 38))) := Lib.hid ((Mod.refl _ _).alloc _)
  change Code.wp _ _ _ _ (w.alloc (.cells (cmdC ⟨kd, p, d, n, x⟩) 38))
  generalize w.alloc (.cells (cmdC ⟨kd, p, d, n, x⟩) 38) = w0 at *
  go_cut [4, 5, 6] (fun v4 v5 v6 wr => v4 = .bool (pathOf p).isSome ∧ v5 = .bool (fitAt n) ∧ v6 = .bool (decide ((x.length : Int) ≤ 512)) ∧ World.blk wr w.heap.size (cmdC ⟨kd, p, d, n, x⟩) 38 ∧ Keep w wr)
  case first =>
    obtain ⟨c0, c1, c2, c3, c4⟩ := cmd_cells HB0.out
    have hbl := blk_lt HB0.out
    by_cases h0 : 0 ≤ n
    · have d0 : decide (0 ≤ n) = true := by simpa using h0
      have Hf : RowKit.Hid (fitAt n = decide (n ≤ 16384)) := Lib.hid (by simp [fitAt, h0])
      refine wp_region_ke (by kernel_rfl) (by kernel_rfl) ?_
      repeat (quiet_step (with_reducible exact quiet_keep (is_any p _ Hp.out)))
      refine wpQuiet_nil ?_
      intro _ hw'
      obtain ⟨xq, rfl⟩ := hw'
      go_wp2_with fail
      go_meet
      case rel => exact ⟨rfl, by rw [Hf.out], rfl, blk_mod (keep_ext _ _) HB0.out id, HK0.out.keep (keep_ext _ _)⟩
    · have d0 : decide (0 ≤ n) = false := by simpa using h0
      have Hf : RowKit.Hid (fitAt n = false) := Lib.hid (by simp [fitAt, h0])
      refine wp_region_ke (by kernel_rfl) (by kernel_rfl) ?_
      repeat (quiet_step (with_reducible exact quiet_keep (is_any p _ Hp.out)))
      refine wpQuiet_nil ?_
      intro _ hw'
      obtain ⟨xq, rfl⟩ := hw'
      go_wp2_with fail
      go_meet
      case rel => exact ⟨rfl, by rw [Hf.out], rfl, blk_mod (keep_ext _ _) HB0.out id, HK0.out.keep (keep_ext _ _)⟩
  case rest =>
  clear HB0 HK0
  obtain ⟨rfl, rfl, rfl, hB, hK⟩ := hcut
  have HB := Lib.hid hB
  have HK := Lib.hid hK
  obtain ⟨c0, c1, c2, c3, c4⟩ := cmd_cells5 hB
  have hbl := blk_lt hB
  clear hB hK
  by_cases hk : 0 ≤ kd ∧ kd < 9
  · rcases (by omega : kd = 0 ∨ kd = 1 ∨ kd = 2 ∨ kd = 3 ∨ kd = 4 ∨ kd = 5 ∨ kd = 6 ∨ kd = 7 ∨ kd = 8) with rfl | rfl | rfl | rfl | rfl | rfl | rfl | rfl | rfl
    all_goals clear hk
    · have hok : (⟨0, p, d, n, x⟩ : Cmd).ok = ((pathOf p).isSome && ((d == []) && ((n == 0) && (x == [])))) := ok_plain 0 (by omega) rfl p d n x
      have hkk : (⟨0, p, d, n, x⟩ : Cmd).k = 0 := rfl
      have Hln := Lib.hid (line_one hkk rfl)
      clear hkk
      rcases hb : ((pathOf p).isSome && ((d == []) && ((n == 0) && (x == [])))) with _ | _
      · have Hn : RowKit.Hid ((⟨0, p, d, n, x⟩ : Cmd).ok = false) := Lib.hid (hok.trans hb)
        clear hok Hln
        rcases and4 hb with h0 | ⟨h0, h1⟩ | ⟨h0, h1, h2⟩ | ⟨h0, h1, h2, h3⟩
        · clear hb
          go_wp2_with fail
          go_ret2
          exact ⟨by rw [printV, Hn.out]; rfl, HK.out⟩
        · clear hb
          have ih1 := isEmpty_beq h1
          go_wp2_with fail
          go_ret2
          exact ⟨by rw [printV, Hn.out]; rfl, HK.out⟩
        · clear hb
          have ih1 := isEmpty_beq h1
          go_wp2_with fail
          go_ret2
          exact ⟨by rw [printV, Hn.out]; rfl, HK.out⟩
        · clear hb
          have ih1 := isEmpty_beq h1
          have ih3 := isEmpty_beq h3
          go_wp2_with fail
          go_ret2
          exact ⟨by rw [printV, Hn.out]; rfl, HK.out⟩
      · have Hn : RowKit.Hid ((⟨0, p, d, n, x⟩ : Cmd).ok = true) := Lib.hid (hok.trans hb)
        clear hok
        obtain ⟨h0, h1, h2, h3⟩ := and4t hb
        clear hb
        have ih1 := isEmpty_beq h1
        have ih3 := isEmpty_beq h3
        go_wp2_with fail
        go_ret2
        exact ⟨by rw [printV, if_pos Hn.out, Hln.out]; simp [wordOf, Cmd.fieldText], HK.out⟩
    · have hok : (⟨1, p, d, n, x⟩ : Cmd).ok = ((pathOf p).isSome && ((d == []) && ((n == 0) && (x == [])))) := ok_plain 1 (by omega) rfl p d n x
      have hkk : (⟨1, p, d, n, x⟩ : Cmd).k = 1 := rfl
      have Hln := Lib.hid (line_one hkk rfl)
      clear hkk
      rcases hb : ((pathOf p).isSome && ((d == []) && ((n == 0) && (x == [])))) with _ | _
      · have Hn : RowKit.Hid ((⟨1, p, d, n, x⟩ : Cmd).ok = false) := Lib.hid (hok.trans hb)
        clear hok Hln
        rcases and4 hb with h0 | ⟨h0, h1⟩ | ⟨h0, h1, h2⟩ | ⟨h0, h1, h2, h3⟩
        · clear hb
          go_wp2_with fail
          go_ret2
          exact ⟨by rw [printV, Hn.out]; rfl, HK.out⟩
        · clear hb
          have ih1 := isEmpty_beq h1
          go_wp2_with fail
          go_ret2
          exact ⟨by rw [printV, Hn.out]; rfl, HK.out⟩
        · clear hb
          have ih1 := isEmpty_beq h1
          go_wp2_with fail
          go_ret2
          exact ⟨by rw [printV, Hn.out]; rfl, HK.out⟩
        · clear hb
          have ih1 := isEmpty_beq h1
          have ih3 := isEmpty_beq h3
          go_wp2_with fail
          go_ret2
          exact ⟨by rw [printV, Hn.out]; rfl, HK.out⟩
      · have Hn : RowKit.Hid ((⟨1, p, d, n, x⟩ : Cmd).ok = true) := Lib.hid (hok.trans hb)
        clear hok
        obtain ⟨h0, h1, h2, h3⟩ := and4t hb
        clear hb
        have ih1 := isEmpty_beq h1
        have ih3 := isEmpty_beq h3
        go_wp2_with fail
        go_ret2
        exact ⟨by rw [printV, if_pos Hn.out, Hln.out]; simp [wordOf, Cmd.fieldText], HK.out⟩
    · have hok : (⟨2, p, d, n, x⟩ : Cmd).ok = ((pathOf p).isSome && (fitAt n && (decide ((x.length : Int) ≤ 512) && (d == [])))) := ok_write p d n x
      have hkk : (⟨2, p, d, n, x⟩ : Cmd).k = 2 := rfl
      have Hln := Lib.hid (line_three hkk rfl)
      clear hkk
      rcases hb : ((pathOf p).isSome && (fitAt n && (decide ((x.length : Int) ≤ 512) && (d == [])))) with _ | _
      · have Hn : RowKit.Hid ((⟨2, p, d, n, x⟩ : Cmd).ok = false) := Lib.hid (hok.trans hb)
        clear hok Hln
        rcases and4 hb with h0 | ⟨h0, h1⟩ | ⟨h0, h1, h2⟩ | ⟨h0, h1, h2, h3⟩
        · clear hb
          go_wp2_with fail
          go_ret2
          exact ⟨by rw [printV, Hn.out]; rfl, HK.out⟩
        · clear hb
          go_wp2_with fail
          go_ret2
          exact ⟨by rw [printV, Hn.out]; rfl, HK.out⟩
        · clear hb
          go_wp2_with fail
          go_ret2
          exact ⟨by rw [printV, Hn.out]; rfl, HK.out⟩
        · clear hb
          have ih3 := isEmpty_beq h3
          go_wp2_with fail
          go_ret2
          exact ⟨by rw [printV, Hn.out]; rfl, HK.out⟩
      · have Hn : RowKit.Hid ((⟨2, p, d, n, x⟩ : Cmd).ok = true) := Lib.hid (hok.trans hb)
        clear hok
        obtain ⟨h0, h1, h2, h3⟩ := and4t hb
        clear hb
        have Hfit := Lib.hid h1
        have Hnb : RowKit.Hid (0 ≤ n ∧ n ≤ 1073741824) := Lib.hid (by have := Hfit.out; simp only [fitAt, Bool.and_eq_true, decide_eq_true_eq] at this; omega)
        have hil := (itoa_short n Hnb.out.1 Hnb.out.2).2
        have hhl : (hexed x).length ≤ 1024 := hexed_len (by have h := of_decide_eq_true h2; omega)
        have ih3 := isEmpty_beq h3
        go_wp2_with fail
        refine (num_any n _ Hnb.out.1 Hnb.out.2).mono ?_
        rintro e w1 ⟨rfl, hk1⟩
        have HK := Lib.hid (HK.out.keep hk1)
        have HB := Lib.hid (blk_mod hk1 HB.out id)
        obtain ⟨c0, c1, c2, c3, c4⟩ := cmd_cells5 HB.out
        clear hk1
        go_wp2_with fail
        refine (hex_any x _ Hx.out).mono ?_
        rintro e w2 ⟨rfl, hk2⟩
        have HK := Lib.hid (HK.out.keep hk2)
        clear hk2
        go_wp2_with fail
        go_ret2
        exact ⟨by rw [printV, if_pos Hn.out, Hln.out]; simp [wordOf, Cmd.fieldText], HK.out⟩
    · have hok : (⟨3, p, d, n, x⟩ : Cmd).ok = ((pathOf p).isSome && (fitAt n && ((d == []) && (x == [])))) := ok_cut p d n x
      have hkk : (⟨3, p, d, n, x⟩ : Cmd).k = 3 := rfl
      have Hln := Lib.hid (line_two hkk rfl)
      clear hkk
      rcases hb : ((pathOf p).isSome && (fitAt n && ((d == []) && (x == [])))) with _ | _
      · have Hn : RowKit.Hid ((⟨3, p, d, n, x⟩ : Cmd).ok = false) := Lib.hid (hok.trans hb)
        clear hok Hln
        rcases and4 hb with h0 | ⟨h0, h1⟩ | ⟨h0, h1, h2⟩ | ⟨h0, h1, h2, h3⟩
        · clear hb
          go_wp2_with fail
          go_ret2
          exact ⟨by rw [printV, Hn.out]; rfl, HK.out⟩
        · clear hb
          go_wp2_with fail
          go_ret2
          exact ⟨by rw [printV, Hn.out]; rfl, HK.out⟩
        · clear hb
          have ih2 := isEmpty_beq h2
          go_wp2_with fail
          go_ret2
          exact ⟨by rw [printV, Hn.out]; rfl, HK.out⟩
        · clear hb
          have ih2 := isEmpty_beq h2
          have ih3 := isEmpty_beq h3
          go_wp2_with fail
          go_ret2
          exact ⟨by rw [printV, Hn.out]; rfl, HK.out⟩
      · have Hn : RowKit.Hid ((⟨3, p, d, n, x⟩ : Cmd).ok = true) := Lib.hid (hok.trans hb)
        clear hok
        obtain ⟨h0, h1, h2, h3⟩ := and4t hb
        clear hb
        have Hfit := Lib.hid h1
        have Hnb : RowKit.Hid (0 ≤ n ∧ n ≤ 1073741824) := Lib.hid (by have := Hfit.out; simp only [fitAt, Bool.and_eq_true, decide_eq_true_eq] at this; omega)
        have hil := (itoa_short n Hnb.out.1 Hnb.out.2).2
        have ih2 := isEmpty_beq h2
        have ih3 := isEmpty_beq h3
        go_wp2_with fail
        refine (num_any n _ Hnb.out.1 Hnb.out.2).mono ?_
        rintro e w1 ⟨rfl, hk1⟩
        have HK := Lib.hid (HK.out.keep hk1)
        have HB := Lib.hid (blk_mod hk1 HB.out id)
        obtain ⟨c0, c1, c2, c3, c4⟩ := cmd_cells5 HB.out
        clear hk1
        go_wp2_with fail
        go_ret2
        exact ⟨by rw [printV, if_pos Hn.out, Hln.out]; simp [wordOf, Cmd.fieldText], HK.out⟩
    · have hok : (⟨4, p, d, n, x⟩ : Cmd).ok = ((pathOf p).isSome && ((pathOf d).isSome && ((n == 0) && (x == [])))) := ok_two 4 (by omega) rfl p d n x
      have hkk : (⟨4, p, d, n, x⟩ : Cmd).k = 4 := rfl
      have Hln := Lib.hid (line_two hkk rfl)
      clear hkk
      rcases hb : ((pathOf p).isSome && ((pathOf d).isSome && ((n == 0) && (x == [])))) with _ | _
      · have Hn : RowKit.Hid ((⟨4, p, d, n, x⟩ : Cmd).ok = false) := Lib.hid (hok.trans hb)
        clear hok Hln
        rcases and4 hb with h0 | ⟨h0, h1⟩ | ⟨h0, h1, h2⟩ | ⟨h0, h1, h2, h3⟩
        · clear hb
          go_wp2_with fail
          go_ret2
          exact ⟨by rw [printV, Hn.out]; rfl, HK.out⟩
        · clear hb
          go_wp2_with fail
          refine (is_any d _ Hd.out).mono ?_
          rintro e w1 ⟨rfl, hk1⟩
          have HK := Lib.hid (HK.out.keep hk1)
          have HB := Lib.hid (blk_mod hk1 HB.out id)
          obtain ⟨c0, c1, c2, c3, c4⟩ := cmd_cells5 HB.out
          clear hk1
          go_wp2_with fail
          go_ret2
          exact ⟨by rw [printV, Hn.out]; rfl, HK.out⟩
        · clear hb
          go_wp2_with fail
          refine (is_any d _ Hd.out).mono ?_
          rintro e w1 ⟨rfl, hk1⟩
          have HK := Lib.hid (HK.out.keep hk1)
          have HB := Lib.hid (blk_mod hk1 HB.out id)
          obtain ⟨c0, c1, c2, c3, c4⟩ := cmd_cells5 HB.out
          clear hk1
          go_wp2_with fail
          go_ret2
          exact ⟨by rw [printV, Hn.out]; rfl, HK.out⟩
        · clear hb
          have ih3 := isEmpty_beq h3
          go_wp2_with fail
          refine (is_any d _ Hd.out).mono ?_
          rintro e w1 ⟨rfl, hk1⟩
          have HK := Lib.hid (HK.out.keep hk1)
          have HB := Lib.hid (blk_mod hk1 HB.out id)
          obtain ⟨c0, c1, c2, c3, c4⟩ := cmd_cells5 HB.out
          clear hk1
          go_wp2_with fail
          go_ret2
          exact ⟨by rw [printV, Hn.out]; rfl, HK.out⟩
      · have Hn : RowKit.Hid ((⟨4, p, d, n, x⟩ : Cmd).ok = true) := Lib.hid (hok.trans hb)
        clear hok
        obtain ⟨h0, h1, h2, h3⟩ := and4t hb
        clear hb
        have ih3 := isEmpty_beq h3
        go_wp2_with fail
        refine (is_any d _ Hd.out).mono ?_
        rintro e w1 ⟨rfl, hk1⟩
        have HK := Lib.hid (HK.out.keep hk1)
        have HB := Lib.hid (blk_mod hk1 HB.out id)
        obtain ⟨c0, c1, c2, c3, c4⟩ := cmd_cells5 HB.out
        clear hk1
        go_wp2_with fail
        go_ret2
        exact ⟨by rw [printV, if_pos Hn.out, Hln.out]; simp [wordOf, Cmd.fieldText], HK.out⟩
    · have hok : (⟨5, p, d, n, x⟩ : Cmd).ok = ((pathOf p).isSome && ((pathOf d).isSome && ((n == 0) && (x == [])))) := ok_two 5 (by omega) rfl p d n x
      have hkk : (⟨5, p, d, n, x⟩ : Cmd).k = 5 := rfl
      have Hln := Lib.hid (line_two hkk rfl)
      clear hkk
      rcases hb : ((pathOf p).isSome && ((pathOf d).isSome && ((n == 0) && (x == [])))) with _ | _
      · have Hn : RowKit.Hid ((⟨5, p, d, n, x⟩ : Cmd).ok = false) := Lib.hid (hok.trans hb)
        clear hok Hln
        rcases and4 hb with h0 | ⟨h0, h1⟩ | ⟨h0, h1, h2⟩ | ⟨h0, h1, h2, h3⟩
        · clear hb
          go_wp2_with fail
          go_ret2
          exact ⟨by rw [printV, Hn.out]; rfl, HK.out⟩
        · clear hb
          go_wp2_with fail
          refine (is_any d _ Hd.out).mono ?_
          rintro e w1 ⟨rfl, hk1⟩
          have HK := Lib.hid (HK.out.keep hk1)
          have HB := Lib.hid (blk_mod hk1 HB.out id)
          obtain ⟨c0, c1, c2, c3, c4⟩ := cmd_cells5 HB.out
          clear hk1
          go_wp2_with fail
          go_ret2
          exact ⟨by rw [printV, Hn.out]; rfl, HK.out⟩
        · clear hb
          go_wp2_with fail
          refine (is_any d _ Hd.out).mono ?_
          rintro e w1 ⟨rfl, hk1⟩
          have HK := Lib.hid (HK.out.keep hk1)
          have HB := Lib.hid (blk_mod hk1 HB.out id)
          obtain ⟨c0, c1, c2, c3, c4⟩ := cmd_cells5 HB.out
          clear hk1
          go_wp2_with fail
          go_ret2
          exact ⟨by rw [printV, Hn.out]; rfl, HK.out⟩
        · clear hb
          have ih3 := isEmpty_beq h3
          go_wp2_with fail
          refine (is_any d _ Hd.out).mono ?_
          rintro e w1 ⟨rfl, hk1⟩
          have HK := Lib.hid (HK.out.keep hk1)
          have HB := Lib.hid (blk_mod hk1 HB.out id)
          obtain ⟨c0, c1, c2, c3, c4⟩ := cmd_cells5 HB.out
          clear hk1
          go_wp2_with fail
          go_ret2
          exact ⟨by rw [printV, Hn.out]; rfl, HK.out⟩
      · have Hn : RowKit.Hid ((⟨5, p, d, n, x⟩ : Cmd).ok = true) := Lib.hid (hok.trans hb)
        clear hok
        obtain ⟨h0, h1, h2, h3⟩ := and4t hb
        clear hb
        have ih3 := isEmpty_beq h3
        go_wp2_with fail
        refine (is_any d _ Hd.out).mono ?_
        rintro e w1 ⟨rfl, hk1⟩
        have HK := Lib.hid (HK.out.keep hk1)
        have HB := Lib.hid (blk_mod hk1 HB.out id)
        obtain ⟨c0, c1, c2, c3, c4⟩ := cmd_cells5 HB.out
        clear hk1
        go_wp2_with fail
        go_ret2
        exact ⟨by rw [printV, if_pos Hn.out, Hln.out]; simp [wordOf, Cmd.fieldText], HK.out⟩
    · have hok : (⟨6, p, d, n, x⟩ : Cmd).ok = ((pathOf p).isSome && ((d == []) && ((n == 0) && (x == [])))) := ok_plain 6 (by omega) rfl p d n x
      have hkk : (⟨6, p, d, n, x⟩ : Cmd).k = 6 := rfl
      have Hln := Lib.hid (line_one hkk rfl)
      clear hkk
      rcases hb : ((pathOf p).isSome && ((d == []) && ((n == 0) && (x == [])))) with _ | _
      · have Hn : RowKit.Hid ((⟨6, p, d, n, x⟩ : Cmd).ok = false) := Lib.hid (hok.trans hb)
        clear hok Hln
        rcases and4 hb with h0 | ⟨h0, h1⟩ | ⟨h0, h1, h2⟩ | ⟨h0, h1, h2, h3⟩
        · clear hb
          go_wp2_with fail
          go_ret2
          exact ⟨by rw [printV, Hn.out]; rfl, HK.out⟩
        · clear hb
          have ih1 := isEmpty_beq h1
          go_wp2_with fail
          go_ret2
          exact ⟨by rw [printV, Hn.out]; rfl, HK.out⟩
        · clear hb
          have ih1 := isEmpty_beq h1
          go_wp2_with fail
          go_ret2
          exact ⟨by rw [printV, Hn.out]; rfl, HK.out⟩
        · clear hb
          have ih1 := isEmpty_beq h1
          have ih3 := isEmpty_beq h3
          go_wp2_with fail
          go_ret2
          exact ⟨by rw [printV, Hn.out]; rfl, HK.out⟩
      · have Hn : RowKit.Hid ((⟨6, p, d, n, x⟩ : Cmd).ok = true) := Lib.hid (hok.trans hb)
        clear hok
        obtain ⟨h0, h1, h2, h3⟩ := and4t hb
        clear hb
        have ih1 := isEmpty_beq h1
        have ih3 := isEmpty_beq h3
        go_wp2_with fail
        go_ret2
        exact ⟨by rw [printV, if_pos Hn.out, Hln.out]; simp [wordOf, Cmd.fieldText], HK.out⟩
    · have hok : (⟨7, p, d, n, x⟩ : Cmd).ok = (nameOk p && ((d == []) && ((n == 0) && (x == [])))) := ok_name 7 (by omega) rfl p d n x
      have hkk : (⟨7, p, d, n, x⟩ : Cmd).k = 7 := rfl
      have Hln := Lib.hid (line_one hkk rfl)
      clear hkk
      rcases hb : (nameOk p && ((d == []) && ((n == 0) && (x == [])))) with _ | _
      · have Hn : RowKit.Hid ((⟨7, p, d, n, x⟩ : Cmd).ok = false) := Lib.hid (hok.trans hb)
        clear hok Hln
        rcases and4 hb with h0 | ⟨h0, h1⟩ | ⟨h0, h1, h2⟩ | ⟨h0, h1, h2, h3⟩
        · clear hb
          go_wp2_with fail
          refine (rname_any p _ (by have := Hp.out; omega)).mono ?_
          rintro e w1 ⟨rfl, hw⟩
          subst hw
          go_wp2_with fail
          go_ret2
          exact ⟨by rw [printV, Hn.out]; rfl, HK.out⟩
        · clear hb
          have ih1 := isEmpty_beq h1
          go_wp2_with fail
          refine (rname_any p _ (by have := Hp.out; omega)).mono ?_
          rintro e w1 ⟨rfl, hw⟩
          subst hw
          go_wp2_with fail
          go_ret2
          exact ⟨by rw [printV, Hn.out]; rfl, HK.out⟩
        · clear hb
          have ih1 := isEmpty_beq h1
          go_wp2_with fail
          refine (rname_any p _ (by have := Hp.out; omega)).mono ?_
          rintro e w1 ⟨rfl, hw⟩
          subst hw
          go_wp2_with fail
          go_ret2
          exact ⟨by rw [printV, Hn.out]; rfl, HK.out⟩
        · clear hb
          have ih1 := isEmpty_beq h1
          have ih3 := isEmpty_beq h3
          go_wp2_with fail
          refine (rname_any p _ (by have := Hp.out; omega)).mono ?_
          rintro e w1 ⟨rfl, hw⟩
          subst hw
          go_wp2_with fail
          go_ret2
          exact ⟨by rw [printV, Hn.out]; rfl, HK.out⟩
      · have Hn : RowKit.Hid ((⟨7, p, d, n, x⟩ : Cmd).ok = true) := Lib.hid (hok.trans hb)
        clear hok
        obtain ⟨h0, h1, h2, h3⟩ := and4t hb
        clear hb
        have ih1 := isEmpty_beq h1
        have ih3 := isEmpty_beq h3
        go_wp2_with fail
        refine (rname_any p _ (by have := Hp.out; omega)).mono ?_
        rintro e w1 ⟨rfl, hw⟩
        subst hw
        go_wp2_with fail
        go_ret2
        exact ⟨by rw [printV, if_pos Hn.out, Hln.out]; simp [wordOf, Cmd.fieldText], HK.out⟩
    · have hok : (⟨8, p, d, n, x⟩ : Cmd).ok = (nameOk p && ((d == []) && ((n == 0) && (x == [])))) := ok_name 8 (by omega) rfl p d n x
      have hkk : (⟨8, p, d, n, x⟩ : Cmd).k = 8 := rfl
      have Hln := Lib.hid (line_one hkk rfl)
      clear hkk
      rcases hb : (nameOk p && ((d == []) && ((n == 0) && (x == [])))) with _ | _
      · have Hn : RowKit.Hid ((⟨8, p, d, n, x⟩ : Cmd).ok = false) := Lib.hid (hok.trans hb)
        clear hok Hln
        rcases and4 hb with h0 | ⟨h0, h1⟩ | ⟨h0, h1, h2⟩ | ⟨h0, h1, h2, h3⟩
        · clear hb
          go_wp2_with fail
          refine (rname_any p _ (by have := Hp.out; omega)).mono ?_
          rintro e w1 ⟨rfl, hw⟩
          subst hw
          go_wp2_with fail
          go_ret2
          exact ⟨by rw [printV, Hn.out]; rfl, HK.out⟩
        · clear hb
          have ih1 := isEmpty_beq h1
          go_wp2_with fail
          refine (rname_any p _ (by have := Hp.out; omega)).mono ?_
          rintro e w1 ⟨rfl, hw⟩
          subst hw
          go_wp2_with fail
          go_ret2
          exact ⟨by rw [printV, Hn.out]; rfl, HK.out⟩
        · clear hb
          have ih1 := isEmpty_beq h1
          go_wp2_with fail
          refine (rname_any p _ (by have := Hp.out; omega)).mono ?_
          rintro e w1 ⟨rfl, hw⟩
          subst hw
          go_wp2_with fail
          go_ret2
          exact ⟨by rw [printV, Hn.out]; rfl, HK.out⟩
        · clear hb
          have ih1 := isEmpty_beq h1
          have ih3 := isEmpty_beq h3
          go_wp2_with fail
          refine (rname_any p _ (by have := Hp.out; omega)).mono ?_
          rintro e w1 ⟨rfl, hw⟩
          subst hw
          go_wp2_with fail
          go_ret2
          exact ⟨by rw [printV, Hn.out]; rfl, HK.out⟩
      · have Hn : RowKit.Hid ((⟨8, p, d, n, x⟩ : Cmd).ok = true) := Lib.hid (hok.trans hb)
        clear hok
        obtain ⟨h0, h1, h2, h3⟩ := and4t hb
        clear hb
        have ih1 := isEmpty_beq h1
        have ih3 := isEmpty_beq h3
        go_wp2_with fail
        refine (rname_any p _ (by have := Hp.out; omega)).mono ?_
        rintro e w1 ⟨rfl, hw⟩
        subst hw
        go_wp2_with fail
        go_ret2
        exact ⟨by rw [printV, if_pos Hn.out, Hln.out]; simp [wordOf, Cmd.fieldText], HK.out⟩
  · have Hn : RowKit.Hid ((⟨kd, p, d, n, x⟩ : Cmd).ok = false) := Lib.hid (by rw [Cmd.ok, Cmd.k, if_neg hk]; rfl)
    have b0 : (kd == 0) = false := beq_false_of_ne (by omega)
    have b1 : (kd == 1) = false := beq_false_of_ne (by omega)
    have b2 : (kd == 2) = false := beq_false_of_ne (by omega)
    have b3 : (kd == 3) = false := beq_false_of_ne (by omega)
    have b4 : (kd == 4) = false := beq_false_of_ne (by omega)
    have b5 : (kd == 5) = false := beq_false_of_ne (by omega)
    have b6 : (kd == 6) = false := beq_false_of_ne (by omega)
    have b7 : (kd == 7) = false := beq_false_of_ne (by omega)
    have b8 : (kd == 8) = false := beq_false_of_ne (by omega)
    clear hk
    go_wp2_with fail
    go_ret2
    exact ⟨by rw [printV, Hn.out]; rfl, HK.out⟩
end Go.Proofs.YthmpblccplphfaaGreatDoor.RP
