/-
  The walk of CommandBack.
-/
import Derived.Test.YtpjfeonhdkkfpaaDoorCmdLawA
import Derived.Deep.DeepCutAuto
namespace Go.Proofs.YtpjfeonhdkkfpaaDoor
open Go.RowKit
theorem print_cases (c : Cmd) : (c.ok = true ∧ printV c = .tuple #[.string ⟨c.line.toArray⟩, .int .i64 0]) ∨ (c.ok = false ∧ printV c = .tuple #[.string ⟨#[]⟩, .int .i64 130]) := by
  rcases h : c.ok with _ | _
  · exact .inr ⟨rfl, by rw [printV, h]; rfl⟩
  · exact .inl ⟨rfl, by rw [printV, if_pos h]⟩
theorem parse_cases (s : List UInt8) : (∃ c : Cmd, c.ok = true ∧ c.line = s ∧ parseV s = .tuple #[cmdV c, .int .i64 0]) ∨ parseV s = .tuple #[cmdV Cmd.zero, .int .i64 130] := by
  rcases h : parseC s with _ | c
  · exact .inr (by rw [parseV, h])
  · exact .inl ⟨c, (parse_iff.1 h).1, (parse_iff.1 h).2, by rw [parseV, h]⟩
theorem line_short {c : Cmd} (hc : c.Small) (h : c.path.length + c.dest.length + c.data.length ≤ 1048576) (hok : c.ok = true) : c.line.length < 4294967281 := by
  have hk := (ok_parts hok).1
  have hw := word_len c.k
  have hp := Lib.itoa_length_le c.pos hc.pos.1 hc.pos.2
  have hh : (hexed c.data).length ≤ 2 * c.data.length + 1 := by
    unfold hexed; split
    · simp
    · rw [hexes_len]; omega
  have e : c.line = Lib.join (wordOf c.k :: (fieldsOf c.k).map c.fieldText) [32] := rfl
  rw [e, Lib.join_length]
  generalize c.k = k at *
  unfold fieldsOf
  split <;> simp [Lib.lens, Cmd.fieldText] <;> omega
theorem parse_small {s : List UInt8} {c : Cmd} (hs : s.length < 4294967281) (hok : c.ok = true) (h : c.line = s) : c.Small := by
  have hn : ∀ x ∈ spl 32 s, x.length < 4294967281 := fun x hx => by
    obtain ⟨i, hi⟩ := List.mem_iff_getElem?.1 hx
    have h1 := spl_piece 32 s i
    rw [List.getD_eq_getElem?_getD, hi] at h1
    simp at h1; omega
  have hp := parse_iff.2 ⟨hok, h⟩
  obtain ⟨j, _, _, hj, _⟩ := first_some hp
  unfold tryKind at hj
  simp only at hj
  split at hj
  · split at hj
    · obtain rfl := Option.some.inj hj
      exact small_takes (l := []) _ _ _ (small_kind _) (fun x hx => hn x (List.mem_of_mem_tail hx))
    · cases hj
  · cases hj
set_option maxRecDepth 100000 in
set_option maxHeartbeats 4000000 in
theorem law_back (a b : Cmd) (s : List UInt8) (w : World) (he : Env w) (ha : a.Small) (hb : b.Small) (hal : a.path.length + a.dest.length + a.data.length ≤ 1048576) (hs : s.length < 4294967281) :
    Calls Tryd.prog 6 #[cmdV a, cmdV b, .string ⟨s.toArray⟩] w fun e w' => e = .returned (.bool true) ∧ Keep w w' := by
  have He := Lib.hid he
  have Ha := Lib.hid ha
  have Hb := Lib.hid hb
  have Hal := Lib.hid hal
  have Hs := Lib.hid hs
  clear he ha hb hal hs
  go_enter Tryd.func6, Tryd.ntmps6
  unfold cmdV cmdC
  go_wp2_with fail
  have HA0 : RowKit.Hid (World.blk ((w.alloc (.cells (cmdC a) 30)).alloc (.cells (cmdC b) 30)) w.heap.size (cmdC a) 30) := Lib.hid (blk_alloc (blk_new _ _ _) _)
  have HB0 : RowKit.Hid (World.blk ((w.alloc (.cells (cmdC a) 30)).alloc (.cells (cmdC b) 30)) (w.heap.size + 1) (cmdC b) 30) := Lib.hid (blk_new_at (by simp) _ _)
  have HK0 : RowKit.Hid (Keep w ((w.alloc (.cells (cmdC a) 30)).alloc (.cells (cmdC b) 30))) := Lib.hid (((Mod.refl _ _).alloc _).alloc _)
  refine (print_any a ((w.alloc (.cells (cmdC a) 30)).alloc (.cells (cmdC b) 30)) (He.out.keep HK0.out) Ha.out).mono ?_
  rintro e w1 ⟨rfl, hk⟩
  have HA1 := Lib.hid (blk_mod hk HA0.out id)
  have HB1 := Lib.hid (blk_mod hk HB0.out id)
  have HK1 := Lib.hid (HK0.out.keep hk)
  clear hk HA0 HB0 HK0
  obtain ⟨m, er, hm⟩ := printV_form a
  obtain ⟨m2, er2, hm2⟩ := printV_form b
  have Hm := Lib.hid hm
  have Hm2 := Lib.hid hm2
  clear hm hm2
  rw [Hm.out]
  obtain ⟨c0, c1, c2, c3, c4⟩ := cmd_cells HB1.out
  go_wp2_with fail
  refine (print_any b w1 (He.out.keep HK1.out) Hb.out).mono ?_
  rintro e w2 ⟨rfl, hk⟩
  have HA2 := Lib.hid (blk_mod hk HA1.out id)
  have HB2 := Lib.hid (blk_mod hk HB1.out id)
  have HK2 := Lib.hid (HK1.out.keep hk)
  clear hk HA1 HB1 HK1 c0 c1 c2 c3 c4
  rw [Hm2.out]
  go_upto_if 28 with (fail)
  go_cut [6] (fun _ wr => Keep w wr)
  case first =>
    have HC := Lib.hid (print_cases a)
    have HC2 := Lib.hid (print_cases b)
    rw [Hm.out] at HC
    rw [Hm2.out] at HC2
    rcases HC.out with ⟨hok, he⟩ | ⟨hok, he⟩
    · have hin := Array.mk.inj (Value.tuple.inj he)
      obtain rfl : m = a.line := by simp at hin; exact hin.1
      obtain rfl : er = 0 := by simp at hin; exact hin
      have Hok := Lib.hid hok
      clear hin he hok
      go_wp2_with fail
      refine (parse_any a.line w2 (He.out.keep HK2.out) (line_short Ha.out Hal.out Hok.out)).mono ?_
      rintro e w3 ⟨rfl, hk⟩
      have HA3 := Lib.hid (blk_alloc (blk_mod hk HA2.out id) (.cells (cmdC a) 30))
      have HB3 := Lib.hid (blk_alloc (blk_mod hk HB2.out id) (.cells (cmdC a) 30))
      have HN3 : RowKit.Hid (World.blk (w3.alloc (.cells (cmdC a) 30)) w3.heap.size (cmdC a) 30) := Lib.hid (blk_new _ _ _)
      have HK3 := Lib.hid ((HK2.out.keep hk).alloc (.cells (cmdC a) 30))
      clear hk
      rw [show parseV a.line = .tuple #[cmdV a, .int .i64 0] by rw [parseV, parse_iff.2 ⟨Hok.out, rfl⟩]]
      unfold cmdV cmdC
      go_upto_region 5 with (fail)
      rw [show (w3.alloc (.cells #[.int .i64 a.kind, .string ⟨a.path.toArray⟩, .string ⟨a.dest.toArray⟩, .int .i64 a.pos, .string ⟨a.data.toArray⟩] 30)) = w3.alloc (.cells (cmdC a) 30) from rfl]
      generalize w3.heap.size = g3 at *
      generalize w3.alloc (.cells (cmdC a) 30) = w4 at *
      obtain ⟨c0, c1, c2, c3, c4⟩ := cmd_cells HA3.out
      obtain ⟨d0, d1, d2, d3, d4⟩ := cmd_cells HN3.out
      rcases HC2.out with ⟨hok2, he2⟩ | ⟨hok2, he2⟩
      · have hin := Array.mk.inj (Value.tuple.inj he2)
        obtain rfl : m2 = b.line := by simp at hin; exact hin.1
        obtain rfl : er2 = 0 := by simp at hin; exact hin
        have Hok2 := Lib.hid hok2
        clear hin he2 hok2
        obtain ⟨b0, b1, b2, b3, b4⟩ := cmd_cells HB3.out
        by_cases hab : a = b
        · subst hab
          go_wp2_with fail
          go_meet
          case rel => exact HK3.out
        · have hl : (a.line == b.line) = false := beq_false_of_ne (fun e => hab (line_inj Hok.out Hok2.out e))
          clear HC HC2 Ha Hb Hal Hok Hok2 HA2 HB2 HA3 HB3 HN3
          obtain ⟨a0, a1, a2, a3, a4⟩ := a
          obtain ⟨x0, x1, x2, x3, x4⟩ := b
          simp only [Cmd.mk.injEq] at hab
          go_wp2_with fail
          all_goals try subst_vars
          all_goals first
            | exact (hab ⟨rfl, rfl, rfl, rfl, rfl⟩).elim
            | (go_meet
               case rel => exact HK3.out)
      · have hin := Array.mk.inj (Value.tuple.inj he2)
        obtain rfl : er2 = 130 := by simp at hin; exact hin.2
        clear hin he2 hok2
        go_wp2_with fail
        go_meet
        case rel => exact HK3.out
    · have hin := Array.mk.inj (Value.tuple.inj he)
      obtain rfl : er = 130 := by simp at hin; exact hin.2
      clear hin he hok
      go_wp2_with fail
      go_meet
      case rel => exact HK2.out
  case rest =>
  clear HK2 HA2 HB2 Hm Hm2
  have HK := Lib.hid hcut
  clear hcut
  go_wp2_with fail
  refine (parse_any s _ (He.out.keep HK.out) Hs.out).mono ?_
  rintro e w2 ⟨rfl, hk⟩
  have HK2 := Lib.hid (HK.out.keep hk)
  clear hk HK
  rcases parse_cases s with ⟨c, hok, hs, hp⟩ | hp
  · rw [hp]
    have Hok := Lib.hid hok
    have Hs2 := Lib.hid hs
    clear hp hok hs
    have HK3 := Lib.hid (HK2.out.alloc (.cells (cmdC c) 30))
    unfold cmdV cmdC
    go_wp2_with fail
    rw [show (w2.alloc (.cells #[.int .i64 c.kind, .string ⟨c.path.toArray⟩, .string ⟨c.dest.toArray⟩, .int .i64 c.pos, .string ⟨c.data.toArray⟩] 30)) = w2.alloc (.cells (cmdC c) 30) from rfl]
    generalize w2.alloc (.cells (cmdC c) 30) = w3 at *
    refine (print_any c w3 (He.out.keep HK3.out) (parse_small Hs.out Hok.out Hs2.out)).mono ?_
    rintro e w4 ⟨rfl, hk⟩
    have HK4 := Lib.hid (HK3.out.keep hk)
    clear hk
    rw [printV, if_pos Hok.out, Hs2.out]
    have ess : (s == s) = true := beq_self_eq_true s
    go_wp2_with fail
    refine (fixed_any w4 (He.out.keep HK4.out)).mono ?_
    rintro e w5 ⟨rfl, hk⟩
    have HK5 := Lib.hid (HK4.out.keep hk)
    clear hk
    go_wp2_with fail
    go_ret
    exact ⟨rfl, HK5.out⟩
  · rw [hp]
    clear hp
    unfold Cmd.zero cmdV cmdC
    have HK3 := Lib.hid (HK2.out.alloc (.cells #[.int .i64 0, .string ⟨#[]⟩, .string ⟨#[]⟩, .int .i64 0, .string ⟨#[]⟩] 30))
    go_wp2_with fail
    refine (fixed_any _ (He.out.keep HK3.out)).mono ?_
    rintro e w5 ⟨rfl, hk⟩
    have HK5 := Lib.hid (HK3.out.keep hk)
    clear hk
    go_wp2_with fail
    go_ret
    exact ⟨rfl, HK5.out⟩
end Go.Proofs.YtpjfeonhdkkfpaaDoor
