/-
  stillageref13.Print.
-/
import Derived.Test.YtpjfeonhdkkfpaaDoorCmdRefA
namespace Go.Proofs.YtpjfeonhdkkfpaaDoor
open Go.RowKit
theorem and4 {a b c d : Bool} (h : (a && (b && (c && d))) = false) : a = false ∨ (a = true ∧ b = false) ∨ (a = true ∧ b = true ∧ c = false) ∨ (a = true ∧ b = true ∧ c = true ∧ d = false) := by
  revert a b c d; decide
theorem and4t {a b c d : Bool} (h : (a && (b && (c && d))) = true) : a = true ∧ b = true ∧ c = true ∧ d = true := by
  revert a b c d; decide
theorem isEmpty_beq {l : List UInt8} {b : Bool} (h : (l == []) = b) : l.isEmpty = b := by rw [← h]; cases l <;> rfl
theorem k_lit (k : Nat) (h : k < 9) (p d : List UInt8) (n : Int) (x : List UInt8) : (⟨(k : Int), p, d, n, x⟩ : Cmd).k = k := k_of k h _ rfl
theorem beq_nil_comm (l : List UInt8) : (([] : List UInt8) == l) = (l == []) := by cases l <;> rfl
theorem beq_zero_comm (n : Int) : ((0 : Int) == n) = (n == 0) := by rw [Bool.eq_iff_iff, beq_iff_eq, beq_iff_eq]; exact eq_comm
def fitAt (n : Int) : Bool := decide (0 ≤ n) && decide (n ≤ 16384)
theorem atoi_fit {n : Int} (h : fitAt n = true) : atoiV (Lib.itoa n) = n := by
  simp only [fitAt, Bool.and_eq_true, decide_eq_true_eq] at h
  exact atoi_itoa n h.1 (by omega)
theorem cmd_cells5 {w : World} {b : Nat} {kd n : Int} {p d x : List UInt8} {t : TypeId} (h : World.blk w b (cmdC ⟨kd, p, d, n, x⟩) t) :
    w.cell? ⟨b, 0, none⟩ = some (.int .i64 kd) ∧ w.cell? ⟨b, 1, none⟩ = some (.string ⟨p.toArray⟩) ∧ w.cell? ⟨b, 2, none⟩ = some (.string ⟨d.toArray⟩) ∧
    w.cell? ⟨b, 3, none⟩ = some (.int .i64 n) ∧ w.cell? ⟨b, 4, none⟩ = some (.string ⟨x.toArray⟩) := cmd_cells h
theorem line_one {c : Cmd} {k : Nat} (hk : c.k = k) {f : Nat} (hf : fieldsOf k = [f]) : c.line = wordOf k ++ 32 :: c.fieldText f := by
  rw [Cmd.line, hk, hf]; simp [lineOf, Lib.join, List.intercalate]
theorem line_two {c : Cmd} {k : Nat} (hk : c.k = k) {f g : Nat} (hf : fieldsOf k = [f, g]) : c.line = wordOf k ++ 32 :: (c.fieldText f ++ 32 :: c.fieldText g) := by
  rw [Cmd.line, hk, hf]; simp [lineOf, Lib.join, List.intercalate]
theorem line_three {c : Cmd} {k : Nat} (hk : c.k = k) {f g h : Nat} (hf : fieldsOf k = [f, g, h]) : c.line = wordOf k ++ 32 :: (c.fieldText f ++ 32 :: (c.fieldText g ++ 32 :: c.fieldText h)) := by
  rw [Cmd.line, hk, hf]; simp [lineOf, Lib.join, List.intercalate]
theorem hexed_len {x : List UInt8} (h : x.length ≤ 512) : (hexed x).length ≤ 1024 := by
  unfold hexed; split
  · simp
  · rw [hexes_len]; omega
theorem ok_plain (k : Nat) (hk : k < 9) (hf : fieldsOf k = [1]) (p d : List UInt8) (n : Int) (x : List UInt8) : (⟨(k : Int), p, d, n, x⟩ : Cmd).ok = ((pathOf p).isSome && ((d == []) && ((n == 0) && (x == [])))) := by
  rw [Cmd.ok, k_lit k hk, hf]
  simp only [hk, decide_true, Bool.true_and, List.all_cons, List.all_nil, Bool.and_true, Cmd.fieldOk, Cmd.bare, List.foldl_cons, List.foldl_nil, Cmd.take, Cmd.fieldText, Cmd.eqB, beq_self_eq_true, beq_nil_comm, beq_zero_comm]
theorem ok_name (k : Nat) (hk : k < 9) (hf : fieldsOf k = [5]) (p d : List UInt8) (n : Int) (x : List UInt8) : (⟨(k : Int), p, d, n, x⟩ : Cmd).ok = (nameOk p && ((d == []) && ((n == 0) && (x == [])))) := by
  rw [Cmd.ok, k_lit k hk, hf]
  simp only [hk, decide_true, Bool.true_and, List.all_cons, List.all_nil, Bool.and_true, Cmd.fieldOk, Cmd.bare, List.foldl_cons, List.foldl_nil, Cmd.take, Cmd.fieldText, Cmd.eqB, beq_self_eq_true, beq_nil_comm, beq_zero_comm]
theorem ok_two (k : Nat) (hk : k < 9) (hf : fieldsOf k = [1, 2]) (p d : List UInt8) (n : Int) (x : List UInt8) : (⟨(k : Int), p, d, n, x⟩ : Cmd).ok = ((pathOf p).isSome && ((pathOf d).isSome && ((n == 0) && (x == [])))) := by
  rw [Cmd.ok, k_lit k hk, hf]
  simp only [hk, decide_true, Bool.true_and, List.all_cons, List.all_nil, Bool.and_true, Cmd.fieldOk, Cmd.bare, List.foldl_cons, List.foldl_nil, Cmd.take, Cmd.fieldText, Cmd.eqB, beq_self_eq_true, beq_nil_comm, beq_zero_comm]
  cases (pathOf p).isSome <;> cases (pathOf d).isSome <;> rfl
theorem ok_cut (p d : List UInt8) (n : Int) (x : List UInt8) : (⟨3, p, d, n, x⟩ : Cmd).ok = ((pathOf p).isSome && (fitAt n && ((d == []) && (x == [])))) := by
  have h := k_lit 3 (by omega) p d n x
  rw [show ((3 : Nat) : Int) = 3 from rfl] at h
  rw [Cmd.ok, h, show fieldsOf 3 = [1, 3] from rfl]
  simp only [decide_true, Bool.true_and, List.all_cons, List.all_nil, Bool.and_true, Cmd.fieldOk, Cmd.bare, List.foldl_cons, List.foldl_nil, Cmd.take, Cmd.fieldText, Cmd.eqB, beq_self_eq_true, beq_nil_comm, Nat.reduceLT]
  rw [show (decide (0 ≤ n) && decide (n ≤ 16384)) = fitAt n from rfl]
  rcases hf : fitAt n with _ | _
  · cases (pathOf p).isSome <;> rfl
  · rw [atoi_fit hf, beq_self_eq_true]
    cases (pathOf p).isSome <;> cases (d == []) <;> rfl
theorem ok_write (p d : List UInt8) (n : Int) (x : List UInt8) : (⟨2, p, d, n, x⟩ : Cmd).ok = ((pathOf p).isSome && (fitAt n && (decide ((x.length : Int) ≤ 512) && (d == [])))) := by
  have h := k_lit 2 (by omega) p d n x
  rw [show ((2 : Nat) : Int) = 2 from rfl] at h
  have e : decide ((x.length : Int) ≤ 512) = decide (x.length ≤ 512) := by congr 1; exact propext (by omega)
  rw [Cmd.ok, h, show fieldsOf 2 = [1, 3, 4] from rfl, e]
  simp only [decide_true, Bool.true_and, List.all_cons, List.all_nil, Bool.and_true, Cmd.fieldOk, Cmd.bare, List.foldl_cons, List.foldl_nil, Cmd.take, Cmd.fieldText, Cmd.eqB, beq_self_eq_true, beq_nil_comm, Nat.reduceLT, unhexed_hexed]
  rw [show (decide (0 ≤ n) && decide (n ≤ 16384)) = fitAt n from rfl]
  rcases hf : fitAt n with _ | _
  · cases (pathOf p).isSome <;> rfl
  · rw [atoi_fit hf, beq_self_eq_true]
    cases (pathOf p).isSome <;> cases decide (x.length ≤ 512) <;> cases (d == []) <;> rfl
set_option maxRecDepth 100000 in
set_option maxHeartbeats 8000000 in
theorem rprint_any (c : Cmd) (w : World) (hc : c.Small) :
    Calls Tryd.prog 14 #[cmdV c] w fun e w' => e = .returned (printV c) ∧ Keep w w' := by
  obtain ⟨kd, p, d, n, x⟩ := c
  have hp : p.length < 4294967281 := hc.path
  have hd : d.length < 4294967281 := hc.dest
  have hx : x.length ≤ 1099511627776 := hc.data
  clear hc
  have Hp := Lib.hid hp
  have Hd := Lib.hid hd
  have Hx := Lib.hid hx
  go_enter Tryd.func14, Tryd.ntmps14
  unfold cmdV cmdC
  go_upto_region 1 with (fail)
  have HB0 : RowKit.Hid (World.blk (w.alloc (.cells (cmdC ⟨kd, p, d, n, x⟩) 30)) w.heap.size (cmdC ⟨kd, p, d, n, x⟩) 30) := Lib.hid (blk_new _ _ _)
  have HK0 : RowKit.Hid (Keep w (w.alloc (.cells (cmdC ⟨kd, p, d, n, x⟩) 30))) := Lib.hid ((Mod.refl _ _).alloc _)
  change Code.wp _ _ _ _ (w.alloc (.cells (cmdC ⟨kd, p, d, n, x⟩) 30))
  generalize w.alloc (.cells (cmdC ⟨kd, p, d, n, x⟩) 30) = w0 at *
  go_cut [4, 5, 6] (fun v4 v5 v6 wr => v4 = .bool (pathOf p).isSome ∧ v5 = .bool (fitAt n) ∧ v6 = .bool (decide ((x.length : Int) ≤ 512)) ∧ World.blk wr w.heap.size (cmdC ⟨kd, p, d, n, x⟩) 30 ∧ Keep w wr)
  case first =>
    obtain ⟨c0, c1, c2, c3, c4⟩ := cmd_cells HB0.out
    have hbl := blk_lt HB0.out
    by_cases h0 : 0 ≤ n
    · have d0 : decide (0 ≤ n) = true := by simpa using h0
      have Hf : RowKit.Hid (fitAt n = decide (n ≤ 16384)) := Lib.hid (by simp [fitAt, h0])
      refine wp_region_ke (by kernel_rfl) (by kernel_rfl) ?_
      repeat (quiet_step (with_reducible exact quiet_keep (is_any p _ Hp.out)))
      refine wpQuiet_nil ?_
      intro _ hw'
      obtain ⟨xq, rfl⟩ := hw'
      go_wp2_with fail
      go_meet
      case rel => exact ⟨rfl, by rw [Hf.out], rfl, blk_mod (keep_ext _ _) HB0.out id, HK0.out.keep (keep_ext _ _)⟩
    · have d0 : decide (0 ≤ n) = false := by simpa using h0
      have Hf : RowKit.Hid (fitAt n = false) := Lib.hid (by simp [fitAt, h0])
      refine wp_region_ke (by kernel_rfl) (by kernel_rfl) ?_
      repeat (quiet_step (with_reducible exact quiet_keep (is_any p _ Hp.out)))
      refine wpQuiet_nil ?_
      intro _ hw'
      obtain ⟨xq, rfl⟩ := hw'
      go_wp2_with fail
      go_meet
      case rel => exact ⟨rfl, by rw [Hf.out], rfl, blk_mod (keep_ext _ _) HB0.out id, HK0.out.keep (keep_ext _ _)⟩
  case rest =>
  clear HB0 HK0
  obtain ⟨rfl, rfl, rfl, hB, hK⟩ := hcut
  have HB := Lib.hid hB
  have HK := Lib.hid hK
  obtain ⟨c0, c1, c2, c3, c4⟩ := cmd_cells5 hB
  have hbl := blk_lt hB
  clear hB hK
  by_cases hk : 0 ≤ kd ∧ kd < 9
  · rcases (by omega : kd = 0 ∨ kd = 1 ∨ kd = 2 ∨ kd = 3 ∨ kd = 4 ∨ kd = 5 ∨ kd = 6 ∨ kd = 7 ∨ kd = 8) with rfl | rfl | rfl | rfl | rfl | rfl | rfl | rfl | rfl
    all_goals clear hk
    · have hok : (⟨0, p, d, n, x⟩ : Cmd).ok = ((pathOf p).isSome && ((d == []) && ((n == 0) && (x == [])))) := ok_plain 0 (by omega) rfl p d n x
      have hkk : (⟨0, p, d, n, x⟩ : Cmd).k = 0 := rfl
      have Hln := Lib.hid (line_one hkk rfl)
      clear hkk
      rcases hb : ((pathOf p).isSome && ((d == []) && ((n == 0) && (x == [])))) with _ | _
      · have Hn : RowKit.Hid ((⟨0, p, d, n, x⟩ : Cmd).ok = false) := Lib.hid (hok.trans hb)
        clear hok Hln
        rcases and4 hb with h0 | ⟨h0, h1⟩ | ⟨h0, h1, h2⟩ | ⟨h0, h1, h2, h3⟩
        · clear hb
          go_wp2_with fail
          go_ret2
          exact ⟨by rw [printV, Hn.out]; rfl, HK.out⟩
        · clear hb
          have ih1 := isEmpty_beq h1
          go_wp2_with fail
          go_ret2
          exact ⟨by rw [printV, Hn.out]; rfl, HK.out⟩
        · clear hb
          have ih1 := isEmpty_beq h1
          go_wp2_with fail
          go_ret2
          exact ⟨by rw [printV, Hn.out]; rfl, HK.out⟩
        · clear hb
          have ih1 := isEmpty_beq h1
          have ih3 := isEmpty_beq h3
          go_wp2_with fail
          go_ret2
          exact ⟨by rw [printV, Hn.out]; rfl, HK.out⟩
      · have Hn : RowKit.Hid ((⟨0, p, d, n, x⟩ : Cmd).ok = true) := Lib.hid (hok.trans hb)
        clear hok
        obtain ⟨h0, h1, h2, h3⟩ := and4t hb
        clear hb
        have ih1 := isEmpty_beq h1
        have ih3 := isEmpty_beq h3
        go_wp2_with fail
        go_ret2
        exact ⟨by rw [printV, if_pos Hn.out, Hln.out]; simp [wordOf, Cmd.fieldText], HK.out⟩
    · have hok : (⟨1, p, d, n, x⟩ : Cmd).ok = ((pathOf p).isSome && ((d == []) && ((n == 0) && (x == [])))) := ok_plain 1 (by omega) rfl p d n x
      have hkk : (⟨1, p, d, n, x⟩ : Cmd).k = 1 := rfl
      have Hln := Lib.hid (line_one hkk rfl)
      clear hkk
      rcases hb : ((pathOf p).isSome && ((d == []) && ((n == 0) && (x == [])))) with _ | _
      · have Hn : RowKit.Hid ((⟨1, p, d, n, x⟩ : Cmd).ok = false) := Lib.hid (hok.trans hb)
        clear hok Hln
        rcases and4 hb with h0 | ⟨h0, h1⟩ | ⟨h0, h1, h2⟩ | ⟨h0, h1, h2, h3⟩
        · clear hb
          go_wp2_with fail
          go_ret2
          exact ⟨by rw [printV, Hn.out]; rfl, HK.out⟩
        · clear hb
          have ih1 := isEmpty_beq h1
          go_wp2_with fail
          go_ret2
          exact ⟨by rw [printV, Hn.out]; rfl, HK.out⟩
        · clear hb
          have ih1 := isEmpty_beq h1
          go_wp2_with fail
          go_ret2
          exact ⟨by rw [printV, Hn.out]; rfl, HK.out⟩
        · clear hb
          have ih1 := isEmpty_beq h1
          have ih3 := isEmpty_beq h3
          go_wp2_with fail
          go_ret2
          exact ⟨by rw [printV, Hn.out]; rfl, HK.out⟩
      · have Hn : RowKit.Hid ((⟨1, p, d, n, x⟩ : Cmd).ok = true) := Lib.hid (hok.trans hb)
        clear hok
        obtain ⟨h0, h1, h2, h3⟩ := and4t hb
        clear hb
        have ih1 := isEmpty_beq h1
        have ih3 := isEmpty_beq h3
        go_wp2_with fail
        go_ret2
        exact ⟨by rw [printV, if_pos Hn.out, Hln.out]; simp [wordOf, Cmd.fieldText], HK.out⟩
    · have hok : (⟨2, p, d, n, x⟩ : Cmd).ok = ((pathOf p).isSome && (fitAt n && (decide ((x.length : Int) ≤ 512) && (d == [])))) := ok_write p d n x
      have hkk : (⟨2, p, d, n, x⟩ : Cmd).k = 2 := rfl
      have Hln := Lib.hid (line_three hkk rfl)
      clear hkk
      rcases hb : ((pathOf p).isSome && (fitAt n && (decide ((x.length : Int) ≤ 512) && (d == [])))) with _ | _
      · have Hn : RowKit.Hid ((⟨2, p, d, n, x⟩ : Cmd).ok = false) := Lib.hid (hok.trans hb)
        clear hok Hln
        rcases and4 hb with h0 | ⟨h0, h1⟩ | ⟨h0, h1, h2⟩ | ⟨h0, h1, h2, h3⟩
        · clear hb
          go_wp2_with fail
          go_ret2
          exact ⟨by rw [printV, Hn.out]; rfl, HK.out⟩
        · clear hb
          go_wp2_with fail
          go_ret2
          exact ⟨by rw [printV, Hn.out]; rfl, HK.out⟩
        · clear hb
          go_wp2_with fail
          go_ret2
          exact ⟨by rw [printV, Hn.out]; rfl, HK.out⟩
        · clear hb
          have ih3 := isEmpty_beq h3
          go_wp2_with fail
          go_ret2
          exact ⟨by rw [printV, Hn.out]; rfl, HK.out⟩
      · have Hn : RowKit.Hid ((⟨2, p, d, n, x⟩ : Cmd).ok = true) := Lib.hid (hok.trans hb)
        clear hok
        obtain ⟨h0, h1, h2, h3⟩ := and4t hb
        clear hb
        have Hfit := Lib.hid h1
        have Hnb : RowKit.Hid (0 ≤ n ∧ n ≤ 1073741824) := Lib.hid (by have := Hfit.out; simp only [fitAt, Bool.and_eq_true, decide_eq_true_eq] at this; omega)
        have hil := (itoa_short n Hnb.out.1 Hnb.out.2).2
        have hhl : (hexed x).length ≤ 1024 := hexed_len (by have h := of_decide_eq_true h2; omega)
        have ih3 := isEmpty_beq h3
        go_wp2_with fail
        refine (num_any n _ Hnb.out.1 Hnb.out.2).mono ?_
        rintro e w1 ⟨rfl, hk1⟩
        have HK := Lib.hid (HK.out.keep hk1)
        have HB := Lib.hid (blk_mod hk1 HB.out id)
        obtain ⟨c0, c1, c2, c3, c4⟩ := cmd_cells5 HB.out
        clear hk1
        go_wp2_with fail
        refine (hex_any x _ Hx.out).mono ?_
        rintro e w2 ⟨rfl, hk2⟩
        have HK := Lib.hid (HK.out.keep hk2)
        clear hk2
        go_wp2_with fail
        go_ret2
        exact ⟨by rw [printV, if_pos Hn.out, Hln.out]; simp [wordOf, Cmd.fieldText], HK.out⟩
    · have hok : (⟨3, p, d, n, x⟩ : Cmd).ok = ((pathOf p).isSome && (fitAt n && ((d == []) && (x == [])))) := ok_cut p d n x
      have hkk : (⟨3, p, d, n, x⟩ : Cmd).k = 3 := rfl
      have Hln := Lib.hid (line_two hkk rfl)
      clear hkk
      rcases hb : ((pathOf p).isSome && (fitAt n && ((d == []) && (x == [])))) with _ | _
      · have Hn : RowKit.Hid ((⟨3, p, d, n, x⟩ : Cmd).ok = false) := Lib.hid (hok.trans hb)
        clear hok Hln
        rcases and4 hb with h0 | ⟨h0, h1⟩ | ⟨h0, h1, h2⟩ | ⟨h0, h1, h2, h3⟩
        · clear hb
          go_wp2_with fail
          go_ret2
          exact ⟨by rw [printV, Hn.out]; rfl, HK.out⟩
        · clear hb
          go_wp2_with fail
          go_ret2
          exact ⟨by rw [printV, Hn.out]; rfl, HK.out⟩
        · clear hb
          have ih2 := isEmpty_beq h2
          go_wp2_with fail
          go_ret2
          exact ⟨by rw [printV, Hn.out]; rfl, HK.out⟩
        · clear hb
          have ih2 := isEmpty_beq h2
          have ih3 := isEmpty_beq h3
          go_wp2_with fail
          go_ret2
          exact ⟨by rw [printV, Hn.out]; rfl, HK.out⟩
      · have Hn : RowKit.Hid ((⟨3, p, d, n, x⟩ : Cmd).ok = true) := Lib.hid (hok.trans hb)
        clear hok
        obtain ⟨h0, h1, h2, h3⟩ := and4t hb
        clear hb
        have Hfit := Lib.hid h1
        have Hnb : RowKit.Hid (0 ≤ n ∧ n ≤ 1073741824) := Lib.hid (by have := Hfit.out; simp only [fitAt, Bool.and_eq_true, decide_eq_true_eq] at this; omega)
        have hil := (itoa_short n Hnb.out.1 Hnb.out.2).2
        have ih2 := isEmpty_beq h2
        have ih3 := isEmpty_beq h3
        go_wp2_with fail
        refine (num_any n _ Hnb.out.1 Hnb.out.2).mono ?_
        rintro e w1 ⟨rfl, hk1⟩
        have HK := Lib.hid (HK.out.keep hk1)
        have HB := Lib.hid (blk_mod hk1 HB.out id)
        obtain ⟨c0, c1, c2, c3, c4⟩ := cmd_cells5 HB.out
        clear hk1
        go_wp2_with fail
        go_ret2
        exact ⟨by rw [printV, if_pos Hn.out, Hln.out]; simp [wordOf, Cmd.fieldText], HK.out⟩
    · have hok : (⟨4, p, d, n, x⟩ : Cmd).ok = ((pathOf p).isSome && ((pathOf d).isSome && ((n == 0) && (x == [])))) := ok_two 4 (by omega) rfl p d n x
      have hkk : (⟨4, p, d, n, x⟩ : Cmd).k = 4 := rfl
      have Hln := Lib.hid (line_two hkk rfl)
      clear hkk
      rcases hb : ((pathOf p).isSome && ((pathOf d).isSome && ((n == 0) && (x == [])))) with _ | _
      · have Hn : RowKit.Hid ((⟨4, p, d, n, x⟩ : Cmd).ok = false) := Lib.hid (hok.trans hb)
        clear hok Hln
        rcases and4 hb with h0 | ⟨h0, h1⟩ | ⟨h0, h1, h2⟩ | ⟨h0, h1, h2, h3⟩
        · clear hb
          go_wp2_with fail
          go_ret2
          exact ⟨by rw [printV, Hn.out]; rfl, HK.out⟩
        · clear hb
          go_wp2_with fail
          refine (is_any d _ Hd.out).mono ?_
          rintro e w1 ⟨rfl, hk1⟩
          have HK := Lib.hid (HK.out.keep hk1)
          have HB := Lib.hid (blk_mod hk1 HB.out id)
          obtain ⟨c0, c1, c2, c3, c4⟩ := cmd_cells5 HB.out
          clear hk1
          go_wp2_with fail
          go_ret2
          exact ⟨by rw [printV, Hn.out]; rfl, HK.out⟩
        · clear hb
          go_wp2_with fail
          refine (is_any d _ Hd.out).mono ?_
          rintro e w1 ⟨rfl, hk1⟩
          have HK := Lib.hid (HK.out.keep hk1)
          have HB := Lib.hid (blk_mod hk1 HB.out id)
          obtain ⟨c0, c1, c2, c3, c4⟩ := cmd_cells5 HB.out
          clear hk1
          go_wp2_with fail
          go_ret2
          exact ⟨by rw [printV, Hn.out]; rfl, HK.out⟩
        · clear hb
          have ih3 := isEmpty_beq h3
          go_wp2_with fail
          refine (is_any d _ Hd.out).mono ?_
          rintro e w1 ⟨rfl, hk1⟩
          have HK := Lib.hid (HK.out.keep hk1)
          have HB := Lib.hid (blk_mod hk1 HB.out id)
          obtain ⟨c0, c1, c2, c3, c4⟩ := cmd_cells5 HB.out
          clear hk1
          go_wp2_with fail
          go_ret2
          exact ⟨by rw [printV, Hn.out]; rfl, HK.out⟩
      · have Hn : RowKit.Hid ((⟨4, p, d, n, x⟩ : Cmd).ok = true) := Lib.hid (hok.trans hb)
        clear hok
        obtain ⟨h0, h1, h2, h3⟩ := and4t hb
        clear hb
        have ih3 := isEmpty_beq h3
        go_wp2_with fail
        refine (is_any d _ Hd.out).mono ?_
        rintro e w1 ⟨rfl, hk1⟩
        have HK := Lib.hid (HK.out.keep hk1)
        have HB := Lib.hid (blk_mod hk1 HB.out id)
        obtain ⟨c0, c1, c2, c3, c4⟩ := cmd_cells5 HB.out
        clear hk1
        go_wp2_with fail
        go_ret2
        exact ⟨by rw [printV, if_pos Hn.out, Hln.out]; simp [wordOf, Cmd.fieldText], HK.out⟩
    · have hok : (⟨5, p, d, n, x⟩ : Cmd).ok = ((pathOf p).isSome && ((pathOf d).isSome && ((n == 0) && (x == [])))) := ok_two 5 (by omega) rfl p d n x
      have hkk : (⟨5, p, d, n, x⟩ : Cmd).k = 5 := rfl
      have Hln := Lib.hid (line_two hkk rfl)
      clear hkk
      rcases hb : ((pathOf p).isSome && ((pathOf d).isSome && ((n == 0) && (x == [])))) with _ | _
      · have Hn : RowKit.Hid ((⟨5, p, d, n, x⟩ : Cmd).ok = false) := Lib.hid (hok.trans hb)
        clear hok Hln
        rcases and4 hb with h0 | ⟨h0, h1⟩ | ⟨h0, h1, h2⟩ | ⟨h0, h1, h2, h3⟩
        · clear hb
          go_wp2_with fail
          go_ret2
          exact ⟨by rw [printV, Hn.out]; rfl, HK.out⟩
        · clear hb
          go_wp2_with fail
          refine (is_any d _ Hd.out).mono ?_
          rintro e w1 ⟨rfl, hk1⟩
          have HK := Lib.hid (HK.out.keep hk1)
          have HB := Lib.hid (blk_mod hk1 HB.out id)
          obtain ⟨c0, c1, c2, c3, c4⟩ := cmd_cells5 HB.out
          clear hk1
          go_wp2_with fail
          go_ret2
          exact ⟨by rw [printV, Hn.out]; rfl, HK.out⟩
        · clear hb
          go_wp2_with fail
          refine (is_any d _ Hd.out).mono ?_
          rintro e w1 ⟨rfl, hk1⟩
          have HK := Lib.hid (HK.out.keep hk1)
          have HB := Lib.hid (blk_mod hk1 HB.out id)
          obtain ⟨c0, c1, c2, c3, c4⟩ := cmd_cells5 HB.out
          clear hk1
          go_wp2_with fail
          go_ret2
          exact ⟨by rw [printV, Hn.out]; rfl, HK.out⟩
        · clear hb
          have ih3 := isEmpty_beq h3
          go_wp2_with fail
          refine (is_any d _ Hd.out).mono ?_
          rintro e w1 ⟨rfl, hk1⟩
          have HK := Lib.hid (HK.out.keep hk1)
          have HB := Lib.hid (blk_mod hk1 HB.out id)
          obtain ⟨c0, c1, c2, c3, c4⟩ := cmd_cells5 HB.out
          clear hk1
          go_wp2_with fail
          go_ret2
          exact ⟨by rw [printV, Hn.out]; rfl, HK.out⟩
      · have Hn : RowKit.Hid ((⟨5, p, d, n, x⟩ : Cmd).ok = true) := Lib.hid (hok.trans hb)
        clear hok
        obtain ⟨h0, h1, h2, h3⟩ := and4t hb
        clear hb
        have ih3 := isEmpty_beq h3
        go_wp2_with fail
        refine (is_any d _ Hd.out).mono ?_
        rintro e w1 ⟨rfl, hk1⟩
        have HK := Lib.hid (HK.out.keep hk1)
        have HB := Lib.hid (blk_mod hk1 HB.out id)
        obtain ⟨c0, c1, c2, c3, c4⟩ := cmd_cells5 HB.out
        clear hk1
        go_wp2_with fail
        go_ret2
        exact ⟨by rw [printV, if_pos Hn.out, Hln.out]; simp [wordOf, Cmd.fieldText], HK.out⟩
    · have hok : (⟨6, p, d, n, x⟩ : Cmd).ok = ((pathOf p).isSome && ((d == []) && ((n == 0) && (x == [])))) := ok_plain 6 (by omega) rfl p d n x
      have hkk : (⟨6, p, d, n, x⟩ : Cmd).k = 6 := rfl
      have Hln := Lib.hid (line_one hkk rfl)
      clear hkk
      rcases hb : ((pathOf p).isSome && ((d == []) && ((n == 0) && (x == [])))) with _ | _
      · have Hn : RowKit.Hid ((⟨6, p, d, n, x⟩ : Cmd).ok = false) := Lib.hid (hok.trans hb)
        clear hok Hln
        rcases and4 hb with h0 | ⟨h0, h1⟩ | ⟨h0, h1, h2⟩ | ⟨h0, h1, h2, h3⟩
        · clear hb
          go_wp2_with fail
          go_ret2
          exact ⟨by rw [printV, Hn.out]; rfl, HK.out⟩
        · clear hb
          have ih1 := isEmpty_beq h1
          go_wp2_with fail
          go_ret2
          exact ⟨by rw [printV, Hn.out]; rfl, HK.out⟩
        · clear hb
          have ih1 := isEmpty_beq h1
          go_wp2_with fail
          go_ret2
          exact ⟨by rw [printV, Hn.out]; rfl, HK.out⟩
        · clear hb
          have ih1 := isEmpty_beq h1
          have ih3 := isEmpty_beq h3
          go_wp2_with fail
          go_ret2
          exact ⟨by rw [printV, Hn.out]; rfl, HK.out⟩
      · have Hn : RowKit.Hid ((⟨6, p, d, n, x⟩ : Cmd).ok = true) := Lib.hid (hok.trans hb)
        clear hok
        obtain ⟨h0, h1, h2, h3⟩ := and4t hb
        clear hb
        have ih1 := isEmpty_beq h1
        have ih3 := isEmpty_beq h3
        go_wp2_with fail
        go_ret2
        exact ⟨by rw [printV, if_pos Hn.out, Hln.out]; simp [wordOf, Cmd.fieldText], HK.out⟩
    · have hok : (⟨7, p, d, n, x⟩ : Cmd).ok = (nameOk p && ((d == []) && ((n == 0) && (x == [])))) := ok_name 7 (by omega) rfl p d n x
      have hkk : (⟨7, p, d, n, x⟩ : Cmd).k = 7 := rfl
      have Hln := Lib.hid (line_one hkk rfl)
      clear hkk
      rcases hb : (nameOk p && ((d == []) && ((n == 0) && (x == [])))) with _ | _
      · have Hn : RowKit.Hid ((⟨7, p, d, n, x⟩ : Cmd).ok = false) := Lib.hid (hok.trans hb)
        clear hok Hln
        rcases and4 hb with h0 | ⟨h0, h1⟩ | ⟨h0, h1, h2⟩ | ⟨h0, h1, h2, h3⟩
        · clear hb
          go_wp2_with fail
          refine (rname_any p _ (by have := Hp.out; omega)).mono ?_
          rintro e w1 ⟨rfl, hw⟩
          subst hw
          go_wp2_with fail
          go_ret2
          exact ⟨by rw [printV, Hn.out]; rfl, HK.out⟩
        · clear hb
          have ih1 := isEmpty_beq h1
          go_wp2_with fail
          refine (rname_any p _ (by have := Hp.out; omega)).mono ?_
          rintro e w1 ⟨rfl, hw⟩
          subst hw
          go_wp2_with fail
          go_ret2
          exact ⟨by rw [printV, Hn.out]; rfl, HK.out⟩
        · clear hb
          have ih1 := isEmpty_beq h1
          go_wp2_with fail
          refine (rname_any p _ (by have := Hp.out; omega)).mono ?_
          rintro e w1 ⟨rfl, hw⟩
          subst hw
          go_wp2_with fail
          go_ret2
          exact ⟨by rw [printV, Hn.out]; rfl, HK.out⟩
        · clear hb
          have ih1 := isEmpty_beq h1
          have ih3 := isEmpty_beq h3
          go_wp2_with fail
          refine (rname_any p _ (by have := Hp.out; omega)).mono ?_
          rintro e w1 ⟨rfl, hw⟩
          subst hw
          go_wp2_with fail
          go_ret2
          exact ⟨by rw [printV, Hn.out]; rfl, HK.out⟩
      · have Hn : RowKit.Hid ((⟨7, p, d, n, x⟩ : Cmd).ok = true) := Lib.hid (hok.trans hb)
        clear hok
        obtain ⟨h0, h1, h2, h3⟩ := and4t hb
        clear hb
        have ih1 := isEmpty_beq h1
        have ih3 := isEmpty_beq h3
        go_wp2_with fail
        refine (rname_any p _ (by have := Hp.out; omega)).mono ?_
        rintro e w1 ⟨rfl, hw⟩
        subst hw
        go_wp2_with fail
        go_ret2
        exact ⟨by rw [printV, if_pos Hn.out, Hln.out]; simp [wordOf, Cmd.fieldText], HK.out⟩
    · have hok : (⟨8, p, d, n, x⟩ : Cmd).ok = (nameOk p && ((d == []) && ((n == 0) && (x == [])))) := ok_name 8 (by omega) rfl p d n x
      have hkk : (⟨8, p, d, n, x⟩ : Cmd).k = 8 := rfl
      have Hln := Lib.hid (line_one hkk rfl)
      clear hkk
      rcases hb : (nameOk p && ((d == []) && ((n == 0) && (x == [])))) with _ | _
      · have Hn : RowKit.Hid ((⟨8, p, d, n, x⟩ : Cmd).ok = false) := Lib.hid (hok.trans hb)
        clear hok Hln
        rcases and4 hb with h0 | ⟨h0, h1⟩ | ⟨h0, h1, h2⟩ | ⟨h0, h1, h2, h3⟩
        · clear hb
          go_wp2_with fail
          refine (rname_any p _ (by have := Hp.out; omega)).mono ?_
          rintro e w1 ⟨rfl, hw⟩
          subst hw
          go_wp2_with fail
          go_ret2
          exact ⟨by rw [printV, Hn.out]; rfl, HK.out⟩
        · clear hb
          have ih1 := isEmpty_beq h1
          go_wp2_with fail
          refine (rname_any p _ (by have := Hp.out; omega)).mono ?_
          rintro e w1 ⟨rfl, hw⟩
          subst hw
          go_wp2_with fail
          go_ret2
          exact ⟨by rw [printV, Hn.out]; rfl, HK.out⟩
        · clear hb
          have ih1 := isEmpty_beq h1
          go_wp2_with fail
          refine (rname_any p _ (by have := Hp.out; omega)).mono ?_
          rintro e w1 ⟨rfl, hw⟩
          subst hw
          go_wp2_with fail
          go_ret2
          exact ⟨by rw [printV, Hn.out]; rfl, HK.out⟩
        · clear hb
          have ih1 := isEmpty_beq h1
          have ih3 := isEmpty_beq h3
          go_wp2_with fail
          refine (rname_any p _ (by have := Hp.out; omega)).mono ?_
          rintro e w1 ⟨rfl, hw⟩
          subst hw
          go_wp2_with fail
          go_ret2
          exact ⟨by rw [printV, Hn.out]; rfl, HK.out⟩
      · have Hn : RowKit.Hid ((⟨8, p, d, n, x⟩ : Cmd).ok = true) := Lib.hid (hok.trans hb)
        clear hok
        obtain ⟨h0, h1, h2, h3⟩ := and4t hb
        clear hb
        have ih1 := isEmpty_beq h1
        have ih3 := isEmpty_beq h3
        go_wp2_with fail
        refine (rname_any p _ (by have := Hp.out; omega)).mono ?_
        rintro e w1 ⟨rfl, hw⟩
        subst hw
        go_wp2_with fail
        go_ret2
        exact ⟨by rw [printV, if_pos Hn.out, Hln.out]; simp [wordOf, Cmd.fieldText], HK.out⟩
  · have Hn : RowKit.Hid ((⟨kd, p, d, n, x⟩ : Cmd).ok = false) := Lib.hid (by rw [Cmd.ok, Cmd.k, if_neg hk]; rfl)
    have b0 : (kd == 0) = false := beq_false_of_ne (by omega)
    have b1 : (kd == 1) = false := beq_false_of_ne (by omega)
    have b2 : (kd == 2) = false := beq_false_of_ne (by omega)
    have b3 : (kd == 3) = false := beq_false_of_ne (by omega)
    have b4 : (kd == 4) = false := beq_false_of_ne (by omega)
    have b5 : (kd == 5) = false := beq_false_of_ne (by omega)
    have b6 : (kd == 6) = false := beq_false_of_ne (by omega)
    have b7 : (kd == 7) = false := beq_false_of_ne (by omega)
    have b8 : (kd == 8) = false := beq_false_of_ne (by omega)
    clear hk
    go_wp2_with fail
    go_ret2
    exact ⟨by rw [printV, Hn.out]; rfl, HK.out⟩
end Go.Proofs.YtpjfeonhdkkfpaaDoor
