/-
  policy.Due, and the document's.
-/
import Derived.Test.YthopldpaoeabnaaDoorPolPrint
namespace Go.Proofs.YthopldpaoeabnaaDoor
open Go.RowKit
theorem info_int : (Tryd.prog.info? 3).map (fun i => (i.zero, i.size, i.bytes)) = some (some (.int .i64 0), 1, 8) := by kernel_rfl
theorem blk_new_atD {w : World} {b : Nat} (h : b = w.heap.size) (c : Array Value) (t : TypeId) : World.blk (w.alloc (.cells c t)) b c t := h ▸ blk_new w c t
def dueAt (E : Nat → Int) (tick : Int) (c : Nat) : Prop := 0 < E c ∧ 0 < tick ∧ tick % E c = 0
instance (E : Nat → Int) (tick : Int) (c : Nat) : Decidable (dueAt E tick c) := by unfold dueAt; infer_instance
/-- the first k classes of which one is made -/
def due (E : Nat → Int) (tick : Int) : Nat → List Int
  | 0 => []
  | k + 1 => if dueAt E tick k then due E tick k ++ [(k : Int)] else due E tick k
def ints (l : List Int) : List Value := l.map (Value.int .i64)
@[simp] theorem ints_len (l : List Int) : (ints l).length = l.length := by simp [ints]
theorem run_index3 (x y z : Int) (i : Int) (W : World) (hi : 0 ≤ i ∧ i < 3) : (Instr.index 22 (.agg #[.int .i64 x, .int .i64 y, .int .i64 z]) (.int .i64 i)).run Tryd.prog W = .ok (.int .i64 (if i = 0 then x else if i = 1 then y else z)) W := by
  rcases (by omega : i = 0 ∨ i = 1 ∨ i = 2) with rfl | rfl | rfl
  · simp [Instr.index, run_underlying Tryd.underlying22, asIntOf, go_sem]
  · simp [Instr.index, run_underlying Tryd.underlying22, asIntOf, go_sem]
  · simp [Instr.index, run_underlying Tryd.underlying22, asIntOf, go_sem]
theorem due_len (E : Nat → Int) (tick : Int) (k : Nat) : (due E tick k).length ≤ k := by
  induction k with
  | zero => simp [due]
  | succ k ih => unfold due; split <;> (first | (simp; omega) | omega)
/-- a row of ints of the call's own -/
abbrev OwnInts (w : World) (base : Nat) (v : Value) (l : List Int) : Prop := w.ownsRow base 3 1 v l.length (ints l)
theorem add_ints {w : World} {base : Nat} {v : Value} {l : List Int} {c : Int} (h : w.ownsRow base 3 1 v (l.length + [Value.int .i64 c].length) (ints l ++ [.int .i64 c])) : OwnInts w base v (l ++ [c]) := by
  have e : ints (l ++ [c]) = ints l ++ [.int .i64 c] := by simp [ints]
  have e2 : (l ++ [c]).length = l.length + [Value.int .i64 c].length := by simp
  unfold OwnInts
  rw [e, e2]; exact h
theorem own_base {w : World} {base base' n : Nat} {t : TypeId} {v : Value} {xs : List Value} (h : w.ownsRow base t 1 v n xs) (hb : base' ≤ base) : w.ownsRow base' t 1 v n xs := by
  obtain ⟨h1, h2⟩ := h
  refine ⟨h1, ?_⟩
  rcases h2 with h2 | ⟨g, cap, cur, a, b, c, d⟩
  · exact .inl h2
  · exact .inr ⟨g, cap, cur, a, Nat.le_trans hb b, c, d⟩
set_option maxRecDepth 100000 in
set_option maxHeartbeats 1000000 in
theorem due_any (E K : Nat → Int) (tick : Int) (w : World) (hE : ∀ i, i < 3 → -9223372036854775808 ≤ E i ∧ E i ≤ 9223372036854775807) (ht : -9223372036854775808 ≤ tick ∧ tick ≤ 9223372036854775807) :
    Calls Tryd.prog 19 #[polV E K, .int .i64 tick] w fun e w' => ∃ v, e = .returned v ∧ Keep w w' ∧ OwnInts w' w.heap.size v (due E tick 3) := by
  have HE := Lib.hid hE
  have Ht := Lib.hid ht
  clear hE ht
  go_enter Tryd.func19, Tryd.ntmps19
  unfold polV
  go_wp2_with fail
  have r0 := fun W => run_index3 (E 0) (E 1) (E 2) 0 W (by omega)
  have r1 := fun W => run_index3 (E 0) (E 1) (E 2) 1 W (by omega)
  have r2 := fun W => run_index3 (E 0) (E 1) (E 2) 2 W (by omega)
  simp only [if_true, if_false, show ¬ ((1 : Int) = 0) by decide, show ¬ ((2 : Int) = 0) by decide, show ¬ ((2 : Int) = 1) by decide] at r0 r1 r2
  go_loopw [5, 10] (fun v i wr => ∃ (k : Nat), k ≤ 3 ∧ i = .int .i64 (k : Int) ∧ Keep w wr ∧ w.heap.size + 1 ≤ wr.heap.size ∧ OwnInts wr (w.heap.size + 1) v (due E tick k)) (fun _ i _ => 3 - (intOf i).toNat)
  case atStart => exact ⟨0, by omega, rfl, (Mod.refl _ _).alloc _, by simp, rfl, .inl ⟨rfl, rfl⟩⟩
  case round =>
    obtain ⟨k, hk, rfl, hK, hsz, hV⟩ := hrel
    have HK := Lib.hid hK
    have HV := Lib.hid hV
    
    clear hK hV 
    rcases (by omega : k = 0 ∨ k = 1 ∨ k = 2 ∨ k = 3) with rfl | rfl | rfl | rfl
    · have q1 : IntKind.i64.wrap 1 = 1 := rfl
      have q2 : IntKind.i64.wrap 2 = 2 := rfl
      have q3 : IntKind.i64.wrap 3 = 3 := rfl
      have hb := HE.out 0 (by omega)
      have ht := Ht.out
      by_cases hd : dueAt E tick 0
      · have Hd := Lib.hid hd
        obtain ⟨d0, d1, d2⟩ := hd
        have d3 : tick.tmod (E 0) = 0 := by rw [Int.tmod_eq_emod_of_nonneg (by omega)]; exact d2
        have hne : ¬ E 0 = 0 := by omega
        have d4 : E 0 ≥ 1 := by omega
        have d5 : tick ≥ 1 := by omega
        clear hb ht
        obtain ⟨v2, w2, hr, ho, hk2, hm2⟩ := append_own (P := Tryd.prog) Tryd.underlying36 info_int rfl (w.heap.size + 1) u5 _ _ wr w HV.out [.int .i64 0] (by intro u hu; simp at hu; subst hu; rfl) (by have := due_len E tick 0; simp [maxLen]; omega) (by have := due_len E tick 0; simp; omega) (by omega) HK.out (by omega)
        have Hr := Lib.hid hr
        have Ho := Lib.hid ho
        have Hk2 := Lib.hid hk2
        have hsz2 := hm2.size
        
        clear hr ho hk2 hm2
        go_wp2_with ((at_builtin; refine wpList_append_run Hr.out rfl rfl rfl rfl ?_))
        refine ⟨⟨1, by omega, rfl, Hk2.out, by omega, ?_⟩, by decide⟩
        rw [due, if_pos Hd.out]; exact add_ints (c := ((0 : Nat) : Int)) Ho.out
      · have Hd := Lib.hid hd
        have hn : (¬ 0 < E 0 ∧ ¬ 0 < tick) ∨ (¬ 0 < E 0 ∧ 0 < tick) ∨ (0 < E 0 ∧ ¬ 0 < tick) ∨ (0 < E 0 ∧ 0 < tick ∧ ¬ tick % E 0 = 0) := by unfold dueAt at hd; omega
        clear hd
        rcases hn with ⟨d0, d1⟩ | ⟨d0, d1⟩ | ⟨d0, d1⟩ | ⟨d0, d1, d2⟩
        · have d4 : ¬ E 0 ≥ 1 := by omega
          have d5 : ¬ tick ≥ 1 := by omega
          go_wp2_with fail
          refine ⟨⟨1, by omega, rfl, HK.out, hsz, ?_⟩, by decide⟩
          rw [due, if_neg Hd.out]; exact HV.out
        · have d4 : ¬ E 0 ≥ 1 := by omega
          have d5 : tick ≥ 1 := by omega
          go_wp2_with fail
          refine ⟨⟨1, by omega, rfl, HK.out, hsz, ?_⟩, by decide⟩
          rw [due, if_neg Hd.out]; exact HV.out
        · have d4 : E 0 ≥ 1 := by omega
          have d5 : ¬ tick ≥ 1 := by omega
          go_wp2_with fail
          refine ⟨⟨1, by omega, rfl, HK.out, hsz, ?_⟩, by decide⟩
          rw [due, if_neg Hd.out]; exact HV.out
        · have hne : ¬ E 0 = 0 := by omega
          have d4 : E 0 ≥ 1 := by omega
          have d5 : tick ≥ 1 := by omega
          obtain ⟨m, hm⟩ : ∃ m, tick.tmod (E 0) = m := ⟨_, rfl⟩
          have hm2 : tick % E 0 = m := by rw [← hm, Int.tmod_eq_emod_of_nonneg (by omega)]
          have hm0 : ¬ m = 0 := by rw [← hm2]; exact d2
          have hm1 : 0 ≤ m ∧ m < E 0 := by rw [← hm2]; exact ⟨Int.emod_nonneg _ hne, Int.emod_lt_of_pos _ d0⟩
          have hm3 : (m == 0) = false := by rw [beq_eq_false_iff_ne]; exact hm0
          have hm4 : IntKind.i64.wrap m = m := by rw [IntKind.wrap_i64]; omega
          clear d2 hm2 hb ht
          go_wp2_with fail
          refine ⟨⟨1, by omega, rfl, HK.out, hsz, ?_⟩, by decide⟩
          rw [due, if_neg Hd.out]; exact HV.out
    · have q1 : IntKind.i64.wrap 1 = 1 := rfl
      have q2 : IntKind.i64.wrap 2 = 2 := rfl
      have q3 : IntKind.i64.wrap 3 = 3 := rfl
      have hb := HE.out 1 (by omega)
      have ht := Ht.out
      by_cases hd : dueAt E tick 1
      · have Hd := Lib.hid hd
        obtain ⟨d0, d1, d2⟩ := hd
        have d3 : tick.tmod (E 1) = 0 := by rw [Int.tmod_eq_emod_of_nonneg (by omega)]; exact d2
        have hne : ¬ E 1 = 0 := by omega
        have d4 : E 1 ≥ 1 := by omega
        have d5 : tick ≥ 1 := by omega
        clear hb ht
        obtain ⟨v2, w2, hr, ho, hk2, hm2⟩ := append_own (P := Tryd.prog) Tryd.underlying36 info_int rfl (w.heap.size + 1) u5 _ _ wr w HV.out [.int .i64 1] (by intro u hu; simp at hu; subst hu; rfl) (by have := due_len E tick 1; simp [maxLen]; omega) (by have := due_len E tick 1; simp; omega) (by omega) HK.out (by omega)
        have Hr := Lib.hid hr
        have Ho := Lib.hid ho
        have Hk2 := Lib.hid hk2
        have hsz2 := hm2.size
        
        clear hr ho hk2 hm2
        go_wp2_with ((at_builtin; refine wpList_append_run Hr.out rfl rfl rfl rfl ?_))
        refine ⟨⟨2, by omega, rfl, Hk2.out, by omega, ?_⟩, by decide⟩
        rw [due, if_pos Hd.out]; exact add_ints (c := ((1 : Nat) : Int)) Ho.out
      · have Hd := Lib.hid hd
        have hn : (¬ 0 < E 1 ∧ ¬ 0 < tick) ∨ (¬ 0 < E 1 ∧ 0 < tick) ∨ (0 < E 1 ∧ ¬ 0 < tick) ∨ (0 < E 1 ∧ 0 < tick ∧ ¬ tick % E 1 = 0) := by unfold dueAt at hd; omega
        clear hd
        rcases hn with ⟨d0, d1⟩ | ⟨d0, d1⟩ | ⟨d0, d1⟩ | ⟨d0, d1, d2⟩
        · have d4 : ¬ E 1 ≥ 1 := by omega
          have d5 : ¬ tick ≥ 1 := by omega
          go_wp2_with fail
          refine ⟨⟨2, by omega, rfl, HK.out, hsz, ?_⟩, by decide⟩
          rw [due, if_neg Hd.out]; exact HV.out
        · have d4 : ¬ E 1 ≥ 1 := by omega
          have d5 : tick ≥ 1 := by omega
          go_wp2_with fail
          refine ⟨⟨2, by omega, rfl, HK.out, hsz, ?_⟩, by decide⟩
          rw [due, if_neg Hd.out]; exact HV.out
        · have d4 : E 1 ≥ 1 := by omega
          have d5 : ¬ tick ≥ 1 := by omega
          go_wp2_with fail
          refine ⟨⟨2, by omega, rfl, HK.out, hsz, ?_⟩, by decide⟩
          rw [due, if_neg Hd.out]; exact HV.out
        · have hne : ¬ E 1 = 0 := by omega
          have d4 : E 1 ≥ 1 := by omega
          have d5 : tick ≥ 1 := by omega
          obtain ⟨m, hm⟩ : ∃ m, tick.tmod (E 1) = m := ⟨_, rfl⟩
          have hm2 : tick % E 1 = m := by rw [← hm, Int.tmod_eq_emod_of_nonneg (by omega)]
          have hm0 : ¬ m = 0 := by rw [← hm2]; exact d2
          have hm1 : 0 ≤ m ∧ m < E 1 := by rw [← hm2]; exact ⟨Int.emod_nonneg _ hne, Int.emod_lt_of_pos _ d0⟩
          have hm3 : (m == 0) = false := by rw [beq_eq_false_iff_ne]; exact hm0
          have hm4 : IntKind.i64.wrap m = m := by rw [IntKind.wrap_i64]; omega
          clear d2 hm2 hb ht
          go_wp2_with fail
          refine ⟨⟨2, by omega, rfl, HK.out, hsz, ?_⟩, by decide⟩
          rw [due, if_neg Hd.out]; exact HV.out
    · have q1 : IntKind.i64.wrap 1 = 1 := rfl
      have q2 : IntKind.i64.wrap 2 = 2 := rfl
      have q3 : IntKind.i64.wrap 3 = 3 := rfl
      have hb := HE.out 2 (by omega)
      have ht := Ht.out
      by_cases hd : dueAt E tick 2
      · have Hd := Lib.hid hd
        obtain ⟨d0, d1, d2⟩ := hd
        have d3 : tick.tmod (E 2) = 0 := by rw [Int.tmod_eq_emod_of_nonneg (by omega)]; exact d2
        have hne : ¬ E 2 = 0 := by omega
        have d4 : E 2 ≥ 1 := by omega
        have d5 : tick ≥ 1 := by omega
        clear hb ht
        obtain ⟨v2, w2, hr, ho, hk2, hm2⟩ := append_own (P := Tryd.prog) Tryd.underlying36 info_int rfl (w.heap.size + 1) u5 _ _ wr w HV.out [.int .i64 2] (by intro u hu; simp at hu; subst hu; rfl) (by have := due_len E tick 2; simp [maxLen]; omega) (by have := due_len E tick 2; simp; omega) (by omega) HK.out (by omega)
        have Hr := Lib.hid hr
        have Ho := Lib.hid ho
        have Hk2 := Lib.hid hk2
        have hsz2 := hm2.size
        
        clear hr ho hk2 hm2
        go_wp2_with ((at_builtin; refine wpList_append_run Hr.out rfl rfl rfl rfl ?_))
        refine ⟨⟨3, by omega, rfl, Hk2.out, by omega, ?_⟩, by decide⟩
        rw [due, if_pos Hd.out]; exact add_ints (c := ((2 : Nat) : Int)) Ho.out
      · have Hd := Lib.hid hd
        have hn : (¬ 0 < E 2 ∧ ¬ 0 < tick) ∨ (¬ 0 < E 2 ∧ 0 < tick) ∨ (0 < E 2 ∧ ¬ 0 < tick) ∨ (0 < E 2 ∧ 0 < tick ∧ ¬ tick % E 2 = 0) := by unfold dueAt at hd; omega
        clear hd
        rcases hn with ⟨d0, d1⟩ | ⟨d0, d1⟩ | ⟨d0, d1⟩ | ⟨d0, d1, d2⟩
        · have d4 : ¬ E 2 ≥ 1 := by omega
          have d5 : ¬ tick ≥ 1 := by omega
          go_wp2_with fail
          refine ⟨⟨3, by omega, rfl, HK.out, hsz, ?_⟩, by decide⟩
          rw [due, if_neg Hd.out]; exact HV.out
        · have d4 : ¬ E 2 ≥ 1 := by omega
          have d5 : tick ≥ 1 := by omega
          go_wp2_with fail
          refine ⟨⟨3, by omega, rfl, HK.out, hsz, ?_⟩, by decide⟩
          rw [due, if_neg Hd.out]; exact HV.out
        · have d4 : E 2 ≥ 1 := by omega
          have d5 : ¬ tick ≥ 1 := by omega
          go_wp2_with fail
          refine ⟨⟨3, by omega, rfl, HK.out, hsz, ?_⟩, by decide⟩
          rw [due, if_neg Hd.out]; exact HV.out
        · have hne : ¬ E 2 = 0 := by omega
          have d4 : E 2 ≥ 1 := by omega
          have d5 : tick ≥ 1 := by omega
          obtain ⟨m, hm⟩ : ∃ m, tick.tmod (E 2) = m := ⟨_, rfl⟩
          have hm2 : tick % E 2 = m := by rw [← hm, Int.tmod_eq_emod_of_nonneg (by omega)]
          have hm0 : ¬ m = 0 := by rw [← hm2]; exact d2
          have hm1 : 0 ≤ m ∧ m < E 2 := by rw [← hm2]; exact ⟨Int.emod_nonneg _ hne, Int.emod_lt_of_pos _ d0⟩
          have hm3 : (m == 0) = false := by rw [beq_eq_false_iff_ne]; exact hm0
          have hm4 : IntKind.i64.wrap m = m := by rw [IntKind.wrap_i64]; omega
          clear d2 hm2 hb ht
          go_wp2_with fail
          refine ⟨⟨3, by omega, rfl, HK.out, hsz, ?_⟩, by decide⟩
          rw [due, if_neg Hd.out]; exact HV.out
    · skip
      go_wp2_with fail
      go_ret
      exact ⟨_, rfl, HK.out, own_base HV.out (by omega)⟩
set_option maxRecDepth 100000 in
set_option maxHeartbeats 1000000 in
theorem rdue_any (E K : Nat → Int) (tick : Int) (w : World) (hE : ∀ i, i < 3 → -9223372036854775808 ≤ E i ∧ E i ≤ 9223372036854775807) (ht : -9223372036854775808 ≤ tick ∧ tick ≤ 9223372036854775807) :
    Calls Tryd.prog 21 #[polV E K, .int .i64 tick] w fun e w' => ∃ v, e = .returned v ∧ Keep w w' ∧ OwnInts w' w.heap.size v (due E tick 3) := by
  have HE := Lib.hid hE
  have Ht := Lib.hid ht
  clear hE ht
  go_enter Tryd.func21, Tryd.ntmps21
  unfold polV
  go_wp2_with fail
  have r0 := fun W => run_index3 (E 0) (E 1) (E 2) 0 W (by omega)
  have r1 := fun W => run_index3 (E 0) (E 1) (E 2) 1 W (by omega)
  have r2 := fun W => run_index3 (E 0) (E 1) (E 2) 2 W (by omega)
  simp only [if_true, if_false, show ¬ ((1 : Int) = 0) by decide, show ¬ ((2 : Int) = 0) by decide, show ¬ ((2 : Int) = 1) by decide] at r0 r1 r2
  go_loopw [5, 6] (fun v i wr => ∃ (k : Nat), k ≤ 3 ∧ i = .int .i64 (k : Int) ∧ World.blk wr w.heap.size (boxV E K) 24 ∧ Keep w wr ∧ w.heap.size + 1 ≤ wr.heap.size ∧ OwnInts wr (w.heap.size + 1) v (due E tick k)) (fun _ i _ => 3 - (intOf i).toNat)
  case atStart => exact ⟨0, by omega, rfl, blk_alloc (blk_new _ _ _) _, ((Mod.refl _ _).alloc _).alloc _, by simp, rfl, .inr ⟨w.heap.size + 1, 0, #[], rfl, Nat.le_refl _, blk_new_atD (by simp) _ _, by simp [due], by decide, by decide, rfl⟩⟩
  case round =>
    obtain ⟨k, hk, rfl, hB, hK, hsz, hV⟩ := hrel
    have HK := Lib.hid hK
    have HV := Lib.hid hV
    have HB := Lib.hid hB
    clear hK hV hB
    rcases (by omega : k = 0 ∨ k = 1 ∨ k = 2 ∨ k = 3) with rfl | rfl | rfl | rfl
    · have q1 : IntKind.i64.wrap 1 = 1 := rfl
      have q2 : IntKind.i64.wrap 2 = 2 := rfl
      have q3 : IntKind.i64.wrap 3 = 3 := rfl
      have hbx := box_cells HB.out
      have hb := HE.out 0 (by omega)
      have ht := Ht.out
      by_cases hd : dueAt E tick 0
      · have Hd := Lib.hid hd
        obtain ⟨d0, d1, d2⟩ := hd
        have d3 : tick.tmod (E 0) = 0 := by rw [Int.tmod_eq_emod_of_nonneg (by omega)]; exact d2
        have hne : ¬ E 0 = 0 := by omega
        have d4 : E 0 ≥ 1 := by omega
        have d5 : tick ≥ 1 := by omega
        clear hb ht
        obtain ⟨v2, w2, hr, ho, hk2, hm2⟩ := append_own (P := Tryd.prog) Tryd.underlying36 info_int rfl (w.heap.size + 1) u5 _ _ wr w HV.out [.int .i64 0] (by intro u hu; simp at hu; subst hu; rfl) (by have := due_len E tick 0; simp [maxLen]; omega) (by have := due_len E tick 0; simp; omega) (by omega) HK.out (by omega)
        have Hr := Lib.hid hr
        have Ho := Lib.hid ho
        have Hk2 := Lib.hid hk2
        have hsz2 := hm2.size
        have HB2 := Lib.hid (blk_mod hm2 HB.out (by omega))
        clear hr ho hk2 hm2
        go_wp2_with ((at_builtin; refine wpList_append_run Hr.out rfl rfl rfl rfl ?_))
        refine ⟨⟨1, by omega, rfl, HB2.out, Hk2.out, by omega, ?_⟩, by decide⟩
        rw [due, if_pos Hd.out]; exact add_ints (c := ((0 : Nat) : Int)) Ho.out
      · have Hd := Lib.hid hd
        have hn : (¬ 0 < E 0 ∧ ¬ 0 < tick) ∨ (¬ 0 < E 0 ∧ 0 < tick) ∨ (0 < E 0 ∧ ¬ 0 < tick) ∨ (0 < E 0 ∧ 0 < tick ∧ ¬ tick % E 0 = 0) := by unfold dueAt at hd; omega
        clear hd
        rcases hn with ⟨d0, d1⟩ | ⟨d0, d1⟩ | ⟨d0, d1⟩ | ⟨d0, d1, d2⟩
        · have d4 : ¬ E 0 ≥ 1 := by omega
          have d5 : ¬ tick ≥ 1 := by omega
          go_wp2_with fail
          refine ⟨⟨1, by omega, rfl, HB.out, HK.out, hsz, ?_⟩, by decide⟩
          rw [due, if_neg Hd.out]; exact HV.out
        · have d4 : ¬ E 0 ≥ 1 := by omega
          have d5 : tick ≥ 1 := by omega
          go_wp2_with fail
          refine ⟨⟨1, by omega, rfl, HB.out, HK.out, hsz, ?_⟩, by decide⟩
          rw [due, if_neg Hd.out]; exact HV.out
        · have d4 : E 0 ≥ 1 := by omega
          have d5 : ¬ tick ≥ 1 := by omega
          go_wp2_with fail
          refine ⟨⟨1, by omega, rfl, HB.out, HK.out, hsz, ?_⟩, by decide⟩
          rw [due, if_neg Hd.out]; exact HV.out
        · have hne : ¬ E 0 = 0 := by omega
          have d4 : E 0 ≥ 1 := by omega
          have d5 : tick ≥ 1 := by omega
          obtain ⟨m, hm⟩ : ∃ m, tick.tmod (E 0) = m := ⟨_, rfl⟩
          have hm2 : tick % E 0 = m := by rw [← hm, Int.tmod_eq_emod_of_nonneg (by omega)]
          have hm0 : ¬ m = 0 := by rw [← hm2]; exact d2
          have hm1 : 0 ≤ m ∧ m < E 0 := by rw [← hm2]; exact ⟨Int.emod_nonneg _ hne, Int.emod_lt_of_pos _ d0⟩
          have hm3 : (m == 0) = false := by rw [beq_eq_false_iff_ne]; exact hm0
          have hm4 : IntKind.i64.wrap m = m := by rw [IntKind.wrap_i64]; omega
          clear d2 hm2 hb ht
          go_wp2_with fail
          refine ⟨⟨1, by omega, rfl, HB.out, HK.out, hsz, ?_⟩, by decide⟩
          rw [due, if_neg Hd.out]; exact HV.out
    · have q1 : IntKind.i64.wrap 1 = 1 := rfl
      have q2 : IntKind.i64.wrap 2 = 2 := rfl
      have q3 : IntKind.i64.wrap 3 = 3 := rfl
      have hbx := box_cells HB.out
      have hb := HE.out 1 (by omega)
      have ht := Ht.out
      by_cases hd : dueAt E tick 1
      · have Hd := Lib.hid hd
        obtain ⟨d0, d1, d2⟩ := hd
        have d3 : tick.tmod (E 1) = 0 := by rw [Int.tmod_eq_emod_of_nonneg (by omega)]; exact d2
        have hne : ¬ E 1 = 0 := by omega
        have d4 : E 1 ≥ 1 := by omega
        have d5 : tick ≥ 1 := by omega
        clear hb ht
        obtain ⟨v2, w2, hr, ho, hk2, hm2⟩ := append_own (P := Tryd.prog) Tryd.underlying36 info_int rfl (w.heap.size + 1) u5 _ _ wr w HV.out [.int .i64 1] (by intro u hu; simp at hu; subst hu; rfl) (by have := due_len E tick 1; simp [maxLen]; omega) (by have := due_len E tick 1; simp; omega) (by omega) HK.out (by omega)
        have Hr := Lib.hid hr
        have Ho := Lib.hid ho
        have Hk2 := Lib.hid hk2
        have hsz2 := hm2.size
        have HB2 := Lib.hid (blk_mod hm2 HB.out (by omega))
        clear hr ho hk2 hm2
        go_wp2_with ((at_builtin; refine wpList_append_run Hr.out rfl rfl rfl rfl ?_))
        refine ⟨⟨2, by omega, rfl, HB2.out, Hk2.out, by omega, ?_⟩, by decide⟩
        rw [due, if_pos Hd.out]; exact add_ints (c := ((1 : Nat) : Int)) Ho.out
      · have Hd := Lib.hid hd
        have hn : (¬ 0 < E 1 ∧ ¬ 0 < tick) ∨ (¬ 0 < E 1 ∧ 0 < tick) ∨ (0 < E 1 ∧ ¬ 0 < tick) ∨ (0 < E 1 ∧ 0 < tick ∧ ¬ tick % E 1 = 0) := by unfold dueAt at hd; omega
        clear hd
        rcases hn with ⟨d0, d1⟩ | ⟨d0, d1⟩ | ⟨d0, d1⟩ | ⟨d0, d1, d2⟩
        · have d4 : ¬ E 1 ≥ 1 := by omega
          have d5 : ¬ tick ≥ 1 := by omega
          go_wp2_with fail
          refine ⟨⟨2, by omega, rfl, HB.out, HK.out, hsz, ?_⟩, by decide⟩
          rw [due, if_neg Hd.out]; exact HV.out
        · have d4 : ¬ E 1 ≥ 1 := by omega
          have d5 : tick ≥ 1 := by omega
          go_wp2_with fail
          refine ⟨⟨2, by omega, rfl, HB.out, HK.out, hsz, ?_⟩, by decide⟩
          rw [due, if_neg Hd.out]; exact HV.out
        · have d4 : E 1 ≥ 1 := by omega
          have d5 : ¬ tick ≥ 1 := by omega
          go_wp2_with fail
          refine ⟨⟨2, by omega, rfl, HB.out, HK.out, hsz, ?_⟩, by decide⟩
          rw [due, if_neg Hd.out]; exact HV.out
        · have hne : ¬ E 1 = 0 := by omega
          have d4 : E 1 ≥ 1 := by omega
          have d5 : tick ≥ 1 := by omega
          obtain ⟨m, hm⟩ : ∃ m, tick.tmod (E 1) = m := ⟨_, rfl⟩
          have hm2 : tick % E 1 = m := by rw [← hm, Int.tmod_eq_emod_of_nonneg (by omega)]
          have hm0 : ¬ m = 0 := by rw [← hm2]; exact d2
          have hm1 : 0 ≤ m ∧ m < E 1 := by rw [← hm2]; exact ⟨Int.emod_nonneg _ hne, Int.emod_lt_of_pos _ d0⟩
          have hm3 : (m == 0) = false := by rw [beq_eq_false_iff_ne]; exact hm0
          have hm4 : IntKind.i64.wrap m = m := by rw [IntKind.wrap_i64]; omega
          clear d2 hm2 hb ht
          go_wp2_with fail
          refine ⟨⟨2, by omega, rfl, HB.out, HK.out, hsz, ?_⟩, by decide⟩
          rw [due, if_neg Hd.out]; exact HV.out
    · have q1 : IntKind.i64.wrap 1 = 1 := rfl
      have q2 : IntKind.i64.wrap 2 = 2 := rfl
      have q3 : IntKind.i64.wrap 3 = 3 := rfl
      have hbx := box_cells HB.out
      have hb := HE.out 2 (by omega)
      have ht := Ht.out
      by_cases hd : dueAt E tick 2
      · have Hd := Lib.hid hd
        obtain ⟨d0, d1, d2⟩ := hd
        have d3 : tick.tmod (E 2) = 0 := by rw [Int.tmod_eq_emod_of_nonneg (by omega)]; exact d2
        have hne : ¬ E 2 = 0 := by omega
        have d4 : E 2 ≥ 1 := by omega
        have d5 : tick ≥ 1 := by omega
        clear hb ht
        obtain ⟨v2, w2, hr, ho, hk2, hm2⟩ := append_own (P := Tryd.prog) Tryd.underlying36 info_int rfl (w.heap.size + 1) u5 _ _ wr w HV.out [.int .i64 2] (by intro u hu; simp at hu; subst hu; rfl) (by have := due_len E tick 2; simp [maxLen]; omega) (by have := due_len E tick 2; simp; omega) (by omega) HK.out (by omega)
        have Hr := Lib.hid hr
        have Ho := Lib.hid ho
        have Hk2 := Lib.hid hk2
        have hsz2 := hm2.size
        have HB2 := Lib.hid (blk_mod hm2 HB.out (by omega))
        clear hr ho hk2 hm2
        go_wp2_with ((at_builtin; refine wpList_append_run Hr.out rfl rfl rfl rfl ?_))
        refine ⟨⟨3, by omega, rfl, HB2.out, Hk2.out, by omega, ?_⟩, by decide⟩
        rw [due, if_pos Hd.out]; exact add_ints (c := ((2 : Nat) : Int)) Ho.out
      · have Hd := Lib.hid hd
        have hn : (¬ 0 < E 2 ∧ ¬ 0 < tick) ∨ (¬ 0 < E 2 ∧ 0 < tick) ∨ (0 < E 2 ∧ ¬ 0 < tick) ∨ (0 < E 2 ∧ 0 < tick ∧ ¬ tick % E 2 = 0) := by unfold dueAt at hd; omega
        clear hd
        rcases hn with ⟨d0, d1⟩ | ⟨d0, d1⟩ | ⟨d0, d1⟩ | ⟨d0, d1, d2⟩
        · have d4 : ¬ E 2 ≥ 1 := by omega
          have d5 : ¬ tick ≥ 1 := by omega
          go_wp2_with fail
          refine ⟨⟨3, by omega, rfl, HB.out, HK.out, hsz, ?_⟩, by decide⟩
          rw [due, if_neg Hd.out]; exact HV.out
        · have d4 : ¬ E 2 ≥ 1 := by omega
          have d5 : tick ≥ 1 := by omega
          go_wp2_with fail
          refine ⟨⟨3, by omega, rfl, HB.out, HK.out, hsz, ?_⟩, by decide⟩
          rw [due, if_neg Hd.out]; exact HV.out
        · have d4 : E 2 ≥ 1 := by omega
          have d5 : ¬ tick ≥ 1 := by omega
          go_wp2_with fail
          refine ⟨⟨3, by omega, rfl, HB.out, HK.out, hsz, ?_⟩, by decide⟩
          rw [due, if_neg Hd.out]; exact HV.out
        · have hne : ¬ E 2 = 0 := by omega
          have d4 : E 2 ≥ 1 := by omega
          have d5 : tick ≥ 1 := by omega
          obtain ⟨m, hm⟩ : ∃ m, tick.tmod (E 2) = m := ⟨_, rfl⟩
          have hm2 : tick % E 2 = m := by rw [← hm, Int.tmod_eq_emod_of_nonneg (by omega)]
          have hm0 : ¬ m = 0 := by rw [← hm2]; exact d2
          have hm1 : 0 ≤ m ∧ m < E 2 := by rw [← hm2]; exact ⟨Int.emod_nonneg _ hne, Int.emod_lt_of_pos _ d0⟩
          have hm3 : (m == 0) = false := by rw [beq_eq_false_iff_ne]; exact hm0
          have hm4 : IntKind.i64.wrap m = m := by rw [IntKind.wrap_i64]; omega
          clear d2 hm2 hb ht
          go_wp2_with fail
          refine ⟨⟨3, by omega, rfl, HB.out, HK.out, hsz, ?_⟩, by decide⟩
          rw [due, if_neg Hd.out]; exact HV.out
    · have hbx := box_cells HB.out
      go_wp2_with fail
      go_ret
      exact ⟨_, rfl, HK.out, own_base HV.out (by omega)⟩
end Go.Proofs.YthopldpaoeabnaaDoor
