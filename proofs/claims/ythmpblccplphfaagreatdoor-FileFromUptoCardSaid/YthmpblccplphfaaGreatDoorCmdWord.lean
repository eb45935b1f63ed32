/-
  commands.word, hexed, unhexed.
-/
import Derived.Test.YthmpblccplphfaaGreatDoorCmdPathR
import Derived.Test.YthmpblccplphfaaGreatDoorBuilder
import Derived.Deep.RegionWith
import Derived.IntWalk
namespace Go.Proofs.YthmpblccplphfaaGreatDoor
open Go.RowKit
def ints (l : List Int) : List Value := l.map (Value.int .i64)
@[simp] theorem ints_len (l : List Int) : (ints l).length = l.length := by simp [ints]
def kOf (kind : Int) : Nat := if 0 ≤ kind ∧ kind < 9 then kind.toNat else 9
theorem k_kOf (c : Cmd) : c.k = kOf c.kind := rfl
def fieldsI (k : Nat) : List Int := (fieldsOf k).map fun (f : Nat) => (f : Int)
theorem with_any (s : List UInt8) (v : Value) (w : World) :
    Calls Tryz.prog 95 #[.string ⟨s.toArray⟩, v] w fun e w' => e = .returned (.tuple #[.string ⟨s.toArray⟩, v]) ∧ w = w' := by
  go_enter Tryz.func95, Tryz.ntmps95
  go_wp2_with fail
  go_ret2
  exact ⟨rfl, rfl⟩
set_option maxRecDepth 100000 in
set_option maxHeartbeats 2000000 in
theorem word_any (kind : Int) (w : World) :
    Calls Tryz.prog 67 #[.int .i64 kind] w fun e w' => ∃ v, e = .returned (.tuple #[.string ⟨(wordOf (kOf kind)).toArray⟩, v]) ∧ RowAt w' v (ints (fieldsI (kOf kind))) ∧ Keep w w' := by
  by_cases hk : 0 ≤ kind ∧ kind < 9
  · rcases (by omega : kind = 0 ∨ kind = 1 ∨ kind = 2 ∨ kind = 3 ∨ kind = 4 ∨ kind = 5 ∨ kind = 6 ∨ kind = 7 ∨ kind = 8) with rfl | rfl | rfl | rfl | rfl | rfl | rfl | rfl | rfl
    all_goals
      clear hk
      go_enter Tryz.func67, Tryz.ntmps67
      go_wp2_with fail
      refine (with_any _ _ _).mono ?_
      rintro e w1 ⟨rfl, hw⟩
      subst hw
      go_wp2_with fail
      go_ret2
      exact ⟨_, rfl, row_new _ (blk_new _ _ _), (Mod.refl _ _).alloc _⟩
  · have Hk : RowKit.Hid (kOf kind = 9) := Lib.hid (by rw [kOf, if_neg hk])
    have b0 : (kind == 0) = false := beq_false_of_ne (by omega)
    have b1 : (kind == 1) = false := beq_false_of_ne (by omega)
    have b2 : (kind == 2) = false := beq_false_of_ne (by omega)
    have b3 : (kind == 3) = false := beq_false_of_ne (by omega)
    have b4 : (kind == 4) = false := beq_false_of_ne (by omega)
    have b5 : (kind == 5) = false := beq_false_of_ne (by omega)
    have b6 : (kind == 6) = false := beq_false_of_ne (by omega)
    have b7 : (kind == 7) = false := beq_false_of_ne (by omega)
    have b8 : (kind == 8) = false := beq_false_of_ne (by omega)
    clear hk
    go_enter Tryz.func67, Tryz.ntmps67
    go_wp2_with fail
    go_ret2
    exact ⟨_, by rw [Hk.out]; rfl, by rw [Hk.out]; exact ⟨none, 0, rfl, fun j x h => by simp [ints, fieldsI, fieldsOf] at h⟩, Mod.refl _ _⟩
/-! ### hexed -/
def hexDigits : List UInt8 := [48, 49, 50, 51, 52, 53, 54, 55, 56, 57, 97, 98, 99, 100, 101, 102]
theorem hexDigits_at (n : Nat) (h : n < 16) : hexDigits[n]? = some (hexd n) := by
  rcases (by omega : n = 0 ∨ n = 1 ∨ n = 2 ∨ n = 3 ∨ n = 4 ∨ n = 5 ∨ n = 6 ∨ n = 7 ∨ n = 8 ∨ n = 9 ∨ n = 10 ∨ n = 11 ∨ n = 12 ∨ n = 13 ∨ n = 14 ∨ n = 15) with h | h | h | h | h | h | h | h | h | h | h | h | h | h | h | h <;> subst h <;> decide
theorem hexes_snoc (d : List UInt8) (b : UInt8) : hexes (d ++ [b]) = hexes d ++ [hexd (b.toNat / 16)] ++ [hexd (b.toNat % 16)] := by simp [hexes]
theorem and15_fin : ∀ n : Fin 256, bits .and .u8 (n.val : Int) 15 = ((n.val % 16 : Nat) : Int) := by decide +kernel
theorem and15 (x : UInt8) : bits .and .u8 (x.toNat : Int) 15 = ((x.toNat % 16 : Nat) : Int) := and15_fin ⟨x.toNat, x.toNat_lt⟩
theorem run_hexdig (k : IntKind) (i : Int) (n : Nat) (hi : i = (n : Int)) (hn : n < 16) (W : World) :
    (Instr.index 9 (.string ⟨#[48, 49, 50, 51, 52, 53, 54, 55, 56, 57, 97, 98, 99, 100, 101, 102]⟩) (.int k i)).run Tryz.prog W = .ok (.int .u8 ((hexd n).toNat : Int)) W :=
  run_index_str Tryz.underlying9 hexDigits k i (hexd n) (by omega) (by rw [show i.toNat = n by omega]; exact hexDigits_at n hn) W
set_option maxRecDepth 100000 in
set_option maxHeartbeats 1000000 in
theorem hexed_any (d : List UInt8) (w : World) (hd : d.length ≤ 1099511627776) :
    Calls Tryz.prog 97 #[.string ⟨d.toArray⟩] w fun e w' => e = .returned (.string ⟨(hexed d).toArray⟩) ∧ Keep w w' := by
  by_cases h0 : d = []
  · subst h0
    go_enter Tryz.func97, Tryz.ntmps97
    go_wp2_with fail
    go_ret
    exact ⟨rfl, Mod.refl _ _⟩
  · have e0 : (d == []) = false := beq_false_of_ne h0
    have e1 : d.isEmpty = false := by cases d; exact absurd rfl h0; rfl
    have He : RowKit.Hid (hexed d = hexes d) := Lib.hid (by rw [hexed, if_neg h0])
    have HB0 := Lib.hid (bld_new w)
    have HK0 : RowKit.Hid (Below w.heap.size w (w.alloc (.cells #[.pointer none, .slice none 0 0] 158))) := Lib.hid ((Below.refl _ _).alloc (Nat.le_refl _) _)
    clear h0
    go_enter Tryz.func97, Tryz.ntmps97
    go_wp2_with fail
    generalize w.alloc (.cells #[.pointer none, .slice none 0 0] 158) = w0 at *
    go_loopw [9] (fun i wr => ∃ k : Nat, k ≤ d.length ∧ i = .int .i64 (k : Int) ∧ IsBld w.heap.size w.heap.size (hexes (d.take k)) wr ∧ Below w.heap.size w wr) (fun i _ => d.length - (intOf i).toNat)
    case atStart => exact ⟨0, by omega, rfl, HB0.out, HK0.out⟩
    case round =>
      clear HB0 HK0
      obtain ⟨k, hk, rfl, hB, hK⟩ := hrel
      have HB := Lib.hid hB
      have HK := Lib.hid hK
      clear hB hK
      by_cases hlt : k < d.length
      · obtain ⟨x, hx⟩ : ∃ x, d[k]? = some x := ⟨_, List.getElem?_eq_getElem hlt⟩
        have Hst : RowKit.Hid (hexes (d.take (k + 1)) = hexes (d.take k) ++ [hexd (x.toNat / 16)] ++ [hexd (x.toNat % 16)]) := Lib.hid (by rw [List.take_add_one, hx, Option.toList_some, hexes_snoc])
        have hix : ∀ W, (Instr.index 9 (.string ⟨d.toArray⟩) (.int .i64 (k : Int))).run Tryz.prog W = .ok (.int .u8 (x.toNat : Int)) W := fun W => run_index_str Tryz.underlying9 d .i64 (k : Int) x (by omega) (by rw [Int.toNat_natCast]; exact hx) W
        clear hx
        have Hln : RowKit.Hid ((hexes (d.take k)).length ≤ 2 * d.length) := Lib.hid (by rw [hexes_len, List.length_take]; omega)
        have hx1 := fun W => run_hexdig .u8 ((x.toNat : Int) / 16) (x.toNat / 16) (by omega) (by have := x.toNat_lt; omega) W
        go_wp2_with fail
        refine (bld_byte w.heap.size w.heap.size (hexes (d.take k)) (hexd (x.toNat / 16)) wr HB.out (by have := Hln.out; omega) HK.out.size).mono ?_
        rintro e w1 ⟨rfl, hb1, hk1⟩
        have HB1 := Lib.hid hb1
        have HK1 := Lib.hid (HK.out.trans hk1)
        clear hb1 hk1 hx1
        have hx2 := fun W => run_hexdig .u8 (bits .and .u8 (x.toNat : Int) 15) (x.toNat % 16) (and15 x) (by omega) W
        go_wp2_with fail
        refine (bld_byte w.heap.size w.heap.size (hexes (d.take k) ++ [hexd (x.toNat / 16)]) (hexd (x.toNat % 16)) w1 HB1.out (by have := Hln.out; simp; omega) HK1.out.size).mono ?_
        rintro e w2 ⟨rfl, hb2, hk2⟩
        have HB2 := Lib.hid hb2
        have HK2 := Lib.hid (HK1.out.trans hk2)
        clear hb2 hk2 hx2 hix
        go_wp2_with fail
        exact ⟨⟨k + 1, by omega, by go_num, by rw [Hst.out]; exact HB2.out, HK2.out⟩, by simp [intOf]; omega⟩
      · obtain rfl : k = d.length := by omega
        rw [List.take_length] at HB
        go_wp2_with fail
        refine (bld_string w.heap.size w.heap.size (hexes d) wr HB.out HK.out.size).mono ?_
        rintro e w1 ⟨rfl, hk1⟩
        have HK1 := Lib.hid (HK.out.trans hk1)
        clear hk1
        go_wp2_with fail
        go_ret
        exact ⟨by rw [He.out]; rfl, Mod.ofBelow HK1.out⟩
/-! ### unhexed -/
theorem hexv_fin : ∀ n : Fin 256, Lib.indexByte hexDigits (UInt8.ofNat n.val) = hexv (UInt8.ofNat n.val) := by decide +kernel
theorem hexv_ix (c : UInt8) : Lib.indexByte hexDigits c = hexv c := by
  have h := hexv_fin ⟨c.toNat, c.toNat_lt⟩
  simpa using h
theorem ix_any (c : UInt8) (w : World) :
    Calls Tryz.prog 139 #[.string ⟨#[48, 49, 50, 51, 52, 53, 54, 55, 56, 57, 97, 98, 99, 100, 101, 102]⟩, .int .u8 (c.toNat : Int)] w fun e w' => e = .returned (.int .i64 (hexv c)) ∧ w' = w := by
  have h := Tryz.strings_IndexByte ⟨hexDigits.toArray⟩ (c.toNat : Int) w
  have e : ((c.toNat : Int).toNat).toUInt8 = c := by simp
  rw [e] at h
  have e2 : Lib.indexByte ({ data := hexDigits.toArray } : ByteArray).data.toList c = hexv c := hexv_ix c
  rw [e2] at h
  exact h
theorem hexv_bd (c : UInt8) : -1 ≤ hexv c ∧ hexv c ≤ 15 := by
  unfold hexv; split
  · omega
  · split <;> omega
theorem wrap_byte (x : Int) : IntKind.u8.wrap x = ((byteOf x).toNat : Int) := by
  rw [IntKind.wrap_u8, byteOf]
  simp
  omega
theorem unhexes_app (v : UInt8 → Int) : ∀ (n : Nat) (l m : List UInt8), l.length = 2 * n → unhexes v (l ++ m) = unhexes v l ++ unhexes v m
  | 0, l, m, h => by
    obtain rfl := List.length_eq_zero_iff.1 (by omega : l.length = 0)
    simp [unhexes]
  | n + 1, [], m, h => by simp at h
  | n + 1, [a], m, h => by simp at h; omega
  | n + 1, a :: b :: l, m, h => by
    rw [List.cons_append, List.cons_append, unhexes, unhexes, unhexes_app v n l m (by simp at h; omega), List.cons_append]
theorem unhexes_len (v : UInt8 → Int) : ∀ (n : Nat) (l : List UInt8), l.length ≤ n → (unhexes v l).length ≤ n
  | 0, l, h => by
    obtain rfl := List.length_eq_zero_iff.1 (by omega : l.length = 0)
    simp [unhexes]
  | n + 1, [], h => by simp [unhexes]
  | n + 1, [a], h => by simp [unhexes]
  | n + 1, a :: b :: l, h => by
    have := unhexes_len v n l (by simp at h; omega)
    rw [unhexes, List.length_cons]; omega
theorem unhexes_step (v : UInt8 → Int) {s : List UInt8} {j : Nat} {a b : UInt8} (ha : s[2 * j]? = some a) (hb : s[2 * j + 1]? = some b) : unhexes v (s.take (2 * (j + 1))) = unhexes v (s.take (2 * j)) ++ [byteOf (16 * v a + v b)] := by
  have hlt := (List.getElem?_eq_some_iff.1 hb).1
  have e : s.take (2 * (j + 1)) = s.take (2 * j) ++ [a, b] := by
    rw [show 2 * (j + 1) = 2 * j + 1 + 1 by omega, List.take_add_one, List.take_add_one, ha, hb]; simp
  rw [e, unhexes_app v j _ _ (by rw [List.length_take]; omega)]
  rfl
theorem unhexes_all (v : UInt8 → Int) {s : List UInt8} {j : Nat} (h1 : 2 * j ≤ s.length) (h : s.length ≤ 2 * j + 1) : unhexes v s = unhexes v (s.take (2 * j)) := by
  conv => lhs; rw [← List.take_append_drop (2 * j) s]
  rw [unhexes_app v j _ _ (by rw [List.length_take]; omega)]
  have hl : (s.drop (2 * j)).length ≤ 1 := by rw [List.length_drop]; omega
  rcases hd : s.drop (2 * j) with _ | ⟨a, _ | ⟨b, r⟩⟩
  · simp [unhexes]
  · simp [unhexes]
  · rw [hd] at hl; simp at hl
theorem quiet_same {P : Program} {f : FuncId} {args : Array Value} {w : World} {n : Nat} {v : Value} (h : Calls P f args (w.drewN n) fun e w' => e = .returned v ∧ w' = w.drewN n) : Calls P f args (w.drewN n) fun e w'' => e = .returned v ∧ ∃ m, w'' = w.drewN m :=
  h.mono fun _ _ ⟨a, b⟩ => ⟨a, n, b⟩
set_option maxRecDepth 100000 in
set_option maxHeartbeats 1000000 in
theorem unhexed_any (s : List UInt8) (w : World) (hs : s.length ≤ 4398046511104) :
    Calls Tryz.prog 100 #[.string ⟨s.toArray⟩] w fun e w' => e = .returned (.string ⟨(unhexed s).toArray⟩) ∧ Keep w w' := by
  by_cases h0 : s = [45]
  · subst h0
    go_enter Tryz.func100, Tryz.ntmps100
    go_wp2_with fail
    go_ret
    exact ⟨rfl, Mod.refl _ _⟩
  · have e0 : (s == [45]) = false := beq_false_of_ne h0
    have He : RowKit.Hid (unhexed s = unhexes hexv s) := Lib.hid (by rw [unhexed, if_neg h0])
    have HB0 := Lib.hid (bld_new w)
    have HK0 : RowKit.Hid (Below w.heap.size w (w.alloc (.cells #[.pointer none, .slice none 0 0] 158))) := Lib.hid ((Below.refl _ _).alloc (Nat.le_refl _) _)
    clear h0
    go_enter Tryz.func100, Tryz.ntmps100
    go_wp2_with fail
    generalize w.alloc (.cells #[.pointer none, .slice none 0 0] 158) = w0 at *
    go_loopw [4] (fun i wr => ∃ k : Nat, k ≤ s.length + 1 ∧ i = .int .i64 (k : Int) ∧ RowKit.Hid (∃ j, k = 2 * j) ∧ IsBld w.heap.size w.heap.size (unhexes hexv (s.take k)) wr ∧ Below w.heap.size w wr) (fun i _ => s.length + 2 - (intOf i).toNat)
    case atStart => exact ⟨0, by omega, rfl, Lib.hid ⟨0, rfl⟩, HB0.out, HK0.out⟩
    case round =>
      clear HB0 HK0
      obtain ⟨k, hk, rfl, Hj, hB, hK⟩ := hrel
      have HB := Lib.hid hB
      have HK := Lib.hid hK
      clear hB hK
      by_cases hlt : k + 1 < s.length
      · obtain ⟨a, ha⟩ : ∃ a, s[k]? = some a := ⟨_, List.getElem?_eq_getElem (by omega)⟩
        obtain ⟨b, hb⟩ : ∃ b, s[k + 1]? = some b := ⟨_, List.getElem?_eq_getElem hlt⟩
        have Hst : RowKit.Hid (unhexes hexv (s.take (k + 2)) = unhexes hexv (s.take k) ++ [byteOf (16 * hexv a + hexv b)]) := Lib.hid (by
          obtain ⟨j, rfl⟩ := Hj.out
          exact unhexes_step hexv ha hb)
        have Hj2 : RowKit.Hid (∃ j, k + 2 = 2 * j) := Lib.hid (by obtain ⟨j, rfl⟩ := Hj.out; exact ⟨j + 1, by omega⟩)
        have Hln : RowKit.Hid ((unhexes hexv (s.take k)).length ≤ s.length) := Lib.hid (Nat.le_trans (unhexes_len hexv _ _ (Nat.le_refl _)) (by rw [List.length_take]; omega))
        have hi1 : ∀ W, (Instr.index 9 (.string ⟨s.toArray⟩) (.int .i64 (k : Int))).run Tryz.prog W = .ok (.int .u8 (a.toNat : Int)) W := fun W => run_index_str Tryz.underlying9 s .i64 (k : Int) a (by omega) (by rw [Int.toNat_natCast]; exact ha) W
        have hi2 : ∀ W, (Instr.index 9 (.string ⟨s.toArray⟩) (.int .i64 ((k : Int) + 1))).run Tryz.prog W = .ok (.int .u8 (b.toNat : Int)) W := fun W => run_index_str Tryz.underlying9 s .i64 ((k : Int) + 1) b (by omega) (by rw [show ((k : Int) + 1).toNat = k + 1 by omega]; exact hb) W
        have hva := hexv_bd a
        have hvb := hexv_bd b
        have q1 : IntKind.i64.wrap ((k : Int) + 1) = (k : Int) + 1 := IntWalk.i64_in _ (by omega)
        have q2 : IntKind.i64.wrap (16 * hexv a) = 16 * hexv a := IntWalk.i64_in _ (by omega)
        have q3 : IntKind.i64.wrap (16 * hexv a + hexv b) = 16 * hexv a + hexv b := IntWalk.i64_in _ (by omega)
        have q4 := wrap_byte (16 * hexv a + hexv b)
        clear ha hb
        go_wp2_with fail
        refine wp_region_qd0 12 (by kernel_rfl) (by kernel_rfl) ?_
        simp only [List.take_succ_cons, List.take_zero, List.drop_succ_cons, List.drop_zero]
        repeat (quiet_step (first | (with_reducible exact quiet_same (ix_any a _)) | (with_reducible exact quiet_same (ix_any b _))))
        refine wpQuiet_nil ?_
        intro _ hw'
        obtain ⟨nq, rfl⟩ := hw'
        clear q1 q2 q3 q4 hi1 hi2
        have HBn : RowKit.Hid (IsBld w.heap.size w.heap.size (unhexes hexv (s.take k)) (wr.drewN nq)) := Lib.hid (show IsBld w.heap.size w.heap.size (unhexes hexv (s.take k)) (wr.drewN nq) from HB.out)
        go_wp2_with fail
        refine (bld_byte w.heap.size w.heap.size (unhexes hexv (s.take k)) (byteOf (16 * hexv a + hexv b)) (wr.drewN nq) HBn.out (by have := Hln.out; omega) HK.out.size).mono ?_
        rintro e w2 ⟨rfl, hb2, hk2⟩
        have HB2 := Lib.hid hb2
        have HK2 : RowKit.Hid (Below w.heap.size w w2) := Lib.hid ((((Mod.ofBelow HK.out).drewN nq).below).trans hk2)
        clear hb2 hk2
        go_wp2_with fail
        exact ⟨⟨k + 2, by omega, by go_num, Hj2, by rw [Hst.out]; exact HB2.out, HK2.out⟩, by simp [intOf]; omega⟩
      · have Hx : RowKit.Hid (unhexes hexv (s.take k) = unhexes hexv s) := Lib.hid (by
          obtain ⟨j, rfl⟩ := Hj.out
          by_cases h : 2 * j ≤ s.length
          · exact (unhexes_all hexv h (by omega)).symm
          · rw [List.take_of_length_le (by omega)])
        rw [Hx.out] at HB
        go_wp2_with fail
        refine (bld_string w.heap.size w.heap.size (unhexes hexv s) wr HB.out HK.out.size).mono ?_
        rintro e w1 ⟨rfl, hk1⟩
        have HK1 := Lib.hid (HK.out.trans hk1)
        clear hk1
        go_wp2_with fail
        go_ret
        exact ⟨by rw [He.out]; rfl, Mod.ofBelow HK1.out⟩
end Go.Proofs.YthmpblccplphfaaGreatDoor
