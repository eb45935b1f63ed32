/-
  wire.put, Num, Text: numbers and texts as bytes.
-/
import Derived.Test.YthmpblccplphfaaGreatDoorOwnMore
import Derived.Test.YthmpblccplphfaaGreatDoorFilX
namespace Go.Proofs.YthmpblccplphfaaGreatDoor
open Go.RowKit
theorem encN_small {n : Nat} (h : n < 128) : encN n = [UInt8.ofNat n] := by rw [encN, dif_pos h]
theorem encN_big {n : Nat} (h : ¬ n < 128) : encN n = UInt8.ofNat (n % 128 + 128) :: encN (n / 128) := by rw [encN, dif_neg h]
theorem encN_len : ∀ (k n : Nat), n < 128 ^ (k + 1) → (encN n).length ≤ k + 1 := by
  intro k
  induction k with
  | zero => intro n h; rw [encN_small (by omega)]; simp
  | succ k ih =>
    intro n h
    by_cases h1 : n < 128
    · rw [encN_small h1]; simp
    · rw [encN_big h1, List.length_cons]
      have := ih (n / 128) (by rw [Nat.pow_succ] at h; omega)
      omega
theorem encN_9 {n : Nat} (h : n < 9223372036854775808) : (encN n).length ≤ 9 := encN_len 8 n (by simpa using h)
set_option maxRecDepth 100000 in
set_option maxHeartbeats 1000000 in
theorem put_any (n : Nat) (hn : n < 9223372036854775808) (w : World) :
    Calls Tryz.prog 155 #[.slice none 0 0, .int .i64 (n : Int)] w fun e w' => ∃ v, e = .returned v ∧ Keep w w' ∧ OwnBytes w' w.heap.size v (encN n) := by
  have Hn := Lib.hid hn
  go_enter Tryz.func155, Tryz.ntmps155
  go_wp2_with fail
  go_loopw [0, 1] (fun v i wr => ∃ (pre : List UInt8) (m : Nat), m ≤ n ∧ i = .int .i64 (m : Int) ∧ Keep w wr ∧ w.heap.size ≤ wr.heap.size ∧ RowKit.Hid (encN n = pre ++ encN m) ∧ OwnBytes wr w.heap.size v pre) (fun _ i _ => (intOf i).toNat)
  case atStart => exact ⟨[], n, Nat.le_refl _, rfl, Mod.refl _ _, Nat.le_refl _, Lib.hid rfl, rfl, .inl ⟨rfl, rfl⟩⟩
  case round =>
    obtain ⟨pre, m, hm, rfl, hK, hsz, He, hV⟩ := hrel
    have HK := Lib.hid hK
    have HV := Lib.hid hV
    have Hl : RowKit.Hid (pre.length ≤ 9) := Lib.hid (by have := encN_9 Hn.out; rw [He.out, List.length_append] at this; omega)
    clear hK hV
    by_cases h : m < 128
    · have h1 : ¬ (128 : Int) ≤ m := by omega
      have e8 : ((UInt8.ofNat m).toNat : Int) = m := by simp; omega
      obtain ⟨v2, w2, hr, ho, hk2⟩ := append_byte (P := Tryz.prog) Tryz.underlying156 info_u8 w.heap.size u0 _ pre wr w HV.out (UInt8.ofNat m) (by have := Hl.out; omega) hsz HK.out (Nat.le_refl _)
      rw [e8] at hr
      have Hr := Lib.hid hr
      have Ho := Lib.hid ho
      have Hk2 := Lib.hid hk2
      have Ee := Lib.hid (encN_small h)
      clear hr ho hk2 h e8
      go_wp2_with ((at_builtin; refine wpList_append_run Hr.out rfl rfl rfl rfl ?_))
      go_ret
      refine ⟨_, rfl, Hk2.out, ?_⟩
      have e : encN n = pre ++ [UInt8.ofNat m] := by rw [He.out, Ee.out]
      have e2 : (pre ++ [UInt8.ofNat m]).length = pre.length + 1 := by simp
      rw [e]; unfold OwnBytes; rw [e2]; exact Ho.out
    · have h1 : (128 : Int) ≤ m := by omega
      have e8 : ((UInt8.ofNat (m % 128 + 128)).toNat : Int) = (m : Int) % 128 + 128 := by simp; omega
      obtain ⟨v2, w2, hr, ho, hk2⟩ := append_byte (P := Tryz.prog) Tryz.underlying156 info_u8 w.heap.size u0 _ pre wr w HV.out (UInt8.ofNat (m % 128 + 128)) (by have := Hl.out; omega) hsz HK.out (Nat.le_refl _)
      rw [e8] at hr
      have Hr := Lib.hid hr
      have Ho := Lib.hid ho
      have Hk2 := Lib.hid hk2
      have hsz2 := hk2.size
      have Ee := Lib.hid (encN_big h)
      clear hr ho hk2 h e8
      go_wp2_with ((at_builtin; refine wpList_append_run Hr.out rfl rfl rfl rfl ?_))
      refine ⟨⟨pre ++ [UInt8.ofNat (m % 128 + 128)], m / 128, by omega, by rw [show ((m / 128 : Nat) : Int) = (m : Int) / 128 by omega], Hk2.out, by omega, Lib.hid (by rw [He.out, Ee.out]; simp), ?_⟩, by simp [intOf]; omega⟩
      have e2 : (pre ++ [UInt8.ofNat (m % 128 + 128)]).length = pre.length + 1 := by simp
      unfold OwnBytes; rw [e2]; exact Ho.out
/-- a number's bytes -/
theorem wnum_any (n : Int) (w : World) (hn : -9223372036854775808 ≤ n ∧ n ≤ 9223372036854775807) :
    Calls Tryz.prog 132 #[.int .i64 n] w fun e w' => e = .returned (if 0 ≤ n ∧ n ≤ 4611686018427387903 then .tuple #[.string ⟨(encN n.toNat).toArray⟩, .int .i64 0] else .tuple #[.string ⟨#[]⟩, .int .i64 31]) ∧ Keep w w' := by
  by_cases h : 0 ≤ n ∧ n ≤ 4611686018427387903
  · rw [if_pos h]
    obtain ⟨h1, h2⟩ := h
    have h3 : ¬ n < 0 := by omega
    have h4 : ¬ 4611686018427387903 < n := by omega
    obtain ⟨m, rfl⟩ : ∃ m : Nat, n = m := ⟨n.toNat, by omega⟩
    have hm : m < 9223372036854775808 := by omega
    clear h2 hn
    go_enter Tryz.func132, Tryz.ntmps132
    go_wp2_with fail
    refine (put_any m hm _).mono ?_
    rintro e w1 ⟨v, rfl, hk, ho⟩
    have hr := run_str_own ho
    have Hk := Lib.hid hk
    clear ho hk
    go_wp2_with fail
    go_ret2
    exact ⟨rfl, Hk.out⟩
  · rw [if_neg h]
    have h5 : n < 0 ∨ 4611686018427387903 < n := by omega
    clear h
    by_cases h1 : n < 0
    · go_enter Tryz.func132, Tryz.ntmps132
      go_wp2_with fail
      go_ret2
      exact ⟨rfl, Mod.refl _ _⟩
    · have h2 : 4611686018427387903 < n := by omega
      clear h5
      go_enter Tryz.func132, Tryz.ntmps132
      go_wp2_with fail
      go_ret2
      exact ⟨rfl, Mod.refl _ _⟩
theorem wnum_ok (n : Nat) (w : World) (hn : n ≤ 4611686018427387903) :
    Calls Tryz.prog 132 #[.int .i64 (n : Int)] w fun e w' => e = .returned (.tuple #[.string ⟨(encN n).toArray⟩, .int .i64 0]) ∧ Keep w w' := by
  refine (wnum_any n w (by omega)).mono fun e w' ⟨h1, h2⟩ => ⟨?_, h2⟩
  rw [if_pos (by omega)] at h1
  rw [h1, Int.toNat_natCast]
/-- a text's bytes -/
theorem text_bool {a : Nat} (h : a ≤ 65536) : decide ((65536 : Int) < (a : Int)) = false := by
  rw [decide_eq_false_iff_not]; omega
set_option maxRecDepth 100000 in
theorem wtext_any (s : List UInt8) (w : World) (hs : s.length ≤ 65536) :
    Calls Tryz.prog 133 #[.string ⟨s.toArray⟩] w fun e w' => e = .returned (.tuple #[.string ⟨(encN s.length ++ s).toArray⟩, .int .i64 0]) ∧ Keep w w' := by
  have h1 : ¬ (65536 : Int) < s.length := by omega
  have Hm : RowKit.Hid (s.length < 9223372036854775808) := Lib.hid (by omega)
  have h2 : (s.length : Int) ≤ 9223372036854775807 := by omega
  clear hs
  go_enter Tryz.func133, Tryz.ntmps133
  go_wp2_with fail
  refine (put_any s.length Hm.out _).mono ?_
  rintro e w1 ⟨v, rfl, hk, ho⟩
  have hr := run_str_own ho
  have Hk := Lib.hid hk
  clear ho hk
  have hb : ¬ 9223372036854775807 < (encN s.length).length + s.length := by have := encN_9 Hm.out; omega
  go_wp2_with fail
  go_ret2
  exact ⟨rfl, Hk.out⟩
end Go.Proofs.YthmpblccplphfaaGreatDoor
