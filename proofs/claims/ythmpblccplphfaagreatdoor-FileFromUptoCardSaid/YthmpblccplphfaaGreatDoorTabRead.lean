/-
  wire.Reader: what was laid is read.
  tables.ParseEntries: what was laid is read.
-/
import Derived.Test.YthmpblccplphfaaGreatDoorWirePut
import Derived.Test.YthmpblccplphfaaGreatDoorBuilderStr
import Derived.Test.YthmpblccplphfaaGreatDoorStr1
import Derived.Test.YthmpblccplphfaaGreatDoorFilTold
namespace Go.Proofs.YthmpblccplphfaaGreatDoor
section
open Go.RowKit
/-- a reader that stands ahead of s -/
abbrev IsRd (w : World) (r : Nat) (s : List UInt8) : Prop := World.blk w r #[.string ⟨s.toArray⟩, .nilIface] 191
set_option maxRecDepth 100000 in
set_option maxHeartbeats 1000000 in
theorem rdnew_any (s : List UInt8) (w : World) : Calls Tryz.prog 111 #[.string ⟨s.toArray⟩] w fun e w' => e = .returned (.pointer (some ⟨w.heap.size, 0, none⟩)) ∧ IsRd w' w.heap.size s ∧ Keep w w' := by
  go_enter Tryz.func111, Tryz.ntmps111
  go_wp2_with fail
  go_ret
  exact ⟨rfl, blk_new _ _ _, (Mod.refl _ _).alloc _⟩
theorem or_add (a b s : Nat) (ha : a < 2 ^ s) (hb : a + b * 2 ^ s < 9223372036854775808) : bits .or .i64 (a : Int) ((b * 2 ^ s : Nat) : Int) = ((a + b * 2 ^ s : Nat) : Int) := by
  have e := Nat.two_pow_add_eq_or_of_lt ha b
  rw [Nat.mul_comm, Nat.or_comm] at e
  have e1 : (BitVec.ofInt 64 (a : Int) ||| BitVec.ofInt 64 ((b * 2 ^ s : Nat) : Int)).toNat = a + b * 2 ^ s := by
    rw [BitVec.ofInt_natCast, BitVec.ofInt_natCast, BitVec.toNat_or, BitVec.toNat_ofNat, BitVec.toNat_ofNat, Nat.mod_eq_of_lt (by omega), Nat.mod_eq_of_lt (by omega), ← e]
    omega
  show IntKind.i64.wrap (((BitVec.ofInt 64 (a : Int) ||| BitVec.ofInt 64 ((b * 2 ^ s : Nat) : Int)).toNat : Nat) : Int) = _
  rw [e1, IntKind.wrap_i64]
  omega
theorem List.drop_append_of_le_length' {a : List UInt8} {x : UInt8} {r : List UInt8} {k : Nat} (h : a.length + 1 = k) : (a ++ ([x] ++ r)).drop k = r := by
  subst h
  rw [← List.append_assoc, List.drop_append]
  simp
set_option maxRecDepth 100000 in
set_option maxHeartbeats 4000000 in
theorem rnum_ok (n : Nat) (rest : List UInt8) (most : Int) (r : Nat) (w : World) (h : IsRd w r (encN n ++ rest)) (hn : n ≤ 4611686018427387903) (hm : (n : Int) ≤ most) (hr : rest.length ≤ 1000000) :
    Calls Tryz.prog 112 #[.pointer (some ⟨r, 0, none⟩), .int .i64 most] w fun e w' => e = .returned (.tuple #[.int .i64 (n : Int), .int .i64 0]) ∧ IsRd w' r rest ∧ Mod (· = r) w w' := by
  have H := Lib.hid h
  have c0 : w.cell? ⟨r, 0, none⟩ = some (.string ⟨(encN n ++ rest).toArray⟩) := blk_cell h 0
  have c1 : w.cell? ⟨r, 1, none⟩ = some .nilIface := blk_cell h 1
  have f0 : w.frozen? ⟨r, 0, none⟩ = false := blk_free h _ rfl
  obtain ⟨L, hL⟩ : ∃ L, encN n ++ rest = L := ⟨_, rfl⟩
  have hLl : (L.length : Int) ≤ 9223372036854775807 := by rw [← hL, List.length_append]; have := encN_9 (n := n) (by omega); omega
  rw [hL] at c0 H
  have HL := Lib.hid hL
  have Hn := Lib.hid hn
  have Hm := Lib.hid hm
  clear h hL hn hm
  go_enter Tryz.func112, Tryz.ntmps112
  go_wp2_with fail
  go_loop [6, 7, 8] (fun a o i => ∃ (k acc m : Nat) (pre : List UInt8), k ≤ 8 ∧ i = .int .i64 (k : Int) ∧ a = .int .i64 (acc : Int) ∧ o = .bool false ∧ RowKit.Hid (encN n = pre ++ encN m ∧ pre.length = k ∧ n = acc + 128 ^ k * m ∧ acc < 128 ^ k ∧ (k ≠ 0 → m ≠ 0))) (fun _ _ i => (9 - intOf i).toNat)
  case atStart => exact ⟨0, 0, n, [], by omega, rfl, rfl, rfl, Lib.hid ⟨rfl, rfl, by omega, by omega, fun h => absurd rfl h⟩⟩
  case round =>
    obtain ⟨k, acc, m, pre, hk, rfl, rfl, rfl, HH⟩ := hrel
    rcases (by omega : k = 0 ∨ k = 1 ∨ k = 2 ∨ k = 3 ∨ k = 4 ∨ k = 5 ∨ k = 6 ∨ k = 7 ∨ k = 8) with rfl | rfl | rfl | rfl | rfl | rfl | rfl | rfl | rfl
    · -- digit 0
      obtain ⟨c, hc, hcm⟩ : ∃ c : Nat, c < 256 ∧ c = (if m < 128 then m else m % 128 + 128) := ⟨_, by split <;> omega, rfl⟩
      have hget : L[0]? = some (UInt8.ofNat c) := by
        rw [← HL.out, HH.out.1, List.append_assoc, List.getElem?_append_right (by have := HH.out.2.1; omega)]
        have := HH.out.2.1
        rw [this, hcm]
        by_cases hlt : m < 128
        · rw [encN_small hlt, if_pos hlt]; rfl
        · rw [encN_big hlt, if_neg hlt]; rfl
      have hLL : (0 : Nat) < L.length := (List.getElem?_eq_some_iff.1 hget).1
      have hl : ((0 : Int) == (L.length : Int)) = false := by rw [beq_eq_false_iff_ne]; omega
      have hix : ∀ W, (Instr.index 9 (.string ⟨L.toArray⟩) (.int .i64 0)).run Tryz.prog W = .ok (.int .u8 (c : Int)) W := fun W => by
        have h := run_index_str Tryz.underlying9 L .i64 0 (UInt8.ofNat c) (by omega) hget W
        have e8 : ((UInt8.ofNat c).toNat : Int) = c := by simp; omega
        rw [e8] at h; exact h
      obtain ⟨V, hV⟩ : ∃ V : Nat, V = acc + c % 128 := ⟨_, rfl⟩
      have hnv : V ≤ n ∧ (m < 128 → V = n) ∧ (¬ m < 128 → n = V + 128 * (m / 128) ∧ V < 128) := by
        have h1 := HH.out.2.2.1
        have h2 := HH.out.2.2.2.1
        simp only [Nat.reducePow] at h1 h2
        rw [hV, hcm]
        refine ⟨?_, fun h => ?_, fun h => ?_⟩
        · split <;> omega
        · rw [if_pos h]; omega
        · rw [if_neg h]; omega
      have hor : bits .or .i64 (acc : Int) ((c : Int) % 128) = (V : Int) := by
        have h := or_add acc (c % 128) 0 (by have := HH.out.2.2.2.1; simpa using this) (by have h1 := hnv.1; have h2 := Hn.out; rw [hV] at h1; simp only [Nat.reducePow]; omega)
        rw [hV]
        have e : ((c : Int) % 128) = ((c % 128 * 2 ^ 0 : Nat) : Int) := by simp only [Nat.reducePow]; omega
        rw [e, h]
        simp only [Nat.reducePow, Nat.mul_one]
      have hor0 : bits .or .i64 (acc : Int) 0 = bits .or .i64 (acc : Int) 0 := rfl
      have hV1 : ¬ (4611686018427387903 : Int) < (V : Int) := by have := hnv.1; have := Hn.out; omega
      have hV0 : ¬ (V : Int) < 0 := by omega
      have hVm : ¬ most < (V : Int) := by have := hnv.1; have := Hm.out; omega
      have HV := Lib.hid hnv
      have Hcm := Lib.hid hcm
      clear hV hnv hcm hget hor0
      rcases Bool.eq_false_or_eq_true ((c : Int) == 0) with hm0 | hm0
      all_goals
        by_cases hlt : m < 128
        · have hc128 : ¬ (128 : Int) ≤ c := by have := Hcm.out; rw [if_pos hlt] at this; omega
          have hVn : RowKit.Hid (V = n) := Lib.hid (HV.out.2.1 hlt)
          have hdr : RowKit.Hid (L.drop 1 = rest) := Lib.hid (by
            rw [← HL.out, HH.out.1, encN_small hlt, List.append_assoc, List.drop_append_of_le_length' (by have := HH.out.2.1; omega)])
          clear hlt
          go_wp2_with fail
          go_ret2
          refine ⟨by rw [← hVn.out]; rfl, ?_, (Mod.refl (fun x => x = r) w).setCell (p := ⟨r, 0, none⟩) (.inl rfl) _⟩
          rw [← hdr.out]
          have e : L.drop 1 = L.tail.take (L.length - 1) := by rw [List.take_of_length_le (by simp)]; simp
          rw [e]
          exact blk_set H.out 0 _
        · have hc128 : (128 : Int) ≤ c := by have := Hcm.out; rw [if_neg hlt] at this; omega
          have HH2 : RowKit.Hid (encN n = (pre ++ [UInt8.ofNat (m % 128 + 128)]) ++ encN (m / 128) ∧ (pre ++ [UInt8.ofNat (m % 128 + 128)]).length = 1 ∧ n = V + 128 ^ 1 * (m / 128) ∧ V < 128 ^ 1 ∧ (1 ≠ 0 → m / 128 ≠ 0)) := Lib.hid ⟨by rw [HH.out.1, encN_big hlt]; simp, by rw [List.length_append, HH.out.2.1]; rfl, by have := (HV.out.2.2 hlt).1; simp only [Nat.reducePow]; exact this, by have := (HV.out.2.2 hlt).2; simp only [Nat.reducePow]; exact this, fun _ => by omega⟩
          clear hlt
          go_wp2_with fail
          exact ⟨⟨1, V, m / 128, _, by omega, rfl, rfl, rfl, HH2⟩, by decide⟩
    · -- digit 1
      obtain ⟨c, hc, hcm⟩ : ∃ c : Nat, c < 256 ∧ c = (if m < 128 then m else m % 128 + 128) := ⟨_, by split <;> omega, rfl⟩
      have hget : L[1]? = some (UInt8.ofNat c) := by
        rw [← HL.out, HH.out.1, List.append_assoc, List.getElem?_append_right (by have := HH.out.2.1; omega)]
        have := HH.out.2.1
        rw [this, hcm]
        by_cases hlt : m < 128
        · rw [encN_small hlt, if_pos hlt]; rfl
        · rw [encN_big hlt, if_neg hlt]; rfl
      have hLL : (1 : Nat) < L.length := (List.getElem?_eq_some_iff.1 hget).1
      have hl : ((1 : Int) == (L.length : Int)) = false := by rw [beq_eq_false_iff_ne]; omega
      have hix : ∀ W, (Instr.index 9 (.string ⟨L.toArray⟩) (.int .i64 1)).run Tryz.prog W = .ok (.int .u8 (c : Int)) W := fun W => by
        have h := run_index_str Tryz.underlying9 L .i64 1 (UInt8.ofNat c) (by omega) hget W
        have e8 : ((UInt8.ofNat c).toNat : Int) = c := by simp; omega
        rw [e8] at h; exact h
      have hm0 : ((c : Int) == 0) = false := by
        rw [beq_eq_false_iff_ne]; have := HH.out.2.2.2.2 (by omega); rw [hcm]; split <;> omega
      obtain ⟨V, hV⟩ : ∃ V : Nat, V = acc + c % 128 * 128 := ⟨_, rfl⟩
      have hnv : V ≤ n ∧ (m < 128 → V = n) ∧ (¬ m < 128 → n = V + 16384 * (m / 128) ∧ V < 16384) := by
        have h1 := HH.out.2.2.1
        have h2 := HH.out.2.2.2.1
        simp only [Nat.reducePow] at h1 h2
        rw [hV, hcm]
        refine ⟨?_, fun h => ?_, fun h => ?_⟩
        · split <;> omega
        · rw [if_pos h]; omega
        · rw [if_neg h]; omega
      have hor : bits .or .i64 (acc : Int) ((c : Int) % 128 * 128) = (V : Int) := by
        have h := or_add acc (c % 128) 7 (by have := HH.out.2.2.2.1; simpa using this) (by have h1 := hnv.1; have h2 := Hn.out; rw [hV] at h1; simp only [Nat.reducePow]; omega)
        rw [hV]
        have e : ((c : Int) % 128 * 128) = ((c % 128 * 2 ^ 7 : Nat) : Int) := by simp only [Nat.reducePow]; omega
        rw [e, h]
      skip
      have hV1 : ¬ (4611686018427387903 : Int) < (V : Int) := by have := hnv.1; have := Hn.out; omega
      have hV0 : ¬ (V : Int) < 0 := by omega
      have hVm : ¬ most < (V : Int) := by have := hnv.1; have := Hm.out; omega
      have HV := Lib.hid hnv
      have Hcm := Lib.hid hcm
      clear hV hnv hcm hget 
      by_cases hlt : m < 128
      · have hc128 : ¬ (128 : Int) ≤ c := by have := Hcm.out; rw [if_pos hlt] at this; omega
        have hVn : RowKit.Hid (V = n) := Lib.hid (HV.out.2.1 hlt)
        have hdr : RowKit.Hid (L.drop 2 = rest) := Lib.hid (by
          rw [← HL.out, HH.out.1, encN_small hlt, List.append_assoc, List.drop_append_of_le_length' (by have := HH.out.2.1; omega)])
        clear hlt
        go_wp2_with fail
        go_ret2
        refine ⟨by rw [← hVn.out]; rfl, ?_, (Mod.refl (fun x => x = r) w).setCell (p := ⟨r, 0, none⟩) (.inl rfl) _⟩
        rw [← hdr.out]
        exact blk_set H.out 0 _
      · have hc128 : (128 : Int) ≤ c := by have := Hcm.out; rw [if_neg hlt] at this; omega
        have HH2 : RowKit.Hid (encN n = (pre ++ [UInt8.ofNat (m % 128 + 128)]) ++ encN (m / 128) ∧ (pre ++ [UInt8.ofNat (m % 128 + 128)]).length = 2 ∧ n = V + 128 ^ 2 * (m / 128) ∧ V < 128 ^ 2 ∧ (2 ≠ 0 → m / 128 ≠ 0)) := Lib.hid ⟨by rw [HH.out.1, encN_big hlt]; simp, by rw [List.length_append, HH.out.2.1]; rfl, by have := (HV.out.2.2 hlt).1; simp only [Nat.reducePow]; exact this, by have := (HV.out.2.2 hlt).2; simp only [Nat.reducePow]; exact this, fun _ => by omega⟩
        clear hlt
        go_wp2_with fail
        exact ⟨⟨2, V, m / 128, _, by omega, rfl, rfl, rfl, HH2⟩, by decide⟩
    · -- digit 2
      obtain ⟨c, hc, hcm⟩ : ∃ c : Nat, c < 256 ∧ c = (if m < 128 then m else m % 128 + 128) := ⟨_, by split <;> omega, rfl⟩
      have hget : L[2]? = some (UInt8.ofNat c) := by
        rw [← HL.out, HH.out.1, List.append_assoc, List.getElem?_append_right (by have := HH.out.2.1; omega)]
        have := HH.out.2.1
        rw [this, hcm]
        by_cases hlt : m < 128
        · rw [encN_small hlt, if_pos hlt]; rfl
        · rw [encN_big hlt, if_neg hlt]; rfl
      have hLL : (2 : Nat) < L.length := (List.getElem?_eq_some_iff.1 hget).1
      have hl : ((2 : Int) == (L.length : Int)) = false := by rw [beq_eq_false_iff_ne]; omega
      have hix : ∀ W, (Instr.index 9 (.string ⟨L.toArray⟩) (.int .i64 2)).run Tryz.prog W = .ok (.int .u8 (c : Int)) W := fun W => by
        have h := run_index_str Tryz.underlying9 L .i64 2 (UInt8.ofNat c) (by omega) hget W
        have e8 : ((UInt8.ofNat c).toNat : Int) = c := by simp; omega
        rw [e8] at h; exact h
      have hm0 : ((c : Int) == 0) = false := by
        rw [beq_eq_false_iff_ne]; have := HH.out.2.2.2.2 (by omega); rw [hcm]; split <;> omega
      obtain ⟨V, hV⟩ : ∃ V : Nat, V = acc + c % 128 * 16384 := ⟨_, rfl⟩
      have hnv : V ≤ n ∧ (m < 128 → V = n) ∧ (¬ m < 128 → n = V + 2097152 * (m / 128) ∧ V < 2097152) := by
        have h1 := HH.out.2.2.1
        have h2 := HH.out.2.2.2.1
        simp only [Nat.reducePow] at h1 h2
        rw [hV, hcm]
        refine ⟨?_, fun h => ?_, fun h => ?_⟩
        · split <;> omega
        · rw [if_pos h]; omega
        · rw [if_neg h]; omega
      have hor : bits .or .i64 (acc : Int) ((c : Int) % 128 * 16384) = (V : Int) := by
        have h := or_add acc (c % 128) 14 (by have := HH.out.2.2.2.1; simpa using this) (by have h1 := hnv.1; have h2 := Hn.out; rw [hV] at h1; simp only [Nat.reducePow]; omega)
        rw [hV]
        have e : ((c : Int) % 128 * 16384) = ((c % 128 * 2 ^ 14 : Nat) : Int) := by simp only [Nat.reducePow]; omega
        rw [e, h]
      skip
      have hV1 : ¬ (4611686018427387903 : Int) < (V : Int) := by have := hnv.1; have := Hn.out; omega
      have hV0 : ¬ (V : Int) < 0 := by omega
      have hVm : ¬ most < (V : Int) := by have := hnv.1; have := Hm.out; omega
      have HV := Lib.hid hnv
      have Hcm := Lib.hid hcm
      clear hV hnv hcm hget 
      by_cases hlt : m < 128
      · have hc128 : ¬ (128 : Int) ≤ c := by have := Hcm.out; rw [if_pos hlt] at this; omega
        have hVn : RowKit.Hid (V = n) := Lib.hid (HV.out.2.1 hlt)
        have hdr : RowKit.Hid (L.drop 3 = rest) := Lib.hid (by
          rw [← HL.out, HH.out.1, encN_small hlt, List.append_assoc, List.drop_append_of_le_length' (by have := HH.out.2.1; omega)])
        clear hlt
        go_wp2_with fail
        go_ret2
        refine ⟨by rw [← hVn.out]; rfl, ?_, (Mod.refl (fun x => x = r) w).setCell (p := ⟨r, 0, none⟩) (.inl rfl) _⟩
        rw [← hdr.out]
        exact blk_set H.out 0 _
      · have hc128 : (128 : Int) ≤ c := by have := Hcm.out; rw [if_neg hlt] at this; omega
        have HH2 : RowKit.Hid (encN n = (pre ++ [UInt8.ofNat (m % 128 + 128)]) ++ encN (m / 128) ∧ (pre ++ [UInt8.ofNat (m % 128 + 128)]).length = 3 ∧ n = V + 128 ^ 3 * (m / 128) ∧ V < 128 ^ 3 ∧ (3 ≠ 0 → m / 128 ≠ 0)) := Lib.hid ⟨by rw [HH.out.1, encN_big hlt]; simp, by rw [List.length_append, HH.out.2.1]; rfl, by have := (HV.out.2.2 hlt).1; simp only [Nat.reducePow]; exact this, by have := (HV.out.2.2 hlt).2; simp only [Nat.reducePow]; exact this, fun _ => by omega⟩
        clear hlt
        go_wp2_with fail
        exact ⟨⟨3, V, m / 128, _, by omega, rfl, rfl, rfl, HH2⟩, by decide⟩
    · -- digit 3
      obtain ⟨c, hc, hcm⟩ : ∃ c : Nat, c < 256 ∧ c = (if m < 128 then m else m % 128 + 128) := ⟨_, by split <;> omega, rfl⟩
      have hget : L[3]? = some (UInt8.ofNat c) := by
        rw [← HL.out, HH.out.1, List.append_assoc, List.getElem?_append_right (by have := HH.out.2.1; omega)]
        have := HH.out.2.1
        rw [this, hcm]
        by_cases hlt : m < 128
        · rw [encN_small hlt, if_pos hlt]; rfl
        · rw [encN_big hlt, if_neg hlt]; rfl
      have hLL : (3 : Nat) < L.length := (List.getElem?_eq_some_iff.1 hget).1
      have hl : ((3 : Int) == (L.length : Int)) = false := by rw [beq_eq_false_iff_ne]; omega
      have hix : ∀ W, (Instr.index 9 (.string ⟨L.toArray⟩) (.int .i64 3)).run Tryz.prog W = .ok (.int .u8 (c : Int)) W := fun W => by
        have h := run_index_str Tryz.underlying9 L .i64 3 (UInt8.ofNat c) (by omega) hget W
        have e8 : ((UInt8.ofNat c).toNat : Int) = c := by simp; omega
        rw [e8] at h; exact h
      have hm0 : ((c : Int) == 0) = false := by
        rw [beq_eq_false_iff_ne]; have := HH.out.2.2.2.2 (by omega); rw [hcm]; split <;> omega
      obtain ⟨V, hV⟩ : ∃ V : Nat, V = acc + c % 128 * 2097152 := ⟨_, rfl⟩
      have hnv : V ≤ n ∧ (m < 128 → V = n) ∧ (¬ m < 128 → n = V + 268435456 * (m / 128) ∧ V < 268435456) := by
        have h1 := HH.out.2.2.1
        have h2 := HH.out.2.2.2.1
        simp only [Nat.reducePow] at h1 h2
        rw [hV, hcm]
        refine ⟨?_, fun h => ?_, fun h => ?_⟩
        · split <;> omega
        · rw [if_pos h]; omega
        · rw [if_neg h]; omega
      have hor : bits .or .i64 (acc : Int) ((c : Int) % 128 * 2097152) = (V : Int) := by
        have h := or_add acc (c % 128) 21 (by have := HH.out.2.2.2.1; simpa using this) (by have h1 := hnv.1; have h2 := Hn.out; rw [hV] at h1; simp only [Nat.reducePow]; omega)
        rw [hV]
        have e : ((c : Int) % 128 * 2097152) = ((c % 128 * 2 ^ 21 : Nat) : Int) := by simp only [Nat.reducePow]; omega
        rw [e, h]
      skip
      have hV1 : ¬ (4611686018427387903 : Int) < (V : Int) := by have := hnv.1; have := Hn.out; omega
      have hV0 : ¬ (V : Int) < 0 := by omega
      have hVm : ¬ most < (V : Int) := by have := hnv.1; have := Hm.out; omega
      have HV := Lib.hid hnv
      have Hcm := Lib.hid hcm
      clear hV hnv hcm hget 
      by_cases hlt : m < 128
      · have hc128 : ¬ (128 : Int) ≤ c := by have := Hcm.out; rw [if_pos hlt] at this; omega
        have hVn : RowKit.Hid (V = n) := Lib.hid (HV.out.2.1 hlt)
        have hdr : RowKit.Hid (L.drop 4 = rest) := Lib.hid (by
          rw [← HL.out, HH.out.1, encN_small hlt, List.append_assoc, List.drop_append_of_le_length' (by have := HH.out.2.1; omega)])
        clear hlt
        go_wp2_with fail
        go_ret2
        refine ⟨by rw [← hVn.out]; rfl, ?_, (Mod.refl (fun x => x = r) w).setCell (p := ⟨r, 0, none⟩) (.inl rfl) _⟩
        rw [← hdr.out]
        exact blk_set H.out 0 _
      · have hc128 : (128 : Int) ≤ c := by have := Hcm.out; rw [if_neg hlt] at this; omega
        have HH2 : RowKit.Hid (encN n = (pre ++ [UInt8.ofNat (m % 128 + 128)]) ++ encN (m / 128) ∧ (pre ++ [UInt8.ofNat (m % 128 + 128)]).length = 4 ∧ n = V + 128 ^ 4 * (m / 128) ∧ V < 128 ^ 4 ∧ (4 ≠ 0 → m / 128 ≠ 0)) := Lib.hid ⟨by rw [HH.out.1, encN_big hlt]; simp, by rw [List.length_append, HH.out.2.1]; rfl, by have := (HV.out.2.2 hlt).1; simp only [Nat.reducePow]; exact this, by have := (HV.out.2.2 hlt).2; simp only [Nat.reducePow]; exact this, fun _ => by omega⟩
        clear hlt
        go_wp2_with fail
        exact ⟨⟨4, V, m / 128, _, by omega, rfl, rfl, rfl, HH2⟩, by decide⟩
    · -- digit 4
      obtain ⟨c, hc, hcm⟩ : ∃ c : Nat, c < 256 ∧ c = (if m < 128 then m else m % 128 + 128) := ⟨_, by split <;> omega, rfl⟩
      have hget : L[4]? = some (UInt8.ofNat c) := by
        rw [← HL.out, HH.out.1, List.append_assoc, List.getElem?_append_right (by have := HH.out.2.1; omega)]
        have := HH.out.2.1
        rw [this, hcm]
        by_cases hlt : m < 128
        · rw [encN_small hlt, if_pos hlt]; rfl
        · rw [encN_big hlt, if_neg hlt]; rfl
      have hLL : (4 : Nat) < L.length := (List.getElem?_eq_some_iff.1 hget).1
      have hl : ((4 : Int) == (L.length : Int)) = false := by rw [beq_eq_false_iff_ne]; omega
      have hix : ∀ W, (Instr.index 9 (.string ⟨L.toArray⟩) (.int .i64 4)).run Tryz.prog W = .ok (.int .u8 (c : Int)) W := fun W => by
        have h := run_index_str Tryz.underlying9 L .i64 4 (UInt8.ofNat c) (by omega) hget W
        have e8 : ((UInt8.ofNat c).toNat : Int) = c := by simp; omega
        rw [e8] at h; exact h
      have hm0 : ((c : Int) == 0) = false := by
        rw [beq_eq_false_iff_ne]; have := HH.out.2.2.2.2 (by omega); rw [hcm]; split <;> omega
      obtain ⟨V, hV⟩ : ∃ V : Nat, V = acc + c % 128 * 268435456 := ⟨_, rfl⟩
      have hnv : V ≤ n ∧ (m < 128 → V = n) ∧ (¬ m < 128 → n = V + 34359738368 * (m / 128) ∧ V < 34359738368) := by
        have h1 := HH.out.2.2.1
        have h2 := HH.out.2.2.2.1
        simp only [Nat.reducePow] at h1 h2
        rw [hV, hcm]
        refine ⟨?_, fun h => ?_, fun h => ?_⟩
        · split <;> omega
        · rw [if_pos h]; omega
        · rw [if_neg h]; omega
      have hor : bits .or .i64 (acc : Int) ((c : Int) % 128 * 268435456) = (V : Int) := by
        have h := or_add acc (c % 128) 28 (by have := HH.out.2.2.2.1; simpa using this) (by have h1 := hnv.1; have h2 := Hn.out; rw [hV] at h1; simp only [Nat.reducePow]; omega)
        rw [hV]
        have e : ((c : Int) % 128 * 268435456) = ((c % 128 * 2 ^ 28 : Nat) : Int) := by simp only [Nat.reducePow]; omega
        rw [e, h]
      skip
      have hV1 : ¬ (4611686018427387903 : Int) < (V : Int) := by have := hnv.1; have := Hn.out; omega
      have hV0 : ¬ (V : Int) < 0 := by omega
      have hVm : ¬ most < (V : Int) := by have := hnv.1; have := Hm.out; omega
      have HV := Lib.hid hnv
      have Hcm := Lib.hid hcm
      clear hV hnv hcm hget 
      by_cases hlt : m < 128
      · have hc128 : ¬ (128 : Int) ≤ c := by have := Hcm.out; rw [if_pos hlt] at this; omega
        have hVn : RowKit.Hid (V = n) := Lib.hid (HV.out.2.1 hlt)
        have hdr : RowKit.Hid (L.drop 5 = rest) := Lib.hid (by
          rw [← HL.out, HH.out.1, encN_small hlt, List.append_assoc, List.drop_append_of_le_length' (by have := HH.out.2.1; omega)])
        clear hlt
        go_wp2_with fail
        go_ret2
        refine ⟨by rw [← hVn.out]; rfl, ?_, (Mod.refl (fun x => x = r) w).setCell (p := ⟨r, 0, none⟩) (.inl rfl) _⟩
        rw [← hdr.out]
        exact blk_set H.out 0 _
      · have hc128 : (128 : Int) ≤ c := by have := Hcm.out; rw [if_neg hlt] at this; omega
        have HH2 : RowKit.Hid (encN n = (pre ++ [UInt8.ofNat (m % 128 + 128)]) ++ encN (m / 128) ∧ (pre ++ [UInt8.ofNat (m % 128 + 128)]).length = 5 ∧ n = V + 128 ^ 5 * (m / 128) ∧ V < 128 ^ 5 ∧ (5 ≠ 0 → m / 128 ≠ 0)) := Lib.hid ⟨by rw [HH.out.1, encN_big hlt]; simp, by rw [List.length_append, HH.out.2.1]; rfl, by have := (HV.out.2.2 hlt).1; simp only [Nat.reducePow]; exact this, by have := (HV.out.2.2 hlt).2; simp only [Nat.reducePow]; exact this, fun _ => by omega⟩
        clear hlt
        go_wp2_with fail
        exact ⟨⟨5, V, m / 128, _, by omega, rfl, rfl, rfl, HH2⟩, by decide⟩
    · -- digit 5
      obtain ⟨c, hc, hcm⟩ : ∃ c : Nat, c < 256 ∧ c = (if m < 128 then m else m % 128 + 128) := ⟨_, by split <;> omega, rfl⟩
      have hget : L[5]? = some (UInt8.ofNat c) := by
        rw [← HL.out, HH.out.1, List.append_assoc, List.getElem?_append_right (by have := HH.out.2.1; omega)]
        have := HH.out.2.1
        rw [this, hcm]
        by_cases hlt : m < 128
        · rw [encN_small hlt, if_pos hlt]; rfl
        · rw [encN_big hlt, if_neg hlt]; rfl
      have hLL : (5 : Nat) < L.length := (List.getElem?_eq_some_iff.1 hget).1
      have hl : ((5 : Int) == (L.length : Int)) = false := by rw [beq_eq_false_iff_ne]; omega
      have hix : ∀ W, (Instr.index 9 (.string ⟨L.toArray⟩) (.int .i64 5)).run Tryz.prog W = .ok (.int .u8 (c : Int)) W := fun W => by
        have h := run_index_str Tryz.underlying9 L .i64 5 (UInt8.ofNat c) (by omega) hget W
        have e8 : ((UInt8.ofNat c).toNat : Int) = c := by simp; omega
        rw [e8] at h; exact h
      have hm0 : ((c : Int) == 0) = false := by
        rw [beq_eq_false_iff_ne]; have := HH.out.2.2.2.2 (by omega); rw [hcm]; split <;> omega
      obtain ⟨V, hV⟩ : ∃ V : Nat, V = acc + c % 128 * 34359738368 := ⟨_, rfl⟩
      have hnv : V ≤ n ∧ (m < 128 → V = n) ∧ (¬ m < 128 → n = V + 4398046511104 * (m / 128) ∧ V < 4398046511104) := by
        have h1 := HH.out.2.2.1
        have h2 := HH.out.2.2.2.1
        simp only [Nat.reducePow] at h1 h2
        rw [hV, hcm]
        refine ⟨?_, fun h => ?_, fun h => ?_⟩
        · split <;> omega
        · rw [if_pos h]; omega
        · rw [if_neg h]; omega
      have hor : bits .or .i64 (acc : Int) ((c : Int) % 128 * 34359738368) = (V : Int) := by
        have h := or_add acc (c % 128) 35 (by have := HH.out.2.2.2.1; simpa using this) (by have h1 := hnv.1; have h2 := Hn.out; rw [hV] at h1; simp only [Nat.reducePow]; omega)
        rw [hV]
        have e : ((c : Int) % 128 * 34359738368) = ((c % 128 * 2 ^ 35 : Nat) : Int) := by simp only [Nat.reducePow]; omega
        rw [e, h]
      skip
      have hV1 : ¬ (4611686018427387903 : Int) < (V : Int) := by have := hnv.1; have := Hn.out; omega
      have hV0 : ¬ (V : Int) < 0 := by omega
      have hVm : ¬ most < (V : Int) := by have := hnv.1; have := Hm.out; omega
      have HV := Lib.hid hnv
      have Hcm := Lib.hid hcm
      clear hV hnv hcm hget 
      by_cases hlt : m < 128
      · have hc128 : ¬ (128 : Int) ≤ c := by have := Hcm.out; rw [if_pos hlt] at this; omega
        have hVn : RowKit.Hid (V = n) := Lib.hid (HV.out.2.1 hlt)
        have hdr : RowKit.Hid (L.drop 6 = rest) := Lib.hid (by
          rw [← HL.out, HH.out.1, encN_small hlt, List.append_assoc, List.drop_append_of_le_length' (by have := HH.out.2.1; omega)])
        clear hlt
        go_wp2_with fail
        go_ret2
        refine ⟨by rw [← hVn.out]; rfl, ?_, (Mod.refl (fun x => x = r) w).setCell (p := ⟨r, 0, none⟩) (.inl rfl) _⟩
        rw [← hdr.out]
        exact blk_set H.out 0 _
      · have hc128 : (128 : Int) ≤ c := by have := Hcm.out; rw [if_neg hlt] at this; omega
        have HH2 : RowKit.Hid (encN n = (pre ++ [UInt8.ofNat (m % 128 + 128)]) ++ encN (m / 128) ∧ (pre ++ [UInt8.ofNat (m % 128 + 128)]).length = 6 ∧ n = V + 128 ^ 6 * (m / 128) ∧ V < 128 ^ 6 ∧ (6 ≠ 0 → m / 128 ≠ 0)) := Lib.hid ⟨by rw [HH.out.1, encN_big hlt]; simp, by rw [List.length_append, HH.out.2.1]; rfl, by have := (HV.out.2.2 hlt).1; simp only [Nat.reducePow]; exact this, by have := (HV.out.2.2 hlt).2; simp only [Nat.reducePow]; exact this, fun _ => by omega⟩
        clear hlt
        go_wp2_with fail
        exact ⟨⟨6, V, m / 128, _, by omega, rfl, rfl, rfl, HH2⟩, by decide⟩
    · -- digit 6
      obtain ⟨c, hc, hcm⟩ : ∃ c : Nat, c < 256 ∧ c = (if m < 128 then m else m % 128 + 128) := ⟨_, by split <;> omega, rfl⟩
      have hget : L[6]? = some (UInt8.ofNat c) := by
        rw [← HL.out, HH.out.1, List.append_assoc, List.getElem?_append_right (by have := HH.out.2.1; omega)]
        have := HH.out.2.1
        rw [this, hcm]
        by_cases hlt : m < 128
        · rw [encN_small hlt, if_pos hlt]; rfl
        · rw [encN_big hlt, if_neg hlt]; rfl
      have hLL : (6 : Nat) < L.length := (List.getElem?_eq_some_iff.1 hget).1
      have hl : ((6 : Int) == (L.length : Int)) = false := by rw [beq_eq_false_iff_ne]; omega
      have hix : ∀ W, (Instr.index 9 (.string ⟨L.toArray⟩) (.int .i64 6)).run Tryz.prog W = .ok (.int .u8 (c : Int)) W := fun W => by
        have h := run_index_str Tryz.underlying9 L .i64 6 (UInt8.ofNat c) (by omega) hget W
        have e8 : ((UInt8.ofNat c).toNat : Int) = c := by simp; omega
        rw [e8] at h; exact h
      have hm0 : ((c : Int) == 0) = false := by
        rw [beq_eq_false_iff_ne]; have := HH.out.2.2.2.2 (by omega); rw [hcm]; split <;> omega
      obtain ⟨V, hV⟩ : ∃ V : Nat, V = acc + c % 128 * 4398046511104 := ⟨_, rfl⟩
      have hnv : V ≤ n ∧ (m < 128 → V = n) ∧ (¬ m < 128 → n = V + 562949953421312 * (m / 128) ∧ V < 562949953421312) := by
        have h1 := HH.out.2.2.1
        have h2 := HH.out.2.2.2.1
        simp only [Nat.reducePow] at h1 h2
        rw [hV, hcm]
        refine ⟨?_, fun h => ?_, fun h => ?_⟩
        · split <;> omega
        · rw [if_pos h]; omega
        · rw [if_neg h]; omega
      have hor : bits .or .i64 (acc : Int) ((c : Int) % 128 * 4398046511104) = (V : Int) := by
        have h := or_add acc (c % 128) 42 (by have := HH.out.2.2.2.1; simpa using this) (by have h1 := hnv.1; have h2 := Hn.out; rw [hV] at h1; simp only [Nat.reducePow]; omega)
        rw [hV]
        have e : ((c : Int) % 128 * 4398046511104) = ((c % 128 * 2 ^ 42 : Nat) : Int) := by simp only [Nat.reducePow]; omega
        rw [e, h]
      skip
      have hV1 : ¬ (4611686018427387903 : Int) < (V : Int) := by have := hnv.1; have := Hn.out; omega
      have hV0 : ¬ (V : Int) < 0 := by omega
      have hVm : ¬ most < (V : Int) := by have := hnv.1; have := Hm.out; omega
      have HV := Lib.hid hnv
      have Hcm := Lib.hid hcm
      clear hV hnv hcm hget 
      by_cases hlt : m < 128
      · have hc128 : ¬ (128 : Int) ≤ c := by have := Hcm.out; rw [if_pos hlt] at this; omega
        have hVn : RowKit.Hid (V = n) := Lib.hid (HV.out.2.1 hlt)
        have hdr : RowKit.Hid (L.drop 7 = rest) := Lib.hid (by
          rw [← HL.out, HH.out.1, encN_small hlt, List.append_assoc, List.drop_append_of_le_length' (by have := HH.out.2.1; omega)])
        clear hlt
        go_wp2_with fail
        go_ret2
        refine ⟨by rw [← hVn.out]; rfl, ?_, (Mod.refl (fun x => x = r) w).setCell (p := ⟨r, 0, none⟩) (.inl rfl) _⟩
        rw [← hdr.out]
        exact blk_set H.out 0 _
      · have hc128 : (128 : Int) ≤ c := by have := Hcm.out; rw [if_neg hlt] at this; omega
        have HH2 : RowKit.Hid (encN n = (pre ++ [UInt8.ofNat (m % 128 + 128)]) ++ encN (m / 128) ∧ (pre ++ [UInt8.ofNat (m % 128 + 128)]).length = 7 ∧ n = V + 128 ^ 7 * (m / 128) ∧ V < 128 ^ 7 ∧ (7 ≠ 0 → m / 128 ≠ 0)) := Lib.hid ⟨by rw [HH.out.1, encN_big hlt]; simp, by rw [List.length_append, HH.out.2.1]; rfl, by have := (HV.out.2.2 hlt).1; simp only [Nat.reducePow]; exact this, by have := (HV.out.2.2 hlt).2; simp only [Nat.reducePow]; exact this, fun _ => by omega⟩
        clear hlt
        go_wp2_with fail
        exact ⟨⟨7, V, m / 128, _, by omega, rfl, rfl, rfl, HH2⟩, by decide⟩
    · -- digit 7
      obtain ⟨c, hc, hcm⟩ : ∃ c : Nat, c < 256 ∧ c = (if m < 128 then m else m % 128 + 128) := ⟨_, by split <;> omega, rfl⟩
      have hget : L[7]? = some (UInt8.ofNat c) := by
        rw [← HL.out, HH.out.1, List.append_assoc, List.getElem?_append_right (by have := HH.out.2.1; omega)]
        have := HH.out.2.1
        rw [this, hcm]
        by_cases hlt : m < 128
        · rw [encN_small hlt, if_pos hlt]; rfl
        · rw [encN_big hlt, if_neg hlt]; rfl
      have hLL : (7 : Nat) < L.length := (List.getElem?_eq_some_iff.1 hget).1
      have hl : ((7 : Int) == (L.length : Int)) = false := by rw [beq_eq_false_iff_ne]; omega
      have hix : ∀ W, (Instr.index 9 (.string ⟨L.toArray⟩) (.int .i64 7)).run Tryz.prog W = .ok (.int .u8 (c : Int)) W := fun W => by
        have h := run_index_str Tryz.underlying9 L .i64 7 (UInt8.ofNat c) (by omega) hget W
        have e8 : ((UInt8.ofNat c).toNat : Int) = c := by simp; omega
        rw [e8] at h; exact h
      have hm0 : ((c : Int) == 0) = false := by
        rw [beq_eq_false_iff_ne]; have := HH.out.2.2.2.2 (by omega); rw [hcm]; split <;> omega
      obtain ⟨V, hV⟩ : ∃ V : Nat, V = acc + c % 128 * 562949953421312 := ⟨_, rfl⟩
      have hnv : V ≤ n ∧ (m < 128 → V = n) ∧ (¬ m < 128 → n = V + 72057594037927936 * (m / 128) ∧ V < 72057594037927936) := by
        have h1 := HH.out.2.2.1
        have h2 := HH.out.2.2.2.1
        simp only [Nat.reducePow] at h1 h2
        rw [hV, hcm]
        refine ⟨?_, fun h => ?_, fun h => ?_⟩
        · split <;> omega
        · rw [if_pos h]; omega
        · rw [if_neg h]; omega
      have hor : bits .or .i64 (acc : Int) ((c : Int) % 128 * 562949953421312) = (V : Int) := by
        have h := or_add acc (c % 128) 49 (by have := HH.out.2.2.2.1; simpa using this) (by have h1 := hnv.1; have h2 := Hn.out; rw [hV] at h1; simp only [Nat.reducePow]; omega)
        rw [hV]
        have e : ((c : Int) % 128 * 562949953421312) = ((c % 128 * 2 ^ 49 : Nat) : Int) := by simp only [Nat.reducePow]; omega
        rw [e, h]
      skip
      have hV1 : ¬ (4611686018427387903 : Int) < (V : Int) := by have := hnv.1; have := Hn.out; omega
      have hV0 : ¬ (V : Int) < 0 := by omega
      have hVm : ¬ most < (V : Int) := by have := hnv.1; have := Hm.out; omega
      have HV := Lib.hid hnv
      have Hcm := Lib.hid hcm
      clear hV hnv hcm hget 
      by_cases hlt : m < 128
      · have hc128 : ¬ (128 : Int) ≤ c := by have := Hcm.out; rw [if_pos hlt] at this; omega
        have hVn : RowKit.Hid (V = n) := Lib.hid (HV.out.2.1 hlt)
        have hdr : RowKit.Hid (L.drop 8 = rest) := Lib.hid (by
          rw [← HL.out, HH.out.1, encN_small hlt, List.append_assoc, List.drop_append_of_le_length' (by have := HH.out.2.1; omega)])
        clear hlt
        go_wp2_with fail
        go_ret2
        refine ⟨by rw [← hVn.out]; rfl, ?_, (Mod.refl (fun x => x = r) w).setCell (p := ⟨r, 0, none⟩) (.inl rfl) _⟩
        rw [← hdr.out]
        exact blk_set H.out 0 _
      · have hc128 : (128 : Int) ≤ c := by have := Hcm.out; rw [if_neg hlt] at this; omega
        have HH2 : RowKit.Hid (encN n = (pre ++ [UInt8.ofNat (m % 128 + 128)]) ++ encN (m / 128) ∧ (pre ++ [UInt8.ofNat (m % 128 + 128)]).length = 8 ∧ n = V + 128 ^ 8 * (m / 128) ∧ V < 128 ^ 8 ∧ (8 ≠ 0 → m / 128 ≠ 0)) := Lib.hid ⟨by rw [HH.out.1, encN_big hlt]; simp, by rw [List.length_append, HH.out.2.1]; rfl, by have := (HV.out.2.2 hlt).1; simp only [Nat.reducePow]; exact this, by have := (HV.out.2.2 hlt).2; simp only [Nat.reducePow]; exact this, fun _ => by omega⟩
        clear hlt
        go_wp2_with fail
        exact ⟨⟨8, V, m / 128, _, by omega, rfl, rfl, rfl, HH2⟩, by decide⟩
    · -- digit 8
      obtain ⟨c, hc, hcm⟩ : ∃ c : Nat, c < 256 ∧ c = (if m < 128 then m else m % 128 + 128) := ⟨_, by split <;> omega, rfl⟩
      have hget : L[8]? = some (UInt8.ofNat c) := by
        rw [← HL.out, HH.out.1, List.append_assoc, List.getElem?_append_right (by have := HH.out.2.1; omega)]
        have := HH.out.2.1
        rw [this, hcm]
        by_cases hlt : m < 128
        · rw [encN_small hlt, if_pos hlt]; rfl
        · rw [encN_big hlt, if_neg hlt]; rfl
      have hLL : (8 : Nat) < L.length := (List.getElem?_eq_some_iff.1 hget).1
      have hl : ((8 : Int) == (L.length : Int)) = false := by rw [beq_eq_false_iff_ne]; omega
      have hix : ∀ W, (Instr.index 9 (.string ⟨L.toArray⟩) (.int .i64 8)).run Tryz.prog W = .ok (.int .u8 (c : Int)) W := fun W => by
        have h := run_index_str Tryz.underlying9 L .i64 8 (UInt8.ofNat c) (by omega) hget W
        have e8 : ((UInt8.ofNat c).toNat : Int) = c := by simp; omega
        rw [e8] at h; exact h
      have hm0 : ((c : Int) == 0) = false := by
        rw [beq_eq_false_iff_ne]; have := HH.out.2.2.2.2 (by omega); rw [hcm]; split <;> omega
      obtain ⟨V, hV⟩ : ∃ V : Nat, V = acc + c % 128 * 72057594037927936 := ⟨_, rfl⟩
      have hnv : V ≤ n ∧ (m < 128 → V = n) ∧ (¬ m < 128 → n = V + 9223372036854775808 * (m / 128) ∧ V < 9223372036854775808) := by
        have h1 := HH.out.2.2.1
        have h2 := HH.out.2.2.2.1
        simp only [Nat.reducePow] at h1 h2
        rw [hV, hcm]
        refine ⟨?_, fun h => ?_, fun h => ?_⟩
        · split <;> omega
        · rw [if_pos h]; omega
        · rw [if_neg h]; omega
      have hor : bits .or .i64 (acc : Int) ((c : Int) % 128 * 72057594037927936) = (V : Int) := by
        have h := or_add acc (c % 128) 56 (by have := HH.out.2.2.2.1; simpa using this) (by have h1 := hnv.1; have h2 := Hn.out; rw [hV] at h1; simp only [Nat.reducePow]; omega)
        rw [hV]
        have e : ((c : Int) % 128 * 72057594037927936) = ((c % 128 * 2 ^ 56 : Nat) : Int) := by simp only [Nat.reducePow]; omega
        rw [e, h]
      skip
      have hV1 : ¬ (4611686018427387903 : Int) < (V : Int) := by have := hnv.1; have := Hn.out; omega
      have hV0 : ¬ (V : Int) < 0 := by omega
      have hVm : ¬ most < (V : Int) := by have := hnv.1; have := Hm.out; omega
      have HV := Lib.hid hnv
      have Hcm := Lib.hid hcm
      clear hV hnv hcm hget 
      by_cases hlt : m < 128
      · have hc128 : ¬ (128 : Int) ≤ c := by have := Hcm.out; rw [if_pos hlt] at this; omega
        have hVn : RowKit.Hid (V = n) := Lib.hid (HV.out.2.1 hlt)
        have hdr : RowKit.Hid (L.drop 9 = rest) := Lib.hid (by
          rw [← HL.out, HH.out.1, encN_small hlt, List.append_assoc, List.drop_append_of_le_length' (by have := HH.out.2.1; omega)])
        clear hlt
        go_wp2_with fail
        go_ret2
        refine ⟨by rw [← hVn.out]; rfl, ?_, (Mod.refl (fun x => x = r) w).setCell (p := ⟨r, 0, none⟩) (.inl rfl) _⟩
        rw [← hdr.out]
        exact blk_set H.out 0 _
      · exfalso
        have h1 := HH.out.2.2.1
        simp only [Nat.reducePow] at h1
        have := Hn.out
        omega
end
section
open Go.RowKit
theorem encN_pos (n : Nat) : 1 ≤ (encN n).length := by
  by_cases h : n < 128
  · rw [encN_small h]; simp
  · rw [encN_big h]; simp
theorem flat_ge (l : Nm) : l.length ≤ (l.flatMap encE1).length := by
  induction l with
  | nil => simp
  | cons x r ih =>
    have : 1 ≤ (encE1 x).length := by
      have := encN_pos x.1.length
      unfold encE1; simp; omega
    rw [List.flatMap_cons, List.length_append, List.length_cons]; omega
theorem ents_all {l : Nm} (h : entsOk l = true) : ∀ x ∈ l, x.1.length ≤ 16 ∧ 1 ≤ x.2 ∧ x.2 ≤ 65535 := by
  rw [entsOk, Bool.and_eq_true] at h
  have key : ∀ (l : Nm) (was : Option (List UInt8)), entsB was l = true → ∀ x ∈ l, x.1.length ≤ 16 ∧ 1 ≤ x.2 ∧ x.2 ≤ 65535 := by
    intro l
    induction l with
    | nil => intro _ _ x hx; cases hx
    | cons y r ih =>
      intro was h x hx
      rw [entsB, Bool.and_eq_true] at h
      rcases List.mem_cons.1 hx with rfl | hx
      · have h1 := h.1
        simp only [entB, nameOk, Bool.and_eq_true, decide_eq_true_eq] at h1
        exact ⟨h1.1.1.1.1.1.2, h1.1.2, h1.2⟩
      · exact ih _ h.2 x hx
  exact key l none h.2
set_option maxRecDepth 100000 in
set_option maxHeartbeats 4000000 in
theorem rtext_ok (s rest : List UInt8) (most : Int) (r : Nat) (w : World) (h : IsRd w r (encN s.length ++ (s ++ rest))) (hs : s.length ≤ 1000) (hm : (s.length : Int) ≤ most) (hm2 : most ≤ 1000) (hr : rest.length ≤ 900000) :
    Calls Tryz.prog 148 #[.pointer (some ⟨r, 0, none⟩), .int .i64 most] w fun e w' => e = .returned (.tuple #[.string ⟨s.toArray⟩, .int .i64 0]) ∧ IsRd w' r rest ∧ Mod (· = r) w w' := by
  have H := Lib.hid h
  have hmin : min most (65536 : Int) = most := by omega
  have Hs := Lib.hid hs
  have Hm := Lib.hid hm
  have Hr := Lib.hid hr
  clear h hs hm hr hm2
  go_enter Tryz.func148, Tryz.ntmps148
  go_wp2_with fail
  refine (rnum_ok s.length (s ++ rest) most r w H.out (by have := Hs.out; omega) Hm.out (by have := Hs.out; have := Hr.out; rw [List.length_append]; omega)).mono ?_
  rintro e w1 ⟨rfl, h1, hm1⟩
  have H1 := Lib.hid h1
  have HM1 := Lib.hid hm1
  obtain ⟨X, hX⟩ : ∃ X, s ++ rest = X := ⟨_, rfl⟩
  rw [hX] at h1 H1
  have c0 : w1.cell? ⟨r, 0, none⟩ = some (.string ⟨X.toArray⟩) := blk_cell h1 0
  have f0 : w1.frozen? ⟨r, 0, none⟩ = false := blk_free h1 _ rfl
  obtain ⟨N, hN⟩ : ∃ N, s.length = N := ⟨_, rfl⟩
  have hXl : N ≤ X.length ∧ X.length ≤ 1000000 := by rw [← hX, List.length_append, hN]; have := Hs.out; have := Hr.out; omega
  have hle : ¬ (X.length : Int) < N := by omega
  have hle2 : (N : Int) ≤ X.length := by omega
  have hN0 : (0 : Int) ≤ N := by omega
  have Ht : RowKit.Hid (X.take N = s) := Lib.hid (by rw [← hX, ← hN, List.take_left' rfl])
  have Hd : RowKit.Hid (X.drop N = rest) := Lib.hid (by rw [← hX, ← hN, List.drop_left' rfl])
  rw [hN]
  clear h1 hm1 hX hN hmin
  go_wp2_with fail
  go_ret2
  refine ⟨by rw [← Ht.out]; rfl, ?_, HM1.out.setCell (p := ⟨r, 0, none⟩) (.inl rfl) _⟩
  rw [← Hd.out]
  exact blk_set H1.out 0 _
set_option maxRecDepth 100000 in
set_option maxHeartbeats 2000000 in
theorem tnum_ok (n : Nat) (rest : List UInt8) (most : Int) (r : Nat) (w : World) (h : IsRd w r (encN n ++ rest)) (hn : n ≤ 4611686018427387903) (hm : (n : Int) ≤ most) (hr : rest.length ≤ 1000000) :
    Calls Tryz.prog 118 #[.pointer (some ⟨r, 0, none⟩), .int .i64 most] w fun e w' => e = .returned (.int .i64 (n : Int)) ∧ IsRd w' r rest ∧ Mod (· = r) w w' := by
  have HC := Lib.hid (rnum_ok n rest most r w h hn hm hr)
  clear h hn hm hr
  go_enter Tryz.func118, Tryz.ntmps118
  go_wp2_with fail
  refine HC.out.mono ?_
  rintro e w1 ⟨rfl, h1, hm1⟩
  have H1 := Lib.hid h1
  have HM1 := Lib.hid hm1
  clear h1 hm1
  go_wp2_with fail
  go_ret
  exact ⟨rfl, H1.out, HM1.out⟩
set_option maxRecDepth 100000 in
set_option maxHeartbeats 2000000 in
theorem ttext_ok (s rest : List UInt8) (r : Nat) (w : World) (h : IsRd w r (encN s.length ++ (s ++ rest))) (hs : s.length ≤ 16) (hr : rest.length ≤ 900000) :
    Calls Tryz.prog 117 #[.pointer (some ⟨r, 0, none⟩)] w fun e w' => e = .returned (.string ⟨s.toArray⟩) ∧ IsRd w' r rest ∧ Mod (· = r) w w' := by
  have HC := Lib.hid (rtext_ok s rest 16 r w h (by omega) (by omega) (by omega) hr)
  clear h hs hr
  go_enter Tryz.func117, Tryz.ntmps117
  go_wp2_with fail
  refine HC.out.mono ?_
  rintro e w1 ⟨rfl, h1, hm1⟩
  have H1 := Lib.hid h1
  have HM1 := Lib.hid hm1
  clear h1 hm1
  go_wp2_with fail
  go_ret
  exact ⟨rfl, H1.out, HM1.out⟩
set_option maxRecDepth 100000 in
set_option maxHeartbeats 2000000 in
theorem rent_ok (x : List UInt8 × Int) (rest : List UInt8) (r : Nat) (w : World) (h : IsRd w r (encE1 x ++ rest)) (hx : x.1.length ≤ 16) (hx2 : 1 ≤ x.2 ∧ x.2 ≤ 65535) (hr : rest.length ≤ 800000) :
    Calls Tryz.prog 116 #[.pointer (some ⟨r, 0, none⟩)] w fun e w' => e = .returned (entV x) ∧ IsRd w' r rest ∧ Mod (· = r) w w' := by
  have hrl := blk_lt h
  have he : encE1 x ++ rest = encN x.1.length ++ (x.1 ++ (encN x.2.toNat ++ rest)) := by unfold encE1; simp
  rw [he] at h
  have H := Lib.hid h
  obtain ⟨m, hm⟩ : ∃ m : Nat, x.2 = m := ⟨x.2.toNat, by omega⟩
  obtain ⟨s, y⟩ := x
  simp only at hm hx hx2 H
  subst hm
  rw [Int.toNat_natCast] at H
  have Hx := Lib.hid hx
  have Hx2 := Lib.hid hx2
  clear h he hx hx2
  go_enter Tryz.func116, Tryz.ntmps116
  go_wp2_with fail
  refine (ttext_ok s (encN m ++ rest) r _ (blk_alloc H.out _) Hx.out (by have := encN_9 (n := m) (by have := Hx2.out; omega); rw [List.length_append]; omega)).mono ?_
  rintro e w1 ⟨rfl, h1, hm1⟩
  have H1 := Lib.hid h1
  have HZ1 : RowKit.Hid (World.blk w1 w.heap.size #[.string ⟨#[]⟩, .int .i64 0] 98) := Lib.hid (blk_mod hm1 (blk_new _ _ _) (by omega))
  have HM1 : RowKit.Hid (Mod (· = r) w w1) := Lib.hid (((Mod.refl (fun x => x = r) w).alloc _).trans hm1 (fun _ _ h => h))
  clear h1 hm1
  go_wp2_with fail
  refine (tnum_ok m rest 65535 r w1 H1.out (by have := Hx2.out; omega) (by have := Hx2.out; omega) (by omega)).mono ?_
  rintro e w2 ⟨rfl, h2, hm2⟩
  have H2 := Lib.hid h2
  have HZ2 := Lib.hid (blk_mod hm2 HZ1.out (by omega))
  have HM2 := Lib.hid (HM1.out.trans hm2 (fun _ _ h => h))
  clear h2 hm2 HZ1 HM1 H1
  obtain ⟨N, hN⟩ : ∃ N, w.heap.size = N := ⟨_, rfl⟩
  have HN := Lib.hid hN
  rw [hN] at HZ2 hrl
  rw [hN]
  clear hN
  have y0 : w2.frozen? ⟨N, 0, none⟩ = false := blk_free HZ2.out _ rfl
  have y1 : w2.frozen? ⟨N, 1, none⟩ = false := blk_free HZ2.out _ rfl
  have z0 : w2.cell? ⟨N, 0, none⟩ = some (.string ⟨#[]⟩) := blk_cell HZ2.out 0
  have z1 : w2.cell? ⟨N, 1, none⟩ = some (.int .i64 0) := blk_cell HZ2.out 1
  go_wp2_with fail
  have hB := blk_set (blk_set HZ2.out 0 (.string ⟨s.toArray⟩)) 1 (.int .i64 (m : Int))
  have h3 : IsRd ((w2.setCell ⟨N, 0, none⟩ (.string ⟨s.toArray⟩)).setCell ⟨N, 1, none⟩ (.int .i64 (m : Int))) r rest := blk_set_other (blk_set_other H2.out ⟨N, 0, none⟩ (by simp; omega) _) ⟨N, 1, none⟩ (by simp; omega) _
  have k3 : Mod (· = r) w ((w2.setCell ⟨N, 0, none⟩ (.string ⟨s.toArray⟩)).setCell ⟨N, 1, none⟩ (.int .i64 (m : Int))) := (HM2.out.setCell (p := ⟨N, 0, none⟩) (.inr (by rw [HN.out]; exact Nat.le_refl _)) _).setCell (p := ⟨N, 1, none⟩) (.inr (by rw [HN.out]; exact Nat.le_refl _)) _
  have H3 := Lib.hid h3
  have K3 := Lib.hid k3
  clear h3 k3 y0 y1 z0 z1
  generalize ((w2.setCell ⟨N, 0, none⟩ (.string ⟨s.toArray⟩)).setCell ⟨N, 1, none⟩ (.int .i64 (m : Int))) = w3 at *
  have q0 : w3.cell? ⟨N, 0, none⟩ = some (.string ⟨s.toArray⟩) := blk_cell hB 0
  have q1 : w3.cell? ⟨N, 1, none⟩ = some (.int .i64 (m : Int)) := blk_cell hB 1
  exact bodyPost_ret (v := entV (s, (m : Int))) (by simp [results, Tryz.results116, go_sem, q0, q1]) rfl ⟨rfl, H3.out, K3.out⟩
set_option maxRecDepth 100000 in
set_option maxHeartbeats 2000000 in
theorem rend_ok (r : Nat) (w : World) (h : IsRd w r []) : Calls Tryz.prog 113 #[.pointer (some ⟨r, 0, none⟩)] w fun e w' => e = .returned (.int .i64 0) ∧ Keep w w' := by
  have c0 : w.cell? ⟨r, 0, none⟩ = some (.string ⟨#[]⟩) := blk_cell h 0
  have c1 : w.cell? ⟨r, 1, none⟩ = some .nilIface := blk_cell h 1
  clear h
  go_enter Tryz.func113, Tryz.ntmps113
  go_wp2_with fail
  go_ret
  exact ⟨rfl, Mod.refl _ _⟩
theorem own_modF {sz : Nat} {t : TypeId} {w w' : World} {base n : Nat} {v : Value} {xs : List Value} {S : Nat → Prop} (h : w.ownsRow base t sz v n xs) (k : Mod S w w') (hS : ∀ {b}, base ≤ b → ¬ S b) : w'.ownsRow base t sz v n xs := by
  obtain ⟨h1, h2⟩ := h
  refine ⟨h1, ?_⟩
  rcases h2 with h2 | ⟨g, cap, cur, a, b, c, d⟩
  · exact .inl h2
  · exact .inr ⟨g, cap, cur, a, b, k.obj c (hS b), d⟩
theorem own_belowF {sz : Nat} {t : TypeId} {w : World} {base base' n : Nat} {v : Value} {xs : List Value} (h : w.ownsRow base t sz v n xs) (hb : base' ≤ base) : w.ownsRow base' t sz v n xs := by
  obtain ⟨h1, h2⟩ := h
  refine ⟨h1, ?_⟩
  rcases h2 with h2 | ⟨g, cap, cur, a, b, c, d⟩
  · exact .inl h2
  · exact .inr ⟨g, cap, cur, a, Nat.le_trans hb b, c, d⟩
set_option maxRecDepth 100000 in
set_option maxHeartbeats 8000000 in
theorem parse_ok (l : Nm) (hok : entsOk l = true) (w : World) :
    Calls Tryz.prog 86 #[formV, .string ⟨(encE l).toArray⟩] w fun e w' => ∃ v, e = .returned (.tuple #[v, .int .i64 0]) ∧ OwnF entC 2 98 w' w.heap.size v l ∧ Keep w w' := by
  have Hok := Lib.hid hok
  have hall : ∀ x ∈ l, x.1.length ≤ 16 ∧ 1 ≤ x.2 ∧ x.2 ≤ 65535 := ents_all hok
  have Hall := Lib.hid hall
  have hlen : l.length ≤ 4096 := by rw [entsOk, Bool.and_eq_true, decide_eq_true_eq] at hok; exact hok.1
  have hbl : (l.flatMap encE1).length ≤ l.length * 34 := by rw [entsOk, Bool.and_eq_true] at hok; exact ents_len _ hok.2
  have Hbl := Lib.hid hbl
  have hEl : l.length < (encE l).length := by
    have h1 : l.length ≤ (l.flatMap encE1).length := flat_ge l
    have h2 : 1 ≤ (encN l.length).length := encN_pos _
    rw [encE, List.length_append]; omega
  have Hlen := Lib.hid hlen
  obtain ⟨S, hS⟩ : ∃ S, encE l = S := ⟨_, rfl⟩
  have hSl : (S.length : Int) ≤ 9223372036854775807 := by
    rw [← hS, encE, List.length_append]
    have := encN_9 (n := l.length) (by omega)
    omega
  rw [hS] at hEl
  rw [hS]
  have HS := Lib.hid hS
  clear hok hall hlen hbl hS
  go_enter Tryz.func86, Tryz.ntmps86
  go_wp2_with fail
  refine (rdnew_any S _).mono ?_
  rintro e w1 ⟨rfl, h1, hk1⟩
  have HF1 : RowKit.Hid (World.blk w1 w.heap.size #[.func (.func 114) #[] #[], .func (.func 115) #[] #[], .func (.func 116) #[] #[]] 140) := Lib.hid (blk_mod hk1 (blk_new _ _ _) id)
  have HK1 := Lib.hid (unalloc hk1)
  have h1' : IsRd w1 (w.heap.size + 1) (encN l.length ++ l.flatMap encE1) := by
    have e : encN l.length ++ l.flatMap encE1 = S := HS.out
    rw [e]
    simpa using h1
  have H1 := Lib.hid h1'
  clear h1 h1' hk1
  go_wp2_with fail
  refine (rnum_ok l.length (l.flatMap encE1) 4096 (w.heap.size + 1) w1 H1.out (by have := Hlen.out; omega) (by have := Hlen.out; omega) (by have := Hbl.out; have := Hlen.out; omega)).mono ?_
  rintro e w2 ⟨rfl, h2, hm2⟩
  have H2 := Lib.hid h2
  have HF2 := Lib.hid (blk_mod hm2 HF1.out (by omega))
  have HK2 := Lib.hid (HK1.out.new hm2 (by omega))
  have hrw := blk_lt h2
  clear h2 hm2 H1 HF1 HK1
  go_wp2_with fail
  go_loopw [9, 10] (fun v i wr => ∃ k : Nat, k ≤ l.length ∧ i = .int .i64 (k : Int) ∧ Keep w wr ∧ w2.heap.size ≤ wr.heap.size ∧ World.blk wr w.heap.size #[.func (.func 114) #[] #[], .func (.func 115) #[] #[], .func (.func 116) #[] #[]] 140 ∧ IsRd wr (w.heap.size + 1) ((l.drop k).flatMap encE1) ∧ OwnF entC 2 98 wr w2.heap.size v (l.take k)) (fun _ i _ => l.length - (intOf i).toNat)
  case atStart => exact ⟨0, by omega, rfl, HK2.out, Nat.le_refl _, HF2.out, H2.out, rfl, .inl ⟨rfl, rfl⟩⟩
  case round =>
    clear HK2 HF2 H2
    obtain ⟨k, hk, rfl, hK, hsz, hF, hR, hV⟩ := hrel
    have HK := Lib.hid hK
    have HF := Lib.hid hF
    have HR := Lib.hid hR
    have HV := Lib.hid hV
    clear hK hF hR hV
    by_cases hlt : k < l.length
    · obtain ⟨x, hx⟩ : ∃ x, l[k]? = some x := ⟨_, List.getElem?_eq_getElem hlt⟩
      have Hx := Lib.hid hx
      have hdr : (l.drop k).flatMap encE1 = encE1 x ++ (l.drop (k + 1)).flatMap encE1 := by
        rw [List.drop_eq_getElem_cons hlt, List.flatMap_cons]
        rw [show l[k] = x from Option.some.inj ((List.getElem?_eq_getElem hlt).symm.trans hx)]
      have HR2 : RowKit.Hid (IsRd wr (w.heap.size + 1) (encE1 x ++ (l.drop (k + 1)).flatMap encE1)) := Lib.hid (by rw [← hdr]; exact HR.out)
      have hrl : ((l.drop (k + 1)).flatMap encE1).length ≤ 800000 := by
        have h1 : (l.flatMap encE1).length = ((l.take k).flatMap encE1).length + ((l.drop k).flatMap encE1).length := by rw [← List.length_append, ← List.flatMap_append, List.take_append_drop]
        have h2 := congrArg List.length hdr
        rw [List.length_append] at h2
        have := Hbl.out
        have := Hlen.out
        omega
      have Hrl := Lib.hid hrl
      have f2 : wr.cell? ⟨w.heap.size, 2, none⟩ = some (.func (.func 116) #[] #[]) := blk_cell HF.out 2
      have hkS : (k : Int) < S.length := by omega
      clear hx hdr hrl HR
      go_wp2_with fail
      refine (rent_ok x _ (w.heap.size + 1) wr HR2.out (Hall.out x (List.mem_of_getElem? Hx.out)).1 (Hall.out x (List.mem_of_getElem? Hx.out)).2 Hrl.out).mono ?_
      rintro e w3 ⟨rfl, hr3, hm3⟩
      have HR3 := Lib.hid hr3
      have HF3 := Lib.hid (blk_mod hm3 HF.out (by omega))
      have HK3 := Lib.hid (HK.out.new hm3 (by omega))
      have HV3 : RowKit.Hid (OwnF entC 2 98 w3 w2.heap.size u9 (l.take k)) := Lib.hid (own_modF HV.out hm3 (by omega))
      have hs3 : w2.heap.size ≤ w3.heap.size := Nat.le_trans hsz hm3.size
      obtain ⟨v2, w4, hr, ho, hk2, hm2⟩ := append_struct (f := entC) (x := x) (P := Tryz.prog) Tryz.underlying73 info_ent rfl (by decide) entC_len w2.heap.size u9 (l.take k) w3 w HV3.out (entC_one x) (by have := Hlen.out; rw [List.length_take]; unfold maxLen; omega) (by have := Hlen.out; rw [List.length_take]; omega) hs3 HK3.out (by omega)
      have Hr := Lib.hid hr
      have Ho := Lib.hid ho
      have Hk2 := Lib.hid hk2
      have HF4 := Lib.hid (blk_mod hm2 HF3.out (by omega))
      have HR4 : RowKit.Hid (IsRd w4 (w.heap.size + 1) ((l.drop (k + 1)).flatMap encE1)) := Lib.hid (blk_mod hm2 HR3.out (by omega))
      have hs4 : w2.heap.size ≤ w4.heap.size := Nat.le_trans hs3 hm2.size
      clear hr ho hk2 hm2 hr3 hm3 f2 HF HR2 HK HV HF3 HR3 HK3 HV3
      go_wp2_with ((at_builtin; refine wpList_append_run Hr.out rfl rfl rfl rfl ?_))
      refine ⟨⟨k + 1, by omega, by go_num, Hk2.out, hs4, HF4.out, HR4.out, by rw [take_snoc Hx.out]; exact Ho.out⟩, by simp [intOf]; omega⟩
    · obtain rfl : k = l.length := by omega
      rw [List.take_length] at HV
      have HR1 : RowKit.Hid (IsRd wr (w.heap.size + 1) []) := Lib.hid (by have h := HR.out; rwa [List.drop_length] at h)
      have HW3 := Lib.hid (rowF_own entC_len HV.out)
      go_wp2_with fail
      refine (rend_ok _ wr HR1.out).mono ?_
      rintro e w4 ⟨rfl, hk4⟩
      have HF4 := Lib.hid (blk_mod hk4 HF.out id)
      have HK4 := Lib.hid (HK.out.keep hk4)
      have HV4 := Lib.hid (own_keepF HV.out hk4)
      have HW4 := Lib.hid (rowF_keep HW3.out hk4)
      have f0 : w4.cell? ⟨w.heap.size, 0, none⟩ = some (.func (.func 114) #[] #[]) := blk_cell HF4.out 0
      have f1 : w4.cell? ⟨w.heap.size, 1, none⟩ = some (.func (.func 115) #[] #[]) := blk_cell HF4.out 1
      have f2 : w4.cell? ⟨w.heap.size, 2, none⟩ = some (.func (.func 116) #[] #[]) := blk_cell HF4.out 2
      have Hv : RowKit.Hid (laysR l = .tuple #[.string ⟨S.toArray⟩, .int .i64 0]) := Lib.hid (by rw [laysR, if_pos Hok.out, HS.out])
      clear hk4 HF HK HV HW3 HR HR1
      go_wp2_with fail
      refine (lays_any l _ w4 HW4.out (by have := Hlen.out; omega) (fun p hp => by have := Hall.out p hp; omega)).mono ?_
      rintro e w5 ⟨rfl, hk5⟩
      have HK5 := Lib.hid (HK4.out.keep hk5)
      have HV5 := Lib.hid (own_keepF HV4.out hk5)
      rw [Hv.out]
      clear hk5 f0 f1 f2
      go_wp2_with fail
      go_ret2
      exact ⟨_, rfl, own_belowF HV5.out (by omega), HK5.out⟩
set_option maxRecDepth 100000 in
set_option maxHeartbeats 1000000 in
theorem parsee_ok (l : Nm) (hok : entsOk l = true) (w : World) :
    Calls Tryz.prog 57 #[.string ⟨(encE l).toArray⟩] w fun e w' => ∃ v, e = .returned (.tuple #[v, .int .i64 0]) ∧ OwnF entC 2 98 w' w.heap.size v l ∧ Keep w w' := by
  have Hok := Lib.hid hok
  clear hok
  go_enter Tryz.func57, Tryz.ntmps57
  go_wp2_with fail
  refine (form_any _).mono ?_
  rintro e w1 ⟨rfl, hk⟩
  have hs := hk.size
  have HK := Lib.hid hk
  clear hk
  go_wp2_with fail
  refine (parse_ok l Hok.out w1).mono ?_
  rintro e w2 ⟨v, rfl, ho, hk⟩
  have HK2 := Lib.hid (HK.out.keep hk)
  have HO := Lib.hid ho
  clear hk ho
  go_wp2_with fail
  go_ret2
  exact ⟨_, rfl, own_belowF HO.out hs, HK2.out⟩
end
end Go.Proofs.YthmpblccplphfaaGreatDoor
