/-
  The reference's numbers and texts as bytes.
  The reference's reader.
  The reference's reader: texts, the end.
  The reference's lists of entries.
  The reference's lists of entries, parsed.
-/
import Derived.Test.YthmpblccplphfaaGreatDoorTabRead
import Derived.Deep.RegionWith
import Derived.Test.YthmpblccplphfaaGreatDoorCmdNameR
namespace Go.Proofs.YthmpblccplphfaaGreatDoor
section
open Go.RowKit
set_option maxRecDepth 100000 in
set_option maxHeartbeats 1000000 in
theorem rdigits_fuel (m : Nat) : ∀ (n : Int) (w : World), 0 ≤ n → n < 9223372036854775808 → n < m → Calls Tryz.prog 120 #[.int .i64 n] w fun e w' => e = .returned (.string ⟨(encN n.toNat).toArray⟩) ∧ Keep w w' := by
  induction m with
  | zero => intro n w h0 h1 h2; omega
  | succ m ih =>
    intro n w h0 hn hm
    have Ih := Lib.hid ih
    clear ih
    have hst := fun x hx W b h => run_str_one (P := Tryz.prog) Tryz.underlying156 Tryz.underlying5 Tryz.underlying9 x hx W b h
    by_cases h : n < 128
    · have He := Lib.hid (encN_small (n := n.toNat) (by omega))
      have hw : IntKind.u8.wrap n = n := wrap8 _ (by omega)
      have hs2 := hst n (by omega)
      clear hst hm hn
      go_enter Tryz.func120, Tryz.ntmps120
      go_wp2_with fail
      go_ret
      exact ⟨by rw [He.out]; rfl, (Mod.refl _ w).alloc _⟩
    · have He := Lib.hid (encN_big (n := n.toNat) (by omega))
      have hb1 : n % 128 < 128 := by omega
      have hb0 : 0 ≤ n % 128 := by omega
      have hw : IntKind.u8.wrap (128 + n % 128) = 128 + n % 128 := wrap8 _ (by omega)
      have hs2 := hst (128 + n % 128) (by omega)
      have e1 : n.tdiv 128 = n / 128 := by rw [Int.tdiv_eq_ediv_of_nonneg (by omega)]
      have e2 : n.tmod 128 = n % 128 := Int.tmod_eq_emod_of_nonneg (by omega)
      have e3 : IntKind.i64.wrap (n / 128) = n / 128 := IntWalk.i64_in _ (by omega)
      have e4 : IntKind.i64.wrap (128 + n % 128) = 128 + n % 128 := IntWalk.i64_in _ (by omega)
      have hlim : (encN (n / 128).toNat).length ≤ 9 := encN_9 (by omega)
      have Hb := Lib.hid (show 0 ≤ n / 128 ∧ n / 128 < 9223372036854775808 ∧ n / 128 < m by omega)
      have Hx : RowKit.Hid ((128 + n % 128).toNat = n.toNat % 128 + 128 ∧ (n / 128).toNat = n.toNat / 128) := Lib.hid (by omega)
      clear hst hm hn
      go_enter Tryz.func120, Tryz.ntmps120
      go_wp2_with fail
      go_region_with (go_at_call 120; refine (Ih.out _ _ Hb.out.1 Hb.out.2.1 Hb.out.2.2).mono ?_; rintro e w1 ⟨rfl, hk⟩; have hcc := fun b i (h : b < _) => hk.cell (p := ⟨b, i, none⟩) h id)
      all_goals
        go_wp2_with fail
        go_ret
        first
          | exact ⟨by rw [He.out, ← Hx.out.1, ← Hx.out.2]; rfl, ((Mod.refl _ w).drew.keep hk).alloc _⟩
          | exact ⟨by rw [He.out, ← Hx.out.1, ← Hx.out.2]; rfl, ((Mod.refl _ w).drew.alloc _).keep hk⟩
          | exact ⟨by rw [He.out, ← Hx.out.1, ← Hx.out.2]; rfl, ((Mod.refl _ w).alloc _).drew.keep hk⟩
theorem rdigits_any (n : Nat) (w : World) (hn : n < 9223372036854775808) : Calls Tryz.prog 120 #[.int .i64 (n : Int)] w fun e w' => e = .returned (.string ⟨(encN n).toArray⟩) ∧ Keep w w' :=
  rdigits_fuel (n + 1) n w (by omega) (by omega) (by omega)
set_option maxRecDepth 100000 in
/-- a number's bytes -/
theorem rnumb_any (n : Int) (w : World) (hn : -9223372036854775808 ≤ n ∧ n ≤ 9223372036854775807) :
    Calls Tryz.prog 119 #[.int .i64 n] w fun e w' => e = .returned (if 0 ≤ n ∧ n ≤ 4611686018427387903 then .tuple #[.string ⟨(encN n.toNat).toArray⟩, .int .i64 0] else .tuple #[.string ⟨#[]⟩, .int .i64 31]) ∧ Keep w w' := by
  by_cases h : 0 ≤ n ∧ n ≤ 4611686018427387903
  · rw [if_pos h]
    obtain ⟨h1, h2⟩ := h
    have h3 : ¬ n < 0 := by omega
    have h4 : ¬ 4611686018427387903 < n := by omega
    obtain ⟨m, rfl⟩ : ∃ m : Nat, n = m := ⟨n.toNat, by omega⟩
    have hm : m < 9223372036854775808 := by omega
    clear h2 hn
    go_enter Tryz.func119, Tryz.ntmps119
    go_wp2_with fail
    refine (rdigits_any m _ hm).mono ?_
    rintro e w1 ⟨rfl, hk⟩
    have Hk := Lib.hid hk
    clear hk
    go_wp2_with fail
    go_ret2
    exact ⟨rfl, Hk.out⟩
  · rw [if_neg h]
    have h5 : n < 0 ∨ 4611686018427387903 < n := by omega
    clear h
    by_cases h1 : n < 0
    · go_enter Tryz.func119, Tryz.ntmps119
      go_wp2_with fail
      go_ret2
      exact ⟨rfl, Mod.refl _ _⟩
    · have h2 : 4611686018427387903 < n := by omega
      clear h5
      go_enter Tryz.func119, Tryz.ntmps119
      go_wp2_with fail
      go_ret2
      exact ⟨rfl, Mod.refl _ _⟩
theorem rnumb_ok (n : Nat) (w : World) (hn : n ≤ 4611686018427387903) :
    Calls Tryz.prog 119 #[.int .i64 (n : Int)] w fun e w' => e = .returned (.tuple #[.string ⟨(encN n).toArray⟩, .int .i64 0]) ∧ Keep w w' := by
  refine (rnumb_any n w (by omega)).mono fun e w' ⟨h1, h2⟩ => ⟨?_, h2⟩
  rw [if_pos (by omega)] at h1
  rw [h1, Int.toNat_natCast]
set_option maxRecDepth 100000 in
theorem rtextb_any (s : List UInt8) (w : World) (hs : s.length ≤ 65536) :
    Calls Tryz.prog 90 #[.string ⟨s.toArray⟩] w fun e w' => e = .returned (.tuple #[.string ⟨(encN s.length ++ s).toArray⟩, .int .i64 0]) ∧ Keep w w' := by
  have h1 : ¬ (65536 : Int) < s.length := by omega
  have Hm : RowKit.Hid (s.length < 9223372036854775808) := Lib.hid (by omega)
  have h2 : (s.length : Int) ≤ 9223372036854775807 := by omega
  clear hs
  go_enter Tryz.func90, Tryz.ntmps90
  go_wp2_with fail
  refine (rdigits_any s.length _ Hm.out).mono ?_
  rintro e w1 ⟨rfl, hk⟩
  have Hk := Lib.hid hk
  clear hk
  have hb : ¬ 9223372036854775807 < (encN s.length).length + s.length := by have := encN_9 Hm.out; omega
  go_wp2_with fail
  go_ret2
  exact ⟨rfl, Hk.out⟩
set_option maxRecDepth 100000 in
/-- numbers' bytes, one behind the other -/
theorem rnums_any (L : List Nat) (w : World) (b : Nat) (hn : ∀ n ∈ L, n ≤ 4611686018427387903) (hl : L.length ≤ 100) (hb : ∀ (j : Nat) (n : Nat), L[j]? = some n → w.cell? ⟨b, j, none⟩ = some (.int .i64 (n : Int))) :
    Calls Tryz.prog 89 #[.slice (some ⟨b, 0, none⟩) L.length L.length] w fun e w' => e = .returned (.string ⟨(L.flatMap encN).toArray⟩) ∧ Keep w w' := by
  have HB := Lib.hid hb
  have HN := Lib.hid hn
  have hli : (L.length : Int) ≤ 100 := by omega
  clear hb hn
  go_enter Tryz.func89, Tryz.ntmps89
  go_wp2_with fail
  go_loopw [3, 4] (fun v i wr => ∃ (k : Nat) (pre : List UInt8), k ≤ L.length ∧ i = .int .i64 (k : Int) ∧ v = .string ⟨pre.toArray⟩ ∧ pre.length ≤ 9 * k ∧ RowKit.Hid (pre = (L.take k).flatMap encN) ∧ Keep w wr) (fun _ i _ => L.length - (intOf i).toNat)
  case atStart => exact ⟨0, [], by omega, rfl, rfl, by simp, Lib.hid rfl, Mod.refl _ _⟩
  case round =>
    obtain ⟨k, pre, hk, rfl, rfl, hpre, Hp, hK⟩ := hrel
    have HK := Lib.hid hK
    clear hK
    by_cases hlt : k < L.length
    · obtain ⟨n, hx⟩ : ∃ n, L[k]? = some n := ⟨_, List.getElem?_eq_getElem hlt⟩
      have c0 : wr.cell? ⟨b, k, none⟩ = some (.int .i64 (n : Int)) := by
        have h := HB.out k n hx
        rw [HK.out.cell (p := ⟨b, k, none⟩) (lt_of_cell h) id]; exact h
      have Hnn := Lib.hid (HN.out n (List.mem_of_getElem? hx))
      have Hx := Lib.hid hx
      have hkl : (k : Int) < L.length := by omega
      clear hx
      go_wp2_with fail
      refine (rnumb_ok n wr Hnn.out).mono ?_
      rintro e w1 ⟨rfl, hk1⟩
      have HK1 := Lib.hid (HK.out.keep hk1)
      have hlim : (encN n).length ≤ 9 := encN_9 (by have := Hnn.out; omega)
      clear hk1 c0
      go_wp2_with fail
      exact ⟨⟨k + 1, pre ++ encN n, by omega, by go_num, rfl, by rw [List.length_append]; omega, Lib.hid (by rw [take_snoc Hx.out, Hp.out]; simp), HK1.out⟩, by simp [intOf]; omega⟩
    · obtain rfl : k = L.length := by omega
      clear hlt
      go_wp2_with fail
      go_ret
      exact ⟨by rw [Hp.out, List.take_length]; rfl, HK.out⟩
end
section
open Go.RowKit
/-- a number read, and how many bytes it has; or why there is none -/
def rdGo : Nat → Nat → List UInt8 → Except Int (Nat × Nat)
  | _, _, [] => .error 32
  | i, n, c :: r => if i = 9 ∨ (0 < i ∧ c.toNat = 0) then .error 30 else if c.toNat < 128 then .ok (n + c.toNat % 128 * 128 ^ i, i + 1) else rdGo (i + 1) (n + c.toNat % 128 * 128 ^ i) r
abbrev IsR3 (w : World) (r : Nat) (s : List UInt8) (k : Nat) (e : Int) : Prop := World.blk w r #[.string ⟨s.toArray⟩, .int .i64 (k : Int), .int .i64 e] 101
theorem rdGo_enc (n : Nat) : ∀ (i acc : Nat) (rest : List UInt8), (0 < i → n ≠ 0) → n < 128 ^ (9 - i) → i ≤ 8 → rdGo i acc (encN n ++ rest) = .ok (acc + n * 128 ^ i, i + (encN n).length) := by
  induction n using Nat.strongRecOn with
  | _ n ih =>
    intro i acc rest h0 hn hi
    by_cases h : n < 128
    · rw [encN_small h]
      have hc : (UInt8.ofNat n).toNat = n := by simp; omega
      show (if i = 9 ∨ (0 < i ∧ (UInt8.ofNat n).toNat = 0) then _ else _) = _
      rw [if_neg, if_pos (by rw [hc]; exact h), hc, Nat.mod_eq_of_lt h]; rfl
      rintro (e | ⟨e, e2⟩)
      · omega
      · rw [hc] at e2; exact h0 e e2
    · rw [encN_big h]
      have hc : (UInt8.ofNat (n % 128 + 128)).toNat = n % 128 + 128 := by simp; omega
      show (if i = 9 ∨ (0 < i ∧ (UInt8.ofNat (n % 128 + 128)).toNat = 0) then _ else if (UInt8.ofNat (n % 128 + 128)).toNat < 128 then _ else rdGo (i + 1) (acc + (UInt8.ofNat (n % 128 + 128)).toNat % 128 * 128 ^ i) (encN (n / 128) ++ rest)) = _
      have h9 : i ≠ 8 := fun e => by subst e; simp at hn; omega
      rw [if_neg, if_neg (by rw [hc]; omega), hc, ih (n / 128) (by omega) (i + 1) _ rest (fun _ => by omega) ?_ (by omega)]
      · have e : (n % 128 + 128) % 128 = n % 128 := by omega
        rw [e, Nat.pow_succ]
        have e2 : n = n % 128 + 128 * (n / 128) := by omega
        congr 2
        · conv => rhs; rw [e2]
          rw [Nat.add_mul, Nat.add_assoc]
          congr 2
          rw [Nat.mul_comm (128 ^ i) 128, ← Nat.mul_assoc, Nat.mul_comm (n / 128) 128]
        · simp only [List.length_cons]; omega
      · have e3 : 9 - i = (9 - (i + 1)) + 1 := by omega
        rw [e3, Nat.pow_succ] at hn
        exact Nat.div_lt_of_lt_mul (by rw [Nat.mul_comm]; exact hn)
      · rintro (e | ⟨e, e2⟩)
        · omega
        · rw [hc] at e2; omega
theorem rdGo_bound : ∀ (s : List UInt8) (i n m k : Nat), i ≤ 9 → n < 128 ^ i → rdGo i n s = .ok (m, k) → m < 128 ^ 9 ∧ i < k ∧ k ≤ i + s.length := by
  intro s
  induction s with
  | nil => intro i n m k _ _ h; cases h
  | cons c r ih =>
    intro i n m k hi hn h
    rw [rdGo] at h
    split at h
    · cases h
    · rename_i hx
      have hi8 : i ≤ 8 := by omega
      have hp : n + c.toNat % 128 * 128 ^ i < 128 ^ (i + 1) := by
        rw [Nat.pow_succ]
        have h1 : c.toNat % 128 ≤ 127 := by omega
        have h2 := Nat.mul_le_mul_right (128 ^ i) h1
        omega
      split at h
      · injection h with h
        injection h with h1 h2
        refine ⟨?_, by omega, by simp only [List.length_cons]; omega⟩
        rw [← h1]
        exact Nat.lt_of_lt_of_le hp (Nat.pow_le_pow_right (by omega) (by omega))
      · have := ih (i + 1) _ m k (by omega) hp h
        exact ⟨this.1, by omega, by simp only [List.length_cons]; omega⟩
def R3Post (w : World) (r : Nat) (S : List UInt8) (k0 : Nat) (most : Int) (e : Ending) (w' : World) : Prop :=
  Mod (· = r) w w' ∧ match rdGo 0 0 (S.drop k0) with
    | .error x => e = .returned (.tuple #[.int .i64 0, .int .i64 x]) ∧ IsR3 w' r S k0 x
    | .ok (n, k) => if n ≤ 4611686018427387903 ∧ (n : Int) ≤ most then e = .returned (.tuple #[.int .i64 (n : Int), .int .i64 0]) ∧ IsR3 w' r S (k0 + k) 0 else e = .returned (.tuple #[.int .i64 0, .int .i64 31]) ∧ IsR3 w' r S (k0 + k) 31
set_option maxRecDepth 100000 in
theorem r3fails_any (S : List UInt8) (k : Nat) (x y : Int) (r : Nat) (w : World) (h : IsR3 w r S k x) : Calls Tryz.prog 88 #[.pointer (some ⟨r, 0, none⟩), .int .i64 y] w fun e w' => e = .returned (.int .i64 y) ∧ IsR3 w' r S k y ∧ Mod (· = r) w w' := by
  have c2 : w.cell? ⟨r, 2, none⟩ = some (.int .i64 x) := blk_cell h 2
  have f2 : w.frozen? ⟨r, 2, none⟩ = false := blk_free h _ rfl
  have H := Lib.hid h
  clear h
  go_enter Tryz.func88, Tryz.ntmps88
  go_wp2_with fail
  go_ret
  exact ⟨rfl, blk_set H.out 2 _, (Mod.refl (fun x => x = r) w).setCell (p := ⟨r, 2, none⟩) (.inl rfl) _⟩
set_option maxRecDepth 100000 in
set_option maxHeartbeats 4000000 in
theorem r3num_any (S : List UInt8) (k0 : Nat) (most : Int) (r : Nat) (w : World) (h : IsR3 w r S k0 0) (hk : k0 ≤ S.length) (hS : S.length ≤ 1000000) (hm : most ≤ 9223372036854775807) :
    Calls Tryz.prog 58 #[.pointer (some ⟨r, 0, none⟩), .int .i64 most] w (R3Post w r S k0 most) := by
  have H := Lib.hid h
  have c0 : w.cell? ⟨r, 0, none⟩ = some (.string ⟨S.toArray⟩) := blk_cell h 0
  have c1 : w.cell? ⟨r, 1, none⟩ = some (.int .i64 (k0 : Int)) := blk_cell h 1
  have c2 : w.cell? ⟨r, 2, none⟩ = some (.int .i64 0) := blk_cell h 2
  have f1 : w.frozen? ⟨r, 1, none⟩ = false := blk_free h _ rfl
  have f2 : w.frozen? ⟨r, 2, none⟩ = false := blk_free h _ rfl
  have hSi : (S.length : Int) ≤ 1000000 := by omega
  have hki : (k0 : Int) ≤ 1000000 := by omega
  clear h
  go_enter Tryz.func58, Tryz.ntmps58
  go_wp2_with fail
  go_loopw [6, 7, 8] (fun a t i wr => ∃ (k acc Tm : Nat), k ≤ 9 ∧ k0 + k ≤ S.length ∧ i = .int .i64 (k : Int) ∧ a = .int .i64 (acc : Int) ∧ t = .int .i64 (Tm : Int) ∧ Keep w wr ∧ RowKit.Hid (Tm = 128 ^ min k 8 ∧ acc < 128 ^ k ∧ rdGo 0 0 (S.drop k0) = rdGo k acc (S.drop (k0 + k)))) (fun _ _ i _ => (10 - intOf i).toNat)
  case atStart => exact ⟨0, 0, 1, by omega, by omega, rfl, rfl, rfl, Mod.refl _ _, Lib.hid ⟨rfl, by omega, rfl⟩⟩
  case round =>
    clear c0 c1 c2 f1 f2
    obtain ⟨k, acc, Tm, hk9, hkl, rfl, rfl, rfl, hK, HH⟩ := hrel
    have HK := Lib.hid hK
    have H' := Lib.hid (blk_mod hK H.out id)
    have c0 : wr.cell? ⟨r, 0, none⟩ = some (.string ⟨S.toArray⟩) := blk_cell H'.out 0
    have c1 : wr.cell? ⟨r, 1, none⟩ = some (.int .i64 (k0 : Int)) := blk_cell H'.out 1
    have c2 : wr.cell? ⟨r, 2, none⟩ = some (.int .i64 0) := blk_cell H'.out 2
    have f1 : wr.frozen? ⟨r, 1, none⟩ = false := blk_free H'.out _ rfl
    have f2 : wr.frozen? ⟨r, 2, none⟩ = false := blk_free H'.out _ rfl
    have hk10 : (k : Int) < 10 := by omega
    have hwk : IntKind.i64.wrap ((k0 : Int) + k) = (k0 : Int) + k := IntWalk.i64_in _ (by omega)
    clear hK
    by_cases hend : k0 + k = S.length
    · have hv : rdGo 0 0 (S.drop k0) = .error 32 := by rw [HH.out.2.2, List.drop_of_length_le (by omega)]; rfl
      have Hv := Lib.hid hv
      have hge : (S.length : Int) ≤ (k0 : Int) + k := by omega
      clear hv
      go_wp2_with fail
      refine wp_region_qe0 (by kernel_rfl) (by kernel_rfl) ?_
      repeat (quiet_step (fail))
      refine wpQuiet_nil ?_
      intro _ hw'
      obtain ⟨nq, rfl⟩ := hw'
      go_wp2_with fail
      refine (r3fails_any S k0 0 32 r _ (blk_drewN H'.out nq)).mono ?_
      rintro e w2 ⟨rfl, h2, hm2⟩
      have H2 := Lib.hid h2
      have HM2 : RowKit.Hid (Mod (· = r) w w2) := Lib.hid (((HK.out.drewN nq).mono (fun _ _ h => h.elim)).trans hm2 (fun _ _ h => h))
      clear h2 hm2
      go_wp2_with fail
      go_ret2
      refine ⟨HM2.out, ?_⟩
      rw [Hv.out]
      exact ⟨rfl, H2.out⟩
    · obtain ⟨c, hc⟩ : ∃ c, S[k0 + k]? = some c := ⟨_, List.getElem?_eq_getElem (by omega)⟩
      have hd : S.drop (k0 + k) = c :: S.drop (k0 + k + 1) := by
        rw [List.drop_eq_getElem_cons (by omega)]
        congr 1
        exact Option.some.inj ((List.getElem?_eq_getElem (by omega)).symm.trans hc)
      have hlt : (k0 : Int) + k < S.length := by omega
      have hidx : ∀ W, (Instr.index 9 (.string ⟨S.toArray⟩) (.int .i64 ((k0 : Int) + k))).run Tryz.prog W = .ok (.int .u8 (c.toNat : Int)) W := fun W =>
        run_index_str Tryz.underlying9 S .i64 ((k0 : Int) + k) c (by omega) (by rw [show ((k0 : Int) + k).toNat = k0 + k by omega]; exact hc) W
      have hc256 := c.toNat_lt
      have hgo : rdGo 0 0 (S.drop k0) = if k = 9 ∨ (0 < k ∧ c.toNat = 0) then .error 30 else if c.toNat < 128 then .ok (acc + c.toNat % 128 * 128 ^ k, k + 1) else rdGo (k + 1) (acc + c.toNat % 128 * 128 ^ k) (S.drop (k0 + k + 1)) := by
        rw [HH.out.2.2, hd]; rfl
      have hacc := HH.out.2.1
      have hTm0 := HH.out.1
      obtain ⟨ci, hci⟩ : ∃ ci, c.toNat = ci := ⟨_, rfl⟩
      rw [hci] at hidx hc256 hgo
      have Hgo := Lib.hid hgo
      clear hc hd hgo hci hend HH
      by_cases hf : k = 9 ∨ (0 < k ∧ ci = 0)
      · have Hv : RowKit.Hid (rdGo 0 0 (S.drop k0) = .error 30) := Lib.hid (by rw [Hgo.out, if_pos hf])
        have hvn : k = 9 ∨ (¬ k = 9 ∧ 0 < k ∧ ci = 0) := by omega
        clear Hgo hacc hTm0 hf
        rcases hvn with hv9 | ⟨hv9, hv0, hvc⟩
        · have h9 : ((k : Int) == 9) = true := beq_iff_eq.2 (by omega)
          clear hv9
          go_wp2_with fail
          refine wp_region_qe0 (by kernel_rfl) (by kernel_rfl) ?_
          repeat (quiet_step (fail))
          refine wpQuiet_nil ?_
          intro _ hw'
          obtain ⟨nq, rfl⟩ := hw'
          go_wp2_with fail
          refine wp_region_qe (by kernel_rfl) (by kernel_rfl) ?_
          repeat (quiet_step (fail))
          refine wpQuiet_nil ?_
          intro _ hw'
          obtain ⟨nq2, rfl⟩ := hw'
          go_wp2_with fail
          refine (r3fails_any S k0 0 30 r _ (blk_drewN H'.out nq2)).mono ?_
          rintro e w2 ⟨rfl, h2, hm2⟩
          have H2 := Lib.hid h2
          have HM2 : RowKit.Hid (Mod (· = r) w w2) := Lib.hid (((HK.out.drewN nq2).mono (fun _ _ h => h.elim)).trans hm2 (fun _ _ h => h))
          clear h2 hm2
          go_wp2_with fail
          go_ret2
          refine ⟨HM2.out, ?_⟩
          rw [Hv.out]
          exact ⟨rfl, H2.out⟩
        · have h9 : ((k : Int) == 9) = false := beq_false_of_ne (by omega)
          subst hvc
          have hk0 : 0 < (k : Int) := by omega
          go_wp2_with fail
          refine wp_region_qe0 (by kernel_rfl) (by kernel_rfl) ?_
          repeat (quiet_step (fail))
          refine wpQuiet_nil ?_
          intro _ hw'
          obtain ⟨nq, rfl⟩ := hw'
          go_wp2_with fail
          refine wp_region_qe (by kernel_rfl) (by kernel_rfl) ?_
          repeat (quiet_step (fail))
          refine wpQuiet_nil ?_
          intro _ hw'
          obtain ⟨nq2, rfl⟩ := hw'
          go_wp2_with fail
          refine (r3fails_any S k0 0 30 r _ (blk_drewN H'.out nq2)).mono ?_
          rintro e w2 ⟨rfl, h2, hm2⟩
          have H2 := Lib.hid h2
          have HM2 : RowKit.Hid (Mod (· = r) w w2) := Lib.hid (((HK.out.drewN nq2).mono (fun _ _ h => h.elim)).trans hm2 (fun _ _ h => h))
          clear h2 hm2
          go_wp2_with fail
          go_ret2
          refine ⟨HM2.out, ?_⟩
          rw [Hv.out]
          exact ⟨rfl, H2.out⟩
      · have hk8 : k ≤ 8 := by omega
        have hmin : min k 8 = k := by omega
        rw [hmin] at hTm0
        have hTb : Tm ≤ 72057594037927936 := by
          rw [hTm0]; exact Nat.le_trans (Nat.pow_le_pow_right (by omega) hk8) (by decide)
        obtain ⟨P, hP⟩ : ∃ P, ci % 128 * Tm = P := ⟨_, rfl⟩
        have hPb : P ≤ 127 * Tm := by rw [← hP]; exact Nat.mul_le_mul_right _ (by omega)
        have hmul : IntKind.i64.wrap ((ci : Int) % 128 * (Tm : Int)) = (P : Int) := by
          have e : (ci : Int) % 128 * (Tm : Int) = (P : Int) := by rw [← hP]; push_cast; rfl
          rw [e]; exact IntWalk.i64_in _ (by omega)
        have hacc2 : acc < Tm := by rw [hTm0]; exact hacc
        have hadd : IntKind.i64.wrap ((acc : Int) + P) = (acc : Int) + P := by rw [IntWalk.i64_in _ (by omega)]
        have htm : (ci : Int).tmod 128 = (ci : Int) % 128 := Int.tmod_eq_emod_of_nonneg (by omega)
        rw [← hTm0, hP] at Hgo
        have h9 : ((k : Int) == 9) = false := beq_false_of_ne (by omega)
        have HT0 := Lib.hid hTm0
        have hz : (¬ 0 < (k : Int)) ∨ (0 < (k : Int) ∧ ((ci : Int) == 0) = false) := by
          by_cases h0 : k = 0
          · exact .inl (by omega)
          · refine .inr ⟨by omega, beq_false_of_ne fun e => hf (.inr ⟨by omega, by omega⟩)⟩
        have Hf := Lib.hid hf
        have HB : RowKit.Hid (World.blk (wr.setCell ⟨r, 1, none⟩ (.int .i64 ((k0 : Int) + ((k : Int) + 1)))) r #[.string ⟨S.toArray⟩, .int .i64 ((k0 + (k + 1) : Nat) : Int), .int .i64 0] 101) := Lib.hid (by
          have h := blk_set H'.out 1 (.int .i64 ((k0 : Int) + ((k : Int) + 1)))
          have e : ((k0 + (k + 1) : Nat) : Int) = (k0 : Int) + ((k : Int) + 1) := by omega
          rw [e]; exact h)
        have HMs : RowKit.Hid (Mod (· = r) w (wr.setCell ⟨r, 1, none⟩ (.int .i64 ((k0 : Int) + ((k : Int) + 1))))) := Lib.hid (Mod.setCell (S := fun x => x = r) (p := ⟨r, 1, none⟩) (HK.out.mono (fun _ _ h => h.elim)) (.inl rfl) _)
        have Hacc := Lib.hid hacc
        have hw1 : IntKind.i64.wrap ((k : Int) + 1) = (k : Int) + 1 := IntWalk.i64_in _ (by omega)
        have hw2 : IntKind.i64.wrap ((k0 : Int) + ((k : Int) + 1)) = (k0 : Int) + ((k : Int) + 1) := IntWalk.i64_in _ (by omega)
        have htm8 : k < 8 → IntKind.i64.wrap ((Tm : Int) * 128) = (Tm : Int) * 128 := fun h8 => IntWalk.i64_in _ (by
          have h7 : Tm ≤ 562949953421312 := by
            rw [hTm0]; exact Nat.le_trans (Nat.pow_le_pow_right (by omega) (show k ≤ 7 by omega)) (by decide)
          omega)
        have Htm8 := Lib.hid htm8
        clear hf hTm0 hmin hacc htm8
        rcases hz with hz | ⟨hz, hz2⟩
        · by_cases hc : ci < 128
          · have hci : (ci : Int) < 128 := by omega
            have Hv : RowKit.Hid (rdGo 0 0 (S.drop k0) = .ok (acc + P, k + 1)) := Lib.hid (by rw [Hgo.out, if_neg Hf.out, if_pos hc])
            clear Hgo hc
            by_cases ht : acc + P ≤ 4611686018427387903 ∧ ((acc + P : Nat) : Int) ≤ most
            · have Ht := Lib.hid ht
              have ht1 : ¬ (4611686018427387903 : Int) < (acc : Int) + P := by omega
              have ht2 : ¬ most < (acc : Int) + P := by omega
              clear ht
              go_wp2_with fail
              refine wp_region_qe0 (by kernel_rfl) (by kernel_rfl) ?_
              repeat (quiet_step (fail))
              refine wpQuiet_nil ?_
              intro _ hw'
              obtain ⟨nq, rfl⟩ := hw'
              go_wp2_with fail
              refine wp_region_qe (by kernel_rfl) (by kernel_rfl) ?_
              repeat (quiet_step (fail))
              refine wpQuiet_nil ?_
              intro _ hw'
              obtain ⟨nq2, rfl⟩ := hw'
              go_wp2_with fail
              go_ret2
              refine ⟨HMs.out.drewN _, ?_⟩
              rw [Hv.out]
              simp only
              rw [if_pos Ht.out]
              exact ⟨by rw [show ((acc + P : Nat) : Int) = (acc : Int) + P by omega]; rfl, blk_drewN HB.out _⟩
            · have Ht := Lib.hid ht
              have ht1 : (4611686018427387903 : Int) < (acc : Int) + P ∨ (¬ (4611686018427387903 : Int) < (acc : Int) + P ∧ most < (acc : Int) + P) := by omega
              clear ht
              rcases ht1 with ht1 | ⟨ht1, ht2⟩
              all_goals
                go_wp2_with fail
                refine wp_region_qe0 (by kernel_rfl) (by kernel_rfl) ?_
                repeat (quiet_step (fail))
                refine wpQuiet_nil ?_
                intro _ hw'
                obtain ⟨nq, rfl⟩ := hw'
                go_wp2_with fail
                refine wp_region_qe (by kernel_rfl) (by kernel_rfl) ?_
                repeat (quiet_step (fail))
                refine wpQuiet_nil ?_
                intro _ hw'
                obtain ⟨nq2, rfl⟩ := hw'
                go_wp2_with fail
                refine (r3fails_any S (k0 + (k + 1)) 0 31 r _ (blk_drewN HB.out nq2)).mono ?_
                rintro e w2 ⟨rfl, h2, hm2⟩
                have H2 := Lib.hid h2
                have HM2 : RowKit.Hid (Mod (· = r) w w2) := Lib.hid ((HMs.out.drewN nq2).trans hm2 (fun _ _ h => h))
                clear h2 hm2
                go_wp2_with fail
                go_ret2
                refine ⟨HM2.out, ?_⟩
                rw [Hv.out]
                simp only
                rw [if_neg Ht.out]
                exact ⟨rfl, H2.out⟩
          · have hci : ¬ (ci : Int) < 128 := by omega
            have Hv : RowKit.Hid (rdGo 0 0 (S.drop k0) = rdGo (k + 1) (acc + P) (S.drop (k0 + k + 1))) := Lib.hid (by rw [Hgo.out, if_neg Hf.out, if_neg hc])
            clear Hgo hc
            have Hnx : RowKit.Hid (acc + P < 128 ^ (k + 1)) := Lib.hid (by
              rw [Nat.pow_succ, ← HT0.out]; omega)
            by_cases hk8b : k < 8
            · have hk8i : (k : Int) < 8 := by omega
              have htm8 := Htm8.out hk8b
              go_wp2_with fail
              refine wp_region_qe0 (by kernel_rfl) (by kernel_rfl) ?_
              repeat (quiet_step (fail))
              refine wpQuiet_nil ?_
              intro _ hw'
              obtain ⟨nq, rfl⟩ := hw'
              go_wp2_with fail
              refine wp_region_qe (by kernel_rfl) (by kernel_rfl) ?_
              repeat (quiet_step (fail))
              refine wpQuiet_nil ?_
              intro _ hw'
              obtain ⟨nq2, rfl⟩ := hw'
              go_wp2_with fail
              exact ⟨⟨k + 1, acc + P, Tm * 128, by omega, by omega, by go_num, by rw [show ((acc + P : Nat) : Int) = (acc : Int) + P by omega], by rw [show ((Tm * 128 : Nat) : Int) = (Tm : Int) * 128 by omega], HK.out.drewN _, Lib.hid ⟨by rw [show min (k + 1) 8 = k + 1 by omega, Nat.pow_succ, ← HT0.out], Hnx.out, Hv.out⟩⟩, by simp [intOf]; omega⟩
            · exfalso; omega
        · by_cases hc : ci < 128
          · have hci : (ci : Int) < 128 := by omega
            have Hv : RowKit.Hid (rdGo 0 0 (S.drop k0) = .ok (acc + P, k + 1)) := Lib.hid (by rw [Hgo.out, if_neg Hf.out, if_pos hc])
            clear Hgo hc
            by_cases ht : acc + P ≤ 4611686018427387903 ∧ ((acc + P : Nat) : Int) ≤ most
            · have Ht := Lib.hid ht
              have ht1 : ¬ (4611686018427387903 : Int) < (acc : Int) + P := by omega
              have ht2 : ¬ most < (acc : Int) + P := by omega
              clear ht
              go_wp2_with fail
              refine wp_region_qe0 (by kernel_rfl) (by kernel_rfl) ?_
              repeat (quiet_step (fail))
              refine wpQuiet_nil ?_
              intro _ hw'
              obtain ⟨nq, rfl⟩ := hw'
              go_wp2_with fail
              refine wp_region_qe (by kernel_rfl) (by kernel_rfl) ?_
              repeat (quiet_step (fail))
              refine wpQuiet_nil ?_
              intro _ hw'
              obtain ⟨nq2, rfl⟩ := hw'
              go_wp2_with fail
              go_ret2
              refine ⟨HMs.out.drewN _, ?_⟩
              rw [Hv.out]
              simp only
              rw [if_pos Ht.out]
              exact ⟨by rw [show ((acc + P : Nat) : Int) = (acc : Int) + P by omega]; rfl, blk_drewN HB.out _⟩
            · have Ht := Lib.hid ht
              have ht1 : (4611686018427387903 : Int) < (acc : Int) + P ∨ (¬ (4611686018427387903 : Int) < (acc : Int) + P ∧ most < (acc : Int) + P) := by omega
              clear ht
              rcases ht1 with ht1 | ⟨ht1, ht2⟩
              all_goals
                go_wp2_with fail
                refine wp_region_qe0 (by kernel_rfl) (by kernel_rfl) ?_
                repeat (quiet_step (fail))
                refine wpQuiet_nil ?_
                intro _ hw'
                obtain ⟨nq, rfl⟩ := hw'
                go_wp2_with fail
                refine wp_region_qe (by kernel_rfl) (by kernel_rfl) ?_
                repeat (quiet_step (fail))
                refine wpQuiet_nil ?_
                intro _ hw'
                obtain ⟨nq2, rfl⟩ := hw'
                go_wp2_with fail
                refine (r3fails_any S (k0 + (k + 1)) 0 31 r _ (blk_drewN HB.out nq2)).mono ?_
                rintro e w2 ⟨rfl, h2, hm2⟩
                have H2 := Lib.hid h2
                have HM2 : RowKit.Hid (Mod (· = r) w w2) := Lib.hid ((HMs.out.drewN nq2).trans hm2 (fun _ _ h => h))
                clear h2 hm2
                go_wp2_with fail
                go_ret2
                refine ⟨HM2.out, ?_⟩
                rw [Hv.out]
                simp only
                rw [if_neg Ht.out]
                exact ⟨rfl, H2.out⟩
          · have hci : ¬ (ci : Int) < 128 := by omega
            have Hv : RowKit.Hid (rdGo 0 0 (S.drop k0) = rdGo (k + 1) (acc + P) (S.drop (k0 + k + 1))) := Lib.hid (by rw [Hgo.out, if_neg Hf.out, if_neg hc])
            clear Hgo hc
            have Hnx : RowKit.Hid (acc + P < 128 ^ (k + 1)) := Lib.hid (by
              rw [Nat.pow_succ, ← HT0.out]; omega)
            by_cases hk8b : k < 8
            · have hk8i : (k : Int) < 8 := by omega
              have htm8 := Htm8.out hk8b
              go_wp2_with fail
              refine wp_region_qe0 (by kernel_rfl) (by kernel_rfl) ?_
              repeat (quiet_step (fail))
              refine wpQuiet_nil ?_
              intro _ hw'
              obtain ⟨nq, rfl⟩ := hw'
              go_wp2_with fail
              refine wp_region_qe (by kernel_rfl) (by kernel_rfl) ?_
              repeat (quiet_step (fail))
              refine wpQuiet_nil ?_
              intro _ hw'
              obtain ⟨nq2, rfl⟩ := hw'
              go_wp2_with fail
              exact ⟨⟨k + 1, acc + P, Tm * 128, by omega, by omega, by go_num, by rw [show ((acc + P : Nat) : Int) = (acc : Int) + P by omega], by rw [show ((Tm * 128 : Nat) : Int) = (Tm : Int) * 128 by omega], HK.out.drewN _, Lib.hid ⟨by rw [show min (k + 1) 8 = k + 1 by omega, Nat.pow_succ, ← HT0.out], Hnx.out, Hv.out⟩⟩, by simp [intOf]; omega⟩
            · have hk8i : ¬ (k : Int) < 8 := by omega
              go_wp2_with fail
              refine wp_region_qe0 (by kernel_rfl) (by kernel_rfl) ?_
              repeat (quiet_step (fail))
              refine wpQuiet_nil ?_
              intro _ hw'
              obtain ⟨nq, rfl⟩ := hw'
              go_wp2_with fail
              refine wp_region_qe (by kernel_rfl) (by kernel_rfl) ?_
              repeat (quiet_step (fail))
              refine wpQuiet_nil ?_
              intro _ hw'
              obtain ⟨nq2, rfl⟩ := hw'
              go_wp2_with fail
              exact ⟨⟨k + 1, acc + P, Tm, by omega, by omega, by go_num, by rw [show ((acc + P : Nat) : Int) = (acc : Int) + P by omega], rfl, HK.out.drewN _, Lib.hid ⟨by rw [show min (k + 1) 8 = k by omega]; exact HT0.out, Hnx.out, Hv.out⟩⟩, by simp [intOf]; omega⟩
end
section
open Go.RowKit
theorem rdGo_err : ∀ (s : List UInt8) (i n : Nat) (x : Int), rdGo i n s = .error x → (x == 0) = false := by
  intro s
  induction s with
  | nil => intro i n x h; cases h; rfl
  | cons c r ih =>
    intro i n x h
    rw [rdGo] at h
    split at h
    · cases h; rfl
    · split at h
      · cases h
      · exact ih _ _ _ h
theorem run_cut_str (S : List UInt8) (i j : Nat) (x y : Int) (hx : x = i) (hy : y = j) (hij : i ≤ j) (hj : j ≤ S.length) (W : World) : (Instr.slice 9 (.string ⟨S.toArray⟩) (some (.int .i64 x)) (some (.int .i64 y)) none).run Tryz.prog W = .ok (.string ⟨((S.drop i).take (j - i)).toArray⟩) W := by
  subst hx hy
  rw [run_slice_string_if W 9 _ .i64 .i64 _ _ Tryz.underlying9]
  have hs : (⟨S.toArray⟩ : ByteArray).size = S.length := by simp [ByteArray.size]
  rw [if_pos (by rw [hs]; omega), if_pos (by omega), Int.toNat_natCast, Int.toNat_natCast]
  congr 2
  apply ByteArray.ext
  simp [List.extract_eq_take_drop]
def R3TextPost (w : World) (r : Nat) (S : List UInt8) (k0 : Nat) (most : Int) (e : Ending) (w' : World) : Prop :=
  Mod (· = r) w w' ∧ match rdGo 0 0 (S.drop k0) with
    | .error x => e = .returned (.tuple #[.string ⟨#[]⟩, .int .i64 x]) ∧ IsR3 w' r S k0 x
    | .ok (n, k) => if (n : Int) ≤ most then (if k0 + k + n ≤ S.length then e = .returned (.tuple #[.string ⟨((S.drop (k0 + k)).take n).toArray⟩, .int .i64 0]) ∧ IsR3 w' r S (k0 + k + n) 0 else e = .returned (.tuple #[.string ⟨#[]⟩, .int .i64 32]) ∧ IsR3 w' r S (k0 + k) 32) else e = .returned (.tuple #[.string ⟨#[]⟩, .int .i64 31]) ∧ IsR3 w' r S (k0 + k) 31
set_option maxRecDepth 100000 in
set_option maxHeartbeats 4000000 in
theorem r3text_any (S : List UInt8) (k0 : Nat) (most : Int) (r : Nat) (w : World) (h : IsR3 w r S k0 0) (hk : k0 ≤ S.length) (hS : S.length ≤ 1000000) (hm : most ≤ 65536) :
    Calls Tryz.prog 59 #[.pointer (some ⟨r, 0, none⟩), .int .i64 most] w (R3TextPost w r S k0 most) := by
  have H := Lib.hid h
  have hmin : min most 65536 = most := by omega
  have hSi : (S.length : Int) ≤ 1000000 := by omega
  clear h
  go_enter Tryz.func59, Tryz.ntmps59
  go_wp2_with fail
  refine (r3num_any S k0 most r w H.out hk hS (by omega)).mono ?_
  rintro e w1 ⟨hm1, hp⟩
  have HM1 := Lib.hid hm1
  clear hm1
  cases hg : rdGo 0 0 (S.drop k0) with
  | error x =>
    rw [hg] at hp
    obtain ⟨rfl, h1⟩ := hp
    have H1 := Lib.hid h1
    have Hg := Lib.hid hg
    have hx : (x == 0) = false := rdGo_err _ _ _ _ hg
    clear h1 hg
    go_wp2_with fail
    go_ret2
    refine ⟨HM1.out, ?_⟩
    rw [Hg.out]
    exact ⟨rfl, H1.out⟩
  | ok nk =>
    obtain ⟨n, k⟩ := nk
    rw [hg] at hp
    simp only at hp
    have Hg := Lib.hid hg
    obtain ⟨hb1, hb2, hb3⟩ := rdGo_bound _ _ _ _ _ (by omega) (by omega) hg
    rw [List.length_drop] at hb3
    clear hg
    by_cases hc : n ≤ 4611686018427387903 ∧ (n : Int) ≤ most
    · rw [if_pos hc] at hp
      obtain ⟨rfl, h1⟩ := hp
      have H1 := Lib.hid h1
      have hn : n ≤ 65536 := by omega
      have hnm : (n : Int) ≤ most := hc.2
      have c0 : w1.cell? ⟨r, 0, none⟩ = some (.string ⟨S.toArray⟩) := blk_cell h1 0
      have c1 : w1.cell? ⟨r, 1, none⟩ = some (.int .i64 ((k0 + k : Nat) : Int)) := blk_cell h1 1
      have f1 : w1.frozen? ⟨r, 1, none⟩ = false := blk_free h1 _ rfl
      obtain ⟨K, hK⟩ : ∃ K, k0 + k = K := ⟨_, rfl⟩
      rw [hK] at H1 c1
      have hKl : K ≤ S.length := by omega
      clear h1 hc
      have hw1 : IntKind.i64.wrap ((S.length : Int) - K) = (S.length : Int) - K := IntWalk.i64_in _ (by omega)
      have hw2 : IntKind.i64.wrap ((K : Int) + n) = (K : Int) + n := IntWalk.i64_in _ (by omega)
      have hw3 : IntKind.i64.wrap ((K : Int) + n - n) = (K : Int) := by rw [IntWalk.i64_in _ (by omega)]; omega
      have hwK : IntKind.i64.wrap (K : Int) = (K : Int) := IntWalk.i64_in _ (by omega)
      by_cases hl : K + n ≤ S.length
      · have hle : ¬ (S.length : Int) - K < (n : Int) := by omega
        go_wp2_with fail
        refine wp_region_qe0 (by kernel_rfl) (by kernel_rfl) ?_
        repeat (quiet_step (fail))
        refine wpQuiet_nil ?_
        intro _ hw'
        obtain ⟨nq, rfl⟩ := hw'
        go_wp2_with fail
        have HB : RowKit.Hid (IsR3 (w1.setCell ⟨r, 1, none⟩ (.int .i64 ((K : Int) + n))) r S (K + n) 0) := Lib.hid (by
          have h := blk_set H1.out 1 (.int .i64 ((K : Int) + n))
          unfold IsR3
          rw [show ((K + n : Nat) : Int) = (K : Int) + n by omega]; exact h)
        have HM2 : RowKit.Hid (Mod (· = r) w (w1.setCell ⟨r, 1, none⟩ (.int .i64 ((K : Int) + n)))) := Lib.hid (Mod.setCell (S := fun x => x = r) (p := ⟨r, 1, none⟩) HM1.out (.inl rfl) _)
        have d0 : (w1.setCell ⟨r, 1, none⟩ (.int .i64 ((K : Int) + n))).cell? ⟨r, 0, none⟩ = some (.string ⟨S.toArray⟩) := blk_cell HB.out 0
        have d1 : (w1.setCell ⟨r, 1, none⟩ (.int .i64 ((K : Int) + n))).cell? ⟨r, 1, none⟩ = some (.int .i64 ((K : Int) + n)) := by
          have h := blk_cell HB.out 1
          rw [h]
          show some (Value.int .i64 ((K + n : Nat) : Int)) = _
          rw [show ((K + n : Nat) : Int) = (K : Int) + n by omega]
        generalize w1.setCell ⟨r, 1, none⟩ (.int .i64 ((K : Int) + n)) = w3 at *
        have hcut := run_cut_str S K (K + n) (K : Int) ((K : Int) + n) rfl (by omega) (by omega) hl
        rw [show K + n - K = n by omega] at hcut
        clear c0 c1 f1
        refine wp_region_qe (by kernel_rfl) (by kernel_rfl) ?_
        repeat (quiet_step (fail))
        refine wpQuiet_nil ?_
        intro _ hw'
        obtain ⟨nq2, rfl⟩ := hw'
        go_wp2_with fail
        go_ret2
        refine ⟨HM2.out.drewN _, ?_⟩
        rw [Hg.out]
        simp only
        rw [if_pos hnm, hK, if_pos hl]
        refine ⟨?_, blk_drewN HB.out _⟩
        rfl
      · have hle : (S.length : Int) - K < (n : Int) := by omega
        go_wp2_with fail
        refine wp_region_qe0 (by kernel_rfl) (by kernel_rfl) ?_
        repeat (quiet_step (fail))
        refine wpQuiet_nil ?_
        intro _ hw'
        obtain ⟨nq, rfl⟩ := hw'
        go_wp2_with fail
        refine (r3fails_any S K 0 32 r _ (blk_drewN H1.out nq)).mono ?_
        rintro e w2 ⟨rfl, h2, hm2⟩
        have H2 := Lib.hid h2
        have HM2 : RowKit.Hid (Mod (· = r) w w2) := Lib.hid ((HM1.out.drewN nq).trans hm2 (fun _ _ h => h))
        clear h2 hm2
        go_wp2_with fail
        go_ret2
        refine ⟨HM2.out, ?_⟩
        rw [Hg.out]
        simp only
        rw [if_pos hnm, hK, if_neg hl]
        exact ⟨rfl, H2.out⟩
    · rw [if_neg hc] at hp
      obtain ⟨rfl, h1⟩ := hp
      have H1 := Lib.hid h1
      have Hn : RowKit.Hid (¬ (n : Int) ≤ most) := Lib.hid (by omega)
      clear h1 hc
      go_wp2_with fail
      go_ret2
      refine ⟨HM1.out, ?_⟩
      rw [Hg.out]
      simp only
      rw [if_neg (by have := Hn.out; omega)]
      exact ⟨rfl, H1.out⟩
end
section
open Go.RowKit
theorem ents_at {l : Nm} (h : entsOk l = true) {k : Nat} {x : List UInt8 × Int} (hx : l[k]? = some x) : nameOk x.1 = true ∧ 1 ≤ x.2 ∧ x.2 ≤ 65535 ∧ ∀ j y, k = j + 1 → l[j]? = some y → bytesBefore y.1 x.1 = true := by
  rw [entsOk, Bool.and_eq_true] at h
  have h1 : entsB none (l.take (k + 1)) = true := by
    have h2 := h.2
    rw [← List.take_append_drop (k + 1) l, entsB_append, Bool.and_eq_true] at h2
    exact h2.1
  rw [entsB_take hx, Bool.and_eq_true] at h1
  have h3 := h1.2
  simp only [entB, Bool.and_eq_true, decide_eq_true_eq] at h3
  refine ⟨h3.1.1.1, h3.1.2, h3.2, fun j y e hy => ?_⟩
  subst e
  have h4 := h3.1.1.2
  rw [take_snoc hy] at h4
  simpa [lastOf] using h4
set_option maxRecDepth 100000 in
set_option maxHeartbeats 4000000 in
theorem rentries_ok (l : Nm) (v : Value) (w : World) (hrow : RowF entC 2 w v l) (hok : entsOk l = true) :
    Calls Tryz.prog 60 #[v] w fun e w' => e = .returned (.tuple #[.string ⟨(encE l).toArray⟩, .int .i64 0]) ∧ Keep w w' := by
  obtain ⟨va, vcap, rfl, hx⟩ := hrow
  have HX := Lib.hid hx
  have HOk := Lib.hid hok
  have hl : l.length ≤ 4096 := by
    rw [entsOk, Bool.and_eq_true, decide_eq_true_eq] at hok; exact hok.1
  have hli : ¬ (4096 : Int) < l.length := by omega
  have hmk : ∀ W : World, True := fun _ => trivial
  clear hx hok
  go_enter Tryz.func60, Tryz.ntmps60
  go_wp2_with fail
  refine (rnums_any [l.length] _ _ (by simp; omega) (by simp) (fun j n hj => ?_)).mono ?_
  · obtain ⟨rfl, rfl⟩ : j = 0 ∧ n = l.length := by
      cases j <;> simp at hj
      exact ⟨rfl, hj.symm⟩
    exact blk_cell (blk_new _ _ _) 0
  rintro e w1 ⟨rfl, hk1⟩
  have HK1 := Lib.hid (unalloc hk1)
  have hlim : (encN l.length).length ≤ 9 := encN_9 (by omega)
  clear hk1
  go_wp2_with fail
  go_loopw [4, 5] (fun v i wr => ∃ (k : Nat) (pre : List UInt8), k ≤ l.length ∧ i = .int .i64 (k : Int) ∧ v = .string ⟨pre.toArray⟩ ∧ RowKit.Hid (pre = encN l.length ++ (l.take k).flatMap encE1) ∧ Keep w wr) (fun _ i _ => l.length - (intOf i).toNat)
  case atStart => exact ⟨0, _, by omega, rfl, rfl, Lib.hid (by simp), HK1.out⟩
  case round =>
    obtain ⟨k, pre, hk, rfl, rfl, Hp, hK⟩ := hrel
    have HK := Lib.hid hK
    clear hK
    by_cases hlt : k < l.length
    · obtain ⟨x, hx⟩ : ∃ x, l[k]? = some x := ⟨_, List.getElem?_eq_getElem hlt⟩
      obtain ⟨hn, h1, h2, hprev⟩ := ents_at HOk.out hx
      obtain ⟨b, o, rfl, hc⟩ := HX.out k x hx
      have c0 : wr.cell? ⟨b, o + k * 2, none⟩ = some (.string ⟨x.1.toArray⟩) := by have h := hc 0 _ rfl; rw [HK.out.cell (p := ⟨b, o + k * 2, none⟩) (lt_of_cell h) id]; exact h
      have c1 : wr.cell? ⟨b, o + k * 2 + 1, none⟩ = some (.int .i64 x.2) := by have h := hc 1 _ rfl; rw [HK.out.cell (p := ⟨b, o + k * 2 + 1, none⟩) (lt_of_cell h) id]; exact h
      have Hx := Lib.hid hx
      have Hn := Lib.hid hn
      have hx16 := (ents_all HOk.out x (List.mem_of_getElem? hx)).1
      have hkl : (k : Int) < l.length := by omega
      have hpl : pre.length ≤ 1000000 := by
        refine pre_len (l := l) (k := k) Hp.out.symm hl ?_
        have h3 := HOk.out
        rw [entsOk, Bool.and_eq_true] at h3
        have h4 := h3.2
        rw [← List.take_append_drop (k + 1) l, entsB_append, Bool.and_eq_true] at h4
        exact h4.1
      have hd1 : decide (x.2 < 1) = false := decide_eq_false (by omega)
      have hd2 : decide (65535 < x.2) = false := decide_eq_false (by omega)
      have hx2l : (0 : Int) ≤ x.2 := by omega
      clear hn hc
      by_cases hk0 : k = 0
      · subst hk0
        clear hprev
        rw [Nat.zero_mul, Nat.add_zero] at c0 c1
        have hcall : ∀ W : World, Calls Tryz.prog 77 #[.string ⟨x.1.toArray⟩] W fun e w' => e = .returned (.bool true) ∧ w' = W := fun W => by
          have h := rname_any x.1 W (by omega)
          rw [Hn.out] at h; exact h.mono fun _ _ ⟨a, b⟩ => ⟨a, b.symm⟩
        go_wp2_with fail
        have HBx : RowKit.Hid (World.blk (wr.alloc (.cells #[.string ⟨x.1.toArray⟩, .int .i64 x.2] 98)) wr.heap.size #[.string ⟨x.1.toArray⟩, .int .i64 x.2] 98) := Lib.hid (blk_new _ _ _)
        have HKx : RowKit.Hid (Keep wr (wr.alloc (.cells #[.string ⟨x.1.toArray⟩, .int .i64 x.2] 98))) := Lib.hid ((Mod.refl _ wr).alloc _)
        generalize wr.alloc (.cells #[.string ⟨x.1.toArray⟩, .int .i64 x.2] 98) = wa at *
        have e0 : wa.cell? ⟨wr.heap.size, 0, none⟩ = some (.string ⟨x.1.toArray⟩) := blk_cell HBx.out 0
        have e1 : wa.cell? ⟨wr.heap.size, 1, none⟩ = some (.int .i64 x.2) := blk_cell HBx.out 1
        obtain ⟨xb, hxb⟩ : ∃ xb, wr.heap.size = xb := ⟨_, rfl⟩
        rw [hxb] at HBx e0 e1
        rw [hxb]
        clear c0 c1 hxb
        refine wp_region_qe0 (by kernel_rfl) (by kernel_rfl) ?_
        repeat (go_big_quiet_step ((exact Calls.quiet_of_same (hcall _))))
        refine wpQuiet_nil ?_
        intro _ hw'
        obtain ⟨nq, rfl⟩ := hw'
        go_wp2_with fail
        refine (rtextb_any x.1 _ (by omega)).mono ?_
        rintro e w3 ⟨rfl, hk3⟩
        have HB3 := Lib.hid (blk_mod hk3 (blk_drewN HBx.out nq) id)
        have HK3 : RowKit.Hid (Keep w w3) := Lib.hid (((HK.out.keep HKx.out).drewN nq).keep hk3)
        have g1 : w3.cell? ⟨xb, 1, none⟩ = some (.int .i64 x.2) := blk_cell HB3.out 1
        clear hk3 e0 e1 HBx HKx
        go_wp2_with fail
        refine (rnums_any [x.2.toNat] _ _ (by simp; omega) (by simp) (fun j n hj => ?_)).mono ?_
        · obtain ⟨rfl, rfl⟩ : j = 0 ∧ n = x.2.toNat := by
            cases j <;> simp at hj
            exact ⟨rfl, hj.symm⟩
          rw [show ((x.2.toNat : Nat) : Int) = x.2 by omega]
          exact blk_cell (blk_new _ _ _) 0
        rintro e w4 ⟨rfl, hk4⟩
        have HK4 := Lib.hid (HK3.out.keep (unalloc hk4))
        have hl2 : (encN x.2.toNat).length ≤ 9 := encN_9 (by omega)
        have hl3 : (encN x.1.length).length ≤ 9 := encN_9 (by omega)
        have hl4 : ([x.2.toNat].flatMap encN).length ≤ 9 := by simpa using hl2
        clear hk4 g1
        go_wp2_with fail
        exact ⟨⟨0 + 1, _, by omega, by go_num, rfl, Lib.hid (by rw [take_snoc Hx.out, Hp.out]; simp [encE1]), HK4.out⟩, by simp [intOf]; omega⟩
      · obtain ⟨j, rfl⟩ : ∃ j, k = j + 1 := ⟨k - 1, by omega⟩
        obtain ⟨y, hy⟩ : ∃ y, l[j]? = some y := ⟨_, List.getElem?_eq_getElem (by omega)⟩
        have hbb := hprev j y rfl hy
        have hg := gtr_before x.1 y.1
        rw [hbb] at hg
        have hbl : (Op.bytesLess x.1 y.1 || x.1 == y.1) = false := by simpa using hg
        clear hg
        obtain ⟨b2, o2, e2, hc2⟩ := HX.out j y hy
        injection e2 with e3
        injection e3 with e4 e5
        subst e4 e5
        have d0 : wr.cell? ⟨b, o + j * 2, none⟩ = some (.string ⟨y.1.toArray⟩) := by have h := hc2 0 _ rfl; rw [HK.out.cell (p := ⟨b, o + j * 2, none⟩) (lt_of_cell h) id]; exact h
        have hjl : (j : Int) < l.length := by omega
        have hk1 : (0 : Int) < ((j + 1 : Nat) : Int) := by omega
        clear hprev hbb hc2 hy
        have hcall : ∀ W : World, Calls Tryz.prog 77 #[.string ⟨x.1.toArray⟩] W fun e w' => e = .returned (.bool true) ∧ w' = W := fun W => by
          have h := rname_any x.1 W (by omega)
          rw [Hn.out] at h; exact h.mono fun _ _ ⟨a, b⟩ => ⟨a, b.symm⟩
        go_wp2_with fail
        have HBx : RowKit.Hid (World.blk (wr.alloc (.cells #[.string ⟨x.1.toArray⟩, .int .i64 x.2] 98)) wr.heap.size #[.string ⟨x.1.toArray⟩, .int .i64 x.2] 98) := Lib.hid (blk_new _ _ _)
        have HKx : RowKit.Hid (Keep wr (wr.alloc (.cells #[.string ⟨x.1.toArray⟩, .int .i64 x.2] 98))) := Lib.hid ((Mod.refl _ wr).alloc _)
        generalize wr.alloc (.cells #[.string ⟨x.1.toArray⟩, .int .i64 x.2] 98) = wa at *
        have e0 : wa.cell? ⟨wr.heap.size, 0, none⟩ = some (.string ⟨x.1.toArray⟩) := blk_cell HBx.out 0
        have e1 : wa.cell? ⟨wr.heap.size, 1, none⟩ = some (.int .i64 x.2) := blk_cell HBx.out 1
        have d1 : wa.cell? ⟨b, o + j * 2, none⟩ = some (.string ⟨y.1.toArray⟩) := by rw [HKx.out.cell (p := ⟨b, o + j * 2, none⟩) (lt_of_cell d0) id]; exact d0
        clear d0
        obtain ⟨xb, hxb⟩ : ∃ xb, wr.heap.size = xb := ⟨_, rfl⟩
        rw [hxb] at HBx e0 e1
        rw [hxb]
        clear c0 c1 hxb
        refine wp_region_qe0 (by kernel_rfl) (by kernel_rfl) ?_
        repeat (go_big_quiet_step ((exact Calls.quiet_of_same (hcall _))))
        refine wpQuiet_nil ?_
        intro _ hw'
        obtain ⟨nq, rfl⟩ := hw'
        go_wp2_with fail
        refine (rtextb_any x.1 _ (by omega)).mono ?_
        rintro e w3 ⟨rfl, hk3⟩
        have HB3 := Lib.hid (blk_mod hk3 (blk_drewN HBx.out nq) id)
        have HK3 : RowKit.Hid (Keep w w3) := Lib.hid (((HK.out.keep HKx.out).drewN nq).keep hk3)
        have g1 : w3.cell? ⟨xb, 1, none⟩ = some (.int .i64 x.2) := blk_cell HB3.out 1
        clear hk3 e0 e1 HBx HKx
        go_wp2_with fail
        refine (rnums_any [x.2.toNat] _ _ (by simp; omega) (by simp) (fun j n hj => ?_)).mono ?_
        · obtain ⟨rfl, rfl⟩ : j = 0 ∧ n = x.2.toNat := by
            cases j <;> simp at hj
            exact ⟨rfl, hj.symm⟩
          rw [show ((x.2.toNat : Nat) : Int) = x.2 by omega]
          exact blk_cell (blk_new _ _ _) 0
        rintro e w4 ⟨rfl, hk4⟩
        have HK4 := Lib.hid (HK3.out.keep (unalloc hk4))
        have hl2 : (encN x.2.toNat).length ≤ 9 := encN_9 (by omega)
        have hl3 : (encN x.1.length).length ≤ 9 := encN_9 (by omega)
        have hl4 : ([x.2.toNat].flatMap encN).length ≤ 9 := by simpa using hl2
        clear hk4 g1
        go_wp2_with fail
        exact ⟨⟨j + 1 + 1, _, by omega, by go_num, rfl, Lib.hid (by rw [take_snoc Hx.out, Hp.out]; simp [encE1]), HK4.out⟩, by simp [intOf]; omega⟩
    · obtain rfl : k = l.length := by omega
      clear hlt
      go_wp2_with fail
      go_ret2
      exact ⟨by rw [Hp.out, List.take_length]; rfl, HK.out⟩
end
section
open Go.RowKit
theorem r3num_ok (S rest : List UInt8) (n k0 : Nat) (most : Int) (r : Nat) (w : World) (h : IsR3 w r S k0 0) (hd : S.drop k0 = encN n ++ rest) (hS : S.length ≤ 1000000) (hm : most ≤ 9223372036854775807) (hn : n ≤ 4611686018427387903) (hnm : (n : Int) ≤ most) :
    Calls Tryz.prog 58 #[.pointer (some ⟨r, 0, none⟩), .int .i64 most] w fun e w' => e = .returned (.tuple #[.int .i64 (n : Int), .int .i64 0]) ∧ IsR3 w' r S (k0 + (encN n).length) 0 ∧ Mod (· = r) w w' := by
  have hk : k0 ≤ S.length := by
    rcases Nat.lt_or_ge S.length k0 with h1 | h1
    · rw [List.drop_of_length_le (by omega)] at hd
      have h2 := congrArg List.length hd
      have := encN_pos n
      rw [List.length_append] at h2
      simp at h2; omega
    · exact h1
  have hg : rdGo 0 0 (S.drop k0) = .ok (n, (encN n).length) := by
    rw [hd, rdGo_enc n 0 0 rest (fun h => by omega) (by simp only [Nat.reduceSub, Nat.reducePow]; omega) (by omega)]
    simp
  refine (r3num_any S k0 most r w h hk hS hm).mono ?_
  rintro e w' ⟨hm1, hp⟩
  rw [hg] at hp
  simp only at hp
  rw [if_pos ⟨hn, hnm⟩] at hp
  exact ⟨hp.1, hp.2, hm1⟩
theorem r3text_ok (S s rest : List UInt8) (k0 : Nat) (most : Int) (r : Nat) (w : World) (h : IsR3 w r S k0 0) (hd : S.drop k0 = encN s.length ++ (s ++ rest)) (hS : S.length ≤ 1000000) (hm : most ≤ 65536) (hnm : (s.length : Int) ≤ most) :
    Calls Tryz.prog 59 #[.pointer (some ⟨r, 0, none⟩), .int .i64 most] w fun e w' => e = .returned (.tuple #[.string ⟨s.toArray⟩, .int .i64 0]) ∧ IsR3 w' r S (k0 + (encN s.length).length + s.length) 0 ∧ Mod (· = r) w w' := by
  have hlen : S.length - k0 = (encN s.length).length + (s.length + rest.length) := by
    have h2 := congrArg List.length hd
    rw [List.length_drop, List.length_append, List.length_append] at h2
    exact h2
  have := encN_pos s.length
  have hk : k0 ≤ S.length := by omega
  have hg : rdGo 0 0 (S.drop k0) = .ok (s.length, (encN s.length).length) := by
    rw [hd, rdGo_enc s.length 0 0 _ (fun h => by omega) (by simp only [Nat.reduceSub, Nat.reducePow]; omega) (by omega)]
    simp
  have hcut : (S.drop (k0 + (encN s.length).length)).take s.length = s := by
    rw [← List.drop_drop, hd, List.drop_left' rfl, List.take_left' rfl]
  refine (r3text_any S k0 most r w h hk hS hm).mono ?_
  rintro e w' ⟨hm1, hp⟩
  rw [hg] at hp
  simp only at hp
  rw [if_pos hnm, if_pos (by omega), hcut] at hp
  exact ⟨hp.1, hp.2, hm1⟩
set_option maxRecDepth 100000 in
theorem r3end_ok (S : List UInt8) (r : Nat) (w : World) (h : IsR3 w r S S.length 0) (hS : S.length ≤ 1000000) : Calls Tryz.prog 61 #[.pointer (some ⟨r, 0, none⟩)] w fun e w' => e = .returned (.int .i64 0) ∧ Keep w w' := by
  have c0 : w.cell? ⟨r, 0, none⟩ = some (.string ⟨S.toArray⟩) := blk_cell h 0
  have c1 : w.cell? ⟨r, 1, none⟩ = some (.int .i64 (S.length : Int)) := blk_cell h 1
  have c2 : w.cell? ⟨r, 2, none⟩ = some (.int .i64 0) := blk_cell h 2
  have hi : ¬ (S.length : Int) < S.length := by omega
  clear h
  go_enter Tryz.func61, Tryz.ntmps61
  go_wp2_with fail
  refine wp_region_qe0 (by kernel_rfl) (by kernel_rfl) ?_
  repeat (quiet_step (fail))
  refine wpQuiet_nil ?_
  intro _ hw'
  obtain ⟨nq, rfl⟩ := hw'
  go_wp2_with fail
  go_ret
  exact ⟨rfl, (Mod.refl _ w).drewN _⟩
/-- how far the first entries reach -/
def offE (l : Nm) (k : Nat) : Nat := (encN l.length).length + ((l.take k).flatMap encE1).length
theorem off_drop (l : Nm) (k : Nat) : (encE l).drop (offE l k) = (l.drop k).flatMap encE1 := by
  unfold encE offE
  rw [← List.drop_drop, List.drop_left' rfl]
  conv => lhs; rw [← List.take_append_drop k l, List.flatMap_append]
  rw [List.take_append_drop, List.drop_left' rfl]
theorem off_step {l : Nm} {k : Nat} {x : List UInt8 × Int} (hx : l[k]? = some x) : (encE l).drop (offE l k) = encN x.1.length ++ (x.1 ++ (encN x.2.toNat ++ (l.drop (k + 1)).flatMap encE1)) ∧ offE l (k + 1) = offE l k + (encN x.1.length).length + x.1.length + (encN x.2.toNat).length := by
  constructor
  · rw [off_drop]
    have hlt := (List.getElem?_eq_some_iff.1 hx).1
    rw [List.drop_eq_getElem_cons hlt, List.flatMap_cons, show l[k] = x from Option.some.inj ((List.getElem?_eq_getElem hlt).symm.trans hx)]
    simp [encE1]
  · unfold offE
    rw [take_snoc hx, List.flatMap_append, List.length_append]
    simp [encE1]; omega
theorem off_end (l : Nm) : offE l l.length = (encE l).length := by
  unfold offE encE
  rw [List.take_length, List.length_append]
theorem own_modG {sz : Nat} {t : TypeId} {w w' : World} {base n : Nat} {v : Value} {xs : List Value} {S : Nat → Prop} (h : w.ownsRow base t sz v n xs) (k : Mod S w w') (hS : ∀ b o f m c, v = .slice (some ⟨b, o, f⟩) m c → ¬ S b) : w'.ownsRow base t sz v n xs := by
  obtain ⟨h1, h2⟩ := h
  refine ⟨h1, ?_⟩
  rcases h2 with h2 | ⟨g, cap, cur, a, b, c, d⟩
  · exact .inl h2
  · exact .inr ⟨g, cap, cur, a, b, k.obj c (hS g 0 none n cap a), d⟩
theorem own_ltG {sz : Nat} {t : TypeId} {w : World} {base n : Nat} {v : Value} {xs : List Value} (h : w.ownsRow base t sz v n xs) : ∀ b o f m c, v = .slice (some ⟨b, o, f⟩) m c → b < w.heap.size := by
  intro b o f m c e
  rcases h.2 with ⟨h2, _⟩ | ⟨g, cap, cur, a, hb, hc, d⟩
  · rw [h2] at e; cases e
  · rw [a] at e
    injection e with e1
    injection e1 with e2
    injection e2 with e3
    rw [← e3]; exact lt_of_obj hc
set_option maxRecDepth 100000 in
set_option maxHeartbeats 8000000 in
theorem rparsee_ok (l : Nm) (hok : entsOk l = true) (w : World) :
    Calls Tryz.prog 31 #[.string ⟨(encE l).toArray⟩] w fun e w' => ∃ v, e = .returned (.tuple #[v, .int .i64 0]) ∧ OwnF entC 2 98 w' w.heap.size v l ∧ Keep w w' := by
  have Hok := Lib.hid hok
  have hall : ∀ x ∈ l, x.1.length ≤ 16 ∧ 1 ≤ x.2 ∧ x.2 ≤ 65535 := ents_all hok
  have Hall := Lib.hid hall
  have hlen : l.length ≤ 4096 := by rw [entsOk, Bool.and_eq_true, decide_eq_true_eq] at hok; exact hok.1
  have hbl : (l.flatMap encE1).length ≤ l.length * 34 := by rw [entsOk, Bool.and_eq_true] at hok; exact ents_len _ hok.2
  obtain ⟨S, hS⟩ : ∃ S, encE l = S := ⟨_, rfl⟩
  have hSl : S.length ≤ 1000000 := by
    rw [← hS, encE, List.length_append]
    have := encN_9 (n := l.length) (by omega)
    omega
  rw [hS]
  have HS := Lib.hid hS
  have Hlen := Lib.hid hlen
  have hd0 : S.drop 0 = encN l.length ++ l.flatMap encE1 := by rw [← hS]; rfl
  have Hd0 := Lib.hid hd0
  clear hok hall hlen hbl hS hd0
  go_enter Tryz.func31, Tryz.ntmps31
  go_wp2_with fail
  refine (r3num_ok S _ l.length 0 4096 w.heap.size _ (blk_new _ _ _) Hd0.out hSl (by omega) (by have := Hlen.out; omega) (by have := Hlen.out; omega)).mono ?_
  rintro e w1 ⟨rfl, h1, hm1⟩
  have HK1 : RowKit.Hid (Keep w w1) := Lib.hid (((Mod.refl (fun _ => False) w).alloc _).new hm1 (Nat.le_refl _))
  have H1 : RowKit.Hid (IsR3 w1 w.heap.size S (offE l 0) 0) := Lib.hid (by
    have e : offE l 0 = 0 + (encN l.length).length := by simp [offE]
    rw [e]; exact h1)
  have hrl := blk_lt h1
  clear h1 hm1
  go_wp2_with fail
  have HK2 : RowKit.Hid (Keep w (w1.alloc (.cells #[] 98))) := Lib.hid (HK1.out.alloc _)
  have HR2 : RowKit.Hid (IsR3 (w1.alloc (.cells #[] 98)) w.heap.size S (offE l 0) 0) := Lib.hid (blk_alloc H1.out _)
  have HV2 : RowKit.Hid (OwnF entC 2 98 (w1.alloc (.cells #[] 98)) w1.heap.size (.slice (some ⟨w1.heap.size, 0, none⟩) 0 0) []) := Lib.hid ⟨by simp, .inr ⟨_, 0, #[], rfl, Nat.le_refl _, blk_new _ _ _, Nat.le_refl _, by simp, by simp, by simp⟩⟩
  have hsz2 : w1.heap.size ≤ (w1.alloc (.cells #[] 98)).heap.size := by simp
  generalize w1.alloc (.cells #[] 98) = w2 at *
  obtain ⟨ob, hob⟩ : ∃ ob, w1.heap.size = ob := ⟨_, rfl⟩
  obtain ⟨r, hr⟩ : ∃ r, w.heap.size = r := ⟨_, rfl⟩
  rw [hob] at HV2 hsz2 hrl
  rw [hr] at HR2 hrl
  rw [hob, hr]
  have Hr := Lib.hid hr
  clear H1 HK1 hob hr
  go_loopw [7, 8] (fun v i wr => ∃ k : Nat, k ≤ l.length ∧ i = .int .i64 (k : Int) ∧ Keep w wr ∧ ob ≤ wr.heap.size ∧ IsR3 wr r S (offE l k) 0 ∧ OwnF entC 2 98 wr ob v (l.take k)) (fun _ i _ => l.length - (intOf i).toNat)
  case atStart => exact ⟨0, by omega, rfl, HK2.out, hsz2, HR2.out, HV2.out⟩
  case round =>
    clear HK2 HR2 HV2 hsz2
    obtain ⟨k, hk, rfl, hK, hsz, hR, hV⟩ := hrel
    have HK := Lib.hid hK
    have HR := Lib.hid hR
    have HV := Lib.hid hV
    have z2 : wr.cell? ⟨r, 2, none⟩ = some (.int .i64 0) := blk_cell hR 2
    clear hK hR hV
    by_cases hlt : k < l.length
    · obtain ⟨x, hx⟩ : ∃ x, l[k]? = some x := ⟨_, List.getElem?_eq_getElem hlt⟩
      have Hx := Lib.hid hx
      have hst := off_step hx
      rw [HS.out] at hst
      have Hst := Lib.hid hst
      obtain ⟨h16, h1x, h65⟩ := Hall.out x (List.mem_of_getElem? hx)
      have hkl : (k : Int) < l.length := by omega
      have hki : (k : Int) ≤ 4096 := by have := Hlen.out; omega
      have hrr := blk_lt HR.out
      have Hgl := Lib.hid (own_ltG HV.out)
      clear hx hst
      go_wp2_with fail
      obtain ⟨xb, hxb⟩ : ∃ xb, wr.heap.size = xb := ⟨_, rfl⟩
      have HB3 : RowKit.Hid (World.blk (wr.alloc (.cells #[.string ⟨#[]⟩, .int .i64 0] 98)) xb #[.string ⟨#[]⟩, .int .i64 0] 98) := Lib.hid (blk_new_at hxb.symm _ _)
      have HR3 := Lib.hid (blk_alloc HR.out (.cells #[.string ⟨#[]⟩, .int .i64 0] 98))
      have HV3 : RowKit.Hid (OwnF entC 2 98 (wr.alloc (.cells #[.string ⟨#[]⟩, .int .i64 0] 98)) ob u7 (l.take k)) := Lib.hid (HV.out.alloc _)
      have HK3 := Lib.hid (HK.out.alloc (.cells #[.string ⟨#[]⟩, .int .i64 0] 98))
      have hs3 : (wr.alloc (.cells #[.string ⟨#[]⟩, .int .i64 0] 98)).heap.size = wr.heap.size + 1 := by simp
      rw [hxb]
      generalize wr.alloc (.cells #[.string ⟨#[]⟩, .int .i64 0] 98) = w3 at *
      clear HR HV HK z2
      refine (r3text_ok S x.1 _ (offE l k) 16 r w3 HR3.out Hst.out.1 hSl (by omega) (by omega)).mono ?_
      rintro e w4 ⟨rfl, hr4, hm4⟩
      have HR4 := Lib.hid hr4
      have HB4 := Lib.hid (blk_mod hm4 HB3.out (by omega))
      have e0 : w4.cell? ⟨xb, 0, none⟩ = some (.string ⟨#[]⟩) := blk_cell HB4.out 0
      have f0 : w4.frozen? ⟨xb, 0, none⟩ = false := blk_free HB4.out _ rfl
      have hrx : r ≠ xb := by omega
      have HV4 : RowKit.Hid (OwnF entC 2 98 w4 ob u7 (l.take k)) := Lib.hid (own_modF HV3.out hm4 (by omega))
      have HK4 := Lib.hid (HK3.out.new hm4 (by rw [Hr.out]; omega))
      have hs4 := hm4.size
      clear HR3 HB3 HV3 HK3 hr4 hm4
      go_wp2_with fail
      have hm5 : Mod (· = xb) w4 (w4.setCell ⟨xb, 0, none⟩ (.string ⟨x.1.toArray⟩)) := Mod.setCell (S := fun b => b = xb) (p := ⟨xb, 0, none⟩) (Mod.refl _ _) (.inl rfl) _
      have HB5 : RowKit.Hid (World.blk (w4.setCell ⟨xb, 0, none⟩ (.string ⟨x.1.toArray⟩)) xb #[.string ⟨x.1.toArray⟩, .int .i64 0] 98) := Lib.hid (blk_set HB4.out 0 _)
      have HR5 := Lib.hid (blk_mod hm5 HR4.out hrx)
      have HV5 : RowKit.Hid (OwnF entC 2 98 (w4.setCell ⟨xb, 0, none⟩ (.string ⟨x.1.toArray⟩)) ob u7 (l.take k)) := Lib.hid (own_modG HV4.out hm5 fun b o f m c e => by have := Hgl.out b o f m c e; omega)
      have HK5 := Lib.hid (HK4.out.new hm5 (by rw [Hr.out]; omega))
      have hs5 := hm5.size
      generalize w4.setCell ⟨xb, 0, none⟩ (.string ⟨x.1.toArray⟩) = w5 at *
      clear hm5 HB4 HR4 HV4 HK4 e0 f0
      have hd5 : S.drop (offE l k + (encN x.1.length).length + x.1.length) = encN x.2.toNat ++ (l.drop (k + 1)).flatMap encE1 := by
        have h := Hst.out.1
        rw [← List.drop_drop, ← List.drop_drop, h, List.drop_left' rfl, List.drop_left' rfl]
      have hx2 : ((x.2.toNat : Nat) : Int) = x.2 := by omega
      refine (r3num_ok S _ x.2.toNat _ 4611686018427387904 r w5 HR5.out hd5 hSl (by omega) (by omega) (by omega)).mono ?_
      rw [hx2]
      rintro e w6 ⟨rfl, hr6, hm6⟩
      have HR6 : RowKit.Hid (IsR3 w6 r S (offE l (k + 1)) 0) := Lib.hid (by rw [Hst.out.2]; exact hr6)
      have HB6 := Lib.hid (blk_mod hm6 HB5.out (by omega))
      have e0 : w6.cell? ⟨xb, 0, none⟩ = some (.string ⟨x.1.toArray⟩) := blk_cell HB6.out 0
      have e1 : w6.cell? ⟨xb, 1, none⟩ = some (.int .i64 0) := blk_cell HB6.out 1
      have f1 : w6.frozen? ⟨xb, 1, none⟩ = false := blk_free HB6.out _ rfl
      have HV6 : RowKit.Hid (OwnF entC 2 98 w6 ob u7 (l.take k)) := Lib.hid (own_modF HV5.out hm6 (by omega))
      have HK6 := Lib.hid (HK5.out.new hm6 (by rw [Hr.out]; omega))
      have hs6 := hm6.size
      have hm7 : Mod (· = xb) w6 (w6.setCell ⟨xb, 1, none⟩ (.int .i64 x.2)) := Mod.setCell (S := fun b => b = xb) (p := ⟨xb, 1, none⟩) (Mod.refl _ _) (.inl rfl) _
      have HB7 : RowKit.Hid (World.blk (w6.setCell ⟨xb, 1, none⟩ (.int .i64 x.2)) xb #[.string ⟨x.1.toArray⟩, .int .i64 x.2] 98) := Lib.hid (blk_set HB6.out 1 _)
      have HR7 := Lib.hid (blk_mod hm7 HR6.out hrx)
      have HV7 : RowKit.Hid (OwnF entC 2 98 (w6.setCell ⟨xb, 1, none⟩ (.int .i64 x.2)) ob u7 (l.take k)) := Lib.hid (own_modG HV6.out hm7 fun b o f m c e => by have := Hgl.out b o f m c e; omega)
      have HK7 := Lib.hid (HK6.out.new hm7 (by rw [Hr.out]; omega))
      have hs7 := hm7.size
      have g0 : (w6.setCell ⟨xb, 1, none⟩ (.int .i64 x.2)).cell? ⟨xb, 0, none⟩ = some (.string ⟨x.1.toArray⟩) := blk_cell HB7.out 0
      have g1 : (w6.setCell ⟨xb, 1, none⟩ (.int .i64 x.2)).cell? ⟨xb, 1, none⟩ = some (.int .i64 x.2) := blk_cell HB7.out 1
      obtain ⟨v2, w8, hr8, ho8, hk8, hmm8⟩ := append_struct (f := entC) (x := x) (P := Tryz.prog) Tryz.underlying73 info_ent rfl (by decide) entC_len ob u7 (l.take k) (w6.setCell ⟨xb, 1, none⟩ (.int .i64 x.2)) w HV7.out (entC_one x) (by have := Hlen.out; rw [List.length_take]; unfold maxLen; omega) (by have := Hlen.out; rw [List.length_take]; omega) (by omega) HK7.out (by rw [Hr.out]; omega)
      rw [show (w6.setCell ⟨xb, 1, none⟩ (.int .i64 x.2)).heap.size = w6.heap.size by simp [World.setCell]] at hr8
      have Hr8 := Lib.hid hr8
      have Ho8 := Lib.hid ho8
      have Hk8 := Lib.hid hk8
      have HR8 := Lib.hid (blk_mod hmm8 HR7.out (by omega))
      have hs8 := hmm8.size
      clear hm7 hr6 hm6 HB5 HR5 HV5 HK5 HR6 HB6 HV6 HK6 hr8 ho8 hk8 hmm8 HB7 HR7 HV7 HK7
      go_wp2_with ((at_builtin; refine wpList_append_run Hr8.out rfl rfl rfl rfl ?_))
      exact ⟨⟨k + 1, by omega, by go_num, Hk8.out, by omega, HR8.out, by rw [take_snoc Hx.out]; exact Ho8.out⟩, by simp [intOf]; omega⟩
    · obtain rfl : k = l.length := by omega
      rw [List.take_length] at HV
      have HW := Lib.hid (rowF_own entC_len HV.out)
      have HRe : RowKit.Hid (IsR3 wr r S S.length 0) := Lib.hid (by have h := HR.out; rw [off_end, HS.out] at h; exact h)
      clear hlt HR
      go_wp2_with fail
      refine (rentries_ok l u7 wr HW.out Hok.out).mono ?_
      rw [HS.out]
      rintro e w4 ⟨rfl, hk4⟩
      have HR4 := Lib.hid (blk_mod hk4 HRe.out id)
      have HK4 := Lib.hid (HK.out.keep hk4)
      have HV4 := Lib.hid (own_keepF HV.out hk4)
      clear hk4 HRe HK HV HW z2
      go_wp2_with fail
      refine (r3end_ok S r w4 HR4.out hSl).mono ?_
      rintro e w5 ⟨rfl, hk5⟩
      have HK5 := Lib.hid (HK4.out.keep hk5)
      have HV5 := Lib.hid (own_keepF HV4.out hk5)
      have hq : ((S == S) : Bool) = true := beq_self_eq_true S
      clear hk5
      go_wp2_with fail
      go_ret2
      exact ⟨_, rfl, own_belowF HV5.out (by rw [Hr.out]; omega), HK5.out⟩
end
end Go.Proofs.YthmpblccplphfaaGreatDoor
