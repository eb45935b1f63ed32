/-
  Names and classes: the document's way to read a name's class agrees. No program here.
-/
import Derived.Test.YthopldpaoeabnaaDoorPolNameL
namespace Go.Proofs.YthopldpaoeabnaaDoor
open Go.RowKit
theorem cls_iff {s : List UInt8} {c : Nat} {t : Int} : cls s = some (c, t) ↔ c < 3 ∧ nameFits c t ∧ nameText c t = s := by
  constructor
  · intro h
    unfold cls at h
    split at h
    · rename_i hh
      obtain ⟨rfl, rfl⟩ := Prod.mk.inj (Option.some.inj h)
      exact ⟨by omega, hh.1, hh.2⟩
    · split at h
      · rename_i hh
        obtain ⟨rfl, rfl⟩ := Prod.mk.inj (Option.some.inj h)
        exact ⟨by omega, hh.1, hh.2⟩
      · split at h
        · rename_i hh
          obtain ⟨rfl, rfl⟩ := Prod.mk.inj (Option.some.inj h)
          exact ⟨by omega, hh.1, hh.2⟩
        · cases h
  · rintro ⟨_, h, rfl⟩
    exact cls_text h
/-- the number that digits say -/
def decV (l : List UInt8) : Int := l.foldl (fun n c => 10 * n + (c.toNat : Int) - 48) 0
theorem decV_snoc (l : List UInt8) (c : UInt8) : decV (l ++ [c]) = 10 * decV l + (c.toNat : Int) - 48 := by simp [decV]
def isDig (c : UInt8) : Prop := 48 ≤ c.toNat ∧ c.toNat ≤ 57
instance (c : UInt8) : Decidable (isDig c) := by unfold isDig; infer_instance
theorem snoc_ind {P : List UInt8 → Prop} (h0 : P []) (h1 : ∀ l c, P l → P (l ++ [c])) (l : List UInt8) : P l := by
  have : ∀ n (l : List UInt8), l.length = n → P l := by
    intro n
    induction n with
    | zero => intro l h; rw [List.length_eq_zero_iff.1 h]; exact h0
    | succ n ih =>
      intro l h
      have hne : l ≠ [] := by intro e; simp [e] at h
      rw [← List.dropLast_concat_getLast hne]
      exact h1 _ _ (ih _ (by simp; omega))
  exact this _ l rfl
theorem decV_bd (l : List UInt8) : (∀ c ∈ l, isDig c) → 0 ≤ decV l ∧ decV l < 10 ^ l.length := by
  refine snoc_ind (P := fun l => (∀ c ∈ l, isDig c) → 0 ≤ decV l ∧ decV l < 10 ^ l.length) (fun _ => by simp [decV]) (fun l c ih h => ?_) l
  have h1 := ih (fun d hd => h d (by simp [hd]))
  have h2 := h c (by simp)
  unfold isDig at h2
  rw [decV_snoc, List.length_append, List.length_singleton, Int.pow_succ]
  omega
theorem decV_dec (u : Nat) : decV (Lib.decDigits u) = u := by
  induction u using Nat.strongRecOn with
  | _ u ih =>
    rw [Lib.decDigits]
    split
    · rename_i h
      rw [show [UInt8.ofNat (48 + u)] = [] ++ [UInt8.ofNat (48 + u)] from rfl, decV_snoc, digit_nat u h]
      simp [decV]; omega
    · rename_i h
      rw [decV_snoc, ih _ (by omega), digit_nat _ (by omega)]
      omega
theorem decV_itoa (n : Int) (h : 0 ≤ n) : decV (Lib.itoa n) = n := by
  obtain ⟨u, rfl⟩ : ∃ u : Nat, n = u := ⟨n.toNat, by omega⟩
  rw [Lib.itoa_nonneg, decV_dec]
theorem nDigits_mono : ∀ (k u : Nat), u < 10 ^ k → 1 ≤ k → Lib.nDigits u ≤ k
  | 0, _, _, h => by omega
  | k + 1, u, h, _ => by
    by_cases h1 : u < 10
    · rw [Lib.nDigits_small h1]; omega
    · rw [Lib.nDigits_big h1]
      rw [Nat.pow_succ] at h
      by_cases hk : 1 ≤ k
      · have := nDigits_mono k (u / 10) (by omega) hk; omega
      · obtain rfl : k = 0 := by omega
        simp at h; omega
theorem itoa_short (n : Int) (h : 0 ≤ n) (h1 : n ≤ 1073741824) : 1 ≤ (Lib.itoa n).length ∧ (Lib.itoa n).length ≤ 10 := by
  obtain ⟨u, rfl⟩ : ∃ u : Nat, n = u := ⟨n.toNat, by omega⟩
  rw [Lib.itoa_nonneg, Lib.decDigits_length]
  exact ⟨Lib.nDigits_pos u, nDigits_mono 10 u (by omega) (by omega)⟩
/-- what a name with a class looks like -/
theorem cls_shape {s : List UInt8} {c : Nat} {t : Int} (h : cls s = some (c, t)) : 3 ≤ s.length ∧ s.length ≤ 12 ∧ s[1]? = some 46 ∧ (∀ d ∈ s.drop 2, isDig d) ∧ decV (s.drop 2) = t := by
  obtain ⟨_, hf, rfl⟩ := cls_iff.1 h
  unfold nameFits at hf
  have hl := itoa_short t (by omega) (by omega)
  refine ⟨?_, ?_, rfl, ?_, ?_⟩
  · simp [nameText]; omega
  · simp [nameText]; omega
  · intro d hd
    exact itoa_bytes t (by omega) d (by simpa [nameText] using hd)
  · have : (nameText (c : Int) t).drop 2 = Lib.itoa t := by simp [nameText]
    rw [this, decV_itoa t (by omega)]
theorem cls_no_len {s : List UInt8} (h : s.length < 3 ∨ 12 < s.length) : cls s = none := by
  rcases hc : cls s with _ | ⟨c, t⟩
  · rfl
  · have := cls_shape hc; omega
theorem cls_no_dot {s : List UInt8} {x : UInt8} (h : s[1]? = some x) (hx : x ≠ 46) : cls s = none := by
  rcases hc : cls s with _ | ⟨c, t⟩
  · rfl
  · have := (cls_shape hc).2.2.1; rw [h] at this; exact absurd (Option.some.inj this) hx
theorem cls_no_dig {s : List UInt8} {k : Nat} {x : UInt8} (hk : 2 ≤ k) (h : s[k]? = some x) (hx : ¬ isDig x) : cls s = none := by
  rcases hc : cls s with _ | ⟨c, t⟩
  · rfl
  · refine absurd ((cls_shape hc).2.2.2.1 x ?_) hx
    rw [List.mem_iff_getElem?]
    exact ⟨k - 2, by rw [List.getElem?_drop, ← h]; congr 1; omega⟩
/-- the classes were asked one by one -/
theorem cls_none_of {s : List UInt8} (h : ∀ c : Nat, c < 3 → ¬ (nameFits c (decV (s.drop 2)) ∧ nameText c (decV (s.drop 2)) = s)) : cls s = none := by
  rcases hc : cls s with _ | ⟨c, t⟩
  · rfl
  · have h1 := (cls_shape hc).2.2.2.2
    obtain ⟨h2, h3, h4⟩ := cls_iff.1 hc
    exact absurd (by rw [h1]; exact ⟨h3, h4⟩) (h c h2)
end Go.Proofs.YthopldpaoeabnaaDoor
