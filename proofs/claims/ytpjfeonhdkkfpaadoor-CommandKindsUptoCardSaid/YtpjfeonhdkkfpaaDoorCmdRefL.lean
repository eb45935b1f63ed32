/-
  The document's way to read a line: whatever might be meant, printed again. No program here.
-/
import Derived.Test.YtpjfeonhdkkfpaaDoorCmdRefW
namespace Go.Proofs.YtpjfeonhdkkfpaaDoor
open Go.RowKit
/-- the number that digits say -/
def decV (l : List UInt8) : Int := l.foldl (fun n c => 10 * n + (c.toNat : Int) - 48) 0
theorem decV_snoc (l : List UInt8) (c : UInt8) : decV (l ++ [c]) = 10 * decV l + (c.toNat : Int) - 48 := by simp [decV]
theorem snoc_ind {P : List UInt8 → Prop} (h0 : P []) (h1 : ∀ l c, P l → P (l ++ [c])) (l : List UInt8) : P l := by
  have : ∀ n (l : List UInt8), l.length = n → P l := by
    intro n
    induction n with
    | zero => intro l h; rw [List.length_eq_zero_iff.1 h]; exact h0
    | succ n ih =>
      intro l h
      have hne : l ≠ [] := by intro e; simp [e] at h
      rw [← List.dropLast_concat_getLast hne]
      exact h1 _ _ (ih _ (by simp; omega))
  exact this _ l rfl
theorem decV_dec (u : Nat) : decV (Lib.decDigits u) = u := by
  induction u using Nat.strongRecOn with
  | _ u ih =>
    rw [Lib.decDigits]
    split
    · rename_i h
      rw [show [UInt8.ofNat (48 + u)] = [] ++ [UInt8.ofNat (48 + u)] from rfl, decV_snoc, digit_nat u h]
      simp [decV]; omega
    · rename_i h
      rw [decV_snoc, ih _ (by omega), digit_nat _ (by omega)]
      omega
theorem decV_itoa (n : Int) (h : 0 ≤ n) : decV (Lib.itoa n) = n := by
  obtain ⟨u, rfl⟩ : ∃ u : Nat, n = u := ⟨n.toNat, by omega⟩
  rw [Lib.itoa_nonneg, decV_dec]
theorem decV_any (l : List UInt8) : 48 - 48 * 10 ^ l.length ≤ decV l ∧ decV l ≤ 255 * 10 ^ l.length - 255 := by
  refine snoc_ind (P := fun l => 48 - 48 * 10 ^ l.length ≤ decV l ∧ decV l ≤ 255 * 10 ^ l.length - 255) (by simp [decV]) (fun l c ih => ?_) l
  have hc := c.toNat_lt
  have hp : (1 : Int) ≤ 10 ^ l.length := by
    have : (10 : Int) ^ l.length = ((10 ^ l.length : Nat) : Int) := by simp
    have h1 : 1 ≤ 10 ^ l.length := Nat.one_le_pow _ _ (by decide)
    omega
  rw [decV_snoc, List.length_append, List.length_singleton, Int.pow_succ]
  omega
theorem decV_six {l : List UInt8} (h : l.length ≤ 6) : -48000000 ≤ decV l ∧ decV l ≤ 255000000 := by
  have h1 := decV_any l
  have : (10 : Int) ^ l.length ≤ 1000000 := by
    rcases (by omega : l.length = 0 ∨ l.length = 1 ∨ l.length = 2 ∨ l.length = 3 ∨ l.length = 4 ∨ l.length = 5 ∨ l.length = 6) with e | e | e | e | e | e | e <;> rw [e] <;> decide
  omega
def refDest (L : List (List UInt8)) (k : Nat) : List UInt8 := if (k = 4 ∨ k = 5) ∧ L.length = 3 then L.getD 2 [] else []
def refPos (L : List (List UInt8)) (k : Nat) : Int := if (k = 2 ∨ k = 3) ∧ 3 ≤ L.length then decV ((L.getD 2 []).take 6) else 0
def refData (L : List (List UInt8)) (k : Nat) : List UInt8 := if k = 2 ∧ L.length = 4 ∧ L.getD 3 [] ≠ [45] then unhexes hval (L.getD 3 []) else []
def refCmd (L : List (List UInt8)) (k : Nat) : Cmd := ⟨(k : Int), L.getD 1 [], refDest L k, refPos L k, refData L k⟩
def refTry (s : List UInt8) (k : Nat) : Option Cmd :=
  if 2 ≤ (spl 32 s).length ∧ (spl 32 s).length ≤ 4 then (if (refCmd (spl 32 s) k).ok && (refCmd (spl 32 s) k).line == s then some (refCmd (spl 32 s) k) else none) else none
theorem hval_hexd (n : Nat) (h : n < 16) : hval (hexd n) = n := by
  rcases (by omega : n = 0 ∨ n = 1 ∨ n = 2 ∨ n = 3 ∨ n = 4 ∨ n = 5 ∨ n = 6 ∨ n = 7 ∨ n = 8 ∨ n = 9 ∨ n = 10 ∨ n = 11 ∨ n = 12 ∨ n = 13 ∨ n = 14 ∨ n = 15) with h | h | h | h | h | h | h | h | h | h | h | h | h | h | h | h <;> subst h <;> decide
theorem unhexes_hval (d : List UInt8) : unhexes hval (hexes d) = d := by
  induction d with
  | nil => rfl
  | cons b d ih =>
    show unhexes hval (hexd (b.toNat / 16) :: hexd (b.toNat % 16) :: hexes d) = _
    have hb := b.toNat_lt
    rw [unhexes, hval_hexd _ (by omega), hval_hexd _ (by omega), byte_back, ih]
theorem hexed_dash (d : List UInt8) : hexed d = [45] ↔ d = [] := by
  unfold hexed
  constructor
  · intro h
    split at h
    · assumption
    · have := hexes_len d
      rw [h] at this
      simp at this
      omega
  · intro h; rw [if_pos h]
theorem data_back (d : List UInt8) : (if hexed d ≠ [45] then unhexes hval (hexed d) else []) = d := by
  by_cases h : d = []
  · subst h; rfl
  · rw [if_pos (fun e => h ((hexed_dash d).1 e)), hexed, if_neg h, unhexes_hval]
theorem pos_back {n : Int} (h : fitAt n = true) : decV ((Lib.itoa n).take 6) = n := by
  simp only [fitAt, Bool.and_eq_true, decide_eq_true_eq] at h
  have hl : (Lib.itoa n).length ≤ 5 := by
    obtain ⟨u, rfl⟩ : ∃ u : Nat, n = u := ⟨n.toNat, by omega⟩
    rw [Lib.itoa_nonneg, Lib.decDigits_length]
    exact nDigits_mono 5 u (by omega) (by omega)
  rw [List.take_of_length_le (by omega), decV_itoa n h.1]
theorem ref_line {c : Cmd} (h : c.ok = true) : refTry c.line c.k = some c := by
  have hw := words_line h
  have hk := (ok_parts h).1
  have hkd := k_lt hk
  obtain ⟨kd, p, d, n, x⟩ := c
  have key : 2 ≤ (spl 32 (⟨kd, p, d, n, x⟩ : Cmd).line).length ∧ (spl 32 (⟨kd, p, d, n, x⟩ : Cmd).line).length ≤ 4 ∧ refCmd (spl 32 (⟨kd, p, d, n, x⟩ : Cmd).line) (⟨kd, p, d, n, x⟩ : Cmd).k = ⟨kd, p, d, n, x⟩ := by
    rw [hw]
    simp only at hkd
    generalize hkk : (⟨kd, p, d, n, x⟩ : Cmd).k = k at *
    subst hkd
    rcases (by omega : k = 0 ∨ k = 1 ∨ k = 2 ∨ k = 3 ∨ k = 4 ∨ k = 5 ∨ k = 6 ∨ k = 7 ∨ k = 8) with rfl | rfl | rfl | rfl | rfl | rfl | rfl | rfl | rfl
    · rw [ok_plain 0 (by omega) rfl] at h
      obtain ⟨_, h1, h2, h3⟩ := and4t h
      rw [beq_iff_eq] at h1 h2 h3; subst h1 h2 h3
      exact ⟨by simp [fieldsOf], by simp [fieldsOf], rfl⟩
    · rw [ok_plain 1 (by omega) rfl] at h
      obtain ⟨_, h1, h2, h3⟩ := and4t h
      rw [beq_iff_eq] at h1 h2 h3; subst h1 h2 h3
      exact ⟨by simp [fieldsOf], by simp [fieldsOf], rfl⟩
    · rw [show (⟨((2 : Nat) : Int), p, d, n, x⟩ : Cmd) = ⟨2, p, d, n, x⟩ from rfl, ok_write] at h
      obtain ⟨_, h1, h2, h3⟩ := and4t h
      rw [beq_iff_eq] at h3; subst h3
      refine ⟨by simp [fieldsOf], by simp [fieldsOf], Cmd.ext' rfl rfl rfl ?_ ?_⟩
      · exact pos_back h1
      · have := data_back x
        simpa [refCmd, refData, fieldsOf, Cmd.fieldText] using this
    · rw [show (⟨((3 : Nat) : Int), p, d, n, x⟩ : Cmd) = ⟨3, p, d, n, x⟩ from rfl, ok_cut] at h
      obtain ⟨_, h1, h2, h3⟩ := and4t h
      rw [beq_iff_eq] at h2 h3; subst h2 h3
      exact ⟨by simp [fieldsOf], by simp [fieldsOf], Cmd.ext' rfl rfl rfl (pos_back h1) rfl⟩
    · rw [ok_two 4 (by omega) rfl] at h
      obtain ⟨_, h1, h2, h3⟩ := and4t h
      rw [beq_iff_eq] at h2 h3; subst h2 h3
      exact ⟨by simp [fieldsOf], by simp [fieldsOf], rfl⟩
    · rw [ok_two 5 (by omega) rfl] at h
      obtain ⟨_, h1, h2, h3⟩ := and4t h
      rw [beq_iff_eq] at h2 h3; subst h2 h3
      exact ⟨by simp [fieldsOf], by simp [fieldsOf], rfl⟩
    · rw [ok_plain 6 (by omega) rfl] at h
      obtain ⟨_, h1, h2, h3⟩ := and4t h
      rw [beq_iff_eq] at h1 h2 h3; subst h1 h2 h3
      exact ⟨by simp [fieldsOf], by simp [fieldsOf], rfl⟩
    · rw [ok_name 7 (by omega) rfl] at h
      obtain ⟨_, h1, h2, h3⟩ := and4t h
      rw [beq_iff_eq] at h1 h2 h3; subst h1 h2 h3
      exact ⟨by simp [fieldsOf], by simp [fieldsOf], rfl⟩
    · rw [ok_name 8 (by omega) rfl] at h
      obtain ⟨_, h1, h2, h3⟩ := and4t h
      rw [beq_iff_eq] at h1 h2 h3; subst h1 h2 h3
      exact ⟨by simp [fieldsOf], by simp [fieldsOf], rfl⟩
  obtain ⟨h1, h2, h3⟩ := key
  rw [refTry, if_pos ⟨h1, h2⟩, h3, h]
  simp
theorem ref_some {s : List UInt8} {k : Nat} {c : Cmd} (h : refTry s k = some c) : c.ok = true ∧ c.line = s := by
  unfold refTry at h
  split at h
  · split at h
    · rename_i hc
      obtain rfl := Option.some.inj h
      simpa using hc
    · cases h
  · cases h
/-- The document's answer for a line. -/
theorem parse_ref (s : List UInt8) : firstKind (refTry s) 9 0 = parseC s :=
  parse_by (refTry s) (fun _ _ h => ref_some h) (fun c ho hl => by rw [← hl]; exact ref_line ho)
theorem small_ref {L : List (List UInt8)} (h : ∀ x ∈ L, x.length < 4294967281) (k : Nat) : (refCmd L k).Small := by
  have hg : ∀ i, (L.getD i []).length < 4294967281 := fun i => by
    rw [List.getD_eq_getElem?_getD]
    rcases hi : L[i]? with _ | x
    · simp
    · exact h x (List.mem_of_getElem? hi)
  refine ⟨hg 1, ?_, ?_, ?_⟩
  · show (refDest L k).length < _
    unfold refDest; split
    · exact hg 2
    · simp
  · show (refData L k).length ≤ _
    unfold refData; split
    · have := unhexes_len hval _ _ (Nat.le_refl (L.getD 3 []).length)
      have := hg 3
      omega
    · simp
  · show _ ≤ refPos L k ∧ refPos L k ≤ _
    unfold refPos; split
    · have := decV_six (l := (L.getD 2 []).take 6) (by rw [List.length_take]; omega)
      omega
    · omega
end Go.Proofs.YtpjfeonhdkkfpaaDoor
