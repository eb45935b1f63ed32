/-
  A policy's text: the document's way to read it agrees. No program here.
-/
import Derived.Test.YthopldpaoeabnaaDoorPolNamesL
import Derived.Test.YthopldpaoeabnaaDoorPolBack
namespace Go.Proofs.YthopldpaoeabnaaDoor
open Go.RowKit
/-- the digits ahead of a text, so many at most -/
def digs : Nat → List UInt8 → List UInt8
  | 0, _ => []
  | _ + 1, [] => []
  | f + 1, c :: l => if isDig c then c :: digs f l else []
theorem digs_len : ∀ (f : Nat) (l : List UInt8), (digs f l).length ≤ f
  | 0, l => by simp [digs]
  | f + 1, [] => by simp [digs]
  | f + 1, c :: l => by
    rw [digs]
    split
    · have := digs_len f l; simp; omega
    · simp
theorem digs_dig : ∀ (f : Nat) (l : List UInt8), ∀ c ∈ digs f l, isDig c
  | 0, l => by simp [digs]
  | f + 1, [] => by simp [digs]
  | f + 1, c :: l => by
    rw [digs]
    split
    · rename_i h
      intro d hd
      rcases List.mem_cons.1 hd with rfl | hd
      · exact h
      · exact digs_dig f l d hd
    · simp
theorem digs_app : ∀ (f : Nat) (d r : List UInt8), (∀ c ∈ d, isDig c) → d.length ≤ f → (∀ c, r.head? = some c → ¬ isDig c) → digs f (d ++ r) = d
  | 0, d, r, _, h, _ => by
    have : d = [] := List.length_eq_zero_iff.1 (by omega)
    subst this; simp [digs]
  | f + 1, [], [], _, _, _ => by simp [digs]
  | f + 1, [], c :: r, _, _, h => by
    rw [List.nil_append, digs, if_neg (h c rfl)]
  | f + 1, c :: d, r, h, hl, hr => by
    rw [List.cons_append, digs, if_pos (h c (by simp)), digs_app f d r (fun x hx => h x (by simp [hx])) (by simpa using hl) hr]
/-- where class c begins -/
def posR (s : List UInt8) : Nat → Nat
  | 0 => 0
  | c + 1 => posR s c + 2 + (digs 5 (s.drop (posR s c + 2))).length + 1 + (digs 5 (s.drop (posR s c + 2 + (digs 5 (s.drop (posR s c + 2))).length + 1))).length + 1
def dE (s : List UInt8) (c : Nat) : List UInt8 := digs 5 (s.drop (posR s c + 2))
def dK (s : List UInt8) (c : Nat) : List UInt8 := digs 5 (s.drop (posR s c + 2 + (dE s c).length + 1))
theorem posR_succ (s : List UInt8) (c : Nat) : posR s (c + 1) = posR s c + 2 + (dE s c).length + 1 + (dK s c).length + 1 := rfl
theorem posR_bd (s : List UInt8) : ∀ c, posR s c ≤ 14 * c
  | 0 => by simp [posR]
  | c + 1 => by
    have := posR_bd s c
    have h1 : (dE s c).length ≤ 5 := digs_len _ _
    have h2 : (dK s c).length ≤ 5 := digs_len _ _
    rw [posR_succ]; omega
def rE (s : List UInt8) (c : Nat) : Int := decV (dE s c)
def rK (s : List UInt8) (c : Nat) : Int := decV (dK s c)
theorem decV_five {l : List UInt8} (h : ∀ c ∈ l, isDig c) (hl : l.length ≤ 5) : 0 ≤ decV l ∧ decV l < 100000 := by
  have h1 := decV_bd l h
  have : (10 : Int) ^ l.length ≤ 10 ^ 5 := by
    rcases (by omega : l.length = 0 ∨ l.length = 1 ∨ l.length = 2 ∨ l.length = 3 ∨ l.length = 4 ∨ l.length = 5) with e | e | e | e | e | e <;> rw [e] <;> decide
  have e : (10 : Int) ^ 5 = 100000 := by decide
  omega
theorem rE_bd (s : List UInt8) (c : Nat) : 0 ≤ rE s c ∧ rE s c < 100000 := decV_five (digs_dig _ _) (digs_len _ _)
theorem rK_bd (s : List UInt8) (c : Nat) : 0 ≤ rK s c ∧ rK s c < 100000 := decV_five (digs_dig _ _) (digs_len _ _)
/-- class c's part of a policy's text -/
def seg (E K : Nat → Int) (c : Nat) : List UInt8 := letterOf c :: 32 :: (Lib.itoa (E c) ++ 32 :: Lib.itoa (K c))
theorem polText_seg (E K : Nat → Int) : polText E K = seg E K 0 ++ 32 :: (seg E K 1 ++ 32 :: seg E K 2) := by
  simp [polText, polWords, seg, Lib.join, List.intercalate, letterOf]
theorem itoa_four (n : Int) (h : 0 ≤ n) (h1 : n ≤ 1000) : (Lib.itoa n).length ≤ 5 := by
  obtain ⟨u, rfl⟩ : ∃ u : Nat, n = u := ⟨n.toNat, by omega⟩
  rw [Lib.itoa_nonneg, Lib.decDigits_length]
  exact nDigits_mono 5 u (by omega) (by omega)
theorem seg_read (E K : Nat → Int) (c : Nat) (s r : List UInt8) (h : fitsAt E K c) (hs : s.drop (posR s c) = seg E K c ++ r) (hr : ∀ x, r.head? = some x → ¬ isDig x) :
    rE s c = E c ∧ rK s c = K c ∧ s.drop (posR s (c + 1)) = r.drop 1 := by
  obtain ⟨h1, h2, h3, h4⟩ := h
  have e1 : s.drop (posR s c + 2) = Lib.itoa (E c) ++ (32 :: (Lib.itoa (K c) ++ r)) := by
    rw [← List.drop_drop, hs]; simp [seg]
  have d1 : dE s c = Lib.itoa (E c) := by
    rw [dE, e1, digs_app 5 _ _ (itoa_bytes _ h1) (itoa_four _ h1 h2) (fun x hx => by simp at hx; subst hx; decide)]
  have e2 : s.drop (posR s c + 2 + (dE s c).length + 1) = Lib.itoa (K c) ++ r := by
    rw [show posR s c + 2 + (dE s c).length + 1 = posR s c + 2 + ((dE s c).length + 1) by omega, ← List.drop_drop, e1, d1]
    simp
  have d2 : dK s c = Lib.itoa (K c) := by
    rw [dK, e2, digs_app 5 _ _ (itoa_bytes _ h3) (itoa_four _ h3 (by omega)) hr]
  refine ⟨by rw [rE, d1, decV_itoa _ h1], by rw [rK, d2, decV_itoa _ h3], ?_⟩
  rw [posR_succ, show posR s c + 2 + (dE s c).length + 1 + (dK s c).length + 1 = (posR s c + 2 + (dE s c).length + 1) + ((dK s c).length + 1) by omega, ← List.drop_drop, e2, d2]
  simp
theorem text_read (E K : Nat → Int) (h : polFits E K) : (∀ i, i < 3 → rE (polText E K) i = E i) ∧ (∀ i, i < 3 → rK (polText E K) i = K i) := by
  obtain ⟨h0, h1, h2⟩ := h
  have hb : ∀ l : List UInt8, ∀ x, (32 :: l).head? = some x → ¬ isDig x := fun l x hx => by simp at hx; subst hx; decide
  have a0 := seg_read E K 0 (polText E K) (32 :: (seg E K 1 ++ 32 :: seg E K 2)) h0 (by rw [show posR (polText E K) 0 = 0 from rfl, List.drop_zero]; exact polText_seg E K) (hb _)
  have a1 := seg_read E K 1 (polText E K) (32 :: seg E K 2) h1 (by rw [a0.2.2]; simp) (hb _)
  have a2 := seg_read E K 2 (polText E K) [] h2 (by rw [a1.2.2]; simp) (fun x hx => by simp at hx)
  exact ⟨three a0.1 a1.1 a2.1, three a0.2.1 a1.2.1 a2.2.1⟩
/-- The document's answer for a text. -/
theorem parse_ref (s : List UInt8) : parseV s = if polFits (rE s) (rK s) ∧ polText (rE s) (rK s) = s then .tuple #[polV (rE s) (rK s), .int .i64 0] else .tuple #[polZ, .int .i64 220] := by
  by_cases h : polFits (rE s) (rK s) ∧ polText (rE s) (rK s) = s
  · rw [if_pos h]
    have := parse_print (rE s) (rK s) h.1
    rwa [h.2] at this
  · rw [if_neg h]
    rcases parse_cases s with ⟨E, K, hf, rfl, _⟩ | ⟨_, hp⟩
    · obtain ⟨hE, hK⟩ := text_read E K hf
      exact absurd ⟨fits_congr hE hK hf, polText_congr hE hK⟩ h
    · exact hp
end Go.Proofs.YthopldpaoeabnaaDoor
