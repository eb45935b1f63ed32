/-
  Texts cut at a byte, and joined. No program here.
-/
import Derived.Test.YthmpblccplphfaaGreatDoorStr
import Derived.Lib.SplitLaws
import Derived.Lib.Join
namespace Go.Proofs.YthmpblccplphfaaGreatDoor

/-- The pieces of a text between the bytes c. -/
def spl (c : UInt8) : List UInt8 → List (List UInt8)
  | [] => [[]]
  | b :: l => if b = c then [] :: spl c l else match spl c l with
    | [] => [[b]]
    | x :: r => (b :: x) :: r
theorem spl_ne (c : UInt8) (l : List UInt8) : spl c l ≠ [] := by
  cases l with
  | nil => simp [spl]
  | cons b l =>
    unfold spl
    split
    · simp
    · split <;> simp
theorem spl_step (c b : UInt8) (l : List UInt8) (h : b ≠ c) : spl c (b :: l) = match spl c l with | [] => [[b]] | x :: r => (b :: x) :: r := by rw [spl, if_neg h]
theorem splitK_spl (c : UInt8) (l : List UInt8) : Lib.splitK [c] 0 (Lib.count l [c]) l = spl c l := by
  induction l with
  | nil => rw [Lib.count_one]; rfl
  | cons b l ih =>
    unfold spl
    by_cases h : b = c
    · subst h
      have hix : Lib.index (b :: l) [b] = ((0 : Nat) : Int) := by rw [Lib.index]; simp [List.isPrefixOf]
      rw [if_pos rfl, Lib.count_cons_eq, Nat.add_comm, Lib.splitK, hix, ← ih]
      simp
    · rw [if_neg h, Lib.count_cons_ne b c l h]
      have hp : ([c] : List UInt8).isPrefixOf (b :: l) = false := by simp [List.isPrefixOf, Ne.symm h]
      have hix : Lib.index (b :: l) [c] = if Lib.index l [c] == -1 then -1 else Lib.index l [c] + 1 := by rw [Lib.index, hp]; simp
      by_cases hm : Lib.index l [c] = -1
      · have h0 : Lib.count l [c] = 0 := Lib.count_miss hm
        rw [h0] at ih ⊢
        rw [← ih]; rfl
      · have hge := Lib.index_ge l [c]
        obtain ⟨j, hj⟩ : ∃ j : Nat, Lib.index l [c] = j := ⟨(Lib.index l [c]).toNat, by omega⟩
        have hk := Lib.count_hit (by simp) hj
        rw [hk, Nat.add_comm] at ih ⊢
        have hn1 : (Lib.index l [c] == -1) = false := by rw [beq_eq_false_iff_ne]; exact hm
        have hn2 : (Lib.index (b :: l) [c] == -1) = false := by rw [beq_eq_false_iff_ne, hix, hn1]; simp; omega
        rw [Lib.splitK, hn1, hj] at ih
        rw [Lib.splitK, hn2, hix, hn1, hj, ← ih]
        have e1 : ((j : Int) + 1).toNat = j + 1 := by omega
        simp [e1]
theorem splitB_spl (c : UInt8) (l : List UInt8) : (Lib.splitB ⟨#[c]⟩ 0 (Lib.countB ⟨l.toArray⟩ ⟨#[c]⟩) ⟨l.toArray⟩) = (spl c l).map (fun x => ⟨x.toArray⟩) := by
  have h := Lib.splitB_data ⟨#[c]⟩ 0 (Lib.countB ⟨l.toArray⟩ ⟨#[c]⟩) ⟨l.toArray⟩
  have e : Lib.splitK [c] 0 (Lib.countB ⟨l.toArray⟩ ⟨#[c]⟩) l = spl c l := splitK_spl c l
  have h' : (Lib.splitB ⟨#[c]⟩ 0 (Lib.countB ⟨l.toArray⟩ ⟨#[c]⟩) ⟨l.toArray⟩).map (·.data.toList) = spl c l := h.trans e
  rw [← h', List.map_map]
  have : ((fun x : List UInt8 => (⟨x.toArray⟩ : ByteArray)) ∘ fun s : ByteArray => s.data.toList) = id := by
    funext s; cases s; rfl
  rw [this, List.map_id]
theorem countB_spl (c : UInt8) (l : List UInt8) : Lib.countB ⟨l.toArray⟩ ⟨#[c]⟩ + 1 = (spl c l).length := by
  have h := Lib.splitB_all ⟨#[c]⟩ (Nat.le_refl 1) 0 _ ⟨l.toArray⟩ rfl
  rw [← h, splitB_spl, List.length_map]
theorem spl_len (c : UInt8) (l : List UInt8) : (spl c l).length = l.count c + 1 := by
  induction l with
  | nil => rfl
  | cons b l ih =>
    unfold spl
    by_cases h : b = c
    · subst h; rw [if_pos rfl, List.length_cons, ih, List.count_cons_self]
    · rw [if_neg h, List.count_cons_of_ne (by simpa using h), ← ih]
      cases hs : spl c l with
      | nil => exact absurd hs (spl_ne c l)
      | cons x r => simp
theorem spl_join (c : UInt8) (l : List UInt8) : [c].intercalate (spl c l) = l := by
  induction l with
  | nil => simp [spl, List.intercalate]
  | cons b l ih =>
    unfold spl
    by_cases h : b = c
    · subst h
      rw [if_pos rfl]
      cases hs : spl b l with
      | nil => exact absurd hs (spl_ne b l)
      | cons x r => rw [hs] at ih; simp [List.intercalate] at ih ⊢; exact ih
    · rw [if_neg h]
      cases hs : spl c l with
      | nil => exact absurd hs (spl_ne c l)
      | cons x r =>
        rw [hs] at ih
        cases r with
        | nil => simp [List.intercalate] at ih ⊢; exact ih
        | cons y r => simp [List.intercalate] at ih ⊢; exact ih
theorem spl_no (c : UInt8) (l : List UInt8) : ∀ x ∈ spl c l, c ∉ x := by
  induction l with
  | nil => intro x hx; simp [spl] at hx; subst hx; simp
  | cons b l ih =>
    unfold spl
    by_cases h : b = c
    · rw [if_pos h]
      intro x hx
      rcases List.mem_cons.1 hx with rfl | hx
      · simp
      · exact ih x hx
    · rw [if_neg h]
      cases hs : spl c l with
      | nil => exact absurd hs (spl_ne c l)
      | cons y r =>
        rw [hs] at ih
        intro x hx
        rcases List.mem_cons.1 hx with rfl | hx
        · intro hc
          rcases List.mem_cons.1 hc with hc | hc
          · exact h hc.symm
          · exact ih y (by simp) hc
        · exact ih x (by simp [hx])
theorem spl_piece (c : UInt8) (l : List UInt8) : ∀ i, ((spl c l).getD i []).length ≤ l.length := by
  induction l with
  | nil => intro i; cases i <;> simp [spl]
  | cons b l ih =>
    intro i
    by_cases h : b = c
    · rw [spl, if_pos h]
      cases i with
      | zero => simp
      | succ i => have := ih i; simp at this ⊢; omega
    · rw [spl_step c b l h]
      cases hs : spl c l with
      | nil => cases i <;> simp
      | cons x r =>
        rw [hs] at ih
        cases i with
        | zero => have := ih 0; simp at this ⊢; omega
        | succ i => have := ih (i + 1); simp at this ⊢; omega
theorem spl_one (c : UInt8) (l : List UInt8) (h : c ∉ l) : spl c l = [l] := by
  induction l with
  | nil => rfl
  | cons b l ih =>
    unfold spl
    rw [if_neg (by intro e; subst e; simp at h), ih (by intro e; exact h (by simp [e]))]
theorem spl_cons (c : UInt8) (x l : List UInt8) (h : c ∉ x) : spl c (x ++ c :: l) = x :: spl c l := by
  induction x with
  | nil => simp [spl]
  | cons b x ih =>
    rw [List.cons_append, spl_step c b _ (by intro e; subst e; simp at h), ih (by intro e; exact h (by simp [e]))]
/-- What is joined of pieces without c is cut into them. -/
theorem spl_of_join (c : UInt8) (xs : List (List UInt8)) (hne : xs ≠ []) (h : ∀ x ∈ xs, c ∉ x) : spl c ([c].intercalate xs) = xs := by
  induction xs with
  | nil => exact absurd rfl hne
  | cons x xs ih =>
    cases xs with
    | nil => simp only [List.intercalate, List.intersperse, List.flatten_cons, List.flatten_nil, List.append_nil]; exact spl_one c x (h x (by simp))
    | cons y ys =>
      have e : [c].intercalate (x :: y :: ys) = x ++ c :: [c].intercalate (y :: ys) := by simp [List.intercalate]
      rw [e, spl_cons c x _ (h x (by simp)), ih (by simp) (fun z hz => h z (by simp [hz]))]
end Go.Proofs.YthmpblccplphfaaGreatDoor
