/-
  How often a class is due. No program here.
-/
import Derived.Test.YthopldpaoeabnaaDoorPolDue
namespace Go.Proofs.YthopldpaoeabnaaDoor
open Go.RowKit
/-- the last one before place k -/
def lastOf (l : List Int) (k : Nat) : Int := if k = 0 then -1 else l.getD (k - 1) 0
def ind (l : List Int) (k c : Nat) : Int := if (c : Int) ∈ l.take k then 1 else 0
def ascAt (l : List Int) (k : Nat) : Prop := ∀ x, l[k]? = some x → (x = 0 ∨ x = 1 ∨ x = 2) ∧ lastOf l k < x ∧ x ∉ l.take k
def lists8 : List (List Int) := [[], [0], [1], [2], [0, 1], [0, 2], [1, 2], [0, 1, 2]]
theorem due8 (E : Nat → Int) (t : Int) : due E t 3 ∈ lists8 := by
  unfold due due due due lists8
  by_cases h0 : dueAt E t 0 <;> by_cases h1 : dueAt E t 1 <;> by_cases h2 : dueAt E t 2 <;> simp [h0, h1, h2]
theorem asc8 : ∀ l ∈ lists8, ∀ k, ascAt l k := by
  intro l hl k
  by_cases hk : k < 3
  · rcases (by omega : k = 0 ∨ k = 1 ∨ k = 2) with rfl | rfl | rfl <;> (
      simp only [lists8, List.mem_cons, List.not_mem_nil, or_false] at hl
      rcases hl with rfl | rfl | rfl | rfl | rfl | rfl | rfl | rfl <;> (intro x hx; simp at hx) <;> (subst hx; simp [lastOf]))
  · intro x hx
    have h1 : l.length ≤ 3 := by
      simp only [lists8, List.mem_cons, List.not_mem_nil, or_false] at hl
      rcases hl with rfl | rfl | rfl | rfl | rfl | rfl | rfl | rfl <;> simp
    rw [List.getElem?_eq_none (by omega)] at hx; cases hx
theorem ind_step {l : List Int} {k : Nat} {x : Int} (h : ascAt l k) (hx : l[k]? = some x) (c : Nat) : ind l (k + 1) c = ind l k c + if (c : Int) = x then 1 else 0 := by
  obtain ⟨_, _, h3⟩ := h x hx
  unfold ind
  rw [List.take_add_one, hx]
  simp only [Option.toList_some, List.mem_append, List.mem_singleton]
  by_cases hc : (c : Int) = x
  · rw [if_pos (.inr hc), if_neg (by rw [hc]; exact h3), if_pos hc]; rfl
  · by_cases hm : (c : Int) ∈ l.take k
    · rw [if_pos (.inl hm), if_pos hm, if_neg hc]; rfl
    · rw [if_neg (by rintro (h | h); exact hm h; exact hc h), if_neg hm, if_neg hc]; rfl
theorem ind_all (E : Nat → Int) (t : Int) (c : Nat) (hc : c < 3) : ind (due E t 3) (due E t 3).length c = if dueAt E t c then 1 else 0 := by
  unfold ind
  rw [List.take_length]
  have : (c : Int) ∈ due E t 3 ↔ dueAt E t c := by
    unfold due due due due
    rcases (by omega : c = 0 ∨ c = 1 ∨ c = 2) with rfl | rfl | rfl <;> by_cases h0 : dueAt E t 0 <;> by_cases h1 : dueAt E t 1 <;> by_cases h2 : dueAt E t 2 <;> simp [h0, h1, h2]
  by_cases h : dueAt E t c
  · rw [if_pos (this.2 h), if_pos h]
  · rw [if_neg (fun x => h (this.1 x)), if_neg h]
/-- how often in t ticks -/
def often (E : Nat → Int) (t : Nat) (c : Nat) : Int := if 0 < E c then (t : Int) / E c else 0
theorem often_zero (E : Nat → Int) (c : Nat) : often E 0 c = 0 := by unfold often; split <;> simp
theorem often_step (E : Nat → Int) (t c : Nat) : often E (t + 1) c = often E t c + if dueAt E ((t : Int) + 1) c then 1 else 0 := by
  unfold often
  by_cases h : 0 < E c
  · rw [if_pos h, if_pos h]
    obtain ⟨e, he⟩ : ∃ e : Nat, E c = e := ⟨(E c).toNat, by omega⟩
    have hd : dueAt E ((t : Int) + 1) c ↔ ((t : Int) + 1) % (e : Int) = 0 := by
      unfold dueAt
      rw [he]
      exact ⟨fun x => x.2.2, fun x => ⟨by omega, by omega, x⟩⟩
    rw [he] at h
    rw [he]
    have he0 : 0 < e := by omega
    have key : (t + 1) / e = t / e + if (t + 1) % e = 0 then 1 else 0 := by
      have := Nat.succ_div (a := t) (b := e)
      rw [this]
      congr 1
      simp only [Nat.dvd_iff_mod_eq_zero]
    have k1 : ((t : Int) + 1) / (e : Int) = (((t + 1) / e : Nat) : Int) := by simp
    have k2 : ((t : Int)) / (e : Int) = ((t / e : Nat) : Int) := by simp
    have k3 : ((t : Int) + 1) % (e : Int) = (((t + 1) % e : Nat) : Int) := by simp
    rw [show ((t + 1 : Nat) : Int) = (t : Int) + 1 by simp, k1, k2, key]
    by_cases hm : (t + 1) % e = 0
    · rw [if_pos hm, if_pos (hd.2 (by rw [k3, hm]; rfl))]; simp
    · rw [if_neg hm, if_neg (fun h3 => hm (by have := hd.1 h3; rw [k3] at this; omega))]; simp
  · rw [if_neg h, if_neg h, if_neg (fun x => h (x : dueAt E _ c).1)]; rfl
end Go.Proofs.YthopldpaoeabnaaDoor
