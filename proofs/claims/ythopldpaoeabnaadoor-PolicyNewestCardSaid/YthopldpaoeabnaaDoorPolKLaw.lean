/-
  What is kept, by class. No program here.
-/
import Derived.Test.YthopldpaoeabnaaDoorPolKeeps
namespace Go.Proofs.YthopldpaoeabnaaDoor
open Go.RowKit
/-- a name's class: -1 if it has none -/
def clsNo (s : List UInt8) : Int := match cls s with | some (c, _) => (c : Int) | none => -1
def ofCls (c : Int) (l : List (List UInt8)) : List (List UInt8) := l.filter fun s => clsNo s == c
theorem clsNo_none {s : List UInt8} (h : cls s = none) : clsNo s = -1 := by simp [clsNo, h]
theorem clsNo_some {s : List UInt8} {c : Nat} {t : Int} (h : cls s = some (c, t)) : clsNo s = c := by simp [clsNo, h]
theorem clsNo_cases (s : List UInt8) : clsNo s = -1 ∨ clsNo s = 0 ∨ clsNo s = 1 ∨ clsNo s = 2 := by
  rcases h : cls s with _ | ⟨c, t⟩
  · exact .inl (clsNo_none h)
  · rw [clsNo_some h]
    rcases cls_lt h with rfl | rfl | rfl <;> simp
theorem kRun_none (K : Nat → Int) (r : List (List UInt8)) : ∀ h, ofCls (-1) (kRun K r h) = ofCls (-1) r := by
  induction r with
  | nil => intro h; simp [kRun]
  | cons s r ih =>
    intro h
    rcases hc : cls s with _ | ⟨c, t⟩
    · have hn := clsNo_none hc
      rw [kRun, hc]
      simp only [ofCls, List.filter_cons, hn, beq_self_eq_true, if_true]
      have := ih h
      unfold ofCls at this
      rw [this]
    · have hn := clsNo_some hc
      have hne : (((c : Nat) : Int) == -1) = false := beq_false_of_ne (by omega)
      rw [kRun, hc]
      simp only
      split
      · rw [ih h]; simp [ofCls, List.filter_cons, hn, hne]
      · have := ih (fun i => if i = c then h c + 1 else h i)
        unfold ofCls at *
        rw [List.filter_cons, List.filter_cons, hn, hne]
        simpa using this
theorem kRun_cls (K : Nat → Int) (c : Nat) (r : List (List UInt8)) : ∀ h, ofCls c (kRun K r h) = (ofCls c r).take (K c - h c).toNat := by
  induction r with
  | nil => intro h; simp [kRun, ofCls]
  | cons s r ih =>
    intro h
    rcases hc : cls s with _ | ⟨d, t⟩
    · have hn := clsNo_none hc
      have hne : ((-1 : Int) == ((c : Nat) : Int)) = false := beq_false_of_ne (by omega)
      rw [kRun, hc]
      have := ih h
      unfold ofCls at *
      rw [List.filter_cons, List.filter_cons, hn, hne]
      simpa using this
    · have hn := clsNo_some hc
      rw [kRun, hc]
      simp only
      by_cases hd : d = c
      · subst hd
        split
        · rename_i hle
          rw [ih h, show (K d - h d).toNat = 0 by omega]; simp
        · rename_i hle
          have := ih (fun i => if i = d then h d + 1 else h i)
          unfold ofCls at *
          rw [List.filter_cons, List.filter_cons, hn, beq_self_eq_true, if_pos rfl, if_pos rfl, this]
          obtain ⟨m, hm⟩ : ∃ m, (K d - h d).toNat = m + 1 := ⟨(K d - h d).toNat - 1, by omega⟩
          rw [hm, List.take_succ_cons]
          congr 2
          simp only [if_true]
          omega
      · have hne : (((d : Nat) : Int) == ((c : Nat) : Int)) = false := beq_false_of_ne (by omega)
        split
        · have := ih h
          unfold ofCls at *
          rw [this, List.filter_cons, hn, hne]; simp
        · have := ih (fun i => if i = d then h d + 1 else h i)
          unfold ofCls at *
          rw [List.filter_cons, List.filter_cons, hn, hne]
          simp only [if_neg (show ¬ c = d from fun e => hd e.symm)] at this
          simpa using this
theorem kRun_again (K : Nat → Int) (r : List (List UInt8)) : ∀ h, kRun K (kRun K r h) h = kRun K r h := by
  induction r with
  | nil => intro h; simp [kRun]
  | cons s r ih =>
    intro h
    rcases hc : cls s with _ | ⟨c, t⟩
    · have e : kRun K (s :: r) h = s :: kRun K r h := by rw [kRun, hc]
      rw [e, kRun, hc]
      simp only
      rw [ih h]
    · by_cases hle : K c ≤ h c
      · have e : kRun K (s :: r) h = kRun K r h := by rw [kRun, hc]; simp only; rw [if_pos hle]
        rw [e]; exact ih h
      · have e : kRun K (s :: r) h = s :: kRun K r (fun i => if i = c then h c + 1 else h i) := by rw [kRun, hc]; simp only; rw [if_neg hle]
        rw [e, kRun, hc]
        simp only
        rw [if_neg hle, ih]
theorem parts_len (l : List (List UInt8)) : l.length = (ofCls (-1) l).length + (ofCls 0 l).length + (ofCls 1 l).length + (ofCls 2 l).length := by
  induction l with
  | nil => rfl
  | cons s l ih =>
    unfold ofCls at *
    rcases clsNo_cases s with h | h | h | h <;> simp [List.filter_cons, h] <;> omega
theorem keeps_again (K : Nat → Int) (names : List (List UInt8)) : keeps K (keeps K names) = keeps K names := by
  rw [keeps, keeps, List.reverse_reverse, kRun_again]
theorem ofCls_reverse (c : Int) (l : List (List UInt8)) : ofCls c l.reverse = (ofCls c l).reverse := by simp [ofCls, List.filter_reverse]
theorem keeps_none (K : Nat → Int) (names : List (List UInt8)) : ofCls (-1) (keeps K names) = ofCls (-1) names := by
  rw [keeps, ofCls_reverse, kRun_none, ofCls_reverse, List.reverse_reverse]
theorem keeps_cls (K : Nat → Int) (c : Nat) (names : List (List UInt8)) : ofCls c (keeps K names) = (ofCls c names).drop ((ofCls c names).length - (K c).toNat) := by
  rw [keeps, ofCls_reverse, kRun_cls, ofCls_reverse, Int.sub_zero, List.reverse_take, List.reverse_reverse, List.length_reverse]
theorem keeps_more {K K' : Nat → Int} (h : ∀ i, i < 3 → K i ≤ K' i) (names : List (List UInt8)) : (keeps K names).length ≤ (keeps K' names).length := by
  rw [parts_len (keeps K names), parts_len (keeps K' names), keeps_none, keeps_none]
  have e : ∀ c : Nat, c < 3 → (ofCls (c : Int) (keeps K names)).length ≤ (ofCls (c : Int) (keeps K' names)).length := fun c hc => by
    rw [keeps_cls, keeps_cls, List.length_drop, List.length_drop]
    have := h c hc
    omega
  have e0 := e 0 (by omega)
  have e1 := e 1 (by omega)
  have e2 := e 2 (by omega)
  have f0 : (ofCls 0 (keeps K names)).length ≤ (ofCls 0 (keeps K' names)).length := e0
  have f1 : (ofCls 1 (keeps K names)).length ≤ (ofCls 1 (keeps K' names)).length := e1
  have f2 : (ofCls 2 (keeps K names)).length ≤ (ofCls 2 (keeps K' names)).length := e2
  omega
end Go.Proofs.YthopldpaoeabnaaDoor
