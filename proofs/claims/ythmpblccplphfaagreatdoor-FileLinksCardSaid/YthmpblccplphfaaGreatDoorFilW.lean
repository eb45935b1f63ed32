/-
  Trees of files: what holds of every tree, and that commands keep it. No program here.
-/
import Derived.Test.YthmpblccplphfaaGreatDoorFilL
namespace Go.Proofs.YthmpblccplphfaaGreatDoor
open Go.RowKit
/-! ### updates -/
section
variable {T : Tr}
abbrev Sorted (T : Tr) : Prop := T.Pairwise fun a b => a.num < b.num
theorem get_iff (hs : Sorted T) {k : Int} {n : Nd} : T.get k = some n ↔ n ∈ T ∧ n.num = k := by
  unfold Tr.get
  induction T with
  | nil => simp
  | cons y r ih =>
    obtain ⟨h1, h2⟩ := List.pairwise_cons.1 hs
    rw [List.find?_cons]
    by_cases h : y.num = k
    · rw [beq_iff_eq.2 h]
      constructor
      · intro e; obtain rfl := Option.some.inj e; exact ⟨by simp, h⟩
      · rintro ⟨hm, hk⟩
        rcases List.mem_cons.1 hm with rfl | hm
        · rfl
        · have := h1 n hm; omega
    · rw [beq_false_of_ne h]
      show List.find? _ r = some n ↔ _
      rw [ih h2]
      constructor
      · rintro ⟨hm, hk⟩; exact ⟨by simp [hm], hk⟩
      · rintro ⟨hm, hk⟩
        rcases List.mem_cons.1 hm with rfl | hm
        · exact absurd hk h
        · exact ⟨hm, hk⟩
theorem get_none {k : Int} : T.get k = none ↔ ∀ n ∈ T, n.num ≠ k := by
  unfold Tr.get; rw [List.find?_eq_none]; simp
theorem num_inj (hs : Sorted T) {a b : Nd} (ha : a ∈ T) (hb : b ∈ T) (h : a.num = b.num) : a = b :=
  Option.some.inj (((get_iff hs).2 ⟨ha, h⟩).symm.trans ((get_iff hs).2 ⟨hb, rfl⟩))
theorem upd_nums {k : Int} {f : Nd → Nd} (hf : ∀ n, (f n).num = n.num) : (T.upd k f).map (·.num) = T.map (·.num) := by
  unfold Tr.upd
  rw [List.map_map]
  refine List.map_congr_left fun n _ => ?_
  show (if n.num == k then f n else n).num = n.num
  split
  · exact hf n
  · rfl
theorem sorted_map {T : Tr} : Sorted T ↔ (T.map (·.num)).Pairwise (· < ·) := by rw [List.pairwise_map]
theorem upd_sorted {k : Int} {f : Nd → Nd} (hf : ∀ n, (f n).num = n.num) (hs : Sorted T) : Sorted (T.upd k f) := by
  rw [sorted_map, upd_nums hf]; exact sorted_map.1 hs
theorem upd_len {k : Int} {f : Nd → Nd} : (T.upd k f).length = T.length := by simp [Tr.upd]
theorem mem_upd {k : Int} {f : Nd → Nd} {m : Nd} : m ∈ T.upd k f ↔ ∃ n ∈ T, (if n.num == k then f n else n) = m := by simp [Tr.upd]
theorem get_upd {k j : Int} {f : Nd → Nd} (hf : ∀ n, (f n).num = n.num) : (T.upd k f).get j = if j = k then (T.get j).map f else T.get j := by
  unfold Tr.get Tr.upd
  induction T with
  | nil => simp
  | cons y r ih =>
    rw [List.map_cons, List.find?_cons, List.find?_cons]
    by_cases hy : y.num = k
    · rw [beq_iff_eq.2 hy]
      simp only [if_true, hf]
      by_cases hj : y.num = j
      · rw [beq_iff_eq.2 hj, if_pos (by omega)]; rfl
      · rw [beq_false_of_ne hj]
        exact ih
    · rw [beq_false_of_ne hy]
      simp only [Bool.false_eq_true, if_false]
      by_cases hj : y.num = j
      · rw [beq_iff_eq.2 hj, if_neg (by omega)]
      · rw [beq_false_of_ne hj]
        exact ih
theorem mem_add {n m : Nd} : m ∈ Tr.add n T ↔ m = n ∨ m ∈ T := by
  induction T with
  | nil => simp [Tr.add]
  | cons y r ih =>
    unfold Tr.add
    split
    · simp
    · simp [ih]; constructor
      · rintro (h | h | h) <;> simp [h]
      · rintro (h | h | h) <;> simp [h]
theorem add_sorted {n : Nd} (hs : Sorted T) (hn : ∀ m ∈ T, m.num ≠ n.num) : Sorted (Tr.add n T) := by
  induction T with
  | nil => simp [Tr.add]
  | cons y r ih =>
    obtain ⟨h1, h2⟩ := List.pairwise_cons.1 hs
    unfold Tr.add
    split
    · rename_i h
      refine List.pairwise_cons.2 ⟨fun m hm => ?_, hs⟩
      rcases List.mem_cons.1 hm with rfl | hm
      · exact h
      · have := h1 m hm; omega
    · rename_i h
      have := hn y (by simp)
      refine List.pairwise_cons.2 ⟨fun m hm => ?_, ih h2 fun m hm => hn m (by simp [hm])⟩
      rcases mem_add.1 hm with rfl | hm
      · omega
      · exact h1 m hm
theorem add_len {n : Nd} : (Tr.add n T).length = T.length + 1 := by
  induction T with
  | nil => rfl
  | cons y r ih =>
    unfold Tr.add
    split
    · simp
    · simp [ih]
theorem get_add {n : Nd} (hs : Sorted T) (hn : ∀ m ∈ T, m.num ≠ n.num) (k : Int) : (Tr.add n T).get k = if k = n.num then some n else T.get k := by
  by_cases h : k = n.num
  · subst h; rw [if_pos rfl]; exact (get_iff (add_sorted hs hn)).2 ⟨mem_add.2 (.inl rfl), rfl⟩
  · rw [if_neg h]
    cases hg : T.get k with
    | none =>
      rw [get_none] at hg ⊢
      intro m hm
      rcases mem_add.1 hm with rfl | hm
      · exact fun e => h e.symm
      · exact hg m hm
    | some m =>
      obtain ⟨hm, hk⟩ := (get_iff hs).1 hg
      exact (get_iff (add_sorted hs hn)).2 ⟨mem_add.2 (.inr hm), hk⟩
theorem mem_drop {k : Int} {m : Nd} : m ∈ T.drop k ↔ m ∈ T ∧ m.num ≠ k := by simp [Tr.drop]
theorem drop_sorted {k : Int} (hs : Sorted T) : Sorted (T.drop k) := hs.filter _
/-! ### how often a number is named -/
def cntN (l : Nm) (j : Int) : Nat := l.countP fun p => p.2 == j
def cnt (T : Tr) (j : Int) : Nat := (T.map fun n => cntN n.names j).sum
theorem cnt_upd {k : Int} {f : Nd → Nd} (hs : Sorted T) {n : Nd} (hn : n ∈ T) (hk : n.num = k) (j : Int) : cnt (T.upd k f) j + cntN n.names j = cnt T j + cntN (f n).names j := by
  unfold cnt Tr.upd
  rw [List.map_map]
  induction T with
  | nil => cases hn
  | cons y r ih =>
    obtain ⟨h1, h2⟩ := List.pairwise_cons.1 hs
    simp only [List.map_cons, List.sum_cons, Function.comp]
    rcases List.mem_cons.1 hn with rfl | hm
    · have e2 : (r.map ((fun n => cntN n.names j) ∘ fun x => if (x.num == k) = true then f x else x)) = r.map fun n => cntN n.names j := by
        refine List.map_congr_left fun m hm => ?_
        have := h1 m hm
        simp only [Function.comp]
        rw [if_neg (by simp; omega)]
      have e3 : (if (n.num == k) = true then f n else n) = f n := if_pos (beq_iff_eq.2 hk)
      rw [e3]
      have e4 := congrArg List.sum e2
      simp only [Function.comp_def] at e4 ⊢
      omega
    · have := h1 n hm
      have e3 : (if (y.num == k) = true then f y else y) = y := if_neg (by simp; omega)
      rw [e3]
      have := ih h2 hm
      simp only [Function.comp_def] at this ⊢
      omega
theorem cnt_add {n : Nd} (j : Int) : cnt (Tr.add n T) j = cntN n.names j + cnt T j := by
  induction T with
  | nil => simp [cnt, Tr.add]
  | cons y r ih =>
    unfold Tr.add
    split
    · simp [cnt]
    · unfold cnt at *
      simp only [List.map_cons, List.sum_cons]
      rw [ih]; omega
theorem cnt_drop {n : Nd} (hs : Sorted T) (hn : n ∈ T) (j : Int) : cnt (T.drop n.num) j + cntN n.names j = cnt T j := by
  unfold cnt Tr.drop
  induction T with
  | nil => cases hn
  | cons y r ih =>
    obtain ⟨h1, h2⟩ := List.pairwise_cons.1 hs
    rw [List.filter_cons]
    rcases List.mem_cons.1 hn with rfl | hm
    · rw [beq_iff_eq.2 rfl]
      have e : r.filter (fun m => !(m.num == n.num)) = r := List.filter_eq_self.2 fun m hm => by
        have := h1 m hm
        rw [beq_false_of_ne (by omega)]; rfl
      simp only [Bool.not_true, Bool.false_eq_true, if_false]
      rw [e]; simp only [List.map_cons, List.sum_cons]; omega
    · have := h1 n hm
      rw [beq_false_of_ne (by omega)]
      simp only [Bool.not_false, if_true, List.map_cons, List.sum_cons]
      have := ih h2 hm
      omega
end
/-! ### names -/
section
variable {l : Nm}
abbrev SortedN (l : Nm) : Prop := l.Pairwise fun a b => bytesBefore a.1 b.1 = true
theorem insG_mem {x p : List UInt8 × Int} : p ∈ insG bytesBefore x l ↔ p = x ∨ p ∈ l := by
  induction l with
  | nil => simp [insG]
  | cons y r ih =>
    unfold insG
    split
    · simp
    · simp [ih]; constructor
      · rintro (h | h | h) <;> simp [h]
      · rintro (h | h | h) <;> simp [h]
theorem delG_mem {s : List UInt8} {p : List UInt8 × Int} : p ∈ delG s l ↔ p ∈ l ∧ p.1 ≠ s := by simp [delG]
theorem putG_mem {s : List UInt8} {k : Int} {p : List UInt8 × Int} : p ∈ putG bytesBefore s k l ↔ p = (s, k) ∨ (p ∈ l ∧ p.1 ≠ s) := by
  unfold putG; rw [insG_mem, delG_mem]
theorem insG_sorted {x : List UInt8 × Int} (hs : SortedN l) (hx : ∀ p ∈ l, p.1 ≠ x.1) : SortedN (insG bytesBefore x l) := by
  induction l with
  | nil => simp [insG]
  | cons y r ih =>
    obtain ⟨h1, h2⟩ := List.pairwise_cons.1 hs
    unfold insG
    split
    · rename_i h
      refine List.pairwise_cons.2 ⟨fun m hm => ?_, hs⟩
      rcases List.mem_cons.1 hm with rfl | hm
      · exact h
      · exact WideShapes.bytes_trans _ _ _ h (h1 m hm)
    · rename_i h
      have hy := hx y (by simp)
      refine List.pairwise_cons.2 ⟨fun m hm => ?_, ih h2 fun m hm => hx m (by simp [hm])⟩
      rcases insG_mem.1 hm with rfl | hm
      · rcases WideAt.bytes_total _ _ hy with h' | h'
        · exact h'
        · exact absurd h' h
      · exact h1 m hm
theorem delG_sorted {s : List UInt8} (hs : SortedN l) : SortedN (delG s l) := hs.filter _
theorem putG_sorted {s : List UInt8} {k : Int} (hs : SortedN l) : SortedN (putG bytesBefore s k l) :=
  insG_sorted (delG_sorted hs) fun _ hp => (delG_mem.1 hp).2
theorem name_inj (hs : SortedN l) {a b : List UInt8 × Int} (ha : a ∈ l) (hb : b ∈ l) (h : a.1 = b.1) : a = b := by
  induction l with
  | nil => cases ha
  | cons y r ih =>
    obtain ⟨h1, h2⟩ := List.pairwise_cons.1 hs
    have irr : ∀ m ∈ r, y.1 ≠ m.1 := fun m hm e => by
      have := h1 m hm
      rw [e, WideAt.bytes_irrefl] at this; cases this
    rcases List.mem_cons.1 ha with e1 | ha1 <;> rcases List.mem_cons.1 hb with e2 | hb1
    · rw [e1, e2]
    · exact absurd (e1 ▸ h) (irr b hb1)
    · exact absurd (e2 ▸ h.symm) (irr a ha1)
    · exact ih h2 ha1 hb1
theorem getG_iff (hs : SortedN l) {s : List UInt8} {k : Int} : getG s l = some k ↔ (s, k) ∈ l := by
  unfold getG
  constructor
  · intro h
    obtain ⟨p, hp, rfl⟩ := Option.map_eq_some_iff.1 h
    have h1 := List.find?_some hp
    have h2 := List.mem_of_find?_eq_some hp
    rw [← beq_iff_eq.1 h1]; exact h2
  · intro h
    cases hf : l.find? fun p => p.1 == s with
    | none => exact absurd (List.find?_eq_none.1 hf _ h) (by simp)
    | some p =>
      have h1 := List.find?_some hf
      have h2 := List.mem_of_find?_eq_some hf
      have := name_inj hs h2 h (beq_iff_eq.1 h1)
      subst this; rfl
theorem getG_none {s : List UInt8} : getG s l = none ↔ ∀ p ∈ l, p.1 ≠ s := by
  unfold getG; rw [Option.map_eq_none_iff, List.find?_eq_none]; simp
theorem delG_self {s : List UInt8} (h : getG s l = none) : delG s l = l := by
  rw [getG_none] at h
  exact List.filter_eq_self.2 fun p hp => by rw [beq_false_of_ne (h p hp)]; rfl
theorem putG_len {s : List UInt8} {k : Int} : (putG bytesBefore s k l).length = (delG s l).length + 1 := insG_len _ _
theorem cntN_insG {x : List UInt8 × Int} (j : Int) : cntN (insG bytesBefore x l) j = cntN l j + (if x.2 = j then 1 else 0) := by
  unfold cntN
  induction l with
  | nil => simp [insG, List.countP_cons]
  | cons y r ih =>
    unfold insG
    split
    · rw [List.countP_cons]; simp
    · rw [List.countP_cons, List.countP_cons, ih]; omega
theorem cntN_put {s : List UInt8} {k : Int} (h : getG s l = none) (j : Int) : cntN (putG bytesBefore s k l) j = cntN l j + (if k = j then 1 else 0) := by
  unfold putG; rw [delG_self h, cntN_insG]
theorem cntN_del (hs : SortedN l) {s : List UInt8} {k : Int} (h : getG s l = some k) (j : Int) : cntN (delG s l) j + (if k = j then 1 else 0) = cntN l j := by
  have hm := (getG_iff hs).1 h
  unfold cntN delG
  clear h
  induction l with
  | nil => cases hm
  | cons y r ih =>
    obtain ⟨h1, h2⟩ := List.pairwise_cons.1 hs
    rw [List.filter_cons, List.countP_cons]
    rcases List.mem_cons.1 hm with rfl | hm
    · have e : r.filter (fun p => !(p.1 == s)) = r := List.filter_eq_self.2 fun p hp => by
        have := h1 p hp
        rw [beq_false_of_ne (fun e => by rw [e, WideAt.bytes_irrefl] at this; cases this)]; rfl
      simp only [beq_self_eq_true, Bool.not_true, Bool.false_eq_true, if_false]
      rw [e]; simp
    · have h3 := h1 _ hm
      rw [beq_false_of_ne (fun e => by rw [e, WideAt.bytes_irrefl] at h3; cases h3)]
      simp only [Bool.not_false, if_true]
      rw [List.countP_cons]
      have := ih h2 hm
      omega
end
/-! ### what holds of every tree -/
structure WFo (T : Tr) (d : Int → Nat) (off : Int → Int) : Prop where
  sorted : Sorted T
  nums : ∀ n ∈ T, 1 ≤ n.num ∧ n.num ≤ 65535
  root : ∃ r ∈ T, r.num = 1 ∧ r.dir = true ∧ r.links = 1
  many : T.length ≤ 60
  file : ∀ n ∈ T, n.dir = false → n.names = [] ∧ n.data.length ≤ 16384
  dirs : ∀ n ∈ T, n.dir = true → n.data = []
  snames : ∀ n ∈ T, SortedN n.names
  names : ∀ n ∈ T, n.names.length ≤ 60 ∧ ∀ p ∈ n.names, nameOk p.1 = true
  closed : ∀ n ∈ T, ∀ p ∈ n.names, p.2 ≠ 1 ∧ ∃ m ∈ T, m.num = p.2
  count : ∀ n ∈ T, n.num ≠ 1 → (cnt T n.num : Int) + off n.num = n.links ∧ 1 ≤ n.links ∧ (n.dir = true → n.links = 1)
  droot : d 1 = 0
  deep : ∀ n ∈ T, n.names ≠ [] → d n.num ≤ 7
  depth : ∀ n ∈ T, ∀ p ∈ n.names, ∀ m ∈ T, m.num = p.2 → m.dir = true → d p.2 = d n.num + 1
abbrev WF (T : Tr) (d : Int → Nat) : Prop := WFo T d (fun _ => 0)
section
variable {T : Tr} {d : Int → Nat} {off : Int → Int}
theorem wf_new : WF Tr.new (fun _ => 0) where
  sorted := by simp [Tr.new]
  nums := by simp [Tr.new]
  root := ⟨_, by simp [Tr.new]; rfl, rfl, rfl, rfl⟩
  many := by simp [Tr.new]
  file := by simp [Tr.new]
  dirs := by simp [Tr.new]
  snames := by simp [Tr.new]
  names := by simp [Tr.new]
  closed := by simp [Tr.new]
  count := by simp [Tr.new]
  droot := rfl
  deep := by simp
  depth := by simp [Tr.new]
theorem WFo.get1 (h : WFo T d off) : ∃ r, T.get 1 = some r ∧ r.dir = true := by
  obtain ⟨r, hr, h1, h2, _⟩ := h.root
  exact ⟨r, (get_iff h.sorted).2 ⟨hr, h1⟩, h2⟩
/-- what names name is there, and as deep as there are names -/
theorem find_ok (h : WFo T d off) : ∀ (l : List (List UInt8)) (j k : Int), (∃ n ∈ T, n.num = j) → findT T j l = .ok k → (∃ n ∈ T, n.num = k) ∧ (∀ n, T.get j = some n → n.dir = true → ∀ m, T.get k = some m → m.dir = true → d k = d j + l.length) := by
  intro l
  induction l with
  | nil =>
    intro j k hj hf
    have e : j = k := by simpa [findT] using hf
    subst e
    exact ⟨hj, fun _ _ _ _ _ _ => by simp⟩
  | cons s r ih =>
    intro j k hj hf
    unfold findT at hf
    split at hf
    · cases hf
    · rename_i n hn
      split at hf
      · rename_i hd
        split at hf
        · cases hf
        · rename_i i hi
          obtain ⟨hm, hk⟩ := (get_iff h.sorted).1 hn
          have hp := (getG_iff (h.snames n hm)).1 hi
          obtain ⟨hne, m, hmT, hmn⟩ := h.closed n hm _ hp
          obtain ⟨h1, h2⟩ := ih i k ⟨m, hmT, hmn⟩ hf
          refine ⟨h1, fun n' hn' hd' x hx hxd => ?_⟩
          have hgm := (get_iff h.sorted).2 ⟨hmT, hmn⟩
          by_cases hmd : m.dir = true
          · have := h2 m hgm hmd x hx hxd
            have e := h.depth n hm _ hp m hmT hmn hmd
            rw [← hk]
            simp only [List.length_cons]
            simp only at e
            omega
          · -- a file has no names below it
            cases r with
            | nil =>
              have e : i = k := by simpa [findT] using hf
              subst e
              rw [hgm] at hx
              obtain rfl := Option.some.inj hx
              exact absurd hxd hmd
            | cons s2 r2 =>
              unfold findT at hf
              rw [hgm] at hf
              simp [hmd] at hf
      · cases hf
theorem find_cons (k : Int) (s : List UInt8) (r : List (List UInt8)) : findT T k (s :: r) = match T.get k with
    | none => .error 141
    | some n => if n.dir = true then (match getN s n.names with | none => .error 141 | some j => findT T j r) else .error 143 := rfl
theorem find_append (p q : List (List UInt8)) : ∀ j, findT T j (p ++ q) = match findT T j p with | .ok y => findT T y q | .error e => .error e := by
  induction p with
  | nil => intro j; rfl
  | cons s r ih =>
    intro j
    rw [List.cons_append, find_cons, find_cons]
    cases T.get j with
    | none => rfl
    | some n =>
      by_cases hd : n.dir = true
      · simp only [hd, if_true]
        cases hn : getN s n.names with
        | none => rfl
        | some i => exact ih i
      · simp only [hd, if_false]
        rfl
theorem find_snoc {j x : Int} {p : List (List UInt8)} {s : List UInt8} : findT T j (p ++ [s]) = .ok x ↔ ∃ y n, findT T j p = .ok y ∧ T.get y = some n ∧ n.dir = true ∧ getN s n.names = some x := by
  rw [find_append]
  cases hp : findT T j p with
  | error e => simp
  | ok y =>
    simp only [findT]
    cases hg : T.get y with
    | none => simp [hg]
    | some n =>
      by_cases hd : n.dir = true
      · simp only [hd, if_true]
        cases hn : getN s n.names with
        | none => simp [hg, hn]
        | some i => simp [hg, hn, hd]
      · simp only [hd, if_false]; simp [hg, hd]
/-! ### single steps -/
theorem names_fresh (h : WFo T d off) {k : Int} (hk : ∀ m ∈ T, m.num ≠ k) {n : Nd} (hn : n ∈ T) {p : List UInt8 × Int} (hp : p ∈ n.names) : p.2 ≠ k := by
  obtain ⟨_, m, hm, e⟩ := h.closed n hn p hp
  exact fun e2 => hk m hm (e.trans e2)
theorem cnt_zero {j : Int} (h : ∀ n ∈ T, ∀ p ∈ n.names, p.2 ≠ j) : cnt T j = 0 := by
  unfold cnt
  rw [List.sum_eq_zero_iff_forall_eq_nat]
  intro x hx
  obtain ⟨n, hn, rfl⟩ := List.mem_map.1 hx
  unfold cntN
  rw [List.countP_eq_zero]
  intro p hp e
  exact h n hn p hp (beq_iff_eq.1 e)
theorem cnt_pos {j : Int} {n : Nd} (hn : n ∈ T) {p : List UInt8 × Int} (hp : p ∈ n.names) (e : p.2 = j) : 1 ≤ cnt T j := by
  rcases Nat.eq_zero_or_pos (cnt T j) with h | h
  · unfold cnt at h
    rw [List.sum_eq_zero_iff_forall_eq_nat] at h
    have := h _ (List.mem_map.2 ⟨n, hn, rfl⟩)
    unfold cntN at this
    rw [List.countP_eq_zero] at this
    exact absurd (beq_iff_eq.2 e) (this p hp)
  · exact h
/-- a directory's names turn -/
theorem wf_named (h : WFo T d off) {k : Int} {up : Nd} {f : Nm → Nm} {off' : Int → Int} (hk : T.get k = some up) (hd : up.dir = true) (Hs : SortedN (f up.names)) (Hl : (f up.names).length ≤ 60)
    (Hp : ∀ p ∈ f up.names, p ∈ up.names ∨ (nameOk p.1 = true ∧ p.2 ≠ 1 ∧ ∃ nj, T.get p.2 = some nj ∧ (nj.dir = true → d p.2 = d k + 1))) (H7 : f up.names ≠ [] → d k ≤ 7)
    (Hc : ∀ x, (cntN (f up.names) x : Int) + off' x = cntN up.names x + off x) : WFo (T.named k f) d off' := by
  obtain ⟨hkm, hkn⟩ := (get_iff h.sorted).1 hk
  have hf : ∀ n : Nd, ({ n with names := f n.names } : Nd).num = n.num := fun _ => rfl
  have hex : ∀ x, (∃ m ∈ T.named k f, m.num = x) ↔ ∃ m ∈ T, m.num = x := fun x => by
    have e := upd_nums (T := T) (k := k) hf
    have : x ∈ (T.named k f).map (·.num) ↔ x ∈ T.map (·.num) := by unfold Tr.named; rw [e]
    simpa using this
  have hmem : ∀ m ∈ T.named k f, ∃ n ∈ T, n.num = m.num ∧ n.dir = m.dir ∧ n.links = m.links ∧ n.data = m.data ∧ ((n.num ≠ k ∧ m.names = n.names) ∨ (n = up ∧ m.names = f up.names)) := by
    intro m hm
    obtain ⟨n, hn, rfl⟩ := mem_upd.1 hm
    refine ⟨n, hn, ?_⟩
    by_cases e : n.num = k
    · rw [if_pos (beq_iff_eq.2 e)]
      have e2 := num_inj h.sorted hn hkm (by omega)
      exact ⟨rfl, rfl, rfl, rfl, .inr ⟨e2, by rw [← e2]⟩⟩
    · rw [if_neg (by simpa using e)]
      exact ⟨rfl, rfl, rfl, rfl, .inl ⟨e, rfl⟩⟩
  refine ⟨upd_sorted hf h.sorted, ?_, ?_, by unfold Tr.named; rw [upd_len]; exact h.many, ?_, ?_, ?_, ?_, ?_, ?_, h.droot, ?_, ?_⟩
  · intro m hm
    obtain ⟨n, hn, e, _⟩ := hmem m hm
    rw [← e]; exact h.nums n hn
  · obtain ⟨r, hr, h1, h2, h3⟩ := h.root
    obtain ⟨m, hm, e⟩ := (hex 1).2 ⟨r, hr, h1⟩
    obtain ⟨n, hn, e1, e2, e3, _⟩ := hmem m hm
    have e6 := num_inj h.sorted hn hr (by omega)
    exact ⟨m, hm, e, by rw [← e2, e6]; exact h2, by rw [← e3, e6]; exact h3⟩
  · intro m hm hmd
    obtain ⟨n, hn, e1, e2, e3, e4, e5⟩ := hmem m hm
    rw [← e2] at hmd
    rw [← e4]
    have := h.file n hn hmd
    rcases e5 with ⟨_, e5⟩ | ⟨e6, _⟩
    · rw [e5]; exact this
    · rw [e6, hd] at hmd; cases hmd
  · intro m hm hmd
    obtain ⟨n, hn, e1, e2, e3, e4, e5⟩ := hmem m hm
    rw [← e4]; exact h.dirs n hn (e2.trans hmd)
  · intro m hm
    obtain ⟨n, hn, e1, e2, e3, e4, ⟨_, e5⟩ | ⟨_, e5⟩⟩ := hmem m hm <;> rw [e5]
    · exact h.snames n hn
    · exact Hs
  · intro m hm
    obtain ⟨n, hn, e1, e2, e3, e4, ⟨_, e5⟩ | ⟨_, e5⟩⟩ := hmem m hm <;> rw [e5]
    · exact h.names n hn
    · refine ⟨Hl, fun p hp => ?_⟩
      rcases Hp p hp with hp | hp
      · exact (h.names up hkm).2 p hp
      · exact hp.1
  · intro m hm p hp
    rw [hex]
    obtain ⟨n, hn, e1, e2, e3, e4, ⟨_, e5⟩ | ⟨_, e5⟩⟩ := hmem m hm <;> rw [e5] at hp
    · exact h.closed n hn p hp
    · rcases Hp p hp with hp | ⟨_, h1, nj, hnj, _⟩
      · exact h.closed up hkm p hp
      · obtain ⟨a, b⟩ := (get_iff h.sorted).1 hnj
        exact ⟨h1, nj, a, b⟩
  · intro m hm h1
    obtain ⟨n, hn, e1, e2, e3, e4, _⟩ := hmem m hm
    have := h.count n hn (by rw [e1]; exact h1)
    have hc : cnt (T.named k f) m.num + cntN up.names m.num = cnt T m.num + cntN (f up.names) m.num := cnt_upd (f := fun n => { n with names := f n.names }) h.sorted hkm hkn m.num
    have hp := Hc m.num
    rw [← e2, ← e3]
    refine ⟨?_, this.2⟩
    have t1 := this.1
    rw [e1] at t1
    omega
  · intro m hm hne
    obtain ⟨n, hn, e1, e2, e3, e4, ⟨_, e5⟩ | ⟨e6, e5⟩⟩ := hmem m hm
    · rw [e5] at hne; rw [← e1]; exact h.deep n hn hne
    · rw [← e1, e6, hkn]; rw [e5] at hne; exact H7 hne
  · intro m hm p hp x hx hxp hxd
    obtain ⟨nx, hnx, f1, f2, _⟩ := hmem x hx
    obtain ⟨n, hn, e1, e2, e3, e4, e5⟩ := hmem m hm
    rw [← e1]
    rcases e5 with ⟨_, e5⟩ | ⟨e6, e5⟩
    · rw [e5] at hp; exact h.depth n hn p hp nx hnx (f1.trans hxp) (f2.trans hxd)
    · rw [e5] at hp
      rcases Hp p hp with hp | ⟨_, _, nj, hnj, hdj⟩
      · rw [e6]; exact h.depth up hkm p hp nx hnx (f1.trans hxp) (f2.trans hxd)
      · have e7 : nx = nj := Option.some.inj (((get_iff h.sorted).2 ⟨hnx, f1.trans hxp⟩).symm.trans hnj)
        rw [e6, hkn]; exact hdj (by rw [← e7]; exact f2.trans hxd)
theorem wf_put (h : WFo T d off) {k j : Int} {s : List UInt8} {up : Nd} (hk : T.get k = some up) (hd : up.dir = true) (hs : getN s up.names = none) (hl : up.names.length < 60) (hok : nameOk s = true)
    (hj : j ≠ 1) {nj : Nd} (hnj : T.get j = some nj) (h7 : d k ≤ 7) (hdj : nj.dir = true → d j = d k + 1) : WFo (T.named k (putN s j)) d (fun x => off x - if j = x then 1 else 0) := by
  obtain ⟨hkm, hkn⟩ := (get_iff h.sorted).1 hk
  refine wf_named h hk hd (putG_sorted (h.snames up hkm)) (by rw [putG_len, delG_self hs]; omega) (fun p hp => ?_) (fun _ => h7) (fun x => ?_)
  · rcases putG_mem.1 hp with rfl | ⟨hp, _⟩
    · exact .inr ⟨hok, hj, nj, hnj, hdj⟩
    · exact .inl hp
  · have h1 : cntN (putN s j up.names) x = cntN up.names x + (if j = x then 1 else 0) := cntN_put hs x
    by_cases h2 : j = x
    · rw [if_pos h2] at h1; simp only [if_pos h2]; omega
    · rw [if_neg h2] at h1; simp only [if_neg h2]; omega
theorem wf_del (h : WFo T d off) {k j : Int} {s : List UInt8} {up : Nd} (hk : T.get k = some up) (hs : getN s up.names = some j) : WFo (T.named k (delN s)) d (fun x => off x + if j = x then 1 else 0) := by
  obtain ⟨hkm, hkn⟩ := (get_iff h.sorted).1 hk
  have hin := (getG_iff (h.snames up hkm)).1 hs
  have hne : up.names ≠ [] := List.ne_nil_of_mem hin
  have hd : up.dir = true := by
    cases hd : up.dir with
    | true => rfl
    | false => exact absurd (h.file up hkm hd).1 hne
  refine wf_named h hk hd (delG_sorted (h.snames up hkm)) (Nat.le_trans (delG_len _ _) (h.names up hkm).1) (fun p hp => .inl (delG_mem.1 hp).1) (fun _ => by rw [← hkn]; exact h.deep up hkm hne) (fun x => ?_)
  have h1 : cntN (delN s up.names) x + (if j = x then 1 else 0) = cntN up.names x := cntN_del (h.snames up hkm) hs x
  by_cases h2 : j = x
  · rw [if_pos h2] at h1; simp only [if_pos h2]; omega
  · rw [if_neg h2] at h1; simp only [if_neg h2]; omega
/-- a node's bytes, or how many names it has -/
theorem wf_upd (h : WFo T d off) {k : Int} {n0 : Nd} {f : Nd → Nd} {off' : Int → Int} (hk : T.get k = some n0) (hf : ∀ n, (f n).num = n.num ∧ (f n).dir = n.dir ∧ (f n).names = n.names)
    (Hfile : n0.dir = false → (f n0).data.length ≤ 16384) (Hdir : n0.dir = true → (f n0).data = []) (Hroot : k = 1 → (f n0).links = n0.links)
    (Hc : k ≠ 1 → (f n0).links = n0.links + off' k - off k ∧ 1 ≤ (f n0).links ∧ (n0.dir = true → (f n0).links = 1)) (Ho : ∀ n ∈ T, n.num ≠ k → off' n.num = off n.num) : WFo (T.upd k f) d off' := by
  obtain ⟨hkm, hkn⟩ := (get_iff h.sorted).1 hk
  have hfn : ∀ n, (f n).num = n.num := fun n => (hf n).1
  have hex : ∀ x, (∃ m ∈ T.upd k f, m.num = x) ↔ ∃ m ∈ T, m.num = x := fun x => by
    have e := upd_nums (T := T) (k := k) hfn
    have : x ∈ (T.upd k f).map (·.num) ↔ x ∈ T.map (·.num) := by rw [e]
    simpa using this
  have hmem : ∀ m ∈ T.upd k f, ∃ n ∈ T, n.num = m.num ∧ n.dir = m.dir ∧ n.names = m.names ∧ ((n.num ≠ k ∧ m.links = n.links ∧ m.data = n.data) ∨ (n = n0 ∧ m.links = (f n0).links ∧ m.data = (f n0).data)) := by
    intro m hm
    obtain ⟨n, hn, rfl⟩ := mem_upd.1 hm
    refine ⟨n, hn, ?_⟩
    by_cases e : n.num = k
    · rw [if_pos (beq_iff_eq.2 e)]
      have e2 := num_inj h.sorted hn hkm (by omega)
      exact ⟨(hf n).1.symm, (hf n).2.1.symm, (hf n).2.2.symm, .inr ⟨e2, by rw [e2], by rw [e2]⟩⟩
    · rw [if_neg (by simpa using e)]
      exact ⟨rfl, rfl, rfl, .inl ⟨e, rfl, rfl⟩⟩
  have hcnt : ∀ x, cnt (T.upd k f) x = cnt T x := fun x => by
    have := cnt_upd (f := f) h.sorted hkm hkn x
    rw [(hf n0).2.2] at this; omega
  refine ⟨upd_sorted hfn h.sorted, ?_, ?_, by rw [upd_len]; exact h.many, ?_, ?_, ?_, ?_, ?_, ?_, h.droot, ?_, ?_⟩
  · intro m hm
    obtain ⟨n, hn, e, _⟩ := hmem m hm
    rw [← e]; exact h.nums n hn
  · obtain ⟨r, hr, h1, h2, h3⟩ := h.root
    obtain ⟨m, hm, e⟩ := (hex 1).2 ⟨r, hr, h1⟩
    obtain ⟨n, hn, e1, e2, e3, e4⟩ := hmem m hm
    have e6 := num_inj h.sorted hn hr (by omega)
    refine ⟨m, hm, e, by rw [← e2, e6]; exact h2, ?_⟩
    rcases e4 with ⟨_, e4, _⟩ | ⟨e5, e4, _⟩
    · rw [e4, e6]; exact h3
    · rw [e4, Hroot (by rw [← hkn, ← e5]; omega), ← e5, e6]; exact h3
  · intro m hm hmd
    obtain ⟨n, hn, e1, e2, e3, e4⟩ := hmem m hm
    rw [← e2] at hmd
    rw [← e3]
    have := h.file n hn hmd
    refine ⟨this.1, ?_⟩
    rcases e4 with ⟨_, _, e4⟩ | ⟨e5, _, e4⟩ <;> rw [e4]
    · exact this.2
    · exact Hfile (by rw [← e5]; exact hmd)
  · intro m hm hmd
    obtain ⟨n, hn, e1, e2, e3, e4⟩ := hmem m hm
    rw [← e2] at hmd
    rcases e4 with ⟨_, _, e4⟩ | ⟨e5, _, e4⟩ <;> rw [e4]
    · exact h.dirs n hn hmd
    · exact Hdir (by rw [← e5]; exact hmd)
  · intro m hm
    obtain ⟨n, hn, e1, e2, e3, e4⟩ := hmem m hm
    rw [← e3]; exact h.snames n hn
  · intro m hm
    obtain ⟨n, hn, e1, e2, e3, e4⟩ := hmem m hm
    rw [← e3]; exact h.names n hn
  · intro m hm p hp
    rw [hex]
    obtain ⟨n, hn, e1, e2, e3, e4⟩ := hmem m hm
    rw [← e3] at hp
    exact h.closed n hn p hp
  · intro m hm h1
    obtain ⟨n, hn, e1, e2, e3, e4⟩ := hmem m hm
    have h2 := h.count n hn (by rw [e1]; exact h1)
    rw [hcnt, ← e1, ← e2]
    rcases e4 with ⟨e5, e4, _⟩ | ⟨e5, e4, _⟩ <;> rw [e4]
    · rw [Ho n hn e5]; exact h2
    · have hnk : n.num = k := by rw [e5]; exact hkn
      have h3 := Hc (by rw [← hnk, e1]; exact h1)
      rw [e5] at h2 ⊢
      rw [hkn] at h2 ⊢
      refine ⟨?_, h3.2⟩
      omega
  · intro m hm hne
    obtain ⟨n, hn, e1, e2, e3, e4⟩ := hmem m hm
    rw [← e3] at hne; rw [← e1]; exact h.deep n hn hne
  · intro m hm p hp x hx hxp hxd
    obtain ⟨nx, hnx, f1, f2, _⟩ := hmem x hx
    obtain ⟨n, hn, e1, e2, e3, e4⟩ := hmem m hm
    rw [← e1]
    rw [← e3] at hp
    exact h.depth n hn p hp nx hnx (f1.trans hxp) (f2.trans hxd)
/-- a new node -/
theorem wf_add (h : WFo T d off) {n0 : Nd} (hn : ∀ m ∈ T, m.num ≠ n0.num) (h1 : 1 < n0.num) (h2 : n0.num ≤ 65535) (hl : n0.links = 1) (hnm : n0.names = []) (hdt : n0.data = []) (hT : T.length < 60) (v : Nat) :
    WFo (Tr.add n0 T) (fun x => if x = n0.num then v else d x) (fun x => if x = n0.num then 1 else off x) := by
  have hne : ∀ n ∈ T, ∀ p ∈ n.names, p.2 ≠ n0.num := fun n hnT p hp => names_fresh h hn hnT hp
  refine ⟨add_sorted h.sorted hn, ?_, ?_, by rw [add_len]; omega, ?_, ?_, ?_, ?_, ?_, ?_, ?_, ?_, ?_⟩
  · intro m hm
    rcases mem_add.1 hm with rfl | hm
    · exact ⟨by omega, h2⟩
    · exact h.nums m hm
  · obtain ⟨r, hr, h⟩ := h.root
    exact ⟨r, mem_add.2 (.inr hr), h⟩
  · intro m hm hmd
    rcases mem_add.1 hm with rfl | hm
    · exact ⟨hnm, by rw [hdt]; simp⟩
    · exact h.file m hm hmd
  · intro m hm hmd
    rcases mem_add.1 hm with rfl | hm
    · exact hdt
    · exact h.dirs m hm hmd
  · intro m hm
    rcases mem_add.1 hm with rfl | hm
    · rw [hnm]; exact List.Pairwise.nil
    · exact h.snames m hm
  · intro m hm
    rcases mem_add.1 hm with rfl | hm
    · rw [hnm]; simp
    · exact h.names m hm
  · intro m hm p hp
    rcases mem_add.1 hm with rfl | hm
    · rw [hnm] at hp; cases hp
    · obtain ⟨a, x, hx, e⟩ := h.closed m hm p hp
      exact ⟨a, x, mem_add.2 (.inr hx), e⟩
  · intro m hm hm1
    rw [cnt_add, hnm]
    rcases mem_add.1 hm with rfl | hm
    · rw [if_pos rfl, cnt_zero hne]
      exact ⟨by rw [hl]; rfl, by omega, fun _ => hl⟩
    · rw [if_neg (hn m hm)]
      have := h.count m hm hm1
      exact ⟨by simp only [cntN, List.countP_nil]; omega, this.2⟩
  · rw [if_neg (by omega)]; exact h.droot
  · intro m hm hmn
    rcases mem_add.1 hm with rfl | hm
    · exact absurd hnm hmn
    · rw [if_neg (hn m hm)]; exact h.deep m hm hmn
  · intro m hm p hp x hx hxp hxd
    rcases mem_add.1 hm with rfl | hm
    · rw [hnm] at hp; cases hp
    · have e := hne m hm p hp
      rw [if_neg e, if_neg (hn m hm)]
      rcases mem_add.1 hx with rfl | hx
      · exact absurd hxp.symm e
      · exact h.depth m hm p hp x hx hxp hxd
/-- a node is taken away that nothing names -/
theorem wf_drop (h : WFo T d off) {n0 : Nd} (hn : n0 ∈ T) (h1 : n0.num ≠ 1) (hc : cnt T n0.num = 0) (hnm : n0.names = []) : WFo (T.drop n0.num) d off := by
  have hne : ∀ n ∈ T, ∀ p ∈ n.names, p.2 ≠ n0.num := fun n hnT p hp e => by
    have := cnt_pos hnT hp e; omega
  refine ⟨drop_sorted h.sorted, fun m hm => h.nums m (mem_drop.1 hm).1, ?_, Nat.le_trans (List.length_filter_le _ _) h.many, fun m hm => h.file m (mem_drop.1 hm).1, fun m hm => h.dirs m (mem_drop.1 hm).1, fun m hm => h.snames m (mem_drop.1 hm).1, fun m hm => h.names m (mem_drop.1 hm).1, ?_, ?_, h.droot, fun m hm => h.deep m (mem_drop.1 hm).1, fun m hm p hp x hx => h.depth m (mem_drop.1 hm).1 p hp x (mem_drop.1 hx).1⟩
  · obtain ⟨r, hr, e, h2⟩ := h.root
    exact ⟨r, mem_drop.2 ⟨hr, by omega⟩, e, h2⟩
  · intro m hm p hp
    obtain ⟨a, x, hx, e⟩ := h.closed m (mem_drop.1 hm).1 p hp
    exact ⟨a, x, mem_drop.2 ⟨hx, by rw [e]; exact hne m (mem_drop.1 hm).1 p hp⟩, e⟩
  · intro m hm hm1
    have hcd := cnt_drop h.sorted hn m.num
    rw [hnm] at hcd
    have := h.count m (mem_drop.1 hm).1 hm1
    exact ⟨by simp only [cntN, List.countP_nil] at hcd; omega, this.2⟩
/-- depths are told anew -/
theorem wf_rank (h : WFo T d off) {d' : Int → Nat} (h0 : d' 1 = 0) (h1 : ∀ n ∈ T, n.names ≠ [] → d' n.num ≤ 7) (h2 : ∀ n ∈ T, ∀ p ∈ n.names, ∀ m ∈ T, m.num = p.2 → m.dir = true → d' p.2 = d' n.num + 1) : WFo T d' off :=
  { h with droot := h0, deep := h1, depth := h2 }
theorem wf_off (h : WFo T d off) {off' : Int → Int} (ho : ∀ n ∈ T, n.num ≠ 1 → off' n.num = off n.num) : WFo T d off' :=
  { h with count := fun n hn h1 => by rw [ho n hn h1]; exact h.count n hn h1 }
end
end Go.Proofs.YthmpblccplphfaaGreatDoor
