/-
  Trees of files: what the document says, in plain Lean. No program here.
  Trees of files: what holds of every tree, and that commands keep it. No program here.
  Trees of files: commands keep what holds of every tree. No program here.
  Trees of files: a rename keeps what holds of every tree; all commands do. No program here.
-/
import Derived.Test.YthmpblccplphfaaGreatDoorCmdL
import Derived.Test.YthmpblccplphfaaGreatDoorMapView
namespace Go.Proofs.YthmpblccplphfaaGreatDoor
section
open Go.RowKit
abbrev Nm := List (List UInt8 × Int)
abbrev delN (s : List UInt8) (l : Nm) : Nm := delG s l
abbrev putN (s : List UInt8) (k : Int) (l : Nm) : Nm := putG bytesBefore s k l
abbrev getN (s : List UInt8) (l : Nm) : Option Int := getG s l
structure Nd where
  num : Int
  dir : Bool
  links : Int
  data : List UInt8
  names : Nm
abbrev Tr := List Nd
def Tr.get (T : Tr) (k : Int) : Option Nd := T.find? fun n => n.num == k
def Tr.upd (T : Tr) (k : Int) (f : Nd → Nd) : Tr := T.map fun x => if x.num == k then f x else x
def Tr.add (n : Nd) : Tr → Tr
  | [] => [n]
  | y :: r => if n.num < y.num then n :: y :: r else y :: Tr.add n r
def Tr.drop (T : Tr) (k : Int) : Tr := T.filter fun n => !(n.num == k)
def Tr.new : Tr := [⟨1, true, 1, [], []⟩]
/-- what names name: a number, or why there is none -/
def findT (T : Tr) : Int → List (List UInt8) → Except Int Int
  | k, [] => .ok k
  | k, s :: r => match T.get k with
    | none => .error 141
    | some n => if n.dir = true then (match getN s n.names with | none => .error 141 | some j => findT T j r) else .error 143
def atT (T : Tr) (path : List UInt8) : Except Int Int := match pathOf path with
  | none => .error 140
  | some l => findT T 1 l
def roomT (T : Tr) (path : List UInt8) : Except Int (Int × List UInt8) :=
  let l := (pathOf path).getD []
  if l = [] then .error 142 else match findT T 1 l.dropLast with
    | .error e => .error e
    | .ok k => match T.get k with
      | none => .error 141
      | some up => if up.dir = false then .error 143 else if (getN (l.getLastD []) up.names).isSome = true then .error 142 else if 60 ≤ up.names.length then .error 145 else .ok (k, l.getLastD [])
/-- the least number from k on that is free -/
def freshT (T : Tr) : Nat → Int → Int
  | 0, k => k
  | f + 1, k => if (T.get k).isSome = true then freshT T f (k + 1) else k
def Tr.named (T : Tr) (k : Int) (f : Nm → Nm) : Tr := T.upd k fun n => { n with names := f n.names }
def makesT (T : Tr) (c : Cmd) : Tr × Int := match roomT T c.path with
  | .error e => (T, e)
  | .ok (k, s) => if 60 ≤ T.length then (T, 145) else
    let num := freshT T T.length 2
    ((Tr.add ⟨num, c.kind == 1, 1, [], []⟩ T).named k (putN s num), 0)
def cutW (c : Cmd) (d : List UInt8) : List UInt8 :=
  let s := d.take c.pos.toNat ++ c.data
  if c.kind = 2 ∧ s.length < d.length then s ++ d.drop s.length else s
def writesT (T : Tr) (c : Cmd) : Tr × Int := match atT T c.path with
  | .error e => (T, e)
  | .ok k => match T.get k with
    | none => (T, 141)
    | some n => if n.dir = true then (T, 143) else if (n.data.length : Int) < c.pos ∨ c.kind = 2 ∧ 16384 < c.pos + c.data.length then (T, 145) else
      (T.upd k fun n => { n with data := cutW c n.data }, 0)
def linksT (T : Tr) (c : Cmd) : Tr × Int := match atT T c.path with
  | .error e => (T, e)
  | .ok j => match T.get j with
    | none => (T, 141)
    | some n => if n.dir = true then (T, 143) else match roomT T c.dest with
      | .error e => (T, e)
      | .ok (k, s) => ((T.named k (putN s j)).upd j fun n => { n with links := n.links + 1 }, 0)
/-- how many names the longest path below a node has -/
def deepT (T : Tr) : Nat → Int → Nat
  | 0, _ => 0
  | f + 1, k => match T.get k with
    | none => 0
    | some n => n.names.foldl (fun m p => max m (1 + deepT T f p.2)) 0
def renamesT (T : Tr) (c : Cmd) : Tr × Int := if c.path = [47] then (T, 144) else match atT T c.path with
  | .error e => (T, e)
  | .ok j => if Lib.hasPrefix c.dest (c.path ++ [47]) = true then (T, 144) else match roomT T c.dest with
    | .error e => (T, e)
    | .ok (k, s) => if 8 < ((pathOf c.dest).getD []).length + deepT T 9 j then (T, 145) else
      let l := (pathOf c.path).getD []
      match findT T 1 l.dropLast with
      | .error e => (T, e)
      | .ok o => ((T.named o (delN (l.getLastD []))).named k (putN s j), 0)
def removesT (T : Tr) (c : Cmd) : Tr × Int := if c.path = [47] then (T, 144) else match atT T c.path with
  | .error e => (T, e)
  | .ok j => match T.get j with
    | none => (T, 141)
    | some n => if n.names ≠ [] then (T, 144) else
      let l := (pathOf c.path).getD []
      match findT T 1 l.dropLast with
      | .error e => (T, e)
      | .ok o =>
        let T' := T.named o (delN (l.getLastD []))
        (if n.links = 1 then T'.drop j else T'.upd j fun n => { n with links := n.links - 1 }, 0)
def doT (T : Tr) (c : Cmd) : Tr × Int := if c.ok = false then (T, 1) else
  if c.kind = 0 ∨ c.kind = 1 then makesT T c else if c.kind = 2 ∨ c.kind = 3 then writesT T c else if c.kind = 4 then linksT T c else if c.kind = 5 then renamesT T c else if c.kind = 6 then removesT T c else (T, 1)

/-! ### bytes -/
def encN (n : Nat) : List UInt8 := if h : n < 128 then [UInt8.ofNat n] else UInt8.ofNat (n % 128 + 128) :: encN (n / 128)
  termination_by n
  decreasing_by omega
def encE1 (p : List UInt8 × Int) : List UInt8 := encN p.1.length ++ p.1 ++ encN p.2.toNat
def encE (l : Nm) : List UInt8 := encN l.length ++ l.flatMap encE1
/-- may a list of entries be laid? -/
def entB (was : Option (List UInt8)) (p : List UInt8 × Int) : Bool := nameOk p.1 && (match was with | none => true | some s => bytesBefore s p.1) && decide (1 ≤ p.2) && decide (p.2 ≤ 65535)
def entsB : Option (List UInt8) → Nm → Bool
  | _, [] => true
  | was, p :: r => entB was p && entsB (some p.1) r
def entsOk (l : Nm) : Bool := decide (l.length ≤ 4096) && entsB none l
/-- a node, as it is told -/
structure Nt where
  num : Int
  dir : Bool
  links : Int
  data : List UInt8
def Nd.told (n : Nd) : Nt := ⟨n.num, n.dir, n.links, if n.dir = true then encE n.names else n.data⟩
def toldT (T : Tr) : List Nt := T.map Nd.told
end
section
open Go.RowKit
/-! ### updates -/
section
variable {T : Tr}
abbrev Sorted (T : Tr) : Prop := T.Pairwise fun a b => a.num < b.num
theorem get_iff (hs : Sorted T) {k : Int} {n : Nd} : T.get k = some n ↔ n ∈ T ∧ n.num = k := by
  unfold Tr.get
  induction T with
  | nil => simp
  | cons y r ih =>
    obtain ⟨h1, h2⟩ := List.pairwise_cons.1 hs
    rw [List.find?_cons]
    by_cases h : y.num = k
    · rw [beq_iff_eq.2 h]
      constructor
      · intro e; obtain rfl := Option.some.inj e; exact ⟨by simp, h⟩
      · rintro ⟨hm, hk⟩
        rcases List.mem_cons.1 hm with rfl | hm
        · rfl
        · have := h1 n hm; omega
    · rw [beq_false_of_ne h]
      show List.find? _ r = some n ↔ _
      rw [ih h2]
      constructor
      · rintro ⟨hm, hk⟩; exact ⟨by simp [hm], hk⟩
      · rintro ⟨hm, hk⟩
        rcases List.mem_cons.1 hm with rfl | hm
        · exact absurd hk h
        · exact ⟨hm, hk⟩
theorem get_none {k : Int} : T.get k = none ↔ ∀ n ∈ T, n.num ≠ k := by
  unfold Tr.get; rw [List.find?_eq_none]; simp
theorem num_inj (hs : Sorted T) {a b : Nd} (ha : a ∈ T) (hb : b ∈ T) (h : a.num = b.num) : a = b :=
  Option.some.inj (((get_iff hs).2 ⟨ha, h⟩).symm.trans ((get_iff hs).2 ⟨hb, rfl⟩))
theorem upd_nums {k : Int} {f : Nd → Nd} (hf : ∀ n, (f n).num = n.num) : (T.upd k f).map (·.num) = T.map (·.num) := by
  unfold Tr.upd
  rw [List.map_map]
  refine List.map_congr_left fun n _ => ?_
  show (if n.num == k then f n else n).num = n.num
  split
  · exact hf n
  · rfl
theorem sorted_map {T : Tr} : Sorted T ↔ (T.map (·.num)).Pairwise (· < ·) := by rw [List.pairwise_map]
theorem upd_sorted {k : Int} {f : Nd → Nd} (hf : ∀ n, (f n).num = n.num) (hs : Sorted T) : Sorted (T.upd k f) := by
  rw [sorted_map, upd_nums hf]; exact sorted_map.1 hs
theorem upd_len {k : Int} {f : Nd → Nd} : (T.upd k f).length = T.length := by simp [Tr.upd]
theorem mem_upd {k : Int} {f : Nd → Nd} {m : Nd} : m ∈ T.upd k f ↔ ∃ n ∈ T, (if n.num == k then f n else n) = m := by simp [Tr.upd]
theorem get_upd {k j : Int} {f : Nd → Nd} (hf : ∀ n, (f n).num = n.num) : (T.upd k f).get j = if j = k then (T.get j).map f else T.get j := by
  unfold Tr.get Tr.upd
  induction T with
  | nil => simp
  | cons y r ih =>
    rw [List.map_cons, List.find?_cons, List.find?_cons]
    by_cases hy : y.num = k
    · rw [beq_iff_eq.2 hy]
      simp only [if_true, hf]
      by_cases hj : y.num = j
      · rw [beq_iff_eq.2 hj, if_pos (by omega)]; rfl
      · rw [beq_false_of_ne hj]
        exact ih
    · rw [beq_false_of_ne hy]
      simp only [Bool.false_eq_true, if_false]
      by_cases hj : y.num = j
      · rw [beq_iff_eq.2 hj, if_neg (by omega)]
      · rw [beq_false_of_ne hj]
        exact ih
theorem mem_add {n m : Nd} : m ∈ Tr.add n T ↔ m = n ∨ m ∈ T := by
  induction T with
  | nil => simp [Tr.add]
  | cons y r ih =>
    unfold Tr.add
    split
    · simp
    · simp [ih]; constructor
      · rintro (h | h | h) <;> simp [h]
      · rintro (h | h | h) <;> simp [h]
theorem add_sorted {n : Nd} (hs : Sorted T) (hn : ∀ m ∈ T, m.num ≠ n.num) : Sorted (Tr.add n T) := by
  induction T with
  | nil => simp [Tr.add]
  | cons y r ih =>
    obtain ⟨h1, h2⟩ := List.pairwise_cons.1 hs
    unfold Tr.add
    split
    · rename_i h
      refine List.pairwise_cons.2 ⟨fun m hm => ?_, hs⟩
      rcases List.mem_cons.1 hm with rfl | hm
      · exact h
      · have := h1 m hm; omega
    · rename_i h
      have := hn y (by simp)
      refine List.pairwise_cons.2 ⟨fun m hm => ?_, ih h2 fun m hm => hn m (by simp [hm])⟩
      rcases mem_add.1 hm with rfl | hm
      · omega
      · exact h1 m hm
theorem add_len {n : Nd} : (Tr.add n T).length = T.length + 1 := by
  induction T with
  | nil => rfl
  | cons y r ih =>
    unfold Tr.add
    split
    · simp
    · simp [ih]
theorem get_add {n : Nd} (hs : Sorted T) (hn : ∀ m ∈ T, m.num ≠ n.num) (k : Int) : (Tr.add n T).get k = if k = n.num then some n else T.get k := by
  by_cases h : k = n.num
  · subst h; rw [if_pos rfl]; exact (get_iff (add_sorted hs hn)).2 ⟨mem_add.2 (.inl rfl), rfl⟩
  · rw [if_neg h]
    cases hg : T.get k with
    | none =>
      rw [get_none] at hg ⊢
      intro m hm
      rcases mem_add.1 hm with rfl | hm
      · exact fun e => h e.symm
      · exact hg m hm
    | some m =>
      obtain ⟨hm, hk⟩ := (get_iff hs).1 hg
      exact (get_iff (add_sorted hs hn)).2 ⟨mem_add.2 (.inr hm), hk⟩
theorem mem_drop {k : Int} {m : Nd} : m ∈ T.drop k ↔ m ∈ T ∧ m.num ≠ k := by simp [Tr.drop]
theorem drop_sorted {k : Int} (hs : Sorted T) : Sorted (T.drop k) := hs.filter _
/-! ### how often a number is named -/
def cntN (l : Nm) (j : Int) : Nat := l.countP fun p => p.2 == j
def cnt (T : Tr) (j : Int) : Nat := (T.map fun n => cntN n.names j).sum
theorem cnt_upd {k : Int} {f : Nd → Nd} (hs : Sorted T) {n : Nd} (hn : n ∈ T) (hk : n.num = k) (j : Int) : cnt (T.upd k f) j + cntN n.names j = cnt T j + cntN (f n).names j := by
  unfold cnt Tr.upd
  rw [List.map_map]
  induction T with
  | nil => cases hn
  | cons y r ih =>
    obtain ⟨h1, h2⟩ := List.pairwise_cons.1 hs
    simp only [List.map_cons, List.sum_cons, Function.comp]
    rcases List.mem_cons.1 hn with rfl | hm
    · have e2 : (r.map ((fun n => cntN n.names j) ∘ fun x => if (x.num == k) = true then f x else x)) = r.map fun n => cntN n.names j := by
        refine List.map_congr_left fun m hm => ?_
        have := h1 m hm
        simp only [Function.comp]
        rw [if_neg (by simp; omega)]
      have e3 : (if (n.num == k) = true then f n else n) = f n := if_pos (beq_iff_eq.2 hk)
      rw [e3]
      have e4 := congrArg List.sum e2
      simp only [Function.comp_def] at e4 ⊢
      omega
    · have := h1 n hm
      have e3 : (if (y.num == k) = true then f y else y) = y := if_neg (by simp; omega)
      rw [e3]
      have := ih h2 hm
      simp only [Function.comp_def] at this ⊢
      omega
theorem cnt_add {n : Nd} (j : Int) : cnt (Tr.add n T) j = cntN n.names j + cnt T j := by
  induction T with
  | nil => simp [cnt, Tr.add]
  | cons y r ih =>
    unfold Tr.add
    split
    · simp [cnt]
    · unfold cnt at *
      simp only [List.map_cons, List.sum_cons]
      rw [ih]; omega
theorem cnt_drop {n : Nd} (hs : Sorted T) (hn : n ∈ T) (j : Int) : cnt (T.drop n.num) j + cntN n.names j = cnt T j := by
  unfold cnt Tr.drop
  induction T with
  | nil => cases hn
  | cons y r ih =>
    obtain ⟨h1, h2⟩ := List.pairwise_cons.1 hs
    rw [List.filter_cons]
    rcases List.mem_cons.1 hn with rfl | hm
    · rw [beq_iff_eq.2 rfl]
      have e : r.filter (fun m => !(m.num == n.num)) = r := List.filter_eq_self.2 fun m hm => by
        have := h1 m hm
        rw [beq_false_of_ne (by omega)]; rfl
      simp only [Bool.not_true, Bool.false_eq_true, if_false]
      rw [e]; simp only [List.map_cons, List.sum_cons]; omega
    · have := h1 n hm
      rw [beq_false_of_ne (by omega)]
      simp only [Bool.not_false, if_true, List.map_cons, List.sum_cons]
      have := ih h2 hm
      omega
end
/-! ### names -/
section
variable {l : Nm}
abbrev SortedN (l : Nm) : Prop := l.Pairwise fun a b => bytesBefore a.1 b.1 = true
theorem insG_mem {x p : List UInt8 × Int} : p ∈ insG bytesBefore x l ↔ p = x ∨ p ∈ l := by
  induction l with
  | nil => simp [insG]
  | cons y r ih =>
    unfold insG
    split
    · simp
    · simp [ih]; constructor
      · rintro (h | h | h) <;> simp [h]
      · rintro (h | h | h) <;> simp [h]
theorem delG_mem {s : List UInt8} {p : List UInt8 × Int} : p ∈ delG s l ↔ p ∈ l ∧ p.1 ≠ s := by simp [delG]
theorem putG_mem {s : List UInt8} {k : Int} {p : List UInt8 × Int} : p ∈ putG bytesBefore s k l ↔ p = (s, k) ∨ (p ∈ l ∧ p.1 ≠ s) := by
  unfold putG; rw [insG_mem, delG_mem]
theorem insG_sorted {x : List UInt8 × Int} (hs : SortedN l) (hx : ∀ p ∈ l, p.1 ≠ x.1) : SortedN (insG bytesBefore x l) := by
  induction l with
  | nil => simp [insG]
  | cons y r ih =>
    obtain ⟨h1, h2⟩ := List.pairwise_cons.1 hs
    unfold insG
    split
    · rename_i h
      refine List.pairwise_cons.2 ⟨fun m hm => ?_, hs⟩
      rcases List.mem_cons.1 hm with rfl | hm
      · exact h
      · exact WideShapes.bytes_trans _ _ _ h (h1 m hm)
    · rename_i h
      have hy := hx y (by simp)
      refine List.pairwise_cons.2 ⟨fun m hm => ?_, ih h2 fun m hm => hx m (by simp [hm])⟩
      rcases insG_mem.1 hm with rfl | hm
      · rcases WideAt.bytes_total _ _ hy with h' | h'
        · exact h'
        · exact absurd h' h
      · exact h1 m hm
theorem delG_sorted {s : List UInt8} (hs : SortedN l) : SortedN (delG s l) := hs.filter _
theorem putG_sorted {s : List UInt8} {k : Int} (hs : SortedN l) : SortedN (putG bytesBefore s k l) :=
  insG_sorted (delG_sorted hs) fun _ hp => (delG_mem.1 hp).2
theorem name_inj (hs : SortedN l) {a b : List UInt8 × Int} (ha : a ∈ l) (hb : b ∈ l) (h : a.1 = b.1) : a = b := by
  induction l with
  | nil => cases ha
  | cons y r ih =>
    obtain ⟨h1, h2⟩ := List.pairwise_cons.1 hs
    have irr : ∀ m ∈ r, y.1 ≠ m.1 := fun m hm e => by
      have := h1 m hm
      rw [e, WideAt.bytes_irrefl] at this; cases this
    rcases List.mem_cons.1 ha with e1 | ha1 <;> rcases List.mem_cons.1 hb with e2 | hb1
    · rw [e1, e2]
    · exact absurd (e1 ▸ h) (irr b hb1)
    · exact absurd (e2 ▸ h.symm) (irr a ha1)
    · exact ih h2 ha1 hb1
theorem getG_iff (hs : SortedN l) {s : List UInt8} {k : Int} : getG s l = some k ↔ (s, k) ∈ l := by
  unfold getG
  constructor
  · intro h
    obtain ⟨p, hp, rfl⟩ := Option.map_eq_some_iff.1 h
    have h1 := List.find?_some hp
    have h2 := List.mem_of_find?_eq_some hp
    rw [← beq_iff_eq.1 h1]; exact h2
  · intro h
    cases hf : l.find? fun p => p.1 == s with
    | none => exact absurd (List.find?_eq_none.1 hf _ h) (by simp)
    | some p =>
      have h1 := List.find?_some hf
      have h2 := List.mem_of_find?_eq_some hf
      have := name_inj hs h2 h (beq_iff_eq.1 h1)
      subst this; rfl
theorem getG_none {s : List UInt8} : getG s l = none ↔ ∀ p ∈ l, p.1 ≠ s := by
  unfold getG; rw [Option.map_eq_none_iff, List.find?_eq_none]; simp
theorem delG_self {s : List UInt8} (h : getG s l = none) : delG s l = l := by
  rw [getG_none] at h
  exact List.filter_eq_self.2 fun p hp => by rw [beq_false_of_ne (h p hp)]; rfl
theorem putG_len {s : List UInt8} {k : Int} : (putG bytesBefore s k l).length = (delG s l).length + 1 := insG_len _ _
theorem cntN_insG {x : List UInt8 × Int} (j : Int) : cntN (insG bytesBefore x l) j = cntN l j + (if x.2 = j then 1 else 0) := by
  unfold cntN
  induction l with
  | nil => simp [insG, List.countP_cons]
  | cons y r ih =>
    unfold insG
    split
    · rw [List.countP_cons]; simp
    · rw [List.countP_cons, List.countP_cons, ih]; omega
theorem cntN_put {s : List UInt8} {k : Int} (h : getG s l = none) (j : Int) : cntN (putG bytesBefore s k l) j = cntN l j + (if k = j then 1 else 0) := by
  unfold putG; rw [delG_self h, cntN_insG]
theorem cntN_del (hs : SortedN l) {s : List UInt8} {k : Int} (h : getG s l = some k) (j : Int) : cntN (delG s l) j + (if k = j then 1 else 0) = cntN l j := by
  have hm := (getG_iff hs).1 h
  unfold cntN delG
  clear h
  induction l with
  | nil => cases hm
  | cons y r ih =>
    obtain ⟨h1, h2⟩ := List.pairwise_cons.1 hs
    rw [List.filter_cons, List.countP_cons]
    rcases List.mem_cons.1 hm with rfl | hm
    · have e : r.filter (fun p => !(p.1 == s)) = r := List.filter_eq_self.2 fun p hp => by
        have := h1 p hp
        rw [beq_false_of_ne (fun e => by rw [e, WideAt.bytes_irrefl] at this; cases this)]; rfl
      simp only [beq_self_eq_true, Bool.not_true, Bool.false_eq_true, if_false]
      rw [e]; simp
    · have h3 := h1 _ hm
      rw [beq_false_of_ne (fun e => by rw [e, WideAt.bytes_irrefl] at h3; cases h3)]
      simp only [Bool.not_false, if_true]
      rw [List.countP_cons]
      have := ih h2 hm
      omega
end
/-! ### what holds of every tree -/
structure WFo (T : Tr) (d : Int → Nat) (off : Int → Int) : Prop where
  sorted : Sorted T
  nums : ∀ n ∈ T, 1 ≤ n.num ∧ n.num ≤ 65535
  root : ∃ r ∈ T, r.num = 1 ∧ r.dir = true ∧ r.links = 1
  many : T.length ≤ 60
  file : ∀ n ∈ T, n.dir = false → n.names = [] ∧ n.data.length ≤ 16384
  dirs : ∀ n ∈ T, n.dir = true → n.data = []
  snames : ∀ n ∈ T, SortedN n.names
  names : ∀ n ∈ T, n.names.length ≤ 60 ∧ ∀ p ∈ n.names, nameOk p.1 = true
  closed : ∀ n ∈ T, ∀ p ∈ n.names, p.2 ≠ 1 ∧ ∃ m ∈ T, m.num = p.2
  count : ∀ n ∈ T, n.num ≠ 1 → (cnt T n.num : Int) + off n.num = n.links ∧ 1 ≤ n.links ∧ (n.dir = true → n.links = 1)
  droot : d 1 = 0
  deep : ∀ n ∈ T, n.names ≠ [] → d n.num ≤ 7
  depth : ∀ n ∈ T, ∀ p ∈ n.names, ∀ m ∈ T, m.num = p.2 → m.dir = true → d p.2 = d n.num + 1
abbrev WF (T : Tr) (d : Int → Nat) : Prop := WFo T d (fun _ => 0)
section
variable {T : Tr} {d : Int → Nat} {off : Int → Int}
theorem wf_new : WF Tr.new (fun _ => 0) where
  sorted := by simp [Tr.new]
  nums := by simp [Tr.new]
  root := ⟨_, by simp [Tr.new]; rfl, rfl, rfl, rfl⟩
  many := by simp [Tr.new]
  file := by simp [Tr.new]
  dirs := by simp [Tr.new]
  snames := by simp [Tr.new]
  names := by simp [Tr.new]
  closed := by simp [Tr.new]
  count := by simp [Tr.new]
  droot := rfl
  deep := by simp
  depth := by simp [Tr.new]
theorem WFo.get1 (h : WFo T d off) : ∃ r, T.get 1 = some r ∧ r.dir = true := by
  obtain ⟨r, hr, h1, h2, _⟩ := h.root
  exact ⟨r, (get_iff h.sorted).2 ⟨hr, h1⟩, h2⟩
/-- what names name is there, and as deep as there are names -/
theorem find_ok (h : WFo T d off) : ∀ (l : List (List UInt8)) (j k : Int), (∃ n ∈ T, n.num = j) → findT T j l = .ok k → (∃ n ∈ T, n.num = k) ∧ (∀ n, T.get j = some n → n.dir = true → ∀ m, T.get k = some m → m.dir = true → d k = d j + l.length) := by
  intro l
  induction l with
  | nil =>
    intro j k hj hf
    have e : j = k := by simpa [findT] using hf
    subst e
    exact ⟨hj, fun _ _ _ _ _ _ => by simp⟩
  | cons s r ih =>
    intro j k hj hf
    unfold findT at hf
    split at hf
    · cases hf
    · rename_i n hn
      split at hf
      · rename_i hd
        split at hf
        · cases hf
        · rename_i i hi
          obtain ⟨hm, hk⟩ := (get_iff h.sorted).1 hn
          have hp := (getG_iff (h.snames n hm)).1 hi
          obtain ⟨hne, m, hmT, hmn⟩ := h.closed n hm _ hp
          obtain ⟨h1, h2⟩ := ih i k ⟨m, hmT, hmn⟩ hf
          refine ⟨h1, fun n' hn' hd' x hx hxd => ?_⟩
          have hgm := (get_iff h.sorted).2 ⟨hmT, hmn⟩
          by_cases hmd : m.dir = true
          · have := h2 m hgm hmd x hx hxd
            have e := h.depth n hm _ hp m hmT hmn hmd
            rw [← hk]
            simp only [List.length_cons]
            simp only at e
            omega
          · -- a file has no names below it
            cases r with
            | nil =>
              have e : i = k := by simpa [findT] using hf
              subst e
              rw [hgm] at hx
              obtain rfl := Option.some.inj hx
              exact absurd hxd hmd
            | cons s2 r2 =>
              unfold findT at hf
              rw [hgm] at hf
              simp [hmd] at hf
      · cases hf
theorem find_cons (k : Int) (s : List UInt8) (r : List (List UInt8)) : findT T k (s :: r) = match T.get k with
    | none => .error 141
    | some n => if n.dir = true then (match getN s n.names with | none => .error 141 | some j => findT T j r) else .error 143 := rfl
theorem find_append (p q : List (List UInt8)) : ∀ j, findT T j (p ++ q) = match findT T j p with | .ok y => findT T y q | .error e => .error e := by
  induction p with
  | nil => intro j; rfl
  | cons s r ih =>
    intro j
    rw [List.cons_append, find_cons, find_cons]
    cases T.get j with
    | none => rfl
    | some n =>
      by_cases hd : n.dir = true
      · simp only [hd, if_true]
        cases hn : getN s n.names with
        | none => rfl
        | some i => exact ih i
      · simp only [hd, if_false]
        rfl
theorem find_snoc {j x : Int} {p : List (List UInt8)} {s : List UInt8} : findT T j (p ++ [s]) = .ok x ↔ ∃ y n, findT T j p = .ok y ∧ T.get y = some n ∧ n.dir = true ∧ getN s n.names = some x := by
  rw [find_append]
  cases hp : findT T j p with
  | error e => simp
  | ok y =>
    simp only [findT]
    cases hg : T.get y with
    | none => simp [hg]
    | some n =>
      by_cases hd : n.dir = true
      · simp only [hd, if_true]
        cases hn : getN s n.names with
        | none => simp [hg, hn]
        | some i => simp [hg, hn, hd]
      · simp only [hd, if_false]; simp [hg, hd]
/-! ### single steps -/
theorem names_fresh (h : WFo T d off) {k : Int} (hk : ∀ m ∈ T, m.num ≠ k) {n : Nd} (hn : n ∈ T) {p : List UInt8 × Int} (hp : p ∈ n.names) : p.2 ≠ k := by
  obtain ⟨_, m, hm, e⟩ := h.closed n hn p hp
  exact fun e2 => hk m hm (e.trans e2)
theorem cnt_zero {j : Int} (h : ∀ n ∈ T, ∀ p ∈ n.names, p.2 ≠ j) : cnt T j = 0 := by
  unfold cnt
  rw [List.sum_eq_zero_iff_forall_eq_nat]
  intro x hx
  obtain ⟨n, hn, rfl⟩ := List.mem_map.1 hx
  unfold cntN
  rw [List.countP_eq_zero]
  intro p hp e
  exact h n hn p hp (beq_iff_eq.1 e)
theorem cnt_pos {j : Int} {n : Nd} (hn : n ∈ T) {p : List UInt8 × Int} (hp : p ∈ n.names) (e : p.2 = j) : 1 ≤ cnt T j := by
  rcases Nat.eq_zero_or_pos (cnt T j) with h | h
  · unfold cnt at h
    rw [List.sum_eq_zero_iff_forall_eq_nat] at h
    have := h _ (List.mem_map.2 ⟨n, hn, rfl⟩)
    unfold cntN at this
    rw [List.countP_eq_zero] at this
    exact absurd (beq_iff_eq.2 e) (this p hp)
  · exact h
/-- a directory's names turn -/
theorem wf_named (h : WFo T d off) {k : Int} {up : Nd} {f : Nm → Nm} {off' : Int → Int} (hk : T.get k = some up) (hd : up.dir = true) (Hs : SortedN (f up.names)) (Hl : (f up.names).length ≤ 60)
    (Hp : ∀ p ∈ f up.names, p ∈ up.names ∨ (nameOk p.1 = true ∧ p.2 ≠ 1 ∧ ∃ nj, T.get p.2 = some nj ∧ (nj.dir = true → d p.2 = d k + 1))) (H7 : f up.names ≠ [] → d k ≤ 7)
    (Hc : ∀ x, (cntN (f up.names) x : Int) + off' x = cntN up.names x + off x) : WFo (T.named k f) d off' := by
  obtain ⟨hkm, hkn⟩ := (get_iff h.sorted).1 hk
  have hf : ∀ n : Nd, ({ n with names := f n.names } : Nd).num = n.num := fun _ => rfl
  have hex : ∀ x, (∃ m ∈ T.named k f, m.num = x) ↔ ∃ m ∈ T, m.num = x := fun x => by
    have e := upd_nums (T := T) (k := k) hf
    have : x ∈ (T.named k f).map (·.num) ↔ x ∈ T.map (·.num) := by unfold Tr.named; rw [e]
    simpa using this
  have hmem : ∀ m ∈ T.named k f, ∃ n ∈ T, n.num = m.num ∧ n.dir = m.dir ∧ n.links = m.links ∧ n.data = m.data ∧ ((n.num ≠ k ∧ m.names = n.names) ∨ (n = up ∧ m.names = f up.names)) := by
    intro m hm
    obtain ⟨n, hn, rfl⟩ := mem_upd.1 hm
    refine ⟨n, hn, ?_⟩
    by_cases e : n.num = k
    · rw [if_pos (beq_iff_eq.2 e)]
      have e2 := num_inj h.sorted hn hkm (by omega)
      exact ⟨rfl, rfl, rfl, rfl, .inr ⟨e2, by rw [← e2]⟩⟩
    · rw [if_neg (by simpa using e)]
      exact ⟨rfl, rfl, rfl, rfl, .inl ⟨e, rfl⟩⟩
  refine ⟨upd_sorted hf h.sorted, ?_, ?_, by unfold Tr.named; rw [upd_len]; exact h.many, ?_, ?_, ?_, ?_, ?_, ?_, h.droot, ?_, ?_⟩
  · intro m hm
    obtain ⟨n, hn, e, _⟩ := hmem m hm
    rw [← e]; exact h.nums n hn
  · obtain ⟨r, hr, h1, h2, h3⟩ := h.root
    obtain ⟨m, hm, e⟩ := (hex 1).2 ⟨r, hr, h1⟩
    obtain ⟨n, hn, e1, e2, e3, _⟩ := hmem m hm
    have e6 := num_inj h.sorted hn hr (by omega)
    exact ⟨m, hm, e, by rw [← e2, e6]; exact h2, by rw [← e3, e6]; exact h3⟩
  · intro m hm hmd
    obtain ⟨n, hn, e1, e2, e3, e4, e5⟩ := hmem m hm
    rw [← e2] at hmd
    rw [← e4]
    have := h.file n hn hmd
    rcases e5 with ⟨_, e5⟩ | ⟨e6, _⟩
    · rw [e5]; exact this
    · rw [e6, hd] at hmd; cases hmd
  · intro m hm hmd
    obtain ⟨n, hn, e1, e2, e3, e4, e5⟩ := hmem m hm
    rw [← e4]; exact h.dirs n hn (e2.trans hmd)
  · intro m hm
    obtain ⟨n, hn, e1, e2, e3, e4, ⟨_, e5⟩ | ⟨_, e5⟩⟩ := hmem m hm <;> rw [e5]
    · exact h.snames n hn
    · exact Hs
  · intro m hm
    obtain ⟨n, hn, e1, e2, e3, e4, ⟨_, e5⟩ | ⟨_, e5⟩⟩ := hmem m hm <;> rw [e5]
    · exact h.names n hn
    · refine ⟨Hl, fun p hp => ?_⟩
      rcases Hp p hp with hp | hp
      · exact (h.names up hkm).2 p hp
      · exact hp.1
  · intro m hm p hp
    rw [hex]
    obtain ⟨n, hn, e1, e2, e3, e4, ⟨_, e5⟩ | ⟨_, e5⟩⟩ := hmem m hm <;> rw [e5] at hp
    · exact h.closed n hn p hp
    · rcases Hp p hp with hp | ⟨_, h1, nj, hnj, _⟩
      · exact h.closed up hkm p hp
      · obtain ⟨a, b⟩ := (get_iff h.sorted).1 hnj
        exact ⟨h1, nj, a, b⟩
  · intro m hm h1
    obtain ⟨n, hn, e1, e2, e3, e4, _⟩ := hmem m hm
    have := h.count n hn (by rw [e1]; exact h1)
    have hc : cnt (T.named k f) m.num + cntN up.names m.num = cnt T m.num + cntN (f up.names) m.num := cnt_upd (f := fun n => { n with names := f n.names }) h.sorted hkm hkn m.num
    have hp := Hc m.num
    rw [← e2, ← e3]
    refine ⟨?_, this.2⟩
    have t1 := this.1
    rw [e1] at t1
    omega
  · intro m hm hne
    obtain ⟨n, hn, e1, e2, e3, e4, ⟨_, e5⟩ | ⟨e6, e5⟩⟩ := hmem m hm
    · rw [e5] at hne; rw [← e1]; exact h.deep n hn hne
    · rw [← e1, e6, hkn]; rw [e5] at hne; exact H7 hne
  · intro m hm p hp x hx hxp hxd
    obtain ⟨nx, hnx, f1, f2, _⟩ := hmem x hx
    obtain ⟨n, hn, e1, e2, e3, e4, e5⟩ := hmem m hm
    rw [← e1]
    rcases e5 with ⟨_, e5⟩ | ⟨e6, e5⟩
    · rw [e5] at hp; exact h.depth n hn p hp nx hnx (f1.trans hxp) (f2.trans hxd)
    · rw [e5] at hp
      rcases Hp p hp with hp | ⟨_, _, nj, hnj, hdj⟩
      · rw [e6]; exact h.depth up hkm p hp nx hnx (f1.trans hxp) (f2.trans hxd)
      · have e7 : nx = nj := Option.some.inj (((get_iff h.sorted).2 ⟨hnx, f1.trans hxp⟩).symm.trans hnj)
        rw [e6, hkn]; exact hdj (by rw [← e7]; exact f2.trans hxd)
theorem wf_put (h : WFo T d off) {k j : Int} {s : List UInt8} {up : Nd} (hk : T.get k = some up) (hd : up.dir = true) (hs : getN s up.names = none) (hl : up.names.length < 60) (hok : nameOk s = true)
    (hj : j ≠ 1) {nj : Nd} (hnj : T.get j = some nj) (h7 : d k ≤ 7) (hdj : nj.dir = true → d j = d k + 1) : WFo (T.named k (putN s j)) d (fun x => off x - if j = x then 1 else 0) := by
  obtain ⟨hkm, hkn⟩ := (get_iff h.sorted).1 hk
  refine wf_named h hk hd (putG_sorted (h.snames up hkm)) (by rw [putG_len, delG_self hs]; omega) (fun p hp => ?_) (fun _ => h7) (fun x => ?_)
  · rcases putG_mem.1 hp with rfl | ⟨hp, _⟩
    · exact .inr ⟨hok, hj, nj, hnj, hdj⟩
    · exact .inl hp
  · have h1 : cntN (putN s j up.names) x = cntN up.names x + (if j = x then 1 else 0) := cntN_put hs x
    by_cases h2 : j = x
    · rw [if_pos h2] at h1; simp only [if_pos h2]; omega
    · rw [if_neg h2] at h1; simp only [if_neg h2]; omega
theorem wf_del (h : WFo T d off) {k j : Int} {s : List UInt8} {up : Nd} (hk : T.get k = some up) (hs : getN s up.names = some j) : WFo (T.named k (delN s)) d (fun x => off x + if j = x then 1 else 0) := by
  obtain ⟨hkm, hkn⟩ := (get_iff h.sorted).1 hk
  have hin := (getG_iff (h.snames up hkm)).1 hs
  have hne : up.names ≠ [] := List.ne_nil_of_mem hin
  have hd : up.dir = true := by
    cases hd : up.dir with
    | true => rfl
    | false => exact absurd (h.file up hkm hd).1 hne
  refine wf_named h hk hd (delG_sorted (h.snames up hkm)) (Nat.le_trans (delG_len _ _) (h.names up hkm).1) (fun p hp => .inl (delG_mem.1 hp).1) (fun _ => by rw [← hkn]; exact h.deep up hkm hne) (fun x => ?_)
  have h1 : cntN (delN s up.names) x + (if j = x then 1 else 0) = cntN up.names x := cntN_del (h.snames up hkm) hs x
  by_cases h2 : j = x
  · rw [if_pos h2] at h1; simp only [if_pos h2]; omega
  · rw [if_neg h2] at h1; simp only [if_neg h2]; omega
/-- a node's bytes, or how many names it has -/
theorem wf_upd (h : WFo T d off) {k : Int} {n0 : Nd} {f : Nd → Nd} {off' : Int → Int} (hk : T.get k = some n0) (hf : ∀ n, (f n).num = n.num ∧ (f n).dir = n.dir ∧ (f n).names = n.names)
    (Hfile : n0.dir = false → (f n0).data.length ≤ 16384) (Hdir : n0.dir = true → (f n0).data = []) (Hroot : k = 1 → (f n0).links = n0.links)
    (Hc : k ≠ 1 → (f n0).links = n0.links + off' k - off k ∧ 1 ≤ (f n0).links ∧ (n0.dir = true → (f n0).links = 1)) (Ho : ∀ n ∈ T, n.num ≠ k → off' n.num = off n.num) : WFo (T.upd k f) d off' := by
  obtain ⟨hkm, hkn⟩ := (get_iff h.sorted).1 hk
  have hfn : ∀ n, (f n).num = n.num := fun n => (hf n).1
  have hex : ∀ x, (∃ m ∈ T.upd k f, m.num = x) ↔ ∃ m ∈ T, m.num = x := fun x => by
    have e := upd_nums (T := T) (k := k) hfn
    have : x ∈ (T.upd k f).map (·.num) ↔ x ∈ T.map (·.num) := by rw [e]
    simpa using this
  have hmem : ∀ m ∈ T.upd k f, ∃ n ∈ T, n.num = m.num ∧ n.dir = m.dir ∧ n.names = m.names ∧ ((n.num ≠ k ∧ m.links = n.links ∧ m.data = n.data) ∨ (n = n0 ∧ m.links = (f n0).links ∧ m.data = (f n0).data)) := by
    intro m hm
    obtain ⟨n, hn, rfl⟩ := mem_upd.1 hm
    refine ⟨n, hn, ?_⟩
    by_cases e : n.num = k
    · rw [if_pos (beq_iff_eq.2 e)]
      have e2 := num_inj h.sorted hn hkm (by omega)
      exact ⟨(hf n).1.symm, (hf n).2.1.symm, (hf n).2.2.symm, .inr ⟨e2, by rw [e2], by rw [e2]⟩⟩
    · rw [if_neg (by simpa using e)]
      exact ⟨rfl, rfl, rfl, .inl ⟨e, rfl, rfl⟩⟩
  have hcnt : ∀ x, cnt (T.upd k f) x = cnt T x := fun x => by
    have := cnt_upd (f := f) h.sorted hkm hkn x
    rw [(hf n0).2.2] at this; omega
  refine ⟨upd_sorted hfn h.sorted, ?_, ?_, by rw [upd_len]; exact h.many, ?_, ?_, ?_, ?_, ?_, ?_, h.droot, ?_, ?_⟩
  · intro m hm
    obtain ⟨n, hn, e, _⟩ := hmem m hm
    rw [← e]; exact h.nums n hn
  · obtain ⟨r, hr, h1, h2, h3⟩ := h.root
    obtain ⟨m, hm, e⟩ := (hex 1).2 ⟨r, hr, h1⟩
    obtain ⟨n, hn, e1, e2, e3, e4⟩ := hmem m hm
    have e6 := num_inj h.sorted hn hr (by omega)
    refine ⟨m, hm, e, by rw [← e2, e6]; exact h2, ?_⟩
    rcases e4 with ⟨_, e4, _⟩ | ⟨e5, e4, _⟩
    · rw [e4, e6]; exact h3
    · rw [e4, Hroot (by rw [← hkn, ← e5]; omega), ← e5, e6]; exact h3
  · intro m hm hmd
    obtain ⟨n, hn, e1, e2, e3, e4⟩ := hmem m hm
    rw [← e2] at hmd
    rw [← e3]
    have := h.file n hn hmd
    refine ⟨this.1, ?_⟩
    rcases e4 with ⟨_, _, e4⟩ | ⟨e5, _, e4⟩ <;> rw [e4]
    · exact this.2
    · exact Hfile (by rw [← e5]; exact hmd)
  · intro m hm hmd
    obtain ⟨n, hn, e1, e2, e3, e4⟩ := hmem m hm
    rw [← e2] at hmd
    rcases e4 with ⟨_, _, e4⟩ | ⟨e5, _, e4⟩ <;> rw [e4]
    · exact h.dirs n hn hmd
    · exact Hdir (by rw [← e5]; exact hmd)
  · intro m hm
    obtain ⟨n, hn, e1, e2, e3, e4⟩ := hmem m hm
    rw [← e3]; exact h.snames n hn
  · intro m hm
    obtain ⟨n, hn, e1, e2, e3, e4⟩ := hmem m hm
    rw [← e3]; exact h.names n hn
  · intro m hm p hp
    rw [hex]
    obtain ⟨n, hn, e1, e2, e3, e4⟩ := hmem m hm
    rw [← e3] at hp
    exact h.closed n hn p hp
  · intro m hm h1
    obtain ⟨n, hn, e1, e2, e3, e4⟩ := hmem m hm
    have h2 := h.count n hn (by rw [e1]; exact h1)
    rw [hcnt, ← e1, ← e2]
    rcases e4 with ⟨e5, e4, _⟩ | ⟨e5, e4, _⟩ <;> rw [e4]
    · rw [Ho n hn e5]; exact h2
    · have hnk : n.num = k := by rw [e5]; exact hkn
      have h3 := Hc (by rw [← hnk, e1]; exact h1)
      rw [e5] at h2 ⊢
      rw [hkn] at h2 ⊢
      refine ⟨?_, h3.2⟩
      omega
  · intro m hm hne
    obtain ⟨n, hn, e1, e2, e3, e4⟩ := hmem m hm
    rw [← e3] at hne; rw [← e1]; exact h.deep n hn hne
  · intro m hm p hp x hx hxp hxd
    obtain ⟨nx, hnx, f1, f2, _⟩ := hmem x hx
    obtain ⟨n, hn, e1, e2, e3, e4⟩ := hmem m hm
    rw [← e1]
    rw [← e3] at hp
    exact h.depth n hn p hp nx hnx (f1.trans hxp) (f2.trans hxd)
/-- a new node -/
theorem wf_add (h : WFo T d off) {n0 : Nd} (hn : ∀ m ∈ T, m.num ≠ n0.num) (h1 : 1 < n0.num) (h2 : n0.num ≤ 65535) (hl : n0.links = 1) (hnm : n0.names = []) (hdt : n0.data = []) (hT : T.length < 60) (v : Nat) :
    WFo (Tr.add n0 T) (fun x => if x = n0.num then v else d x) (fun x => if x = n0.num then 1 else off x) := by
  have hne : ∀ n ∈ T, ∀ p ∈ n.names, p.2 ≠ n0.num := fun n hnT p hp => names_fresh h hn hnT hp
  refine ⟨add_sorted h.sorted hn, ?_, ?_, by rw [add_len]; omega, ?_, ?_, ?_, ?_, ?_, ?_, ?_, ?_, ?_⟩
  · intro m hm
    rcases mem_add.1 hm with rfl | hm
    · exact ⟨by omega, h2⟩
    · exact h.nums m hm
  · obtain ⟨r, hr, h⟩ := h.root
    exact ⟨r, mem_add.2 (.inr hr), h⟩
  · intro m hm hmd
    rcases mem_add.1 hm with rfl | hm
    · exact ⟨hnm, by rw [hdt]; simp⟩
    · exact h.file m hm hmd
  · intro m hm hmd
    rcases mem_add.1 hm with rfl | hm
    · exact hdt
    · exact h.dirs m hm hmd
  · intro m hm
    rcases mem_add.1 hm with rfl | hm
    · rw [hnm]; exact List.Pairwise.nil
    · exact h.snames m hm
  · intro m hm
    rcases mem_add.1 hm with rfl | hm
    · rw [hnm]; simp
    · exact h.names m hm
  · intro m hm p hp
    rcases mem_add.1 hm with rfl | hm
    · rw [hnm] at hp; cases hp
    · obtain ⟨a, x, hx, e⟩ := h.closed m hm p hp
      exact ⟨a, x, mem_add.2 (.inr hx), e⟩
  · intro m hm hm1
    rw [cnt_add, hnm]
    rcases mem_add.1 hm with rfl | hm
    · rw [if_pos rfl, cnt_zero hne]
      exact ⟨by rw [hl]; rfl, by omega, fun _ => hl⟩
    · rw [if_neg (hn m hm)]
      have := h.count m hm hm1
      exact ⟨by simp only [cntN, List.countP_nil]; omega, this.2⟩
  · rw [if_neg (by omega)]; exact h.droot
  · intro m hm hmn
    rcases mem_add.1 hm with rfl | hm
    · exact absurd hnm hmn
    · rw [if_neg (hn m hm)]; exact h.deep m hm hmn
  · intro m hm p hp x hx hxp hxd
    rcases mem_add.1 hm with rfl | hm
    · rw [hnm] at hp; cases hp
    · have e := hne m hm p hp
      rw [if_neg e, if_neg (hn m hm)]
      rcases mem_add.1 hx with rfl | hx
      · exact absurd hxp.symm e
      · exact h.depth m hm p hp x hx hxp hxd
/-- a node is taken away that nothing names -/
theorem wf_drop (h : WFo T d off) {n0 : Nd} (hn : n0 ∈ T) (h1 : n0.num ≠ 1) (hc : cnt T n0.num = 0) (hnm : n0.names = []) : WFo (T.drop n0.num) d off := by
  have hne : ∀ n ∈ T, ∀ p ∈ n.names, p.2 ≠ n0.num := fun n hnT p hp e => by
    have := cnt_pos hnT hp e; omega
  refine ⟨drop_sorted h.sorted, fun m hm => h.nums m (mem_drop.1 hm).1, ?_, Nat.le_trans (List.length_filter_le _ _) h.many, fun m hm => h.file m (mem_drop.1 hm).1, fun m hm => h.dirs m (mem_drop.1 hm).1, fun m hm => h.snames m (mem_drop.1 hm).1, fun m hm => h.names m (mem_drop.1 hm).1, ?_, ?_, h.droot, fun m hm => h.deep m (mem_drop.1 hm).1, fun m hm p hp x hx => h.depth m (mem_drop.1 hm).1 p hp x (mem_drop.1 hx).1⟩
  · obtain ⟨r, hr, e, h2⟩ := h.root
    exact ⟨r, mem_drop.2 ⟨hr, by omega⟩, e, h2⟩
  · intro m hm p hp
    obtain ⟨a, x, hx, e⟩ := h.closed m (mem_drop.1 hm).1 p hp
    exact ⟨a, x, mem_drop.2 ⟨hx, by rw [e]; exact hne m (mem_drop.1 hm).1 p hp⟩, e⟩
  · intro m hm hm1
    have hcd := cnt_drop h.sorted hn m.num
    rw [hnm] at hcd
    have := h.count m (mem_drop.1 hm).1 hm1
    exact ⟨by simp only [cntN, List.countP_nil] at hcd; omega, this.2⟩
/-- depths are told anew -/
theorem wf_rank (h : WFo T d off) {d' : Int → Nat} (h0 : d' 1 = 0) (h1 : ∀ n ∈ T, n.names ≠ [] → d' n.num ≤ 7) (h2 : ∀ n ∈ T, ∀ p ∈ n.names, ∀ m ∈ T, m.num = p.2 → m.dir = true → d' p.2 = d' n.num + 1) : WFo T d' off :=
  { h with droot := h0, deep := h1, depth := h2 }
theorem wf_off (h : WFo T d off) {off' : Int → Int} (ho : ∀ n ∈ T, n.num ≠ 1 → off' n.num = off n.num) : WFo T d off' :=
  { h with count := fun n hn h1 => by rw [ho n hn h1]; exact h.count n hn h1 }
end
end
section
open Go.RowKit
section
variable {T : Tr} {d : Int → Nat} {off : Int → Int}
theorem get_named {k j : Int} {f : Nm → Nm} : (T.named k f).get j = if j = k then (T.get j).map (fun n => { n with names := f n.names }) else T.get j :=
  get_upd (f := fun n => { n with names := f n.names }) fun _ => rfl
theorem nil_or_snoc {α : Type} (l : List α) : l = [] ∨ ∃ p s, l = p ++ [s] := by
  rcases List.eq_nil_or_concat l with h | ⟨p, s, h⟩
  · exact .inl h
  · exact .inr ⟨p, s, by rw [h, List.concat_eq_append]⟩
theorem snoc_of {α : Type} (z : α) {l : List α} (h : l ≠ []) : l = l.dropLast ++ [l.getLastD z] := by
  rcases nil_or_snoc l with h1 | ⟨p, s, rfl⟩
  · exact absurd h1 h
  · simp
theorem path_names {s : List UInt8} {l : List (List UInt8)} (h : pathOf s = some l) : l.length ≤ 8 ∧ ∀ x ∈ l, nameOk x = true := by
  obtain ⟨r, _, ⟨_, rfl⟩ | ⟨_, _, h1, h2⟩⟩ := path_shape h
  · simp
  · exact ⟨h1, List.all_eq_true.1 h2⟩
theorem path_only {s : List UInt8} (h : pathOf s = some []) : s = [47] := by
  obtain ⟨r, rfl, ⟨rfl, _⟩ | ⟨_, h1, _⟩⟩ := path_shape h
  · rfl
  · exact absurd h1.symm (spl_ne 47 r)
theorem inter_append (l q : List (List UInt8)) (hl : l ≠ []) (hq : q ≠ []) : [(47 : UInt8)].intercalate (l ++ q) = [(47 : UInt8)].intercalate l ++ 47 :: [(47 : UInt8)].intercalate q := by
  induction l with
  | nil => exact absurd rfl hl
  | cons x l ih =>
    cases l with
    | nil =>
      cases q with
      | nil => exact absurd rfl hq
      | cons y q => simp [List.intercalate]
    | cons y l =>
      have e : ∀ m : List (List UInt8), [(47 : UInt8)].intercalate (x :: y :: m) = x ++ 47 :: [(47 : UInt8)].intercalate (y :: m) := fun m => by simp [List.intercalate]
      rw [List.cons_append, List.cons_append, e, e, ← List.cons_append, ih (by simp)]
      simp
theorem prefix_path {a b : List UInt8} {l q : List (List UInt8)} (ha : pathOf a = some l) (hb : pathOf b = some (l ++ q)) (hl : l ≠ []) (hq : q ≠ []) : Lib.hasPrefix b (a ++ [47]) = true := by
  obtain ⟨r, rfl, ⟨_, e⟩ | ⟨_, e1, _⟩⟩ := path_shape ha
  · exact absurd e hl
  · obtain ⟨r2, rfl, ⟨_, e⟩ | ⟨_, e2, _⟩⟩ := path_shape hb
    · simp at e; exact absurd e.1 hl
    · have j1 := spl_join 47 r
      have j2 := spl_join 47 r2
      rw [← e1] at j1
      rw [← e2, inter_append l q hl hq, j1] at j2
      unfold Lib.hasPrefix
      rw [List.isPrefixOf_iff_prefix]
      exact ⟨[(47 : UInt8)].intercalate q, by rw [← j2]; simp⟩
theorem prefix_names {a b : List UInt8} {l m : List (List UInt8)} (ha : pathOf a = some l) (hb : pathOf b = some m) (h : Lib.hasPrefix b (a ++ [47]) = true) (hl : l ≠ []) : ∃ q, q ≠ [] ∧ m = l ++ q := by
  unfold Lib.hasPrefix at h
  rw [List.isPrefixOf_iff_prefix] at h
  obtain ⟨t, ht⟩ := h
  obtain ⟨r, rfl, ⟨_, e⟩ | ⟨_, e1, _, hn1⟩⟩ := path_shape ha
  · exact absurd e hl
  · obtain ⟨r2, rfl, ⟨e, _⟩ | ⟨hr2, e2, _, hn2⟩⟩ := path_shape hb
    · subst e
      have := congrArg List.length ht
      simp at this
    · have e3 : r2 = r ++ 47 :: t := by simpa using ht.symm
      refine ⟨spl 47 t, spl_ne 47 t, ?_⟩
      rw [e2, e3]
      have j1 := spl_join 47 r
      rw [← e1] at j1
      have h1 : ∀ x ∈ l ++ spl 47 t, (47 : UInt8) ∉ x := by
        intro x hx
        rcases List.mem_append.1 hx with hx | hx
        · rw [e1] at hx; exact spl_no 47 r x hx
        · exact spl_no 47 t x hx
      have := spl_of_join 47 (l ++ spl 47 t) (by simp [hl]) h1
      rw [inter_append l _ hl (spl_ne 47 t), j1, spl_join] at this
      exact this
theorem at_ok (h : WFo T d off) {path : List UInt8} {k : Int} (ha : atT T path = .ok k) : ∃ l n, pathOf path = some l ∧ findT T 1 l = .ok k ∧ T.get k = some n := by
  unfold atT at ha
  cases hp : pathOf path with
  | none => rw [hp] at ha; cases ha
  | some l =>
    rw [hp] at ha
    obtain ⟨r, hr, h1, _⟩ := h.root
    obtain ⟨n, hn, hk⟩ := (find_ok h l 1 k ⟨r, hr, h1⟩ ha).1
    exact ⟨l, n, rfl, ha, (get_iff h.sorted).2 ⟨hn, hk⟩⟩
theorem room_ok (h : WFo T d off) {path s : List UInt8} {k : Int} (hr : roomT T path = .ok (k, s)) : ∃ p up, pathOf path = some (p ++ [s]) ∧ p.length ≤ 7 ∧ nameOk s = true ∧ findT T 1 p = .ok k ∧ T.get k = some up ∧ up.dir = true ∧ getN s up.names = none ∧ up.names.length < 60 ∧ d k = p.length := by
  unfold roomT at hr
  cases hp : pathOf path with
  | none => rw [hp] at hr; simp at hr
  | some l =>
    rw [hp] at hr
    simp only [Option.getD_some] at hr
    split at hr
    · cases hr
    · rename_i hl
      split at hr
      · cases hr
      · rename_i k' hf
        split at hr
        · cases hr
        · rename_i up hu
          split at hr
          · cases hr
          · rename_i hd
            split at hr
            · cases hr
            · rename_i hn
              split at hr
              · cases hr
              · rename_i h60
                simp only [Except.ok.injEq, Prod.mk.injEq] at hr
                obtain ⟨rfl, rfl⟩ := hr
                have hs := snoc_of [] hl
                obtain ⟨h8, hok⟩ := path_names hp
                have hlen := congrArg List.length hs
                simp only [List.length_append, List.length_cons, List.length_nil] at hlen
                obtain ⟨r, hr, h1, hrd, _⟩ := h.root
                have hdir : up.dir = true := by simpa using hd
                refine ⟨l.dropLast, up, by rw [← hs], by omega, hok _ (by rw [hs]; simp), hf, hu, hdir, by simpa using hn, by omega, ?_⟩
                have := (find_ok h _ 1 k' ⟨r, hr, h1⟩ hf).2 r ((get_iff h.sorted).2 ⟨hr, h1⟩) hrd up hu hdir
                rw [this, h.droot]; omega
/-! ### a free number -/
theorem fresh_ok {f : Nat} {k j : Int} (hj : k ≤ j) (hj2 : j < k + f) (hg : T.get j = none) : T.get (freshT T f k) = none ∧ k ≤ freshT T f k ∧ freshT T f k ≤ j := by
  induction f generalizing k with
  | zero => omega
  | succ f ih =>
    unfold freshT
    by_cases hk : (T.get k).isSome = true
    · rw [if_pos hk]
      have hne : j ≠ k := fun e => by rw [e] at hg; rw [hg] at hk; cases hk
      have := ih (k := k + 1) (by omega) (by omega)
      exact ⟨this.1, by omega, this.2.2⟩
    · rw [if_neg hk]
      exact ⟨by simpa using hk, Int.le_refl _, hj⟩
theorem count_step {k : Int} {n : Nd} (hn : n ∈ T) (hk : n.num = k) : T.countP (fun m => decide (k + 1 ≤ m.num)) + 1 ≤ T.countP (fun m => decide (k ≤ m.num)) := by
  induction T with
  | nil => cases hn
  | cons y r ih =>
    rw [List.countP_cons, List.countP_cons]
    rcases List.mem_cons.1 hn with rfl | hm
    · have : r.countP (fun m => decide (k + 1 ≤ m.num)) ≤ r.countP (fun m => decide (k ≤ m.num)) := List.countP_mono_left fun m _ h => by simp at h ⊢; omega
      rw [if_neg (by simp; omega), if_pos (by simp; omega)]; omega
    · have := ih hm
      by_cases h1 : k + 1 ≤ y.num
      · rw [if_pos (by simpa using h1), if_pos (by simp; omega)]; omega
      · rw [if_neg (by simpa using h1)]; split <;> omega
theorem count_many {f : Nat} {k : Int} (h : ∀ j, k ≤ j → j < k + f → ∃ n ∈ T, n.num = j) : f ≤ T.countP (fun m => decide (k ≤ m.num)) := by
  induction f generalizing k with
  | zero => omega
  | succ f ih =>
    obtain ⟨n, hn, hk⟩ := h k (by omega) (by omega)
    have h1 := count_step hn hk
    have h2 := ih (k := k + 1) fun j h1 h2 => h j (by omega) (by omega)
    omega
theorem WFo.fresh (h : WFo T d off) : T.get (freshT T T.length 2) = none ∧ 2 ≤ freshT T T.length 2 ∧ freshT T T.length 2 ≤ T.length + 1 := by
  have : ∃ j, 2 ≤ j ∧ j < 2 + (T.length : Int) ∧ T.get j = none := by
    apply Classical.byContradiction
    intro hc
    have h1 := count_many (T := T) (k := 2) (f := T.length) fun j h1 h2 => by
      cases hg : T.get j with
      | none => exact absurd ⟨j, h1, h2, hg⟩ hc
      | some n => exact ⟨n, (get_iff h.sorted).1 hg⟩
    obtain ⟨r, hr, hr1, _⟩ := h.root
    have h2 := count_step hr hr1
    have h3 := List.countP_le_length (p := fun m : Nd => decide (1 ≤ m.num)) (l := T)
    have h4 : T.countP (fun m => decide ((1 : Int) + 1 ≤ m.num)) = T.countP (fun m => decide (2 ≤ m.num)) := rfl
    omega
  obtain ⟨j, h1, h2, h3⟩ := this
  have := fresh_ok h1 h2 h3
  exact ⟨this.1, this.2.1, by omega⟩
/-! ### the commands -/
theorem wf_makes (h : WF T d) (c : Cmd) : ∃ d', WF (makesT T c).1 d' := by
  unfold makesT
  split
  · exact ⟨d, h⟩
  · rename_i k s hr
    obtain ⟨p, up, hp, hp7, hok, hf, hg, hd, hn, h60, hdk⟩ := room_ok h hr
    split
    · exact ⟨d, h⟩
    · rename_i hT
      obtain ⟨f1, f2, f3⟩ := WFo.fresh h
      generalize hnum : freshT T T.length 2 = num at *
      have hne := get_none.1 f1
      obtain ⟨hkm, hkn⟩ := (get_iff h.sorted).1 hg
      have hkne : k ≠ num := fun e => hne up hkm (by omega)
      let n0 : Nd := ⟨num, c.kind == 1, 1, [], []⟩
      have h1 := wf_add (n0 := n0) h hne (by show 1 < num; omega) (by show num ≤ 65535; have := h.many; omega) rfl rfl rfl (by omega) (d k + 1)
      have g1 : (Tr.add n0 T).get k = some up := by rw [get_add h.sorted hne, if_neg hkne]; exact hg
      have g2 : (Tr.add n0 T).get num = some n0 := by rw [get_add h.sorted hne]; exact if_pos rfl
      have h2 := wf_put (j := num) h1 g1 hd hn h60 hok (by omega) g2 (by show (if k = num then _ else d k) ≤ 7; rw [if_neg hkne]; omega) (fun _ => by show (if num = num then _ else _) = (if k = num then _ else _) + 1; rw [if_pos rfl, if_neg hkne])
      refine ⟨_, wf_off h2 fun n hn h1 => ?_⟩
      show (0 : Int) = (if n.num = num then 1 else 0) - if num = n.num then 1 else 0
      by_cases e : n.num = num
      · rw [if_pos e, if_pos e.symm]; omega
      · rw [if_neg e, if_neg (fun e2 => e e2.symm)]; omega
theorem cut_len {c : Cmd} {b : List UInt8} (h0 : 0 ≤ c.pos) (hb : b.length ≤ 16384) (hp : c.pos ≤ b.length) (h2 : c.kind = 2 → c.pos + c.data.length ≤ 16384) (h3 : c.kind ≠ 2 → c.data = []) : (cutW c b).length ≤ 16384 := by
  unfold cutW
  have h1 : (b.take c.pos.toNat ++ c.data).length ≤ 16384 := by
    rw [List.length_append, List.length_take]
    by_cases h : c.kind = 2
    · have := h2 h; omega
    · rw [h3 h]; simp; omega
  simp only
  split
  · rename_i h
    rw [List.length_append, List.length_drop]; omega
  · exact h1
theorem wf_writes (h : WF T d) (c : Cmd) (h0 : 0 ≤ c.pos) (h3 : c.kind ≠ 2 → c.data = []) : WF (writesT T c).1 d := by
  unfold writesT
  split
  · exact h
  · rename_i k ha
    split
    · exact h
    · rename_i n hg
      split
      · exact h
      · rename_i hd
        split
        · exact h
        · rename_i hb
          have hdf : n.dir = false := by simpa using hd
          obtain ⟨hm, hk⟩ := (get_iff h.sorted).1 hg
          refine wf_upd h hg (fun _ => ⟨rfl, rfl, rfl⟩) (fun _ => ?_) (fun e => absurd e hd) (fun _ => rfl) (fun h1 => ?_) (fun _ _ _ => rfl)
          · exact cut_len h0 (h.file n hm hdf).2 (by omega) (fun h2 => by
              apply Decidable.byContradiction; intro h4; exact hb (.inr ⟨h2, by omega⟩)) h3
          · have := h.count n hm (by omega)
            exact ⟨by show n.links = n.links + 0 - 0; omega, this.2⟩
theorem wf_links (h : WF T d) (c : Cmd) : WF (linksT T c).1 d := by
  unfold linksT
  split
  · exact h
  · rename_i j ha
    split
    · exact h
    · rename_i n hg
      split
      · exact h
      · rename_i hd
        split
        · exact h
        · rename_i k s hr
          obtain ⟨p, up, hp, hp7, hok, hf, hgk, hdk, hn, h60, hdd⟩ := room_ok h hr
          obtain ⟨hm, hj⟩ := (get_iff h.sorted).1 hg
          obtain ⟨r, hr1, hr2⟩ := WFo.get1 h
          have hj1 : j ≠ 1 := fun e => by rw [e, hr1] at hg; obtain rfl := Option.some.inj hg; exact hd hr2
          have hjk : j ≠ k := fun e => by rw [e, hgk] at hg; obtain rfl := Option.some.inj hg; exact hd hdk
          have h1 := wf_put (j := j) h hgk hdk hn h60 hok hj1 hg (by omega) (fun e => absurd e hd)
          have g1 : (T.named k (putN s j)).get j = some n := by rw [get_named, if_neg hjk]; exact hg
          have hc := h.count n hm (by omega)
          refine wf_upd h1 g1 (fun _ => ⟨rfl, rfl, rfl⟩) (fun _ => (h.file n hm (by simpa using hd)).2) (fun e => absurd e hd) (fun e => absurd e hj1) (fun _ => ?_) (fun m _ hmj => ?_)
          · refine ⟨by show n.links + 1 = n.links + 0 - (0 - if j = j then 1 else 0); rw [if_pos rfl]; omega, by show 1 ≤ n.links + 1; omega, fun e => absurd e hd⟩
          · show (0 : Int) = 0 - if j = m.num then 1 else 0
            rw [if_neg (fun e => hmj e.symm)]; omega
/-- where a path that is there has its last name -/
theorem last_ok (h : WFo T d off) {path : List UInt8} {j : Int} (ha : atT T path = .ok j) (hne : path ≠ [47]) : ∃ p s o up, pathOf path = some (p ++ [s]) ∧ findT T 1 (p ++ [s]) = .ok j ∧ findT T 1 p = .ok o ∧ T.get o = some up ∧ up.dir = true ∧ getN s up.names = some j := by
  obtain ⟨l, n, hp, hf, hg⟩ := at_ok h ha
  have hl : l ≠ [] := fun e => by rw [e] at hp; exact hne (path_only hp)
  have hs := snoc_of [] hl
  rw [hs] at hf hp
  obtain ⟨o, up, h1, h2, h3, h4⟩ := find_snoc.1 hf
  exact ⟨_, _, o, up, hp, hf, h1, h2, h3, h4⟩
theorem wf_removes (h : WF T d) (c : Cmd) : WF (removesT T c).1 d := by
  unfold removesT
  split
  · exact h
  · rename_i hne
    split
    · exact h
    · rename_i j ha
      split
      · exact h
      · rename_i n hg
        split
        · exact h
        · rename_i hnm
          have hnm : n.names = [] := by simpa using hnm
          obtain ⟨p, s, o, up, hp, hf, hfo, hgo, hdo, hs⟩ := last_ok h ha hne
          simp only [hp, Option.getD_some, List.dropLast_concat, List.getLastD_concat, hfo]
          obtain ⟨hm, hj⟩ := (get_iff h.sorted).1 hg
          obtain ⟨hom, hon⟩ := (get_iff h.sorted).1 hgo
          have hin := (getG_iff (h.snames up hom)).1 hs
          have hj1 := (h.closed up hom _ hin).1
          have hjo : j ≠ o := fun e => by
            rw [e, hgo] at hg
            obtain rfl := Option.some.inj hg
            rw [hnm] at hin; cases hin
          have h1 := wf_del h hgo hs
          have g1 : (T.named o (delN s)).get j = some n := by rw [get_named, if_neg hjo]; exact hg
          obtain ⟨hm1, _⟩ := (get_iff h1.sorted).1 g1
          have hc := h1.count n hm1 (by rw [hj]; exact hj1)
          split
          · rename_i hl1
            have h2 := wf_drop h1 hm1 (by rw [hj]; exact hj1) (by
              have := hc.1
              rw [if_pos hj.symm] at this; omega) hnm
            rw [hj] at h2
            refine wf_off h2 fun m hm2 _ => ?_
            show (0 : Int) = 0 + if j = m.num then 1 else 0
            rw [if_neg (fun e => (mem_drop.1 hm2).2 e.symm)]; omega
          · rename_i hl1
            have hd : ¬ n.dir = true := fun e => hl1 (hc.2.2 e)
            refine wf_upd h1 g1 (fun _ => ⟨rfl, rfl, rfl⟩) (fun _ => (h.file n hm (by simpa using hd)).2) (fun e => absurd e hd) (fun e => absurd e hj1) (fun _ => ?_) (fun m _ hmj => ?_)
            · refine ⟨by show n.links - 1 = n.links + 0 - (0 + if j = j then 1 else 0); rw [if_pos rfl]; omega, by show 1 ≤ n.links - 1; omega, fun e => absurd e hd⟩
            · show (0 : Int) = 0 + if j = m.num then 1 else 0
              rw [if_neg (fun e => hmj e.symm)]; omega
/-! ### renaming -/
theorem find_mono {T1 : Tr} (hm : ∀ k n1, T1.get k = some n1 → ∃ n, T.get k = some n ∧ (n1.dir = true → n.dir = true) ∧ ∀ s i, getN s n1.names = some i → getN s n.names = some i) : ∀ (p : List (List UInt8)) (j k : Int), findT T1 j p = .ok k → findT T j p = .ok k := by
  intro p
  induction p with
  | nil => intro j k h; exact h
  | cons s r ih =>
    intro j k h
    unfold findT at h ⊢
    cases hg : T1.get j with
    | none => rw [hg] at h; cases h
    | some n1 =>
      rw [hg] at h
      obtain ⟨n, hn, hd, hs⟩ := hm j n1 hg
      rw [hn]
      simp only at h ⊢
      split at h
      · rename_i h1
        rw [if_pos (hd h1)]
        cases hi : getN s n1.names with
        | none => rw [hi] at h; cases h
        | some i =>
          rw [hi] at h
          rw [hs s i hi]
          exact ih i k h
      · cases h
theorem one_parent (h : WFo T d off) {k : Int} (hc : cnt T k ≤ 1) {y y' : Nd} (hy : y ∈ T) (hy' : y' ∈ T) {p p' : List UInt8 × Int} (hp : p ∈ y.names) (hp' : p' ∈ y'.names) (e : p.2 = k) (e' : p'.2 = k) : y = y' ∧ p = p' := by
  have pos : ∀ {l : Nm} {q : List UInt8 × Int}, q ∈ l → q.2 = k → 1 ≤ cntN l k := fun {l q} hq eq => by
    unfold cntN; exact List.countP_pos_iff.2 ⟨q, hq, beq_iff_eq.2 eq⟩
  have hyy : y = y' := by
    apply Classical.byContradiction
    intro hne
    have h1 := cnt_drop h.sorted hy k
    have hm : y' ∈ T.drop y.num := mem_drop.2 ⟨hy', fun e => hne (num_inj h.sorted hy hy' e.symm)⟩
    have h2 := cnt_pos hm hp' e'
    have h3 := pos hp e
    omega
  subst hyy
  refine ⟨rfl, ?_⟩
  apply Classical.byContradiction
  intro hne
  have hs := h.snames y hy
  have h1 := cntN_del hs ((getG_iff hs).2 hp : getG p.1 y.names = some p.2) k
  rw [if_pos e] at h1
  have h2 : p' ∈ delG p.1 y.names := delG_mem.2 ⟨hp', fun e2 => hne (name_inj hs hp hp' e2.symm)⟩
  have h3 := pos h2 e'
  have h4 : cntN y.names k ≤ cnt T k := by have := cnt_drop h.sorted hy k; omega
  omega
theorem wf_cnt (h : WF T d) {k : Int} {n : Nd} (hg : T.get k = some n) (hd : n.dir = true) (h1 : k ≠ 1) : cnt T k ≤ 1 := by
  obtain ⟨hm, hk⟩ := (get_iff h.sorted).1 hg
  have := h.count n hm (by omega)
  rw [hk] at this
  have := this.2.2 hd
  omega
theorem dir_unique (h : WF T d) : ∀ (m : Nat) (p q : List (List UInt8)) (k : Int) (n : Nd), p.length = m → findT T 1 p = .ok k → findT T 1 q = .ok k → T.get k = some n → n.dir = true → p = q := by
  intro m
  induction m with
  | zero =>
    intro p q k n hm hp hq hg hd
    obtain rfl := List.length_eq_zero_iff.1 hm
    have e : 1 = k := by simpa [findT] using hp
    subst e
    rcases nil_or_snoc q with rfl | ⟨q', s, rfl⟩
    · rfl
    · obtain ⟨y, ny, _, hy, _, hs⟩ := find_snoc.1 hq
      obtain ⟨hym, _⟩ := (get_iff h.sorted).1 hy
      exact absurd rfl (h.closed ny hym _ ((getG_iff (h.snames ny hym)).1 hs)).1
  | succ m ih =>
    intro p q k n hm hp hq hg hd
    rcases nil_or_snoc p with rfl | ⟨p', s, rfl⟩
    · simp at hm
    · obtain ⟨y, ny, hpy, hy, hyd, hs⟩ := find_snoc.1 hp
      obtain ⟨hym, hyn⟩ := (get_iff h.sorted).1 hy
      have hin := (getG_iff (h.snames ny hym)).1 hs
      have hk1 := (h.closed ny hym _ hin).1
      rcases nil_or_snoc q with rfl | ⟨q', s', rfl⟩
      · have e : 1 = k := by simpa [findT] using hq
        exact absurd e.symm hk1
      · obtain ⟨z, nz, hpz, hz, hzd, hs'⟩ := find_snoc.1 hq
        obtain ⟨hzm, hzn⟩ := (get_iff h.sorted).1 hz
        have hin' := (getG_iff (h.snames nz hzm)).1 hs'
        obtain ⟨e1, e2⟩ := one_parent h (wf_cnt h hg hd hk1) hym hzm hin hin' rfl rfl
        subst e1
        have e3 : s = s' := congrArg Prod.fst e2
        have e4 : y = z := by omega
        subst e3 e4
        rw [ih p' q' y ny (by simpa using hm) hpy hpz hy hyd]
theorem fold_ge {α : Type} (g : α → Nat) : ∀ (l : List α) (m : Nat), m ≤ l.foldl (fun m p => max m (g p)) m ∧ ∀ p ∈ l, g p ≤ l.foldl (fun m p => max m (g p)) m := by
  intro l
  induction l with
  | nil => intro m; simp
  | cons x r ih =>
    intro m
    have h := ih (max m (g x))
    simp only [List.foldl_cons]
    refine ⟨by omega, fun p hp => ?_⟩
    rcases List.mem_cons.1 hp with rfl | hp
    · omega
    · exact h.2 p hp
theorem deep_ge (h : WFo T d off) : ∀ (p : List (List UInt8)) (f : Nat) (j y : Int), findT T j p = .ok y → p.length ≤ f → p.length ≤ deepT T f j := by
  intro p
  induction p with
  | nil => intro f j y _ _; simp
  | cons s r ih =>
    intro f j y hf hl
    cases f with
    | zero => simp at hl
    | succ f =>
      unfold findT at hf
      unfold deepT
      cases hg : T.get j with
      | none => rw [hg] at hf; cases hf
      | some n =>
        rw [hg] at hf
        simp only at hf ⊢
        split at hf
        · cases hi : getN s n.names with
          | none => rw [hi] at hf; cases hf
          | some i =>
            rw [hi] at hf
            obtain ⟨hm, _⟩ := (get_iff h.sorted).1 hg
            have hin := (getG_iff (h.snames n hm)).1 hi
            have h1 := (fold_ge (fun p : List UInt8 × Int => 1 + deepT T f p.2) n.names 0).2 _ hin
            have h2 := ih f i y hf (by simpa using hl)
            simp only [List.length_cons]
            simp only at h1
            omega
        · cases hf
end
end
section
open Go.RowKit
section
variable {T : Tr} {d : Int → Nat}
theorem named_mono {o : Int} {s : List UInt8} (h : WF T d) : ∀ k n1, (T.named o (delN s)).get k = some n1 → ∃ n, T.get k = some n ∧ (n1.dir = true → n.dir = true) ∧ ∀ x i, getN x n1.names = some i → getN x n.names = some i := by
  intro k n1 hg
  rw [get_named] at hg
  by_cases hk : k = o
  · rw [if_pos hk] at hg
    obtain ⟨n, hn, rfl⟩ := Option.map_eq_some_iff.1 hg
    obtain ⟨hm, _⟩ := (get_iff h.sorted).1 hn
    refine ⟨n, hn, id, fun x i hx => ?_⟩
    rw [getG_iff (delG_sorted (h.snames n hm))] at hx
    exact (getG_iff (h.snames n hm)).2 (delG_mem.1 hx).1
  · rw [if_neg hk] at hg
    exact ⟨n1, hg, id, fun _ _ h => h⟩
/-- renaming: what the parts are -/
structure Ren (T : Tr) (d : Int → Nat) (c : Cmd) (p1 : List (List UInt8)) (s1 : List UInt8) (o : Int) (p2 : List (List UInt8)) (s2 : List UInt8) (k j : Int) (upo upk nj : Nd) : Prop where
  path : pathOf c.path = some (p1 ++ [s1])
  dest : pathOf c.dest = some (p2 ++ [s2])
  fj : findT T 1 (p1 ++ [s1]) = .ok j
  fo : findT T 1 p1 = .ok o
  fk : findT T 1 p2 = .ok k
  go : T.get o = some upo
  gk : T.get k = some upk
  gj : T.get j = some nj
  dirO : upo.dir = true
  dirK : upk.dir = true
  was : getN s1 upo.names = some j
  new : getN s2 upk.names = none
  room : upk.names.length < 60
  ok : nameOk s2 = true
  apart : Lib.hasPrefix c.dest (c.path ++ [47]) = false
  dk : d k = p2.length
  long : p2.length + 1 + deepT T 9 j ≤ 8
  j1 : j ≠ 1
theorem find_err {T : Tr} : ∀ (l : List (List UInt8)) (k e : Int), findT T k l = .error e → e = 141 ∨ e = 143 := by
  intro l
  induction l with
  | nil => intro k e h; cases h
  | cons s r ih =>
    intro k e h
    rw [find_cons] at h
    split at h
    · cases h; exact .inl rfl
    · split at h
      · split at h
        · cases h; exact .inl rfl
        · exact ih _ _ h
      · cases h; exact .inr rfl
theorem at_err {T : Tr} {path : List UInt8} {e : Int} (h : atT T path = .error e) : 140 ≤ e := by
  unfold atT at h
  split at h
  · cases h; decide
  · rcases find_err _ _ _ h with rfl | rfl <;> decide
theorem room_err {T : Tr} {path : List UInt8} {e : Int} (h : roomT T path = .error e) : 140 ≤ e := by
  unfold roomT at h
  simp only at h
  split at h
  · cases h; decide
  · split at h
    · rename_i h1
      cases h
      rcases find_err _ _ _ h1 with rfl | rfl <;> decide
    · split at h
      · cases h; decide
      · split at h
        · cases h; decide
        · split at h
          · cases h; decide
          · split at h
            · cases h; decide
            · cases h
theorem ren_cases (h : WF T d) (c : Cmd) : (∃ e, renamesT T c = (T, e) ∧ 140 ≤ e) ∨ ∃ p1 s1 o p2 s2 k j upo upk nj, Ren T d c p1 s1 o p2 s2 k j upo upk nj ∧ renamesT T c = ((T.named o (delN s1)).named k (putN s2 j), 0) := by
  unfold renamesT
  by_cases hr : c.path = [47]
  · rw [if_pos hr]; exact .inl ⟨_, rfl, by decide⟩
  · rw [if_neg hr]
    cases ha : atT T c.path with
    | error e => exact .inl ⟨e, rfl, at_err ha⟩
    | ok j =>
      by_cases hp : Lib.hasPrefix c.dest (c.path ++ [47]) = true
      · simp only [hp, if_true]; exact .inl ⟨_, rfl, by decide⟩
      · simp only [hp, if_false]
        cases hro : roomT T c.dest with
        | error e => exact .inl ⟨e, rfl, room_err hro⟩
        | ok x =>
          obtain ⟨k, s2⟩ := x
          obtain ⟨p2, upk, hd, hp7, hok, hfk, hgk, hdk, hn, h60, hdd⟩ := room_ok h hro
          obtain ⟨p1, s1, o, upo, hpath, hfj, hfo, hgo, hdo, hs⟩ := last_ok h ha hr
          obtain ⟨l, nj, hl, hfl, hgj⟩ := at_ok h ha
          simp only [hd, Option.getD_some, hpath, List.dropLast_concat, List.getLastD_concat, hfo]
          by_cases h8 : 8 < (p2 ++ [s2]).length + deepT T 9 j
          · rw [if_pos h8]; exact .inl ⟨_, rfl, by decide⟩
          · rw [if_neg h8]
            obtain ⟨hom, _⟩ := (get_iff h.sorted).1 hgo
            refine .inr ⟨p1, s1, o, p2, s2, k, j, upo, upk, nj, ⟨hpath, hd, hfj, hfo, hfk, hgo, hgk, hgj, hdo, hdk, hs, hn, h60, hok, by simpa using hp, hdd, ?_, (h.closed upo hom _ ((getG_iff (h.snames upo hom)).1 hs)).1⟩, rfl⟩
            simp only [List.length_append, List.length_cons, List.length_nil] at h8
            omega
theorem ren_sub {c : Cmd} {p1 p2 : List (List UInt8)} {s1 s2 : List UInt8} {o k j : Int} {upo upk nj : Nd} (h : WF T d) (r : Ren T d c p1 s1 o p2 s2 k j upo upk nj) (hd : nj.dir = true) : ∀ p, findT T j p ≠ .ok k := by
  intro p hp
  have h1 : findT T 1 (p1 ++ [s1] ++ p) = .ok k := by rw [find_append, r.fj]; exact hp
  have h2 := dir_unique h _ _ _ _ _ rfl h1 r.fk r.gk r.dirK
  have h3 := prefix_path r.path (q := p ++ [s2]) (by rw [r.dest, ← h2]; simp) (by simp) (by simp)
  rw [r.apart] at h3; cases h3
theorem wf_ren {c : Cmd} {p1 p2 : List (List UInt8)} {s1 s2 : List UInt8} {o k j : Int} {upo upk nj : Nd} (h : WF T d) (r : Ren T d c p1 s1 o p2 s2 k j upo upk nj) : ∃ d', WF ((T.named o (delN s1)).named k (putN s2 j)) d' := by
  have h1 := wf_del h r.go r.was
  have hmono := named_mono (o := o) (s := s1) h
  -- the directory that gets the name, behind the strike
  obtain ⟨upk', gk', dk', nk', lk'⟩ : ∃ up', (T.named o (delN s1)).get k = some up' ∧ up'.dir = true ∧ getN s2 up'.names = none ∧ up'.names.length < 60 := by
    rw [get_named]
    by_cases e : k = o
    · rw [if_pos e, r.gk]
      refine ⟨_, rfl, r.dirK, ?_, Nat.lt_of_le_of_lt (delG_len _ _) r.room⟩
      rw [getG_none]
      intro p hp
      exact getG_none.1 r.new p (delG_mem.1 hp).1
    · rw [if_neg e]; exact ⟨upk, r.gk, r.dirK, r.new, r.room⟩
  obtain ⟨nj', gj', dj'⟩ : ∃ n', (T.named o (delN s1)).get j = some n' ∧ n'.dir = nj.dir := by
    rw [get_named]
    by_cases e : j = o
    · rw [if_pos e, r.gj]; exact ⟨_, rfl, rfl⟩
    · rw [if_neg e]; exact ⟨nj, r.gj, rfl⟩
  have hp7 : p2.length ≤ 7 := by have := r.long; omega
  have fin : ∀ d' : Int → Nat, WFo (T.named o (delN s1)) d' (fun x => 0 + if j = x then 1 else 0) → d' k ≤ 7 → (nj'.dir = true → d' j = d' k + 1) → WF ((T.named o (delN s1)).named k (putN s2 j)) d' := by
    intro d' hw h7 hj
    refine wf_off (wf_put hw gk' dk' nk' lk' r.ok r.j1 gj' h7 hj) fun n _ _ => ?_
    show (0 : Int) = 0 + (if j = n.num then 1 else 0) - if j = n.num then 1 else 0
    omega
  by_cases hd : nj.dir = true
  · -- a directory goes with all that is below it
    have hjd' : nj'.dir = true := dj'.trans hd
    obtain ⟨hjm', hjn'⟩ := (get_iff h1.sorted).1 gj'
    have hcj : cnt (T.named o (delN s1)) j = 0 := by
      have hc := h1.count nj' hjm' (by rw [hjn']; exact r.j1)
      have := hc.2.2 hjd'
      have := hc.1
      rw [hjn', if_pos rfl] at this
      omega
    have hnoj : ∀ n ∈ T.named o (delN s1), ∀ p ∈ n.names, p.2 ≠ j := fun n hn p hp e => by
      have := cnt_pos hn hp e; omega
    let Sub : Int → Prop := fun x => ∃ p, findT (T.named o (delN s1)) j p = .ok x
    have hdep : ∀ p x m, findT (T.named o (delN s1)) j p = .ok x → (T.named o (delN s1)).get x = some m → m.dir = true → d x = d j + p.length := fun p x m hf hg hm =>
      (find_ok h1 p j x ⟨nj', hjm', hjn'⟩ hf).2 nj' gj' hjd' m hg hm
    classical
    let d' : Int → Nat := fun x => if Sub x then d x - d j + (p2.length + 1) else d x
    have hk : ¬ Sub k := fun ⟨p, hp⟩ => ren_sub h r hd p (find_mono hmono p j k hp)
    have hj : Sub j := ⟨[], rfl⟩
    have h1s : ¬ Sub 1 := by
      rintro ⟨p, hp⟩
      rcases nil_or_snoc p with rfl | ⟨q, s, rfl⟩
      · have e : j = 1 := by simpa [findT] using hp
        exact r.j1 e
      · obtain ⟨y, ny, _, hy, _, hs⟩ := find_snoc.1 hp
        obtain ⟨hym, _⟩ := (get_iff h1.sorted).1 hy
        exact absurd rfl (h1.closed ny hym _ ((getG_iff (h1.snames ny hym)).1 hs)).1
    have hw : WFo (T.named o (delN s1)) d' (fun x => 0 + if j = x then 1 else 0) := by
      refine wf_rank h1 ?_ (fun n hn hne => ?_) (fun n hn p hp m hm hmp hmd => ?_)
      · show (if Sub 1 then _ else d 1) = 0
        rw [if_neg h1s]; exact h1.droot
      · show (if Sub n.num then _ else d n.num) ≤ 7
        have hg := (get_iff h1.sorted).2 ⟨hn, rfl⟩
        have hnd : n.dir = true := by
          cases hnd : n.dir with
          | true => rfl
          | false => exact absurd (h1.file n hn hnd).1 hne
        by_cases hs : Sub n.num
        · rw [if_pos hs]
          obtain ⟨q, hq⟩ := hs
          have e := hdep q n.num n hq hg hnd
          have h7 := h1.deep n hn hne
          obtain ⟨pe, hpe⟩ := List.exists_mem_of_ne_nil _ hne
          have hq2 : findT (T.named o (delN s1)) j (q ++ [pe.1]) = .ok pe.2 := find_snoc.2 ⟨_, n, hq, hg, hnd, (getG_iff (h1.snames n hn)).2 hpe⟩
          have h9 := deep_ge h _ 9 j _ (find_mono hmono _ j _ hq2) (by simp; omega)
          simp only [List.length_append, List.length_cons, List.length_nil] at h9
          have := r.long
          omega
        · rw [if_neg hs]; exact h1.deep n hn hne
      · have hne : n.names ≠ [] := List.ne_nil_of_mem hp
        have hg := (get_iff h1.sorted).2 ⟨hn, rfl⟩
        have hgm := (get_iff h1.sorted).2 ⟨hm, hmp⟩
        have hnd : n.dir = true := by
          cases hnd : n.dir with
          | true => rfl
          | false => exact absurd (h1.file n hn hnd).1 hne
        have hde := h1.depth n hn p hp m hm hmp hmd
        show (if Sub p.2 then _ else d p.2) = (if Sub n.num then _ else d n.num) + 1
        by_cases hs : Sub n.num
        · have hs2 : Sub p.2 := by
            obtain ⟨q, hq⟩ := hs
            exact ⟨q ++ [p.1], find_snoc.2 ⟨_, n, hq, hg, hnd, (getG_iff (h1.snames n hn)).2 hp⟩⟩
          rw [if_pos hs, if_pos hs2]
          obtain ⟨q, hq⟩ := hs
          have e := hdep q n.num n hq hg hnd
          omega
        · have hs2 : ¬ Sub p.2 := by
            rintro ⟨q, hq⟩
            rcases nil_or_snoc q with rfl | ⟨q', s, rfl⟩
            · have e : j = p.2 := by simpa [findT] using hq
              exact hnoj n hn p hp e.symm
            · obtain ⟨y, ny, hqy, hy, _, hys⟩ := find_snoc.1 hq
              obtain ⟨hym, hyn⟩ := (get_iff h1.sorted).1 hy
              have hin := (getG_iff (h1.snames ny hym)).1 hys
              have hc : cnt (T.named o (delN s1)) p.2 ≤ 1 := by
                have hm1 : m.num ≠ 1 := by rw [hmp]; exact (h1.closed n hn p hp).1
                have hc := h1.count m hm hm1
                have := hc.2.2 hmd
                have := hc.1
                rw [hmp, if_neg (fun e => hnoj n hn p hp e.symm)] at this
                omega
              obtain ⟨e1, _⟩ := one_parent h1 hc hym hn hin hp rfl rfl
              exact hs ⟨q', by rw [hqy, ← hyn, e1]⟩
          rw [if_neg hs, if_neg hs2]; exact hde
    refine ⟨d', fin d' hw ?_ fun _ => ?_⟩
    · show (if Sub k then _ else d k) ≤ 7
      rw [if_neg hk, r.dk]; exact hp7
    · show (if Sub j then _ else d j) = (if Sub k then _ else d k) + 1
      rw [if_pos hj, if_neg hk, r.dk]; omega
  · exact ⟨d, fin d h1 (by rw [r.dk]; exact hp7) (fun e => absurd (dj' ▸ e) hd)⟩
theorem wf_renames (h : WF T d) (c : Cmd) : ∃ d', WF (renamesT T c).1 d' := by
  rcases ren_cases h c with ⟨e, he, _⟩ | ⟨p1, s1, o, p2, s2, k, j, upo, upk, nj, r, he⟩
  · rw [he]; exact ⟨d, h⟩
  · rw [he]; exact wf_ren h r
/-! ### a command's fields -/
theorem kind_k {c : Cmd} {k : Nat} (h : c.kind = (k : Int)) (hk : k < 9) : c.k = k := k_of k hk c h
theorem ok_pos {c : Cmd} (h : c.ok = true) : 0 ≤ c.pos ∧ c.pos ≤ 16384 := by
  obtain ⟨h9, hf, hb⟩ := ok_parts h
  have hk := k_lt h9
  by_cases h23 : c.k = 2 ∨ c.k = 3
  · have := hf 3 (by rcases h23 with e | e <;> rw [e] <;> simp [fieldsOf])
    simpa [Cmd.fieldOk] using this
  · have : c.pos = 0 := by
      rw [← hb]
      rcases (by omega : c.k = 0 ∨ c.k = 1 ∨ c.k = 4 ∨ c.k = 5 ∨ c.k = 6 ∨ c.k = 7 ∨ c.k = 8) with e | e | e | e | e | e | e <;> rw [e] <;> rfl
    omega
theorem ok_data {c : Cmd} (h : c.ok = true) : c.data.length ≤ 512 ∧ (c.kind ≠ 2 → c.data = []) := by
  obtain ⟨h9, hf, hb⟩ := ok_parts h
  have hk := k_lt h9
  by_cases h2 : c.k = 2
  · have := hf 4 (by rw [h2]; simp [fieldsOf])
    refine ⟨by simpa [Cmd.fieldOk] using this, fun h => ?_⟩
    rw [hk, h2] at h; exact absurd rfl h
  · have : c.data = [] := by
      rw [← hb]
      rcases (by omega : c.k = 0 ∨ c.k = 1 ∨ c.k = 3 ∨ c.k = 4 ∨ c.k = 5 ∨ c.k = 6 ∨ c.k = 7 ∨ c.k = 8) with e | e | e | e | e | e | e | e <;> rw [e] <;> rfl
    exact ⟨by rw [this]; simp, fun _ => this⟩
theorem wf_do (h : WF T d) (c : Cmd) : ∃ d', WF (doT T c).1 d' := by
  unfold doT
  by_cases hok : c.ok = false
  · rw [if_pos hok]; exact ⟨d, h⟩
  · rw [if_neg hok]
    have hok : c.ok = true := by simpa using hok
    split
    · exact wf_makes h c
    · split
      · exact ⟨d, wf_writes h c (ok_pos hok).1 (ok_data hok).2⟩
      · split
        · exact ⟨d, wf_links h c⟩
        · split
          · exact wf_renames h c
          · split
            · exact ⟨d, wf_removes h c⟩
            · exact ⟨d, h⟩
end
end
end Go.Proofs.YthmpblccplphfaaGreatDoor
