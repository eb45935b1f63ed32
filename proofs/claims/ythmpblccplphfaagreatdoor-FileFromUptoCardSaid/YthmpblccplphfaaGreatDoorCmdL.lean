/-
  Paths, commands and their lines: what the document says, in plain Lean. No program here.
-/
import Derived.Test.YthmpblccplphfaaGreatDoorDec
namespace Go.Proofs.YthmpblccplphfaaGreatDoor
open Go.RowKit
/-- may a byte stand in a name? -/
def nameByte (c : UInt8) : Bool := (97 ≤ c && c ≤ 122) || (48 ≤ c && c ≤ 57) || c == 46 || c == 45 || c == 95
def nameOk (s : List UInt8) : Bool := s.all nameByte && decide (1 ≤ s.length) && decide (s.length ≤ 16) && !(s == [46]) && !(s == [46, 46])
/-- a path's names -/
def pathOf : List UInt8 → Option (List (List UInt8))
  | 47 :: r => if r = [] then some [] else if (spl 47 r).length ≤ 8 ∧ (spl 47 r).all nameOk = true then some (spl 47 r) else none
  | _ => none
structure Cmd where
  kind : Int
  path : List UInt8
  dest : List UInt8
  pos : Int
  data : List UInt8
theorem Cmd.ext' {a b : Cmd} (h1 : a.kind = b.kind) (h2 : a.path = b.path) (h3 : a.dest = b.dest) (h4 : a.pos = b.pos) (h5 : a.data = b.data) : a = b := by
  cases a; cases b; simp_all
def Cmd.zero : Cmd := ⟨0, [], [], 0, []⟩
/-- two commands, field by field -/
def Cmd.eqB (a b : Cmd) : Bool := a.kind == b.kind && (a.path == b.path && (a.dest == b.dest && (a.pos == b.pos && a.data == b.data)))
theorem Cmd.eqB_iff {a b : Cmd} : a.eqB b = true ↔ a = b := by
  constructor
  · intro h
    simp only [Cmd.eqB, Bool.and_eq_true, beq_iff_eq] at h
    exact Cmd.ext' h.1 h.2.1 h.2.2.1 h.2.2.2.1 h.2.2.2.2
  · rintro rfl
    simp [Cmd.eqB]
def wordOf : Nat → List UInt8
  | 0 => [109, 97, 107, 101]
  | 1 => [100, 105, 114]
  | 2 => [119, 114, 105, 116, 101]
  | 3 => [99, 117, 116]
  | 4 => [108, 105, 110, 107]
  | 5 => [114, 101, 110, 97, 109, 101]
  | 6 => [114, 101, 109, 111, 118, 101]
  | 7 => [115, 110, 97, 112]
  | 8 => [117, 110, 115, 110, 97, 112]
  | _ => []
/-- path 1, to 2, at 3, data 4, name 5 -/
def fieldsOf : Nat → List Nat
  | 0 => [1]
  | 1 => [1]
  | 2 => [1, 3, 4]
  | 3 => [1, 3]
  | 4 => [1, 2]
  | 5 => [1, 2]
  | 6 => [1]
  | 7 => [5]
  | 8 => [5]
  | _ => []
def hexd (n : Nat) : UInt8 := if n < 10 then UInt8.ofNat (48 + n) else UInt8.ofNat (87 + n)
def hexes (d : List UInt8) : List UInt8 := d.flatMap fun b => [hexd (b.toNat / 16), hexd (b.toNat % 16)]
def hexed (d : List UInt8) : List UInt8 := if d = [] then [45] else hexes d
/-- the value of a digit; -1 of none -/
def hexv (c : UInt8) : Int := if 48 ≤ c.toNat ∧ c.toNat ≤ 57 then (c.toNat : Int) - 48 else if 97 ≤ c.toNat ∧ c.toNat ≤ 102 then (c.toNat : Int) - 87 else -1
def byteOf (x : Int) : UInt8 := UInt8.ofNat (x % 256).toNat
def unhexes (v : UInt8 → Int) : List UInt8 → List UInt8
  | a :: b :: r => byteOf (16 * v a + v b) :: unhexes v r
  | _ => []
def unhexed (s : List UInt8) : List UInt8 := if s = [45] then [] else unhexes hexv s
def Cmd.fieldText (c : Cmd) : Nat → List UInt8
  | 2 => c.dest
  | 3 => Lib.itoa c.pos
  | 4 => hexed c.data
  | _ => c.path
def Cmd.fieldOk (c : Cmd) : Nat → Bool
  | 1 => (pathOf c.path).isSome
  | 2 => (pathOf c.dest).isSome
  | 3 => decide (0 ≤ c.pos) && decide (c.pos ≤ 16384)
  | 4 => decide (c.data.length ≤ 512)
  | _ => nameOk c.path
def Cmd.take (c : Cmd) : Nat → List UInt8 → Cmd
  | 2, s => { c with dest := s }
  | 3, s => { c with pos := atoiV s }
  | 4, s => { c with data := unhexed s }
  | _, s => { c with path := s }
def Cmd.bare (c : Cmd) (fs : List Nat) : Cmd := fs.foldl (fun b f => b.take f (c.fieldText f)) ⟨c.kind, [], [], 0, []⟩
/-- a kind's number -/
def Cmd.k (c : Cmd) : Nat := if 0 ≤ c.kind ∧ c.kind < 9 then c.kind.toNat else 9
def Cmd.ok (c : Cmd) : Bool := decide (c.k < 9) && ((fieldsOf c.k).all c.fieldOk && (c.bare (fieldsOf c.k)).eqB c)
def lineOf (w : List UInt8) (l : List (List UInt8)) : List UInt8 := Lib.join (w :: l) [32]
def Cmd.line (c : Cmd) : List UInt8 := lineOf (wordOf c.k) ((fieldsOf c.k).map c.fieldText)
/-- the command that a line's words tell, as one of kind k -/
def takes (c : Cmd) : List Nat → List (List UInt8) → Cmd
  | f :: fs, s :: l => takes (c.take f s) fs l
  | _, _ => c
def kindHit (l : List (List UInt8)) (k : Nat) : Bool := wordOf k == l.headD [] && decide ((fieldsOf k).length + 1 = l.length)
def tryKind (s : List UInt8) (k : Nat) : Option Cmd :=
  let l := spl 32 s
  if kindHit l k then (let c := takes ⟨k, [], [], 0, []⟩ (fieldsOf k) l.tail; if c.ok && c.line == s then some c else none) else none
/-- the first kind that will do -/
def firstKind (f : Nat → Option Cmd) : Nat → Nat → Option Cmd
  | 0, _ => none
  | n + 1, k => match f k with | some c => some c | none => firstKind f n (k + 1)
def parseC (s : List UInt8) : Option Cmd := firstKind (tryKind s) 9 0

/-! ### digits -/
theorem hexd_v (n : Nat) (h : n < 16) : hexv (hexd n) = n := by
  rcases (by omega : n = 0 ∨ n = 1 ∨ n = 2 ∨ n = 3 ∨ n = 4 ∨ n = 5 ∨ n = 6 ∨ n = 7 ∨ n = 8 ∨ n = 9 ∨ n = 10 ∨ n = 11 ∨ n = 12 ∨ n = 13 ∨ n = 14 ∨ n = 15) with h | h | h | h | h | h | h | h | h | h | h | h | h | h | h | h <;> subst h <;> decide
theorem byte_back (b : UInt8) : byteOf (16 * ((b.toNat / 16 : Nat) : Int) + ((b.toNat % 16 : Nat) : Int)) = b := by
  have hb := b.toNat_lt
  have e : (16 * ((b.toNat / 16 : Nat) : Int) + ((b.toNat % 16 : Nat) : Int)) = (b.toNat : Int) := by omega
  rw [e, byteOf]
  rw [show ((b.toNat : Int) % 256).toNat = b.toNat by omega]
  simp
theorem unhexes_hexes (d : List UInt8) : unhexes hexv (hexes d) = d := by
  induction d with
  | nil => rfl
  | cons b d ih =>
    show unhexes hexv (hexd (b.toNat / 16) :: hexd (b.toNat % 16) :: hexes d) = _
    have hb := b.toNat_lt
    rw [unhexes, hexd_v _ (by omega), hexd_v _ (by omega), byte_back, ih]
theorem hexes_len (d : List UInt8) : (hexes d).length = 2 * d.length := by
  induction d with
  | nil => rfl
  | cons b d ih =>
    show (hexd (b.toNat / 16) :: hexd (b.toNat % 16) :: hexes d).length = _
    simp [ih]; omega
theorem unhexed_hexed (d : List UInt8) : unhexed (hexed d) = d := by
  unfold hexed
  split
  · rename_i h; subst h; rfl
  · rename_i h
    rw [unhexed, if_neg (fun e => ?_), unhexes_hexes]
    have := hexes_len d
    rw [e] at this
    simp at this
    omega
theorem hexd_byte (n : Nat) (h : n < 16) : (hexd n) ≠ 32 := by
  rcases (by omega : n = 0 ∨ n = 1 ∨ n = 2 ∨ n = 3 ∨ n = 4 ∨ n = 5 ∨ n = 6 ∨ n = 7 ∨ n = 8 ∨ n = 9 ∨ n = 10 ∨ n = 11 ∨ n = 12 ∨ n = 13 ∨ n = 14 ∨ n = 15) with h | h | h | h | h | h | h | h | h | h | h | h | h | h | h | h <;> subst h <;> decide
theorem hexes_no (d : List UInt8) : (32 : UInt8) ∉ hexes d := by
  induction d with
  | nil => simp [hexes]
  | cons b d ih =>
    have hb := b.toNat_lt
    show (32 : UInt8) ∉ hexd (b.toNat / 16) :: hexd (b.toNat % 16) :: hexes d
    have h1 := hexd_byte (b.toNat / 16) (by omega)
    have h2 := hexd_byte (b.toNat % 16) (by omega)
    simp only [List.mem_cons, not_or]
    exact ⟨fun e => h1 e.symm, fun e => h2 e.symm, ih⟩
theorem hexed_no (d : List UInt8) : (32 : UInt8) ∉ hexed d := by
  unfold hexed; split
  · decide
  · exact hexes_no d

/-! ### names, paths -/
theorem nameByte_no {c : UInt8} (h : nameByte c = true) : c ≠ 32 ∧ c ≠ 47 := by
  constructor <;> (rintro rfl; revert h; decide)
theorem name_no {s : List UInt8} (h : nameOk s = true) : (32 : UInt8) ∉ s ∧ (47 : UInt8) ∉ s := by
  simp only [nameOk, Bool.and_eq_true, List.all_eq_true] at h
  exact ⟨fun hc => (nameByte_no (h.1.1.1.1 _ hc)).1 rfl, fun hc => (nameByte_no (h.1.1.1.1 _ hc)).2 rfl⟩
theorem name_ne {s : List UInt8} (h : nameOk s = true) : s ≠ [] := by
  rintro rfl; revert h; decide
theorem path_shape {s : List UInt8} {l : List (List UInt8)} (h : pathOf s = some l) : ∃ r, s = 47 :: r ∧ ((r = [] ∧ l = []) ∨ (r ≠ [] ∧ l = spl 47 r ∧ l.length ≤ 8 ∧ l.all nameOk = true)) := by
  unfold pathOf at h
  split at h
  · rename_i r
    refine ⟨r, rfl, ?_⟩
    split at h
    · rename_i hr
      exact .inl ⟨hr, (Option.some.inj h).symm⟩
    · rename_i hr
      split at h
      · rename_i hp
        obtain rfl := Option.some.inj h
        exact .inr ⟨hr, rfl, hp⟩
      · cases h
  · cases h
theorem path_no {s : List UInt8} (h : (pathOf s).isSome = true) : (32 : UInt8) ∉ s := by
  obtain ⟨l, hl⟩ := Option.isSome_iff_exists.1 h
  obtain ⟨r, rfl, h1 | ⟨_, rfl, _, h2⟩⟩ := path_shape hl
  · obtain ⟨rfl, _⟩ := h1; decide
  · have e := spl_join 47 r
    intro hc
    have hr : (32 : UInt8) ∈ r := by
      rcases List.mem_cons.1 hc with h | h
      · exact absurd h (by decide)
      · exact h
    rw [← e] at hr
    have key : ∀ (xs : List (List UInt8)), (∀ x ∈ xs, (32 : UInt8) ∉ x) → (32 : UInt8) ∉ [(47 : UInt8)].intercalate xs := by
      intro xs
      induction xs with
      | nil => intro _ hm; simp [List.intercalate] at hm
      | cons x xs ih =>
        intro hx hm
        cases xs with
        | nil => simp [List.intercalate] at hm; exact hx x (by simp) hm
        | cons y ys =>
          rw [show [(47 : UInt8)].intercalate (x :: y :: ys) = x ++ 47 :: [(47 : UInt8)].intercalate (y :: ys) by simp [List.intercalate]] at hm
          rcases List.mem_append.1 hm with hm | hm
          · exact hx x (by simp) hm
          · rcases List.mem_cons.1 hm with hm | hm
            · exact absurd hm (by decide)
            · exact ih (fun z hz => hx z (by simp [hz])) hm
    refine key _ (fun x hx => ?_) hr
    exact (name_no (List.all_eq_true.1 h2 x hx)).1

/-! ### a command's line, read back -/
theorem k_lt {c : Cmd} (h : c.k < 9) : c.kind = (c.k : Int) := by
  unfold Cmd.k at *
  split at h
  · rename_i hk; rw [if_pos hk]; omega
  · omega
theorem k_of (k : Nat) (h : k < 9) (c : Cmd) (hc : c.kind = k) : c.k = k := by
  unfold Cmd.k; rw [if_pos (by omega)]; omega
theorem ok_parts {c : Cmd} (h : c.ok = true) : c.k < 9 ∧ (∀ f ∈ fieldsOf c.k, c.fieldOk f = true) ∧ c.bare (fieldsOf c.k) = c := by
  simp only [Cmd.ok, Bool.and_eq_true, decide_eq_true_eq, List.all_eq_true] at h
  exact ⟨h.1, h.2.1, Cmd.eqB_iff.1 h.2.2⟩
theorem word_no (k : Nat) : (32 : UInt8) ∉ wordOf k := by
  rcases (by omega : k = 0 ∨ k = 1 ∨ k = 2 ∨ k = 3 ∨ k = 4 ∨ k = 5 ∨ k = 6 ∨ k = 7 ∨ k = 8 ∨ 9 ≤ k) with h | h | h | h | h | h | h | h | h | h
  all_goals first | (subst h; decide) | skip
  rw [show wordOf k = [] from by unfold wordOf; split <;> first | omega | rfl]
  simp
theorem field_no {c : Cmd} {f : Nat} (h : c.fieldOk f = true) : (32 : UInt8) ∉ c.fieldText f := by
  unfold Cmd.fieldOk at h
  split at h
  · exact path_no h
  · exact path_no h
  · simp only [Bool.and_eq_true, decide_eq_true_eq] at h
    exact fun hc => by have := itoa_bytes c.pos h.1 32 hc; simp at this
  · exact hexed_no _
  · rename_i h1 h2 h3 h4
    rw [show c.fieldText f = c.path from by unfold Cmd.fieldText; split <;> first | rfl | (exfalso; first | exact h2 rfl | exact h3 rfl | exact h4 rfl)]
    exact (name_no h).1
theorem join_inter (xs : List (List UInt8)) (c : UInt8) : Lib.join xs [c] = [c].intercalate xs := by
  simp [Lib.join]
theorem words_line {c : Cmd} (h : c.ok = true) : spl 32 c.line = wordOf c.k :: (fieldsOf c.k).map c.fieldText := by
  obtain ⟨_, h2, _⟩ := ok_parts h
  rw [Cmd.line, lineOf, join_inter]
  refine spl_of_join 32 _ (by simp) (fun x hx => ?_)
  rcases List.mem_cons.1 hx with rfl | hx
  · exact word_no _
  · obtain ⟨f, hf, rfl⟩ := List.mem_map.1 hx
    exact field_no (h2 f hf)
theorem takes_bare (c : Cmd) (fs : List Nat) : ∀ b : Cmd, takes b fs (fs.map c.fieldText) = fs.foldl (fun b f => b.take f (c.fieldText f)) b := by
  induction fs with
  | nil => intro b; rfl
  | cons f fs ih => intro b; rw [List.map_cons, takes, ih, List.foldl_cons]
theorem word_inj {j k : Nat} (hj : j < 9) (hk : k < 9) (h : wordOf j = wordOf k) : j = k := by
  rcases (by omega : j = 0 ∨ j = 1 ∨ j = 2 ∨ j = 3 ∨ j = 4 ∨ j = 5 ∨ j = 6 ∨ j = 7 ∨ j = 8) with a | a | a | a | a | a | a | a | a <;> subst a <;>
  rcases (by omega : k = 0 ∨ k = 1 ∨ k = 2 ∨ k = 3 ∨ k = 4 ∨ k = 5 ∨ k = 6 ∨ k = 7 ∨ k = 8) with a | a | a | a | a | a | a | a | a <;> subst a <;> first | rfl | (exact absurd h (by decide))
theorem try_line {c : Cmd} (h : c.ok = true) : tryKind c.line c.k = some c := by
  have hw := words_line h
  obtain ⟨h1, h2, h3⟩ := ok_parts h
  unfold tryKind
  simp only [hw]
  rw [if_pos (by simp [kindHit])]
  have e : takes ⟨(c.k : Int), [], [], 0, []⟩ (fieldsOf c.k) ((fieldsOf c.k).map c.fieldText) = c := by
    rw [takes_bare, ← k_lt h1]; exact h3
  simp only [List.tail_cons, e, h, beq_self_eq_true, Bool.and_self, if_true]
theorem try_other {c : Cmd} (h : c.ok = true) {j : Nat} (hj : j < 9) (hne : j ≠ c.k) : tryKind c.line j = none := by
  have hw := words_line h
  obtain ⟨h1, h2, h3⟩ := ok_parts h
  unfold tryKind
  simp only [hw]
  rw [if_neg]
  intro hc
  simp only [kindHit, Bool.and_eq_true, beq_iff_eq, List.headD_cons] at hc
  exact hne (word_inj hj h1 hc.1)
theorem first_some {f : Nat → Option Cmd} {c : Cmd} : ∀ {n k : Nat}, firstKind f n k = some c → ∃ j, k ≤ j ∧ j < k + n ∧ f j = some c ∧ ∀ i, k ≤ i → i < j → f i = none
  | 0, _, h => by cases h
  | n + 1, k, h => by
    rw [firstKind] at h
    split at h
    · rename_i d hd
      obtain rfl := Option.some.inj h
      exact ⟨k, by omega, by omega, hd, fun i _ _ => by omega⟩
    · rename_i hn
      obtain ⟨j, a, b, e, g⟩ := first_some h
      refine ⟨j, by omega, by omega, e, fun i hi hi2 => ?_⟩
      by_cases he : i = k
      · subst he; exact hn
      · exact g i (by omega) hi2
theorem first_of {f : Nat → Option Cmd} {c : Cmd} : ∀ {n k j : Nat}, k ≤ j → j < k + n → f j = some c → (∀ i, k ≤ i → i < j → f i = none) → firstKind f n k = some c
  | 0, k, j, h1, h2, _, _ => by omega
  | n + 1, k, j, h1, h2, h3, h4 => by
    rw [firstKind]
    by_cases he : k = j
    · subst he; rw [h3]
    · rw [h4 k (by omega) (by omega)]
      exact first_of (by omega) (by omega) h3 (fun i hi hi2 => h4 i (by omega) hi2)
theorem first_none {f : Nat → Option Cmd} : ∀ {n k : Nat}, (∀ j, k ≤ j → j < k + n → f j = none) → firstKind f n k = none
  | 0, _, _ => rfl
  | n + 1, k, h => by
    rw [firstKind, h k (by omega) (by omega)]
    exact first_none (fun j h1 h2 => h j (by omega) (by omega))
theorem try_some {s : List UInt8} {k : Nat} {c : Cmd} (h : tryKind s k = some c) : c.ok = true ∧ c.line = s := by
  unfold tryKind at h
  simp only at h
  split at h
  · split at h
    · rename_i hc
      obtain rfl := Option.some.inj h
      simpa using hc
    · cases h
  · cases h
/-- What is parsed is printed as it was, and what is printed is parsed as it was. -/
theorem parse_iff {s : List UInt8} {c : Cmd} : parseC s = some c ↔ c.ok = true ∧ c.line = s := by
  constructor
  · intro h
    obtain ⟨j, _, _, hj, _⟩ := first_some h
    exact try_some hj
  · rintro ⟨h, rfl⟩
    have hk := (ok_parts h).1
    exact first_of (Nat.zero_le _) (by omega) (try_line h) (fun i _ hi => try_other h (by omega) (by omega))
theorem line_inj {a b : Cmd} (ha : a.ok = true) (hb : b.ok = true) (h : a.line = b.line) : a = b := by
  have h1 := parse_iff.2 ⟨ha, h⟩
  have h2 := parse_iff.2 ⟨hb, rfl⟩
  rw [h1] at h2
  exact Option.some.inj h2
/-- whatever is tried, kind by kind, as long as what is tried is a command with that line, and the one that has it is tried -/
theorem parse_by {s : List UInt8} (f : Nat → Option Cmd) (h1 : ∀ k c, f k = some c → c.ok = true ∧ c.line = s) (h2 : ∀ c, c.ok = true → c.line = s → f c.k = some c) : firstKind f 9 0 = parseC s := by
  rcases hp : parseC s with _ | c
  · rcases hf : firstKind f 9 0 with _ | d
    · rfl
    · obtain ⟨j, _, _, hj, _⟩ := first_some hf
      rw [parse_iff.2 (h1 j d hj)] at hp; cases hp
  · obtain ⟨ho, hl⟩ := parse_iff.1 hp
    rcases hf : firstKind f 9 0 with _ | d
    · exfalso
      have hk := (ok_parts ho).1
      have h3 := h2 c ho hl
      have : ∀ n k, k ≤ c.k → c.k < k + n → firstKind f n k ≠ none := by
        intro n
        induction n with
        | zero => intro k a b; omega
        | succ n ih =>
          intro k a b
          rw [firstKind]
          by_cases he : k = c.k
          · rw [he, h3]; simp
          · cases hfk : f k with
            | some d => simp
            | none => exact ih (k + 1) (by omega) (by omega)
      exact this 9 0 (by omega) (by omega) hf
    · obtain ⟨j, _, _, hj, _⟩ := first_some hf
      obtain ⟨a, b⟩ := h1 j d hj
      rw [line_inj a ho (b.trans hl.symm)]
end Go.Proofs.YthmpblccplphfaaGreatDoor
