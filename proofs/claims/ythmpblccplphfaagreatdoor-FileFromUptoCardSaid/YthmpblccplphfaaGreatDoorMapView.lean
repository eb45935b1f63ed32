/-
  Maps as lists of keys and elements: what the laws on maps say, in lists. No program here.
-/
import Derived.Test.YthmpblccplphfaaGreatDoorMem
import Derived.Maps.RangeWalk
import Derived.Maps.OwnSet
import Derived.WalkArith
namespace Go.Proofs.YthmpblccplphfaaGreatDoor
open Go.RowKit Go.Maps
section
variable {α β H : Type}
def insG (lt : α → α → Bool) (x : α × β) : List (α × β) → List (α × β)
  | [] => [x]
  | y :: r => if lt x.1 y.1 then x :: y :: r else y :: insG lt x r
section
variable [BEq α]
def delG (a : α) (l : List (α × β)) : List (α × β) := l.filter fun p => !(p.1 == a)
def putG (lt : α → α → Bool) (a : α) (b : β) (l : List (α × β)) : List (α × β) := insG lt (a, b) (delG a l)
def getG (a : α) (l : List (α × β)) : Option β := (l.find? fun p => p.1 == a).map (·.2)
end
def toG (kf : α → Lit) (ef : β → DataW H) (l : List (α × β)) : DataW H := .map (l.map fun p => (kf p.1, ef p.2))
variable {kf : α → Lit} {ef : β → DataW H} {lt : α → α → Bool}
theorem insG_map (hb : ∀ a b, (kf a).before (kf b) = lt a b) (a : α) (b : β) (l : List (α × β)) : DataW.insert (kf a, ef b) (l.map fun p => (kf p.1, ef p.2)) = (insG lt (a, b) l).map fun p => (kf p.1, ef p.2) := by
  induction l with
  | nil => rfl
  | cons y r ih =>
    simp only [List.map_cons, DataW.insert, insG, hb]
    split
    · simp
    · simp [ih]
section
variable [BEq α]
theorem delG_map (hs : ∀ a b, (kf a).sameKey (kf b) = (a == b)) (a : α) (l : List (α × β)) : ((l.map fun p => (kf p.1, ef p.2)).filter fun p => !p.1.sameKey (kf a)) = (delG a l).map fun p => (kf p.1, ef p.2) := by
  induction l with
  | nil => rfl
  | cons y r ih =>
    simp only [List.map_cons, List.filter_cons, delG, hs]
    by_cases h : (!(y.1 == a)) = true
    · rw [if_pos h, if_pos h, List.map_cons, ih]; rfl
    · rw [if_neg h, if_neg h, ih]; rfl
theorem put_toG (hs : ∀ a b, (kf a).sameKey (kf b) = (a == b)) (hb : ∀ a b, (kf a).before (kf b) = lt a b) (a : α) (b : β) (l : List (α × β)) : (toG kf ef l).put (kf a) (ef b) = toG kf ef (putG lt a b l) := by
  show DataW.map _ = DataW.map _
  rw [delG_map hs, insG_map hb]; rfl
theorem del_toG (hs : ∀ a b, (kf a).sameKey (kf b) = (a == b)) (a : α) (l : List (α × β)) : (toG kf ef l).del (kf a) = toG kf ef (delG a l) := by
  show DataW.map _ = DataW.map _
  rw [delG_map hs]
theorem find_toG (hs : ∀ a b, (kf a).sameKey (kf b) = (a == b)) (a : α) (l : List (α × β)) : (l.map fun p => (kf p.1, ef p.2)).find? (fun p => p.1.sameKey (kf a)) = (l.find? fun p => p.1 == a).map fun p => (kf p.1, ef p.2) := by
  rw [List.find?_map]
  congr 1
  · congr 1
    funext p
    simp [Function.comp, hs]
theorem at_toG (hs : ∀ a b, (kf a).sameKey (kf b) = (a == b)) (a : α) (l : List (α × β)) (z : DataW H) : (toG kf ef l).atKey (kf a) z = match getG a l with | some b => ef b | none => z := by
  show (match (l.map fun p => (kf p.1, ef p.2)).find? (fun p => p.1.sameKey (kf a)) with | some p => p.2 | none => z) = _
  rw [find_toG hs]
  unfold getG
  cases l.find? fun p => p.1 == a <;> rfl
theorem has_toG (hs : ∀ a b, (kf a).sameKey (kf b) = (a == b)) (a : α) (l : List (α × β)) : Maps.has (toG kf ef l) (kf a) = (getG a l).isSome := by
  show (l.map fun p => (kf p.1, ef p.2)).any (fun p => p.1.sameKey (kf a)) = _
  unfold getG
  rw [Bool.eq_iff_iff]
  simp [hs]
end
theorem size_toG (l : List (α × β)) : Maps.size (toG kf ef l) = l.length := by
  show (l.map _).length = _
  simp
theorem delG_len [BEq α] (a : α) (l : List (α × β)) : (delG a l).length ≤ l.length := List.length_filter_le _ _
theorem insG_len (x : α × β) (l : List (α × β)) : (insG lt x l).length = l.length + 1 := by
  induction l with
  | nil => rfl
  | cons y r ih =>
    unfold insG
    split
    · simp
    · simp [ih]
end
/-- as tight a bound as there is -/
theorem tight {H : Type} {P : Program} {k : TypeId} {R : Value → Option (DataW H × List MemPlace)} {w : World} {b n : Nat} {D : DataW H} (h : w.ownsMap P k R b n D) : w.ownsMap P k R b (Maps.size D) D := by
  obtain ⟨es, clock, hb, F, hs, rfl⟩ := h
  exact ⟨es, clock, hb, F, by simp [Maps.size, length_sorted], rfl⟩
theorem owns_mod {H : Type} {P : Program} {k : TypeId} {R : Value → Option (DataW H × List MemPlace)} {w w' : World} {b n : Nat} {D : DataW H} {S : Nat → Prop} (h : w.ownsMap P k R b n D) (m : Mod S w w') (hS : ¬ S b) : w'.ownsMap P k R b n D := by
  have hlt := h.lt
  obtain ⟨es, clock, hb, F, hs, hD⟩ := h
  exact ⟨es, clock, m.obj hb hS, F, hs, hD⟩
theorem mod_grown {w w' : World} {b : Nat} (h : w.grownBy w' (some b)) : Mod (· = b) w w' :=
  ⟨h.os, h.tape, h.output, h.size, fun k hk hS => h.block k hk (fun e => hS (by cases e; rfl))⟩
theorem grown_mod {w w' : World} {b : Nat} (h : Mod (· = b) w w') : w.grownBy w' (some b) :=
  ⟨h.os, h.tape, h.output, h.size, fun k hk hS => h.block k hk (fun e => hS (by rw [e]))⟩
theorem keep_grown {w w' : World} (h : w.grownBy w' none) : Keep w w' := ⟨h.os, h.tape, h.output, h.size, fun k hk _ => h.block k hk (by simp)⟩
theorem grown_keep {w w' : World} (h : Keep w w') : w.grownBy w' none := ⟨h.os, h.tape, h.output, h.size, fun k hk _ => h.block k hk id⟩
/-- a pointer as an element -/
def ptrElem : Value → Option (DataW Value × List MemPlace)
  | .pointer a => some (.held (.pointer a), [])
  | _ => none
theorem str_same (a b : List UInt8) : (Lit.string a).sameKey (.string b) = (a == b) := rfl
theorem str_before (a b : List UInt8) : (Lit.string a).before (.string b) = bytesBefore a b := rfl
theorem int_same (a b : Int) : (Lit.int .i64 a).sameKey (.int .i64 b) = (a == b) := by
  show decide _ = _
  rw [Bool.eq_iff_iff]; simp
theorem int_before (a b : Int) : (Lit.int .i64 a).before (.int .i64 b) = decide (a < b) := rfl
def litI (k : Int) : DataW Value := .lit (.int .i64 k)
def litP (a : Nat) : DataW Value := .held (.pointer (some ⟨a, 0, none⟩))
abbrev toN (l : List (List UInt8 × Int)) : DataW Value := toG Lit.string litI l
abbrev toO (l : List (Int × Nat)) : DataW Value := toG (Lit.int .i64) litP l
section
variable {P : Program} {tm tk te : TypeId} {w : World} {b : Nat}
def MapN (P : Program) (tk te : TypeId) (w : World) (b : Nat) (l : List (List UInt8 × Int)) : Prop := w.ownsMap P tk (plainElem P te) b l.length (toN l)
def MapO (P : Program) (tk : TypeId) (w : World) (b : Nat) (l : List (Int × Nat)) : Prop := w.ownsMap P tk ptrElem b l.length (toO l)
theorem MapN.mod {l : List (List UInt8 × Int)} {w' : World} {S : Nat → Prop} (h : MapN P tk te w b l) (m : Mod S w w') (hS : ¬ S b) : MapN P tk te w' b l := owns_mod h m hS
theorem MapO.mod {l : List (Int × Nat)} {w' : World} {S : Nat → Prop} (h : MapO P tk w b l) (m : Mod S w w') (hS : ¬ S b) : MapO P tk w' b l := owns_mod h m hS
theorem MapN.lt {l : List (List UInt8 × Int)} (h : MapN P tk te w b l) : b < w.heap.size := World.ownsMap.lt h
theorem MapO.lt {l : List (Int × Nat)} (h : MapO P tk w b l) : b < w.heap.size := World.ownsMap.lt h
theorem str_key (hk : P.underlying tk = some .string) (s : List UInt8) (hs : s.length ≤ 140737488355328) : keyOf P tk (.string ⟨s.toArray⟩) = some (.string s) :=
  Go.WideMaps.keyOf_string_mk (s := ⟨s.toArray⟩) hk (by show s.toArray.size ≤ _; unfold maxLen; simp; omega)
theorem wf64 {k : Int} (h : -9223372036854775808 ≤ k ∧ k ≤ 9223372036854775807) : (Lit.int .i64 k).wf = true := by
  exact WalkArith.wf_i64 h
theorem int_key (hk : P.underlying tk = some (.int .i64)) (k : Int) (h : -9223372036854775808 ≤ k ∧ k ≤ 9223372036854775807) : keyOf P tk (.int .i64 k) = some (.int .i64 k) := keyOf_int_mk hk (wf64 h)
theorem lit_inj {a b : Int} (h : litI a = litI b) : a = b := by
  unfold litI at h; simpa using h
/-! ### names: keys are strings, elements numbers -/
theorem MapN.look {l : List (List UInt8 × Int)} (h : MapN P tk te w b l) (ht : P.underlying tm = some (.map tk te)) (hk : P.underlying tk = some .string) (he : P.underlying te = some (.int .i64)) (hz : (zeroValue te).run P w = .ok (.int .i64 0) w) (s : List UInt8) (hs : s.length ≤ 140737488355328) :
    (Instr.lookup tm (.map (some b)) (.string ⟨s.toArray⟩) true).run P w = .ok (.tuple #[.int .i64 ((getG s l).getD 0), .bool (getG s l).isSome]) w := by
  obtain ⟨v, ps, hrun, hv⟩ := World.ownsMap.look_ok h (string_keyed hk) ht hz (plainElem_int he (wf64 (by decide))) (str_key hk s hs)
  rw [has_toG str_same] at hrun
  rw [at_toG str_same] at hv
  obtain ⟨a, rfl, hc, _⟩ := plainElem_int_inv he hv
  rw [hrun]
  congr 4
  cases hg : getG s l with
  | none => rw [hg] at hc; simp at hc; simp [hc]
  | some x => rw [hg] at hc; simp [litI] at hc; simp [hc]
theorem MapN.look1 {l : List (List UInt8 × Int)} (h : MapN P tk te w b l) (ht : P.underlying tm = some (.map tk te)) (hk : P.underlying tk = some .string) (he : P.underlying te = some (.int .i64)) (hz : (zeroValue te).run P w = .ok (.int .i64 0) w) (s : List UInt8) (hs : s.length ≤ 140737488355328) :
    (Instr.lookup tm (.map (some b)) (.string ⟨s.toArray⟩) false).run P w = .ok (.int .i64 ((getG s l).getD 0)) w := by
  obtain ⟨v, ps, hrun, hv⟩ := World.ownsMap.lookup h (string_keyed hk) ht hz (plainElem_int he (wf64 (by decide))) (str_key hk s hs)
  rw [at_toG str_same] at hv
  obtain ⟨a, rfl, hc, _⟩ := plainElem_int_inv he hv
  rw [hrun]
  congr 2
  cases hg : getG s l with
  | none => rw [hg] at hc; simp at hc; simp [hc]
  | some x => rw [hg] at hc; simp [litI] at hc; simp [hc]
theorem MapN.store {l : List (List UInt8 × Int)} (h : MapN P tk te w b l) (ht : P.underlying tm = some (.map tk te)) (hk : P.underlying tk = some .string) (he : P.underlying te = some (.int .i64)) (s : List UInt8) (hs : s.length ≤ 140737488355328) (k : Int) (hkk : -9223372036854775808 ≤ k ∧ k ≤ 9223372036854775807) (hl : l.length < 140737488355328) :
    ∃ w', (Instr.mapUpdate tm (.map (some b)) (.string ⟨s.toArray⟩) (.int .i64 k)).run P w = .ok () w' ∧ MapN P tk te w' b (putG bytesBefore s k l) ∧ Mod (· = b) w w' := by
  obtain ⟨w', hrun, hown, ht'⟩ := World.ownsMap.store h (string_keyed hk) ht (by unfold maxLen; omega) (str_key hk s hs) (plainElem_int he (wf64 hkk))
  refine ⟨w', hrun, ?_, mod_grown ht'.grown⟩
  have h1 := tight hown
  have e : (toN l).put (.string s) (.lit (.int .i64 k)) = toN (putG bytesBefore s k l) := put_toG (ef := litI) str_same str_before s k l
  rw [e, size_toG] at h1
  exact h1
theorem MapN.drop {l : List (List UInt8 × Int)} (h : MapN P tk te w b l) (ht : P.underlying tm = some (.map tk te)) (hk : P.underlying tk = some .string) (s : List UInt8) (hs : s.length ≤ 140737488355328) (ty : TypeId) :
    ∃ w', (Builtin.delete_ #[tm, tk] ty #[.map (some b), .string ⟨s.toArray⟩]).run P w = .ok (.tuple #[]) w' ∧ MapN P tk te w' b (delG s l) ∧ Mod (· = b) w w' := by
  obtain ⟨w', hrun, hown, ht'⟩ := World.ownsMap.drop h (string_keyed hk) ht (str_key hk s hs) ty
  refine ⟨w', hrun, ?_, mod_grown ht'.grown⟩
  have h1 := tight hown
  rw [del_toG str_same, size_toG] at h1
  exact h1
theorem MapN.len {l : List (List UInt8 × Int)} (h : MapN P tk te w b l) (ht : P.underlying tm = some (.map tk te)) (ty : TypeId) : (Builtin.len_ #[tm] ty #[.map (some b)]).run P w = .ok (.int .i64 (l.length : Int)) w := by
  have := World.ownsMap.len h ht ty
  rwa [size_toG] at this
theorem MapN.made (w : World) : MapN P tk te (w.alloc (.map #[] 0)) w.heap.size [] := World.ownsMap_made w P tk _
/-! ### nodes: keys are numbers, elements pointers -/
theorem MapO.look {l : List (Int × Nat)} (h : MapO P tk w b l) (ht : P.underlying tm = some (.map tk te)) (hk : P.underlying tk = some (.int .i64)) (hz : (zeroValue te).run P w = .ok (.pointer none) w) (k : Int) (hkk : -9223372036854775808 ≤ k ∧ k ≤ 9223372036854775807) :
    (Instr.lookup tm (.map (some b)) (.int .i64 k) true).run P w = .ok (.tuple #[.pointer ((getG k l).map fun a => ⟨a, 0, none⟩), .bool (getG k l).isSome]) w := by
  obtain ⟨v, ps, hrun, hv⟩ := World.ownsMap.look_ok h (int_keyed hk) ht hz (zd := .held (.pointer none)) (zp := []) rfl (int_key hk k hkk)
  rw [has_toG int_same] at hrun
  rw [at_toG int_same] at hv
  have hv' : v = .pointer ((getG k l).map fun a => ⟨a, 0, none⟩) := by
    cases v <;> simp [ptrElem] at hv
    cases hg : getG k l with
    | none => rw [hg] at hv; simp at hv; simp [hv]
    | some x => rw [hg] at hv; simp [litP] at hv; simp [hv]
  rw [hrun, hv']
theorem MapO.look1 {l : List (Int × Nat)} (h : MapO P tk w b l) (ht : P.underlying tm = some (.map tk te)) (hk : P.underlying tk = some (.int .i64)) (hz : (zeroValue te).run P w = .ok (.pointer none) w) (k : Int) (hkk : -9223372036854775808 ≤ k ∧ k ≤ 9223372036854775807) :
    (Instr.lookup tm (.map (some b)) (.int .i64 k) false).run P w = .ok (.pointer ((getG k l).map fun a => ⟨a, 0, none⟩)) w := by
  obtain ⟨v, ps, hrun, hv⟩ := World.ownsMap.lookup h (int_keyed hk) ht hz (zd := .held (.pointer none)) (zp := []) rfl (int_key hk k hkk)
  rw [at_toG int_same] at hv
  have hv' : v = .pointer ((getG k l).map fun a => ⟨a, 0, none⟩) := by
    cases v <;> simp [ptrElem] at hv
    cases hg : getG k l with
    | none => rw [hg] at hv; simp at hv; simp [hv]
    | some x => rw [hg] at hv; simp [litP] at hv; simp [hv]
  rw [hrun, hv']
theorem MapO.store {l : List (Int × Nat)} (h : MapO P tk w b l) (ht : P.underlying tm = some (.map tk te)) (hk : P.underlying tk = some (.int .i64)) (k : Int) (hkk : -9223372036854775808 ≤ k ∧ k ≤ 9223372036854775807) (a : Nat) (hl : l.length < 140737488355328) :
    ∃ w', (Instr.mapUpdate tm (.map (some b)) (.int .i64 k) (.pointer (some ⟨a, 0, none⟩))).run P w = .ok () w' ∧ MapO P tk w' b (putG (fun a b => decide (a < b)) k a l) ∧ Mod (· = b) w w' := by
  obtain ⟨w', hrun, hown, ht'⟩ := World.ownsMap.store h (int_keyed hk) ht (by unfold maxLen; omega) (int_key hk k hkk) (val := .pointer (some ⟨a, 0, none⟩)) (d := litP a) (ps := []) rfl
  refine ⟨w', hrun, ?_, mod_grown ht'.grown⟩
  have h1 := tight hown
  have e : (toO l).put (.int .i64 k) (litP a) = toO (putG (fun a b => decide (a < b)) k a l) := put_toG (ef := litP) int_same int_before k a l
  rw [e, size_toG] at h1
  exact h1
theorem MapO.drop {l : List (Int × Nat)} (h : MapO P tk w b l) (ht : P.underlying tm = some (.map tk te)) (hk : P.underlying tk = some (.int .i64)) (k : Int) (hkk : -9223372036854775808 ≤ k ∧ k ≤ 9223372036854775807) (ty : TypeId) :
    ∃ w', (Builtin.delete_ #[tm, tk] ty #[.map (some b), .int .i64 k]).run P w = .ok (.tuple #[]) w' ∧ MapO P tk w' b (delG k l) ∧ Mod (· = b) w w' := by
  obtain ⟨w', hrun, hown, ht'⟩ := World.ownsMap.drop h (int_keyed hk) ht (int_key hk k hkk) ty
  refine ⟨w', hrun, ?_, mod_grown ht'.grown⟩
  have h1 := tight hown
  rw [del_toG int_same, size_toG] at h1
  exact h1
theorem MapO.len {l : List (Int × Nat)} (h : MapO P tk w b l) (ht : P.underlying tm = some (.map tk te)) (ty : TypeId) : (Builtin.len_ #[tm] ty #[.map (some b)]).run P w = .ok (.int .i64 (l.length : Int)) w := by
  have := World.ownsMap.len h ht ty
  rwa [size_toG] at this
theorem MapO.made (w : World) : MapO P tk (w.alloc (.map #[] 0)) w.heap.size [] := World.ownsMap_made w P tk _
end
end Go.Proofs.YthmpblccplphfaaGreatDoor
