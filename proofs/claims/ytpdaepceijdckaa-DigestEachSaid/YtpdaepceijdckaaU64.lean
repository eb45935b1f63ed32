/-
  Words of 64 bits as the walk's values: what the model's integer operations on uint64 give, in UInt64. No program here.
-/
import Derived.Test.YtpdaepceijdckaaChecked
import Derived.WalkKit
import Derived.WalkLawsBesides
import Derived.WalkSpells
namespace Go.Proofs.Ytpdaepceijdckaa

/-- a uint64 as a value -/
def U (x : UInt64) : Value := .int .u64 (x.toNat : Int)

/-- the operations under names of their own: simp's stock knows nothing of them -/
def add (x y : UInt64) : UInt64 := x + y
def xor (x y : UInt64) : UInt64 := x ^^^ y
def or (x y : UInt64) : UInt64 := x ||| y
def shl (x : UInt64) (n : Nat) : UInt64 := x <<< UInt64.ofNat n
def shr (x : UInt64) (n : Nat) : UInt64 := x >>> UInt64.ofNat n
def rotl (x : UInt64) (n : Nat) : UInt64 := or (shl x n) (shr x (64 - n))
theorem u64_lt (x : UInt64) : (x.toNat : Int) < 18446744073709551616 := by have := x.toNat_lt; omega
theorem bits_xor_U (x y : UInt64) : bits .xor .u64 (x.toNat : Int) (y.toNat : Int) = ((xor x y).toNat : Int) := by
  rw [bits_xor_u64_nat _ _ x.toNat_lt y.toNat_lt, xor, UInt64.toNat_xor]
theorem bits_or_U (x y : UInt64) : bits .or .u64 (x.toNat : Int) (y.toNat : Int) = ((or x y).toNat : Int) := by
  rw [bits_or_u64_nat _ _ x.toNat_lt y.toNat_lt, or, UInt64.toNat_or]
theorem wrap_add_U (x y : UInt64) : IntKind.u64.wrap ((x.toNat : Int) + (y.toNat : Int)) = ((add x y).toNat : Int) := by
  rw [IntKind.wrap_u64, add, UInt64.toNat_add]; omega
theorem wrap_U (x : UInt64) : IntKind.u64.wrap (x.toNat : Int) = (x.toNat : Int) := by
  have := x.toNat_lt; rw [IntKind.wrap_u64]; omega
theorem wrap_shl_U (x : UInt64) (n : Nat) (h : n < 64) : IntKind.u64.wrap ((x.toNat : Int) * 2 ^ n) = ((shl x n).toNat : Int) := by
  rw [IntKind.wrap_u64, shl, UInt64.toNat_shiftLeft, (by simp; omega : (UInt64.ofNat n).toNat = n), Nat.mod_eq_of_lt h, Nat.shiftLeft_eq]
  simp
theorem shr_U (x : UInt64) (n : Nat) (h : n < 64) : (x.toNat : Int) / 2 ^ n = ((shr x n).toNat : Int) := by
  rw [shr, UInt64.toNat_shiftRight, (by simp; omega : (UInt64.ofNat n).toNat = n), Nat.mod_eq_of_lt h, Nat.shiftRight_eq_div_pow]
  simp

/-- The number of the bytes, the first one lowest. -/
def leVal (s : List UInt8) : Nat := s.foldr (fun c x => 256 * x + c.toNat) 0
def word (s : List UInt8) : UInt64 := UInt64.ofNat (leVal s)
theorem leVal_lt (s : List UInt8) : leVal s < 256 ^ s.length := by
  induction s with
  | nil => simp [leVal]
  | cons c s ih =>
    have e : leVal (c :: s) = 256 * leVal s + c.toNat := rfl
    have := c.toNat_lt
    have hp : 256 ^ (s.length + 1) = 256 * 256 ^ s.length := by rw [Nat.pow_succ]; omega
    rw [e, List.length_cons, hp]; omega
theorem leVal_snoc (s : List UInt8) (c : UInt8) : leVal (s ++ [c]) = leVal s + 256 ^ s.length * c.toNat := by
  induction s with
  | nil => simp [leVal]
  | cons d s ih =>
    have e : leVal (d :: s ++ [c]) = 256 * leVal (s ++ [c]) + d.toNat := rfl
    have e' : leVal (d :: s) = 256 * leVal s + d.toNat := rfl
    have hp : 256 ^ (s.length + 1) = 256 * 256 ^ s.length := by rw [Nat.pow_succ]; omega
    rw [e, e', ih, List.length_cons, hp, Nat.mul_add, Nat.mul_assoc]; omega
theorem word_toNat (s : List UInt8) (h : s.length ≤ 8) : (word s).toNat = leVal s := by
  have h1 := leVal_lt s
  have h2 : 256 ^ s.length ≤ 256 ^ 8 := Nat.pow_le_pow_right (by omega) h
  rw [word, UInt64.toNat_ofNat']
  exact Nat.mod_eq_of_lt (by omega)
theorem word_snoc (s : List UInt8) (c : UInt8) (h : s.length < 8) :
    bits .or .u64 ((word s).toNat : Int) (IntKind.u64.wrap (IntKind.u64.wrap (c.toNat : Int) * 2 ^ (8 * s.length))) = ((word (s ++ [c])).toNat : Int) := by
  have hc := c.toNat_lt
  have h1 := leVal_lt (s ++ [c])
  have h2 : 256 ^ (s ++ [c]).length ≤ 256 ^ 8 := Nat.pow_le_pow_right (by omega) (by simp; omega)
  have hs := leVal_lt s
  have hsn := leVal_snoc s c
  have hp : (2 : Nat) ^ (8 * s.length) = 256 ^ s.length := by rw [Nat.pow_mul]
  have e1 : IntKind.u64.wrap (c.toNat : Int) = c.toNat := by rw [IntKind.wrap_u64]; omega
  have e2 : ((c.toNat : Int) * 2 ^ (8 * s.length)) = ((256 ^ s.length * c.toNat : Nat) : Int) := by
    rw [← hp]; simp [Int.mul_comm]
  have e3 : IntKind.u64.wrap (((256 ^ s.length * c.toNat : Nat) : Int)) = ((256 ^ s.length * c.toNat : Nat) : Int) := by
    rw [IntKind.wrap_u64]; omega
  rw [e1, e2, e3, word_toNat s (by omega), word_toNat (s ++ [c]) (by simp; omega), bits_or_u64_nat _ _ (by omega) (by omega), hsn]
  have := Nat.two_pow_add_eq_or_of_lt (i := 8 * s.length) (b := leVal s) (by rw [hp]; exact hs) c.toNat
  rw [hp] at this
  rw [Nat.or_comm, ← this]; omega
theorem take_snoc {α : Type} (l : List α) (k : Nat) (h : k < l.length) : l.take (k + 1) = l.take k ++ [l[k]] := by
  rw [List.take_succ_eq_append_getElem h]
end Go.Proofs.Ytpdaepceijdckaa
