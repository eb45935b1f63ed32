/-
  string([]byte{c}): one byte. No program here.
-/
import Derived.Test.YthmpblccplphfaaGreatDoorStr
import Derived.Test.YthmpblccplphfaaGreatDoorDec
namespace Go.Proofs.YthmpblccplphfaaGreatDoor
open Go.RowKit
theorem run_str_one {P : Program} {ts td te : TypeId} (hs : P.underlying ts = some (.slice te)) (he : P.underlying te = some (.int .u8)) (hd : P.underlying td = some .string) (x : Int) (hx : 0 ≤ x ∧ x < 256) (W : World) (b : Nat) (h : W.cell? ⟨b, 0, none⟩ = some (.int .u8 x)) :
    (convert ts td (.slice (some ⟨b, 0, none⟩) 1 1)).run P W = .ok (.string ⟨[UInt8.ofNat x.toNat].toArray⟩) W :=
  run_str W ts td te b 0 1 1 [UInt8.ofNat x.toNat] hs he hd rfl (fun j hj => by
    obtain rfl : j = 0 := by omega
    rw [Nat.zero_add, h]
    simp only [u8s, List.map_cons, List.map_nil, List.getElem?_cons_zero]
    congr 2
    have e : (UInt8.ofNat x.toNat).toNat = x.toNat := by simp; omega
    rw [e]; omega)
theorem itoa_digit (n : Int) (h0 : 0 ≤ n) (h1 : n < 10) : Lib.itoa n = [UInt8.ofNat (48 + n).toNat] := by
  obtain ⟨u, rfl⟩ : ∃ u : Nat, n = u := ⟨n.toNat, by omega⟩
  rw [Lib.itoa_nonneg, Lib.decDigits_one (by omega)]
  congr 2
theorem itoa_step (n : Int) (h : 10 ≤ n) : Lib.itoa n = Lib.itoa (n / 10) ++ [UInt8.ofNat (48 + n % 10).toNat] := by
  obtain ⟨u, rfl⟩ : ∃ u : Nat, n = u := ⟨n.toNat, by omega⟩
  have e : ((u : Int) / 10) = ((u / 10 : Nat) : Int) := by omega
  rw [Lib.itoa_nonneg, e, Lib.itoa_nonneg, Lib.decDigits, dif_neg (by omega)]
  congr 3
theorem wrap8 (x : Int) (h : 0 ≤ x ∧ x < 256) : IntKind.u8.wrap x = x := by
  unfold IntKind.wrap
  simp [IntKind.bits, IntKind.signed]
  omega
end Go.Proofs.YthmpblccplphfaaGreatDoor
namespace Go.Proofs.YthmpblccplphfaaGreatDoor
open Go.RowKit
/-- s[i], the byte known -/
theorem run_index_str {P : Program} {t : TypeId} (h : P.underlying t = some .string) (l : List UInt8) (k : IntKind) (i : Int) (c : UInt8) (h0 : 0 ≤ i) (hc : l[i.toNat]? = some c) (w : World) :
    (Instr.index t (.string ⟨l.toArray⟩) (.int k i)).run P w = .ok (.int .u8 (c.toNat : Int)) w := by
  have hlt := (List.getElem?_eq_some_iff.1 hc).1
  have hget := (List.getElem?_eq_some_iff.1 hc).2
  rw [run_index_string w t _ k i h]
  have hsz : ({ data := l.toArray } : ByteArray).size = l.length := by simp [ByteArray.size]
  rw [dif_pos (by rw [hsz]; omega)]
  rw [← hget]
  rfl
end Go.Proofs.YthmpblccplphfaaGreatDoor
