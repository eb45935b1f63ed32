/-
  What the document fixes, reckoned. No program here.
-/
import Derived.Test.YthopldpaoeabnaaDoorPolKeeps
import Derived.Test.YthopldpaoeabnaaDoorPolParse
namespace Go.Proofs.YthopldpaoeabnaaDoor
open Go.RowKit
def E1 : Nat → Int | 0 => 1 | 1 => 4 | _ => 0
def K1 : Nat → Int | 0 => 2 | 1 => 1 | _ => 0
theorem itoa_one (n : Nat) (h : n < 10) : Lib.itoa (n : Int) = [UInt8.ofNat (48 + n)] := by rw [Lib.itoa_nonneg, Lib.decDigits_one h]
theorem itoa_two (n : Nat) (h1 : ¬ n < 10) (h2 : n < 100) : Lib.itoa (n : Int) = [UInt8.ofNat (48 + n / 10), UInt8.ofNat (48 + n % 10)] := by rw [Lib.itoa_nonneg, Lib.decDigits_two h1 h2]
def text1 : List UInt8 := [104, 32, 49, 32, 50, 32, 100, 32, 52, 32, 49, 32, 119, 32, 48, 32, 48]
def text2 : List UInt8 := [104, 32, 48, 49, 32, 50, 32, 100, 32, 52, 32, 49, 32, 119, 32, 48, 32, 48]
theorem text_one : polText E1 K1 = text1 := by
  show Lib.join [[104], Lib.itoa ((1 : Nat) : Int), Lib.itoa ((2 : Nat) : Int), [100], Lib.itoa ((4 : Nat) : Int), Lib.itoa ((1 : Nat) : Int), [119], Lib.itoa ((0 : Nat) : Int), Lib.itoa ((0 : Nat) : Int)] [32] = _
  rw [itoa_one 1 (by omega), itoa_one 2 (by omega), itoa_one 4 (by omega), itoa_one 0 (by omega)]
  decide +kernel
theorem print_one : printV E1 K1 = .tuple #[.string ⟨text1.toArray⟩, .int .i64 0] := by
  rw [printV, if_pos (by decide), text_one]
theorem polText_congr {E K E' K' : Nat → Int} (hE : ∀ i, i < 3 → E i = E' i) (hK : ∀ i, i < 3 → K i = K' i) : polText E K = polText E' K' := by
  unfold polText polWords polWords polWords
  rw [hE 0 (by omega), hE 1 (by omega), hE 2 (by omega), hK 0 (by omega), hK 1 (by omega), hK 2 (by omega)]
  rfl
theorem polV_congr {E K E' K' : Nat → Int} (hE : ∀ i, i < 3 → E i = E' i) (hK : ∀ i, i < 3 → K i = K' i) : polV E K = polV E' K' := by
  unfold polV
  rw [hE 0 (by omega), hE 1 (by omega), hE 2 (by omega), hK 0 (by omega), hK 1 (by omega), hK 2 (by omega)]
theorem fits_congr {E K E' K' : Nat → Int} (hE : ∀ i, i < 3 → E i = E' i) (hK : ∀ i, i < 3 → K i = K' i) (h : polFits E' K') : polFits E K := by
  refine fits_of (fun i hi => ?_)
  have := fits_upto h i hi
  unfold fitsAt at *
  rw [hE i hi, hK i hi]; exact this
theorem three {p : Nat → Prop} (h0 : p 0) (h1 : p 1) (h2 : p 2) : ∀ i, i < 3 → p i := fun i hi => by
  rcases (by omega : i = 0 ∨ i = 1 ∨ i = 2) with rfl | rfl | rfl <;> assumption
theorem q1E : ∀ i, i < 3 → qE (spl 32 text1) 3 i = E1 i := three (by decide +kernel) (by decide +kernel) (by decide +kernel)
theorem q1K : ∀ i, i < 3 → qK (spl 32 text1) 3 i = K1 i := three (by decide +kernel) (by decide +kernel) (by decide +kernel)
theorem q2E : ∀ i, i < 3 → qE (spl 32 text2) 3 i = E1 i := three (by decide +kernel) (by decide +kernel) (by decide +kernel)
theorem q2K : ∀ i, i < 3 → qK (spl 32 text2) 3 i = K1 i := three (by decide +kernel) (by decide +kernel) (by decide +kernel)
theorem parse_one : parseV text1 = .tuple #[polV E1 K1, .int .i64 0] := by
  rw [parseV, if_pos ⟨by decide +kernel, fits_congr q1E q1K (by decide), by rw [polText_congr q1E q1K, text_one]⟩, polV_congr q1E q1K]
theorem parse_two : parseV text2 = .tuple #[polZ, .int .i64 220] := by
  rw [parseV, if_neg (fun h => by have h1 := h.2.2; rw [polText_congr q2E q2K, text_one] at h1; exact absurd h1 (by decide +kernel))]
theorem name_one : nameV 0 5 = .tuple #[.string ⟨#[104, 46, 53]⟩, .int .i64 0] := by
  rw [nameV, nameOf, if_pos (by decide), nameText, show (5 : Int) = ((5 : Nat) : Int) from rfl, itoa_one 5 (by omega)]; rfl
theorem hit_of {s : List UInt8} {c : Nat} {t : Int} (ht : tickOf s c = t) (hf : nameFits c t) (hs : nameText c t = s) : hit s c := by
  unfold hit; rw [ht]; exact ⟨hf, hs⟩
theorem miss_of {s : List UInt8} {c : Nat} (ht : tickOf s c = 0) : ¬ hit s c := by
  intro h
  have h1 := h.1
  rw [ht] at h1
  unfold nameFits at h1; omega
theorem cls_h1 : cls [104, 46, 49] = some (0, 1) := by
  rw [cls, if_pos (hit_of (t := 1) (by decide +kernel) (by decide) (by rw [nameText, show (1 : Int) = ((1 : Nat) : Int) from rfl, itoa_one 1 (by omega)]; rfl))]; decide +kernel
theorem cls_h2 : cls [104, 46, 50] = some (0, 2) := by
  rw [cls, if_pos (hit_of (t := 2) (by decide +kernel) (by decide) (by rw [nameText, show (2 : Int) = ((2 : Nat) : Int) from rfl, itoa_one 2 (by omega)]; rfl))]; decide +kernel
theorem cls_h3 : cls [104, 46, 51] = some (0, 3) := by
  rw [cls, if_pos (hit_of (t := 3) (by decide +kernel) (by decide) (by rw [nameText, show (3 : Int) = ((3 : Nat) : Int) from rfl, itoa_one 3 (by omega)]; rfl))]; decide +kernel
theorem cls_w1 : cls [119, 46, 49] = some (2, 1) := by
  rw [cls, if_neg (miss_of (by decide +kernel)), if_neg (miss_of (by decide +kernel)), if_pos (hit_of (t := 1) (by decide +kernel) (by decide) (by rw [nameText, show (1 : Int) = ((1 : Nat) : Int) from rfl, itoa_one 1 (by omega)]; rfl))]; decide +kernel
theorem cls_x : cls [120] = none := by
  rw [cls, if_neg (miss_of (by decide +kernel)), if_neg (miss_of (by decide +kernel)), if_neg (miss_of (by decide +kernel))]
theorem cls_d12 : cls [100, 46, 49, 50] = some (1, 12) := by
  rw [cls, if_neg (miss_of (by decide +kernel)), if_pos (hit_of (t := 12) (by decide +kernel) (by decide) (by rw [nameText, show (12 : Int) = ((12 : Nat) : Int) from rfl, itoa_two 12 (by omega) (by omega)]; rfl))]; decide +kernel
theorem cls_d012 : cls [100, 46, 48, 49, 50] = none := by
  rw [cls, if_neg (miss_of (by decide +kernel)), if_neg (fun h => by
    have h1 := h.2
    rw [show tickOf [100, 46, 48, 49, 50] 1 = ((12 : Nat) : Int) by decide +kernel, nameText, itoa_two 12 (by omega) (by omega)] at h1
    exact absurd h1 (by decide +kernel)), if_neg (miss_of (by decide +kernel))]
def names1 : List (List UInt8) := [[104, 46, 49], [104, 46, 50], [120], [104, 46, 51], [119, 46, 49]]
theorem keeps_one : keeps K1 names1 = [[104, 46, 50], [120], [104, 46, 51]] := by
  have e : names1.reverse = [[119, 46, 49], [104, 46, 51], [120], [104, 46, 50], [104, 46, 49]] := by decide +kernel
  rw [keeps, e]
  simp [kRun, cls_h1, cls_h2, cls_h3, cls_w1, cls_x, K1]
theorem due_one : due E1 4 3 = [0, 1] := by decide +kernel
end Go.Proofs.YthopldpaoeabnaaDoor
