/-
  policy.Parse.
-/
import Derived.Test.YthopldpaoeabnaaDoorPolPrint
namespace Go.Proofs.YthopldpaoeabnaaDoor
open Go.RowKit
/-- what the words at their places say -/
def qE (l : List (List UInt8)) (k i : Nat) : Int := if i < k then atoiV (l.getD (3 * i + 1) []) else 0
def qK (l : List (List UInt8)) (k i : Nat) : Int := if i < k then atoiV (l.getD (3 * i + 2) []) else 0
def parses (s : List UInt8) : Prop := (spl 32 s).length = 9 ∧ polFits (qE (spl 32 s) 3) (qK (spl 32 s) 3) ∧ polText (qE (spl 32 s) 3) (qK (spl 32 s) 3) = s
instance (s : List UInt8) : Decidable (parses s) := by unfold parses; infer_instance
def polZ : Value := polV (fun _ => 0) (fun _ => 0)
def parseV (s : List UInt8) : Value := if parses s then .tuple #[polV (qE (spl 32 s) 3) (qK (spl 32 s) 3), .int .i64 0] else .tuple #[polZ, .int .i64 220]
theorem blk_new_at {w : World} {b : Nat} (h : b = w.heap.size) (c : Array Value) (t : TypeId) : World.blk (w.alloc (.cells c t)) b c t := h ▸ blk_new w c t
theorem nine {l : List (List UInt8)} (h : l.length = 9) : ∃ a b c d e f g i j, l = [a, b, c, d, e, f, g, i, j] := by
  match l, h with
  | [a, b, c, d, e, f, g, i, j], _ => exact ⟨a, b, c, d, e, f, g, i, j, rfl⟩
theorem box_free {w : World} {b : Nat} {c : Array Value} {t : TypeId} (h : World.blk w b c t) :
    w.frozen? ⟨b, 0, none⟩ = false ∧ w.frozen? ⟨b, 1, none⟩ = false ∧ w.frozen? ⟨b, 2, none⟩ = false ∧ w.frozen? ⟨b, 3, none⟩ = false ∧ w.frozen? ⟨b, 4, none⟩ = false ∧ w.frozen? ⟨b, 5, none⟩ = false :=
  ⟨blk_free h _ rfl, blk_free h _ rfl, blk_free h _ rfl, blk_free h _ rfl, blk_free h _ rfl, blk_free h _ rfl⟩
set_option maxRecDepth 100000 in
set_option maxHeartbeats 1000000 in
theorem parse_any (s : List UInt8) (w : World) (he : Env w) (hs : s.length < 4294967281) :
    Calls Tryd.prog 12 #[.string ⟨s.toArray⟩] w fun e w' => e = .returned (parseV s) ∧ Keep w w' := by
  have He := Lib.hid he
  have Hs := Lib.hid hs
  clear he hs
  go_enter Tryd.func12, Tryd.ntmps12
  go_wp2_with fail
  refine (split_any 32 s Hs.out _ (He.out.keep (((Mod.refl _ _).alloc _).alloc _))).mono ?_
  rintro z w3 ⟨rfl, hw3⟩
  have hA : World.blk w3 w.heap.size (boxV (fun _ => 0) (fun _ => 0)) 24 := by rw [hw3]; exact blk_alloc (blk_alloc (blk_new _ _ _) _) _
  have hB : World.blk w3 (w.heap.size + 1) (boxV (fun _ => 0) (fun _ => 0)) 24 := by rw [hw3]; exact blk_alloc (blk_new_at (by simp) _ _) _
  have hC : World.blk w3 (w.heap.size + 2) (scells (spl 32 s)) 9 := by rw [hw3]; exact blk_new_at (by simp) _ _
  have hK : Keep w w3 := by rw [hw3]; exact (((Mod.refl _ _).alloc _).alloc _).alloc _
  have Hp : RowKit.Hid (parseV s = if (spl 32 s).length = 9 ∧ polFits (qE (spl 32 s) 3) (qK (spl 32 s) 3) ∧ polText (qE (spl 32 s) 3) (qK (spl 32 s) 3) = s then .tuple #[polV (qE (spl 32 s) 3) (qK (spl 32 s) 3), .int .i64 0] else .tuple #[polZ, .int .i64 220]) := Lib.hid rfl
  have HL : RowKit.Hid (∀ i, ((spl 32 s).getD i []).length ≤ 140737488355328) := Lib.hid (fun i => by have h1 := spl_piece 32 s i; have h2 := Hs.out; omega)
  generalize spl 32 s = l at *
  rw [show ((w.alloc (.cells #[.int .i64 0, .int .i64 0, .int .i64 0, .int .i64 0, .int .i64 0, .int .i64 0] 24)).alloc (.cells #[.int .i64 0, .int .i64 0, .int .i64 0, .int .i64 0, .int .i64 0, .int .i64 0] 24)).heap.size = w.heap.size + 2 by simp]
  have HA := Lib.hid hA
  have HB := Lib.hid hB
  have HC := Lib.hid hC
  have HK := Lib.hid hK
  clear hw3 hC hK
  by_cases hl : l.length = 9
  · clear hA hB
    have hq : ((l.length : Int) != 9) = false := by rw [bne_eq_false_iff_eq]; omega
    have Hl := Lib.hid hl
    go_wp2_with fail
    go_loopw [15] (fun i wr => ∃ (k : Nat), k ≤ 3 ∧ i = .int .i64 (k : Int) ∧ World.blk wr w.heap.size (boxV (fun _ => 0) (fun _ => 0)) 24 ∧ World.blk wr (w.heap.size + 1) (boxV (qE l k) (qK l k)) 24 ∧ World.blk wr (w.heap.size + 2) (scells l) 9 ∧ Keep w wr) (fun i _ => 3 - (intOf i).toNat)
    case atStart => exact ⟨0, by omega, rfl, HA.out, HB.out, HC.out, HK.out⟩
    case round =>
    clear HA HB HC HK hq
    obtain ⟨k, hk, rfl, hA, hB, hC, hK⟩ := hrel
    have HA := Lib.hid hA
    have HB := Lib.hid hB
    have HC := Lib.hid hC
    have HK := Lib.hid hK
    clear hA hB hC hK
    have q1 : IntKind.i64.wrap 1 = 1 := rfl
    have q2 : IntKind.i64.wrap 2 = 2 := rfl
    have q3 : IntKind.i64.wrap 3 = 3 := rfl
    have q4 : IntKind.i64.wrap 4 = 4 := rfl
    have q5 : IntKind.i64.wrap 5 = 5 := rfl
    have q6 : IntKind.i64.wrap 6 = 6 := rfl
    have q7 : IntKind.i64.wrap 7 = 7 := rfl
    have q8 : IntKind.i64.wrap 8 = 8 := rfl
    obtain ⟨a, b, c, d, e, f, g, i, j, hl9⟩ := nine Hl.out
    subst hl9
    rcases (by omega : k = 0 ∨ k = 1 ∨ k = 2 ∨ k = 3) with rfl | rfl | rfl | rfl
    · have HE := Lib.hid (He.out.keep HK.out)
      have hc1 : wr.cell? ⟨w.heap.size + 2, 1, none⟩ = some (.string ⟨b.toArray⟩) := blk_cell HC.out 1
      have L1 : RowKit.Hid (b.length ≤ 140737488355328) := Lib.hid (HL.out 1)
      have L2 : RowKit.Hid (c.length ≤ 140737488355328) := Lib.hid (HL.out 2)
      have e0 : boxV (qE [a, b, c, d, e, f, g, i, j] 0) (qK [a, b, c, d, e, f, g, i, j] 0) = #[.int .i64 0, .int .i64 0, .int .i64 0, .int .i64 0, .int .i64 0, .int .i64 0] := rfl
      go_wp2_with fail
      refine (atoi_any b L1.out _ HE.out).mono ?_
      rintro z w1 ⟨⟨x, rfl⟩, hk1⟩
      have HA1 := Lib.hid (blk_mod hk1 HA.out id)
      have HC1 := Lib.hid (blk_mod hk1 HC.out id)
      have HK1 := Lib.hid (HK.out.keep hk1)
      have hB1 := blk_mod hk1 HB.out id
      rw [e0] at hB1
      clear hk1 hc1 e0 HE HA HB HC HK
      rw [← putB_self hB1]
      have hb := blk_lt hB1
      have hc2 := putB_cell_other (w := w1) (b := w.heap.size + 1) (c := #[.int .i64 (atoiV b), .int .i64 0, .int .i64 0, .int .i64 0, .int .i64 0, .int .i64 0]) (t := 24) (a := ⟨w.heap.size + 2, 2, none⟩) (by simp)
      rw [show w1.cell? ⟨w.heap.size + 2, 2, none⟩ = some (.string ⟨c.toArray⟩) from blk_cell HC1.out 2] at hc2
      go_wp2_with fail
      clear hc2
      have HK2 := Lib.hid (HK1.out.putB (b := w.heap.size + 1) (.inr (by omega)) #[.int .i64 (atoiV b), .int .i64 0, .int .i64 0, .int .i64 0, .int .i64 0, .int .i64 0] 24)
      have HA2 := Lib.hid (putB_blk_other (c := #[.int .i64 (atoiV b), .int .i64 0, .int .i64 0, .int .i64 0, .int .i64 0, .int .i64 0]) (t := 24) HA1.out (Nat.ne_of_lt (Nat.lt_succ_self w.heap.size)))
      have HC2 := Lib.hid (putB_blk_other (c := #[.int .i64 (atoiV b), .int .i64 0, .int .i64 0, .int .i64 0, .int .i64 0, .int .i64 0]) (t := 24) HC1.out (Nat.ne_of_gt (Nat.lt_succ_self (w.heap.size + 1))))
      have HB2 := Lib.hid (putB_blk (c := #[.int .i64 (atoiV b), .int .i64 0, .int .i64 0, .int .i64 0, .int .i64 0, .int .i64 0]) (t := 24) hb)
      clear HK1 HA1 HC1 hB1
      generalize w1.putB (w.heap.size + 1) #[.int .i64 (atoiV b), .int .i64 0, .int .i64 0, .int .i64 0, .int .i64 0, .int .i64 0] 24 = w2 at *
      refine (atoi_any c L2.out _ (He.out.keep HK2.out)).mono ?_
      rintro z w3 ⟨⟨y, rfl⟩, hk3⟩
      have HA3 := Lib.hid (blk_mod hk3 HA2.out id)
      have HC3 := Lib.hid (blk_mod hk3 HC2.out id)
      have HK3 := Lib.hid (HK2.out.keep hk3)
      have hB3 := blk_mod hk3 HB2.out id
      clear hk3 HA2 HC2 HK2 HB2 hb
      rw [← putB_self hB3]
      have hb := blk_lt hB3
      have Hb := Lib.hid hb
      go_wp2_with fail
      refine ⟨⟨1, by omega, rfl, putB_blk_other HA3.out (Nat.ne_of_lt (Nat.lt_succ_self w.heap.size)), putB_blk Hb.out, putB_blk_other HC3.out (Nat.ne_of_gt (Nat.lt_succ_self (w.heap.size + 1))), HK3.out.putB (.inr (by omega)) _ _⟩, by decide⟩
    · have HE := Lib.hid (He.out.keep HK.out)
      have hc1 : wr.cell? ⟨w.heap.size + 2, 4, none⟩ = some (.string ⟨e.toArray⟩) := blk_cell HC.out 4
      have L1 : RowKit.Hid (e.length ≤ 140737488355328) := Lib.hid (HL.out 4)
      have L2 : RowKit.Hid (f.length ≤ 140737488355328) := Lib.hid (HL.out 5)
      have e0 : boxV (qE [a, b, c, d, e, f, g, i, j] 1) (qK [a, b, c, d, e, f, g, i, j] 1) = #[.int .i64 (atoiV b), .int .i64 0, .int .i64 0, .int .i64 (atoiV c), .int .i64 0, .int .i64 0] := rfl
      go_wp2_with fail
      refine (atoi_any e L1.out _ HE.out).mono ?_
      rintro z w1 ⟨⟨x, rfl⟩, hk1⟩
      have HA1 := Lib.hid (blk_mod hk1 HA.out id)
      have HC1 := Lib.hid (blk_mod hk1 HC.out id)
      have HK1 := Lib.hid (HK.out.keep hk1)
      have hB1 := blk_mod hk1 HB.out id
      rw [e0] at hB1
      clear hk1 hc1 e0 HE HA HB HC HK
      rw [← putB_self hB1]
      have hb := blk_lt hB1
      have hc2 := putB_cell_other (w := w1) (b := w.heap.size + 1) (c := #[.int .i64 (atoiV b), .int .i64 (atoiV e), .int .i64 0, .int .i64 (atoiV c), .int .i64 0, .int .i64 0]) (t := 24) (a := ⟨w.heap.size + 2, 5, none⟩) (by simp)
      rw [show w1.cell? ⟨w.heap.size + 2, 5, none⟩ = some (.string ⟨f.toArray⟩) from blk_cell HC1.out 5] at hc2
      go_wp2_with fail
      clear hc2
      have HK2 := Lib.hid (HK1.out.putB (b := w.heap.size + 1) (.inr (by omega)) #[.int .i64 (atoiV b), .int .i64 (atoiV e), .int .i64 0, .int .i64 (atoiV c), .int .i64 0, .int .i64 0] 24)
      have HA2 := Lib.hid (putB_blk_other (c := #[.int .i64 (atoiV b), .int .i64 (atoiV e), .int .i64 0, .int .i64 (atoiV c), .int .i64 0, .int .i64 0]) (t := 24) HA1.out (Nat.ne_of_lt (Nat.lt_succ_self w.heap.size)))
      have HC2 := Lib.hid (putB_blk_other (c := #[.int .i64 (atoiV b), .int .i64 (atoiV e), .int .i64 0, .int .i64 (atoiV c), .int .i64 0, .int .i64 0]) (t := 24) HC1.out (Nat.ne_of_gt (Nat.lt_succ_self (w.heap.size + 1))))
      have HB2 := Lib.hid (putB_blk (c := #[.int .i64 (atoiV b), .int .i64 (atoiV e), .int .i64 0, .int .i64 (atoiV c), .int .i64 0, .int .i64 0]) (t := 24) hb)
      clear HK1 HA1 HC1 hB1
      generalize w1.putB (w.heap.size + 1) #[.int .i64 (atoiV b), .int .i64 (atoiV e), .int .i64 0, .int .i64 (atoiV c), .int .i64 0, .int .i64 0] 24 = w2 at *
      refine (atoi_any f L2.out _ (He.out.keep HK2.out)).mono ?_
      rintro z w3 ⟨⟨y, rfl⟩, hk3⟩
      have HA3 := Lib.hid (blk_mod hk3 HA2.out id)
      have HC3 := Lib.hid (blk_mod hk3 HC2.out id)
      have HK3 := Lib.hid (HK2.out.keep hk3)
      have hB3 := blk_mod hk3 HB2.out id
      clear hk3 HA2 HC2 HK2 HB2 hb
      rw [← putB_self hB3]
      have hb := blk_lt hB3
      have Hb := Lib.hid hb
      go_wp2_with fail
      refine ⟨⟨2, by omega, rfl, putB_blk_other HA3.out (Nat.ne_of_lt (Nat.lt_succ_self w.heap.size)), putB_blk Hb.out, putB_blk_other HC3.out (Nat.ne_of_gt (Nat.lt_succ_self (w.heap.size + 1))), HK3.out.putB (.inr (by omega)) _ _⟩, by decide⟩
    · have HE := Lib.hid (He.out.keep HK.out)
      have hc1 : wr.cell? ⟨w.heap.size + 2, 7, none⟩ = some (.string ⟨i.toArray⟩) := blk_cell HC.out 7
      have L1 : RowKit.Hid (i.length ≤ 140737488355328) := Lib.hid (HL.out 7)
      have L2 : RowKit.Hid (j.length ≤ 140737488355328) := Lib.hid (HL.out 8)
      have e0 : boxV (qE [a, b, c, d, e, f, g, i, j] 2) (qK [a, b, c, d, e, f, g, i, j] 2) = #[.int .i64 (atoiV b), .int .i64 (atoiV e), .int .i64 0, .int .i64 (atoiV c), .int .i64 (atoiV f), .int .i64 0] := rfl
      go_wp2_with fail
      refine (atoi_any i L1.out _ HE.out).mono ?_
      rintro z w1 ⟨⟨x, rfl⟩, hk1⟩
      have HA1 := Lib.hid (blk_mod hk1 HA.out id)
      have HC1 := Lib.hid (blk_mod hk1 HC.out id)
      have HK1 := Lib.hid (HK.out.keep hk1)
      have hB1 := blk_mod hk1 HB.out id
      rw [e0] at hB1
      clear hk1 hc1 e0 HE HA HB HC HK
      rw [← putB_self hB1]
      have hb := blk_lt hB1
      have hc2 := putB_cell_other (w := w1) (b := w.heap.size + 1) (c := #[.int .i64 (atoiV b), .int .i64 (atoiV e), .int .i64 (atoiV i), .int .i64 (atoiV c), .int .i64 (atoiV f), .int .i64 0]) (t := 24) (a := ⟨w.heap.size + 2, 8, none⟩) (by simp)
      rw [show w1.cell? ⟨w.heap.size + 2, 8, none⟩ = some (.string ⟨j.toArray⟩) from blk_cell HC1.out 8] at hc2
      go_wp2_with fail
      clear hc2
      have HK2 := Lib.hid (HK1.out.putB (b := w.heap.size + 1) (.inr (by omega)) #[.int .i64 (atoiV b), .int .i64 (atoiV e), .int .i64 (atoiV i), .int .i64 (atoiV c), .int .i64 (atoiV f), .int .i64 0] 24)
      have HA2 := Lib.hid (putB_blk_other (c := #[.int .i64 (atoiV b), .int .i64 (atoiV e), .int .i64 (atoiV i), .int .i64 (atoiV c), .int .i64 (atoiV f), .int .i64 0]) (t := 24) HA1.out (Nat.ne_of_lt (Nat.lt_succ_self w.heap.size)))
      have HC2 := Lib.hid (putB_blk_other (c := #[.int .i64 (atoiV b), .int .i64 (atoiV e), .int .i64 (atoiV i), .int .i64 (atoiV c), .int .i64 (atoiV f), .int .i64 0]) (t := 24) HC1.out (Nat.ne_of_gt (Nat.lt_succ_self (w.heap.size + 1))))
      have HB2 := Lib.hid (putB_blk (c := #[.int .i64 (atoiV b), .int .i64 (atoiV e), .int .i64 (atoiV i), .int .i64 (atoiV c), .int .i64 (atoiV f), .int .i64 0]) (t := 24) hb)
      clear HK1 HA1 HC1 hB1
      generalize w1.putB (w.heap.size + 1) #[.int .i64 (atoiV b), .int .i64 (atoiV e), .int .i64 (atoiV i), .int .i64 (atoiV c), .int .i64 (atoiV f), .int .i64 0] 24 = w2 at *
      refine (atoi_any j L2.out _ (He.out.keep HK2.out)).mono ?_
      rintro z w3 ⟨⟨y, rfl⟩, hk3⟩
      have HA3 := Lib.hid (blk_mod hk3 HA2.out id)
      have HC3 := Lib.hid (blk_mod hk3 HC2.out id)
      have HK3 := Lib.hid (HK2.out.keep hk3)
      have hB3 := blk_mod hk3 HB2.out id
      clear hk3 HA2 HC2 HK2 HB2 hb
      rw [← putB_self hB3]
      have hb := blk_lt hB3
      have Hb := Lib.hid hb
      go_wp2_with fail
      refine ⟨⟨3, by omega, rfl, putB_blk_other HA3.out (Nat.ne_of_lt (Nat.lt_succ_self w.heap.size)), putB_blk Hb.out, putB_blk_other HC3.out (Nat.ne_of_gt (Nat.lt_succ_self (w.heap.size + 1))), HK3.out.putB (.inr (by omega)) _ _⟩, by decide⟩
    · have HE := Lib.hid (He.out.keep HK.out)
      have hB0 : World.blk wr (w.heap.size + 1) #[.int .i64 (atoiV b), .int .i64 (atoiV e), .int .i64 (atoiV i), .int .i64 (atoiV c), .int .i64 (atoiV f), .int .i64 (atoiV j)] 24 := HB.out
      have hbx := box_cells HB.out
      rw [show qE [a, b, c, d, e, f, g, i, j] 3 0 = atoiV b from rfl, show qE [a, b, c, d, e, f, g, i, j] 3 1 = atoiV e from rfl, show qE [a, b, c, d, e, f, g, i, j] 3 2 = atoiV i from rfl, show qK [a, b, c, d, e, f, g, i, j] 3 0 = atoiV c from rfl, show qK [a, b, c, d, e, f, g, i, j] 3 1 = atoiV f from rfl, show qK [a, b, c, d, e, f, g, i, j] 3 2 = atoiV j from rfl] at hbx
      have hpr : Calls Tryd.prog 10 #[.agg #[.int .i64 (atoiV b), .int .i64 (atoiV e), .int .i64 (atoiV i), .int .i64 (atoiV c), .int .i64 (atoiV f), .int .i64 (atoiV j)]] wr fun z w' => z = .returned (printV (qE [a, b, c, d, e, f, g, i, j] 3) (qK [a, b, c, d, e, f, g, i, j] 3)) ∧ Keep wr w' := print_any (qE [a, b, c, d, e, f, g, i, j] 3) (qK [a, b, c, d, e, f, g, i, j] 3) wr HE.out
      have Hpr := Lib.hid hpr
      clear hpr hB0
      go_wp2_with fail
      refine Hpr.out.mono ?_
      rintro z w1 ⟨rfl, hk1⟩
      have hA1 := blk_mod hk1 HA.out id
      have hB1 : World.blk w1 (w.heap.size + 1) #[.int .i64 (atoiV b), .int .i64 (atoiV e), .int .i64 (atoiV i), .int .i64 (atoiV c), .int .i64 (atoiV f), .int .i64 (atoiV j)] 24 := blk_mod hk1 HB.out id
      have HK1 := Lib.hid (HK.out.keep hk1)
      clear hk1 HE HA HB HC HK hbx Hpr
      by_cases hh : polFits (qE [a, b, c, d, e, f, g, i, j] 3) (qK [a, b, c, d, e, f, g, i, j] 3) ∧ polText (qE [a, b, c, d, e, f, g, i, j] 3) (qK [a, b, c, d, e, f, g, i, j] 3) = s
      · rw [printV, if_pos hh.1, hh.2]
        have Hv : RowKit.Hid (parseV s = .tuple #[.agg #[.int .i64 (atoiV b), .int .i64 (atoiV e), .int .i64 (atoiV i), .int .i64 (atoiV c), .int .i64 (atoiV f), .int .i64 (atoiV j)], .int .i64 0]) := Lib.hid (by rw [Hp.out, if_pos ⟨rfl, hh⟩]; rfl)
        have hlt := blk_lt hA1
        have hbx := box_cells (E := qE [a, b, c, d, e, f, g, i, j] 3) (K := qK [a, b, c, d, e, f, g, i, j] 3) (putB_blk_other (c := boxV (fun _ => 0) (fun _ => 0)) (t := 24) hB1 (Nat.ne_of_gt (Nat.lt_succ_self w.heap.size)))
        rw [show qE [a, b, c, d, e, f, g, i, j] 3 0 = atoiV b from rfl, show qE [a, b, c, d, e, f, g, i, j] 3 1 = atoiV e from rfl, show qE [a, b, c, d, e, f, g, i, j] 3 2 = atoiV i from rfl, show qK [a, b, c, d, e, f, g, i, j] 3 0 = atoiV c from rfl, show qK [a, b, c, d, e, f, g, i, j] 3 1 = atoiV f from rfl, show qK [a, b, c, d, e, f, g, i, j] 3 2 = atoiV j from rfl] at hbx
        rw [← putB_self hA1]
        clear hA1 hB1 hh
        unfold boxV at *
        go_wp2_with fail
        exact bodyPost_ret (v := .tuple #[.agg #[.int .i64 (atoiV b), .int .i64 (atoiV e), .int .i64 (atoiV i), .int .i64 (atoiV c), .int .i64 (atoiV f), .int .i64 (atoiV j)], .int .i64 0]) (by simp [results, Tryd.results12, go_sem, hlt]) rfl ⟨by rw [Hv.out], HK1.out.putB (.inr (Nat.le_refl _)) _ _⟩
      · have Hv : RowKit.Hid (parseV s = .tuple #[polZ, .int .i64 220]) := Lib.hid (by rw [Hp.out, if_neg (fun h => hh h.2)])
        have hm : ∃ m er, printV (qE [a, b, c, d, e, f, g, i, j] 3) (qK [a, b, c, d, e, f, g, i, j] 3) = .tuple #[.string ⟨m.toArray⟩, .int .i64 er] ∧ (er = 220 ∨ (er = 0 ∧ (m == s) = false)) := by
          rw [printV]
          split
          · exact ⟨_, _, rfl, .inr ⟨rfl, beq_false_of_ne (fun e => hh ⟨by assumption, e⟩)⟩⟩
          · exact ⟨[], _, rfl, .inl rfl⟩
        obtain ⟨m, er, hm1, hm2⟩ := hm
        rw [hm1]
        have hlt := blk_lt hA1
        rw [← putB_self hA1]
        clear hA1 hB1 hh hm1
        unfold boxV at *
        rcases hm2 with rfl | ⟨rfl, hne⟩
        all_goals
          go_wp2_with fail
          exact bodyPost_ret (v := .tuple #[.agg #[.int .i64 0, .int .i64 0, .int .i64 0, .int .i64 0, .int .i64 0, .int .i64 0], .int .i64 220]) (by simp [results, Tryd.results12, go_sem, hlt]) rfl ⟨by rw [Hv.out]; rfl, HK1.out.putB (.inr (Nat.le_refl _)) _ _⟩
  · have hq : ((l.length : Int) != 9) = true := by rw [bne_iff_ne]; omega
    have Hv : RowKit.Hid (parseV s = .tuple #[polZ, .int .i64 220]) := Lib.hid (by rw [Hp.out, if_neg (fun h => hl h.1)])
    have hlt := blk_lt hA
    have hby := box_cells (putB_blk_other (c := boxV (fun _ => 0) (fun _ => 0)) (t := 24) hB (Nat.ne_of_gt (Nat.lt_succ_self w.heap.size)))
    rw [← putB_self hA]
    clear hA hB hl
    unfold boxV at *
    go_wp2_with fail
    exact bodyPost_ret (v := .tuple #[.agg #[.int .i64 0, .int .i64 0, .int .i64 0, .int .i64 0, .int .i64 0, .int .i64 0], .int .i64 220]) (by simp [results, Tryd.results12, go_sem, hlt]) rfl ⟨by rw [Hv.out]; rfl, HK.out.putB (.inr (Nat.le_refl _)) _ _⟩
end Go.Proofs.YthopldpaoeabnaaDoor
