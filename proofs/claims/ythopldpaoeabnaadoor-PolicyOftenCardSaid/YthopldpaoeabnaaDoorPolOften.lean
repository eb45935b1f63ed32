/-
  PolicyOften's walk.
-/
import Derived.Test.YthopldpaoeabnaaDoorPolOftenL
import Derived.Test.YthopldpaoeabnaaDoorPolFixed
namespace Go.Proofs.YthopldpaoeabnaaDoor
open Go.RowKit
theorem own_mod2 {w w' : World} {base n : Nat} {t : TypeId} {v : Value} {xs : List Value} {S : Nat → Prop} (h : w.ownsRow base t 1 v n xs) (k : Mod S w w') (hS : ∀ b, base ≤ b → ¬ S b) : w'.ownsRow base t 1 v n xs := by
  obtain ⟨h1, h2⟩ := h
  refine ⟨h1, ?_⟩
  rcases h2 with h2 | ⟨g, cap, cur, a, b, c, d⟩
  · exact .inl h2
  · exact .inr ⟨g, cap, cur, a, b, k.obj c (hS g b), d⟩
theorem own_cell {w : World} {base n len cap m : Nat} {t : TypeId} {a : Option Addr} {xs : List Value} {x : Value} (h : w.ownsRow base t 1 (.slice a len cap) n xs) (hx : xs[m]? = some x) : ∃ b, a = some ⟨b, 0, none⟩ ∧ base ≤ b ∧ w.cell? ⟨b, m, none⟩ = some x := by
  have hr := row_of_own h
  obtain ⟨a', c', hv, hc⟩ := hr
  obtain ⟨b, o, ha, hcell⟩ := hc m x hx
  cases hv
  obtain ⟨h1, h2⟩ := h
  rcases h2 with ⟨hv, h3⟩ | ⟨g, cp, cur, hv, hb, hg, _⟩
  · exfalso
    subst h3
    have := (List.getElem?_eq_some_iff.1 hx).1
    omega
  · cases hv
    cases ha
    rw [Nat.zero_add] at hcell
    exact ⟨_, rfl, hb, hcell⟩
def cnt (a : Nat → Int) : Array Value := #[.int .i64 (a 0), .int .i64 (a 1), .int .i64 (a 2)]
theorem and_2047 (x : Int) : ∃ n : Nat, n ≤ 2047 ∧ bits .and .i64 x 2047 = (n : Int) := by
  refine ⟨(BitVec.ofInt 64 x).toNat &&& 2047, Nat.and_le_right, ?_⟩
  have hle : (BitVec.ofInt 64 x).toNat &&& 2047 ≤ 2047 := Nat.and_le_right
  have h2 : (BitVec.ofInt 64 (2047 : Int)).toNat = 2047 := by decide
  show IntKind.i64.wrap ((BitVec.ofInt 64 x &&& BitVec.ofInt 64 (2047 : Int)).toNat : Int) = _
  rw [BitVec.toNat_and, h2, IntKind.wrap_i64]
  omega
set_option maxRecDepth 100000 in
set_option maxHeartbeats 1000000 in
theorem law_often (E K : Nat → Int) (ticks : Int) (w : World) (he : Env w) (hE : ∀ i, i < 3 → -9223372036854775808 ≤ E i ∧ E i ≤ 9223372036854775807) :
    Calls Tryd.prog 9 #[polV E K, .int .i64 ticks] w fun e w' => e = .returned (.bool true) ∧ Keep w w' := by
  have He := Lib.hid he
  have HE := Lib.hid hE
  clear he hE
  obtain ⟨N, hN, hb⟩ := and_2047 ticks
  go_enter Tryd.func9, Tryd.ntmps9
  unfold polV
  go_wp2_with fail
  go_loopw [7] (fun i wr => ∃ (k : Nat), k ≤ N ∧ i = .int .i64 ((k : Int) + 1) ∧ World.blk wr w.heap.size (boxV E K) 24 ∧ World.blk wr (w.heap.size + 1) (cnt (often E k)) 3 ∧ Keep w wr) (fun i _ => N + 1 - (intOf i).toNat)
  case atStart => exact ⟨0, by omega, rfl, blk_alloc (blk_new _ _ _) _, by rw [show cnt (often E 0) = #[.int .i64 0, .int .i64 0, .int .i64 0] by simp [cnt, often_zero]]; exact blk_new_atD (by simp) _ _, ((Mod.refl _ _).alloc _).alloc _⟩
  case round =>
    obtain ⟨k, hk, rfl, hB, hC, hK⟩ := hrel
    have HB := Lib.hid hB
    have HC := Lib.hid hC
    have HK := Lib.hid hK
    have hbx := box_cells hB
    have Hlt := Lib.hid (blk_lt hC)
    clear hB hC hK hb
    by_cases hlt : k < N
    · go_wp2_with fail
      refine (due_any E K ((k : Int) + 1) wr HE.out (by omega)).mono ?_
      rintro e w1 ⟨v, rfl, hk1, ho⟩
      have HB1 := Lib.hid (blk_mod hk1 HB.out id)
      have HC1 := Lib.hid (blk_mod hk1 HC.out id)
      have HK1 := Lib.hid (HK.out.keep hk1)
      have HV1 := Lib.hid ho
      have H8 := Lib.hid (asc8 _ (due8 E ((k : Int) + 1)))
      have Hall := Lib.hid (ind_all E ((k : Int) + 1))
      have hn : (due E ((k : Int) + 1) 3).length ≤ 3 := due_len _ _ 3
      have Hob : RowKit.Hid (∀ c, 0 ≤ often E k c ∧ often E k c ≤ 2048) := Lib.hid (fun c => by
        unfold often
        split
        · rename_i h
          exact ⟨Int.ediv_nonneg (by omega) (by omega), Int.le_trans (Int.ediv_le_self _ (by omega)) (by omega)⟩
        · omega)
      generalize due E ((k : Int) + 1) 3 = l at *
      clear hk1 ho HB HC HK hbx
      obtain ⟨B0, hB0⟩ : ∃ B0, wr.heap.size = B0 := ⟨_, rfl⟩
      rw [hB0] at HV1 Hlt
      clear hB0
      obtain ⟨n, hln⟩ : ∃ n, l.length = n := ⟨_, rfl⟩
      have hrow := row_of_own HV1.out
      obtain ⟨ra, rcap, hv, _⟩ := hrow
      rw [ints_len, hln] at hv
      subst hv
      rw [hln] at hn
      have Hln := Lib.hid hln
      clear hln
      go_wp2_with fail
      go_loopw [9, 10] (fun la i wr => ∃ (m : Nat), m ≤ n ∧ i = .int .i64 (m : Int) ∧ la = .int .i64 (lastOf l m) ∧ World.blk wr w.heap.size (boxV E K) 24 ∧ World.blk wr (w.heap.size + 1) (cnt (fun c => often E k c + ind l m c)) 3 ∧ Keep w wr ∧ OwnInts wr B0 (.slice ra n rcap) l) (fun _ i _ => n - (intOf i).toNat)
      case atStart => exact ⟨0, by omega, rfl, rfl, HB1.out, by simp [ind]; exact HC1.out, HK1.out, HV1.out⟩
      case round =>
        clear HB1 HC1 HK1 HV1
        obtain ⟨m, hm, rfl, rfl, hB, hC, hK, hV⟩ := hrel
        have HB := Lib.hid hB
        have HK := Lib.hid hK
        have HV := Lib.hid hV
        have HC := Lib.hid hC
        clear hB hK hV hC
        by_cases hmn : m < n
        · obtain ⟨x, hx⟩ : ∃ x, l[m]? = some x := ⟨_, List.getElem?_eq_getElem (by rw [Hln.out]; exact hmn)⟩
          obtain ⟨hx1, hx2, _⟩ := H8.out m x hx
          have Hx := Lib.hid hx
          have Hst := Lib.hid (fun c => ind_step (H8.out m) hx c)
          obtain ⟨b, hra, hbB, c1⟩ := own_cell HV.out (m := m) (x := .int .i64 x) (by simp [ints, hx])
          subst hra
          have hl3 := Hlt.out
          have Hla : RowKit.Hid (lastOf l (m + 1) = x) := Lib.hid (by rw [lastOf, if_neg (by omega)]; simp [List.getD, hx])
          have nl : ¬ x ≤ lastOf l m := by omega
          have n2 : ¬ x > 2 := by omega
          generalize lastOf l m = la at *
          have Hab : RowKit.Hid (∀ c, 0 ≤ often E k c + ind l m c ∧ often E k c + ind l m c ≤ 2049) := Lib.hid (fun c => by have := Hob.out c; unfold ind; split <;> omega)
          clear hx hx2
          rcases hx1 with rfl | rfl | rfl
          · have hC2 : World.blk wr (w.heap.size + 1) #[.int .i64 (often E k 0 + ind l m 0), .int .i64 (often E k 1 + ind l m 1), .int .i64 (often E k 2 + ind l m 2)] 3 := HC.out
            have hb2 := blk_lt hC2
            have Hb2 := Lib.hid hb2
            have hb3 := (Hab.out 0)
            have c3 := (putB_cell_other (w := wr) (b := w.heap.size + 1) (c := #[.int .i64 (often E k 0 + ind l m 0), .int .i64 (often E k 1 + ind l m 1), .int .i64 (often E k 2 + ind l m 2)]) (t := 3) (a := ⟨b, m, none⟩) (by simp; omega)).trans c1
            rw [← putB_self hC2]
            clear hC2 c1
            go_wp2_with fail
            refine ⟨⟨m + 1, by omega, by go_num, by rw [Hla.out], putB_blk_other HB.out (Nat.ne_of_lt (Nat.lt_succ_self w.heap.size)), ?_, HK.out.putB (.inr (by omega)) _ _, own_mod2 HV.out ((Mod.refl (· = w.heap.size + 1) wr).putB (.inl rfl) _ _) (fun b hb e => by omega)⟩, by simp [intOf]; omega⟩
            have e : cnt (fun c => often E k c + ind l (m + 1) c) = #[.int .i64 (often E k 0 + ind l m 0 + 1), .int .i64 (often E k 1 + ind l m 1), .int .i64 (often E k 2 + ind l m 2)] := by
              simp only [cnt, Hst.out]
              simp [Int.add_assoc]
            rw [e]; exact putB_blk Hb2.out
          · have hC2 : World.blk wr (w.heap.size + 1) #[.int .i64 (often E k 0 + ind l m 0), .int .i64 (often E k 1 + ind l m 1), .int .i64 (often E k 2 + ind l m 2)] 3 := HC.out
            have hb2 := blk_lt hC2
            have Hb2 := Lib.hid hb2
            have hb3 := (Hab.out 1)
            have c3 := (putB_cell_other (w := wr) (b := w.heap.size + 1) (c := #[.int .i64 (often E k 0 + ind l m 0), .int .i64 (often E k 1 + ind l m 1), .int .i64 (often E k 2 + ind l m 2)]) (t := 3) (a := ⟨b, m, none⟩) (by simp; omega)).trans c1
            rw [← putB_self hC2]
            clear hC2 c1
            go_wp2_with fail
            refine ⟨⟨m + 1, by omega, by go_num, by rw [Hla.out], putB_blk_other HB.out (Nat.ne_of_lt (Nat.lt_succ_self w.heap.size)), ?_, HK.out.putB (.inr (by omega)) _ _, own_mod2 HV.out ((Mod.refl (· = w.heap.size + 1) wr).putB (.inl rfl) _ _) (fun b hb e => by omega)⟩, by simp [intOf]; omega⟩
            have e : cnt (fun c => often E k c + ind l (m + 1) c) = #[.int .i64 (often E k 0 + ind l m 0), .int .i64 (often E k 1 + ind l m 1 + 1), .int .i64 (often E k 2 + ind l m 2)] := by
              simp only [cnt, Hst.out]
              simp [Int.add_assoc]
            rw [e]; exact putB_blk Hb2.out
          · have hC2 : World.blk wr (w.heap.size + 1) #[.int .i64 (often E k 0 + ind l m 0), .int .i64 (often E k 1 + ind l m 1), .int .i64 (often E k 2 + ind l m 2)] 3 := HC.out
            have hb2 := blk_lt hC2
            have Hb2 := Lib.hid hb2
            have hb3 := (Hab.out 2)
            have c3 := (putB_cell_other (w := wr) (b := w.heap.size + 1) (c := #[.int .i64 (often E k 0 + ind l m 0), .int .i64 (often E k 1 + ind l m 1), .int .i64 (often E k 2 + ind l m 2)]) (t := 3) (a := ⟨b, m, none⟩) (by simp; omega)).trans c1
            rw [← putB_self hC2]
            clear hC2 c1
            go_wp2_with fail
            refine ⟨⟨m + 1, by omega, by go_num, by rw [Hla.out], putB_blk_other HB.out (Nat.ne_of_lt (Nat.lt_succ_self w.heap.size)), ?_, HK.out.putB (.inr (by omega)) _ _, own_mod2 HV.out ((Mod.refl (· = w.heap.size + 1) wr).putB (.inl rfl) _ _) (fun b hb e => by omega)⟩, by simp [intOf]; omega⟩
            have e : cnt (fun c => often E k c + ind l (m + 1) c) = #[.int .i64 (often E k 0 + ind l m 0), .int .i64 (often E k 1 + ind l m 1), .int .i64 (often E k 2 + ind l m 2 + 1)] := by
              simp only [cnt, Hst.out]
              simp [Int.add_assoc]
            rw [e]; exact putB_blk Hb2.out
        · have hmn2 : m = n := by omega
          subst hmn2
          go_wp2_with fail
          refine ⟨⟨k + 1, by omega, by go_num, HB.out, ?_, HK.out⟩, by simp [intOf]; omega⟩
          have e : cnt (fun c => often E k c + ind l m c) = cnt (often E (k + 1)) := by
            unfold cnt
            have h := fun c hc => Hall.out c hc
            rw [Hln.out] at h
            simp only [often_step, h 0 (by omega), h 1 (by omega), h 2 (by omega)]
          rw [← e]; exact HC.out
    · have hkn : k = N := by omega
      subst hkn
      go_wp2_with fail
      go_loopw [11] (fun i wr => ∃ (c : Nat), c ≤ 3 ∧ i = .int .i64 (c : Int) ∧ World.blk wr w.heap.size (boxV E K) 24 ∧ World.blk wr (w.heap.size + 1) (cnt (often E k)) 3 ∧ Keep w wr) (fun i _ => 3 - (intOf i).toNat)
      case atStart => exact ⟨0, by omega, rfl, HB.out, HC.out, HK.out⟩
      case round =>
        clear HB HC HK hbx
        obtain ⟨c, hc, rfl, hB, hC, hK⟩ := hrel
        have HB := Lib.hid hB
        have HK := Lib.hid hK
        have HC := Lib.hid hC
        have hbx := box_cells hB
        clear hB hK hC
        rcases (by omega : c = 0 ∨ c = 1 ∨ c = 2 ∨ c = 3) with rfl | rfl | rfl | rfl
        case inr.inr.inr =>
          go_wp2_with fail
          refine (fixed_any wr (He.out.keep HK.out)).mono ?_
          rintro e w1 ⟨rfl, hk1⟩
          have HK1 := Lib.hid (HK.out.keep hk1)
          clear hk1
          go_wp2_with fail
          go_ret
          exact ⟨rfl, HK1.out⟩
        · have c1 : wr.cell? ⟨w.heap.size + 1, 0, none⟩ = some (.int .i64 (often E k 0)) := blk_cell HC.out 0
          have q1 : IntKind.i64.wrap 1 = 1 := rfl
          have q2 : IntKind.i64.wrap 2 = 2 := rfl
          have q3 : IntKind.i64.wrap 3 = 3 := rfl
          by_cases hp : E 0 > 0
          · have e1 : (k : Int).tdiv (E 0) = often E k 0 := by rw [Int.tdiv_eq_ediv_of_nonneg (by omega), often, if_pos hp]
            have hne : ¬ E 0 = 0 := by omega
            have e2 : 0 ≤ often E k 0 ∧ often E k 0 ≤ 2047 := by
              rw [often, if_pos hp]; exact ⟨Int.ediv_nonneg (by omega) (by omega), Int.le_trans (Int.ediv_le_self _ (by omega)) (by omega)⟩
            have e3 : IntKind.i64.wrap (often E k 0) = often E k 0 := by rw [IntKind.wrap_i64]; omega
            generalize often E k 0 = q at e1 e2 e3 c1
            go_wp2_with fail
            exact ⟨⟨1, by omega, rfl, HB.out, HC.out, HK.out⟩, by decide⟩
          · have e1 : often E k 0 = 0 := by rw [often, if_neg hp]
            rw [e1] at c1
            go_wp2_with fail
            exact ⟨⟨1, by omega, rfl, HB.out, HC.out, HK.out⟩, by decide⟩
        · have c1 : wr.cell? ⟨w.heap.size + 1, 1, none⟩ = some (.int .i64 (often E k 1)) := blk_cell HC.out 1
          have q1 : IntKind.i64.wrap 1 = 1 := rfl
          have q2 : IntKind.i64.wrap 2 = 2 := rfl
          have q3 : IntKind.i64.wrap 3 = 3 := rfl
          by_cases hp : E 1 > 0
          · have e1 : (k : Int).tdiv (E 1) = often E k 1 := by rw [Int.tdiv_eq_ediv_of_nonneg (by omega), often, if_pos hp]
            have hne : ¬ E 1 = 0 := by omega
            have e2 : 0 ≤ often E k 1 ∧ often E k 1 ≤ 2047 := by
              rw [often, if_pos hp]; exact ⟨Int.ediv_nonneg (by omega) (by omega), Int.le_trans (Int.ediv_le_self _ (by omega)) (by omega)⟩
            have e3 : IntKind.i64.wrap (often E k 1) = often E k 1 := by rw [IntKind.wrap_i64]; omega
            generalize often E k 1 = q at e1 e2 e3 c1
            go_wp2_with fail
            exact ⟨⟨2, by omega, rfl, HB.out, HC.out, HK.out⟩, by decide⟩
          · have e1 : often E k 1 = 0 := by rw [often, if_neg hp]
            rw [e1] at c1
            go_wp2_with fail
            exact ⟨⟨2, by omega, rfl, HB.out, HC.out, HK.out⟩, by decide⟩
        · have c1 : wr.cell? ⟨w.heap.size + 1, 2, none⟩ = some (.int .i64 (often E k 2)) := blk_cell HC.out 2
          have q1 : IntKind.i64.wrap 1 = 1 := rfl
          have q2 : IntKind.i64.wrap 2 = 2 := rfl
          have q3 : IntKind.i64.wrap 3 = 3 := rfl
          by_cases hp : E 2 > 0
          · have e1 : (k : Int).tdiv (E 2) = often E k 2 := by rw [Int.tdiv_eq_ediv_of_nonneg (by omega), often, if_pos hp]
            have hne : ¬ E 2 = 0 := by omega
            have e2 : 0 ≤ often E k 2 ∧ often E k 2 ≤ 2047 := by
              rw [often, if_pos hp]; exact ⟨Int.ediv_nonneg (by omega) (by omega), Int.le_trans (Int.ediv_le_self _ (by omega)) (by omega)⟩
            have e3 : IntKind.i64.wrap (often E k 2) = often E k 2 := by rw [IntKind.wrap_i64]; omega
            generalize often E k 2 = q at e1 e2 e3 c1
            go_wp2_with fail
            exact ⟨⟨3, by omega, rfl, HB.out, HC.out, HK.out⟩, by decide⟩
          · have e1 : often E k 2 = 0 := by rw [often, if_neg hp]
            rw [e1] at c1
            go_wp2_with fail
            exact ⟨⟨3, by omega, rfl, HB.out, HC.out, HK.out⟩, by decide⟩
end Go.Proofs.YthopldpaoeabnaaDoor
