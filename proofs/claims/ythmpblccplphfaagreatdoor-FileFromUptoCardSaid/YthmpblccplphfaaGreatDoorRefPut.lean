/-
  The reference's tree of files: a node, its entries, what names name.
  The reference's tree of files: Get, Read, List.
  The reference's tree of files: List.
  The reference's tree of files: a node is put, or dropped.
-/
import Derived.Test.YthmpblccplphfaaGreatDoorRefParse
import Derived.Test.YthmpblccplphfaaGreatDoorFilIn
import Derived.Test.YthmpblccplphfaaGreatDoorCmdPathR
import Derived.Maps.AppendAt
namespace Go.Proofs.YthmpblccplphfaaGreatDoor
section
open Go.RowKit
/-- the reference's tree in memory -/
structure RefAt (w : World) (t : Nat) (l : List Nt) : Prop where
  row : ∃ a cap, World.blk w t #[.slice a l.length cap] 55 ∧ ∀ j x, l[j]? = some x → ∃ b o, a = some ⟨b, o, none⟩ ∧ b ≠ t ∧ ∀ i c, (nodeC x)[i]? = some c → w.cell? ⟨b, o + j * 4 + i, none⟩ = some c
theorem RefAt.keep {w w' : World} {t : Nat} {l : List Nt} (h : RefAt w t l) (k : Keep w w') : RefAt w' t l := by
  obtain ⟨a, cap, hb, hx⟩ := h.row
  refine ⟨a, cap, blk_mod k hb id, fun j x hj => ?_⟩
  obtain ⟨b, o, e, hne, hc⟩ := hx j x hj
  exact ⟨b, o, e, hne, fun i c hi => by rw [k.cell (p := ⟨b, o + j * 4 + i, none⟩) (lt_of_cell (hc i c hi)) id]; exact hc i c hi⟩
def idxL (l : List Nt) (num : Int) : Int := match l.findIdx? (fun x => x.num == num) with | some i => (i : Int) | none => -1
section
variable {w : World} {t : Nat} {l : List Nt}
theorem find_idx_take {l : List Nt} {p : Nt → Bool} {k : Nat} {x : Nt} (hx : l[k]? = some x) (hp : p x = true) (h : ∀ y ∈ l.take k, p y = false) : l.findIdx? p = some k := by
  rw [List.findIdx?_eq_some_iff_getElem]
  obtain ⟨hk, rfl⟩ := List.getElem?_eq_some_iff.1 hx
  refine ⟨hk, hp, fun j hj => ?_⟩
  have := h l[j] (List.mem_take_iff_getElem.2 ⟨j, by omega, rfl⟩)
  simp [this]
set_option maxRecDepth 100000 in
set_option maxHeartbeats 4000000 in
theorem rnode_any (h : RefAt w t l) (hl : l.length ≤ 1000) (num : Int) : Calls Tryz.prog 62 #[.pointer (some ⟨t, 0, none⟩), .int .i64 num] w fun e w' => e = .returned (.int .i64 (idxL l num)) ∧ Keep w w' := by
  obtain ⟨a, cap, hb, hx⟩ := h.row
  have HB := Lib.hid hb
  have HX := Lib.hid hx
  have hli : (l.length : Int) ≤ 1000 := by omega
  clear h hb hx
  go_enter Tryz.func62, Tryz.ntmps62
  go_wp2_with fail
  have c0 : w.cell? ⟨t, 0, none⟩ = some (.slice a l.length cap) := blk_cell HB.out 0
  go_loop [5] (fun i => ∃ k : Nat, k ≤ l.length ∧ i = .int .i64 (k : Int) ∧ RowKit.Hid (∀ y ∈ l.take k, (y.num == num) = false)) (fun i => l.length - (intOf i).toNat)
  case atStart => exact ⟨0, by omega, rfl, Lib.hid (by simp)⟩
  case round =>
    obtain ⟨k, hk, rfl, Hn⟩ := hrel
    by_cases hlt : k < l.length
    · obtain ⟨x, hx⟩ : ∃ x, l[k]? = some x := ⟨_, List.getElem?_eq_getElem hlt⟩
      obtain ⟨b, o, rfl, hne, hc⟩ := HX.out k x hx
      have x0 : w.cell? ⟨b, o + k * 4, none⟩ = some (.int .i64 x.num) := hc 0 _ rfl
      have hkl : (k : Int) < l.length := by omega
      have Hx := Lib.hid hx
      clear hx hc hne
      cases hq : (x.num == num) with
      | true =>
        have Hv : RowKit.Hid (idxL l num = (k : Int)) := Lib.hid (by
          unfold idxL
          rw [find_idx_take (p := fun x => x.num == num) Hx.out hq Hn.out])
        go_wp2_with fail
        go_ret
        exact ⟨by rw [Hv.out]; rfl, Mod.refl _ _⟩
      | false =>
        have Hn2 : RowKit.Hid (∀ y ∈ l.take (k + 1), (y.num == num) = false) := Lib.hid fun y hy => by
          rw [take_snoc Hx.out] at hy
          rcases List.mem_append.1 hy with hy | hy
          · exact Hn.out y hy
          · rw [List.mem_singleton] at hy; rw [hy]; exact hq
        go_wp2_with fail
        exact ⟨⟨k + 1, by omega, by go_num, Hn2⟩, by simp [intOf]; omega⟩
    · obtain rfl : k = l.length := by omega
      have Hv : RowKit.Hid (idxL l num = -1) := Lib.hid (by
        unfold idxL
        rw [List.findIdx?_eq_none_iff.2 fun y hy => ?_]
        have := Hn.out y (by rw [List.take_length]; exact hy)
        simp [this])
      clear hlt
      go_wp2_with fail
      go_ret
      exact ⟨by rw [Hv.out]; rfl, Mod.refl _ _⟩
set_option maxRecDepth 100000 in
/-- a directory's entries -/
theorem rents_any (n : Nd) (hd : n.dir = true) (hok : entsOk n.names = true) (x : Int) (y : Int) (w : World) : Calls Tryz.prog 56 #[.agg #[.int .i64 x, .bool true, .int .i64 y, .string ⟨(encE n.names).toArray⟩]] w fun e w' => ∃ v, e = .returned v ∧ OwnF entC 2 98 w' w.heap.size v n.names ∧ Keep w w' := by
  have Hok := Lib.hid hok
  clear hd hok
  go_enter Tryz.func56, Tryz.ntmps56
  go_wp2_with fail
  refine (rparsee_ok n.names Hok.out _).mono ?_
  rintro e w1 ⟨v, rfl, ho, hk⟩
  have HO := Lib.hid ho
  have HK := Lib.hid hk
  have hsz := hk.size
  clear ho hk
  go_wp2_with fail
  go_ret
  exact ⟨v, rfl, own_belowF HO.out (by simp), unalloc HK.out⟩
end
/-! ### numbers and places -/
section
variable {T : Tr} {d : Int → Nat} {off : Int → Int}
theorem told_at {i : Nat} {n : Nd} (h : T[i]? = some n) : (toldT T)[i]? = some n.told := by simp [toldT, h]
theorem idx_some (hs : Sorted T) {k : Int} {n : Nd} (hg : T.get k = some n) : ∃ i : Nat, T[i]? = some n ∧ idxL (toldT T) k = (i : Int) := by
  obtain ⟨hm, hk⟩ := (get_iff hs).1 hg
  obtain ⟨i, hi⟩ := List.mem_iff_getElem?.1 hm
  refine ⟨i, hi, ?_⟩
  unfold idxL
  rw [find_idx_take (p := fun x => x.num == k) (told_at hi) (by show (n.num == k) = true; simp [hk]) fun y hy => ?_]
  obtain ⟨j, hj⟩ := List.mem_iff_getElem?.1 hy
  rw [List.getElem?_take] at hj
  split at hj
  · rename_i hlt
    simp only [toldT, List.getElem?_map] at hj
    cases hm : T[j]? with
    | none => rw [hm] at hj; cases hj
    | some m =>
      rw [hm] at hj
      obtain rfl := Option.some.inj hj
      have := sorted_lt hs hm hi hlt
      show (m.num == k) = false
      exact beq_false_of_ne (by omega)
  · cases hj
theorem idx_none {k : Int} (hg : T.get k = none) : idxL (toldT T) k = -1 := by
  unfold idxL
  rw [List.findIdx?_eq_none_iff.2 fun y hy => ?_]
  obtain ⟨n, hn, rfl⟩ := List.mem_map.1 hy
  have := get_none.1 hg n hn
  show (n.num == k) = false
  exact beq_false_of_ne this
theorem get_take {l : Nm} (hs : SortedN l) {j : Nat} {x : List UInt8 × Int} (hx : l[j]? = some x) (s : List UInt8) : getN s (l.take (j + 1)) = if x.1 = s then some x.2 else getN s (l.take j) := by
  rw [take_snoc hx]
  unfold getN getG
  rw [List.find?_append]
  by_cases h : x.1 = s
  · rw [if_pos h]
    have hno : (l.take j).find? (fun p => p.1 == s) = none := by
      rw [List.find?_eq_none]
      intro p hp
      obtain ⟨i, hi⟩ := List.mem_iff_getElem?.1 hp
      rw [List.getElem?_take] at hi
      split at hi
      · rename_i hlt
        obtain ⟨h1, rfl⟩ := List.getElem?_eq_some_iff.1 hi
        obtain ⟨h2, rfl⟩ := List.getElem?_eq_some_iff.1 hx
        have := List.pairwise_iff_getElem.1 hs i j h1 h2 hlt
        intro e
        rw [beq_iff_eq] at e
        rw [e, h, WideAt.bytes_irrefl] at this
        cases this
      · cases hi
    rw [hno]
    simp [h]
  · rw [if_neg h]
    cases hf : (l.take j).find? (fun p => p.1 == s) <;> simp [h]
theorem root_at (hw : WFo T d off) : ∃ r, T[0]? = some r ∧ T.get 1 = some r ∧ r.dir = true := by
  obtain ⟨r, hr, h1, h2, _⟩ := hw.root
  refine ⟨r, ?_, (get_iff hw.sorted).2 ⟨hr, h1⟩, h2⟩
  obtain ⟨i, hi⟩ := List.mem_iff_getElem?.1 hr
  cases i with
  | zero => exact hi
  | succ i =>
    obtain ⟨y, hy⟩ : ∃ y, T[0]? = some y := ⟨_, List.getElem?_eq_getElem (by have := (List.getElem?_eq_some_iff.1 hi).1; omega)⟩
    have h3 := sorted_lt hw.sorted hy hi (by omega)
    have h4 := (hw.nums y (List.mem_of_getElem? hy)).1
    omega
end
def idxO (T : Tr) : Option Int → Int
  | none => -1
  | some c => idxL (toldT T) c
def rfindV (T : Tr) : Except Int Int → Value
  | .ok k => match T.get k with
    | some n => .tuple #[nodeV n.told, .int .i64 0]
    | none => .tuple #[nodeV ⟨0, false, 0, []⟩, .int .i64 141]
  | .error e => .tuple #[nodeV ⟨0, false, 0, []⟩, .int .i64 e]
abbrev nodeCells (x : Nt) : Array Value := #[.int .i64 x.num, .bool x.dir, .int .i64 x.links, .string ⟨x.data.toArray⟩]
abbrev set4 (W : World) (M : Nat) (x : Nt) : World := (((W.setCell ⟨M, 0, none⟩ (.int .i64 x.num)).setCell ⟨M, 1, none⟩ (.bool x.dir)).setCell ⟨M, 2, none⟩ (.int .i64 x.links)).setCell ⟨M, 3, none⟩ (.string ⟨x.data.toArray⟩)
theorem set4_ok {w W : World} {M : Nat} {a b c e : Value} {ty : TypeId} (x : Nt) (h : World.blk W M #[a, b, c, e] ty) (hk : Keep w W) (hM : w.heap.size ≤ M) : World.blk (set4 W M x) M (nodeCells x) ty ∧ Keep w (set4 W M x) ∧ Mod (· = M) W (set4 W M x) := by
  refine ⟨blk_set (blk_set (blk_set (blk_set h 0 (.int .i64 x.num)) 1 (.bool x.dir)) 2 (.int .i64 x.links)) 3 (.string ⟨x.data.toArray⟩), ?_, ?_⟩
  · exact (((hk.setCell (p := ⟨M, 0, none⟩) (.inr hM) _).setCell (p := ⟨M, 1, none⟩) (.inr hM) _).setCell (p := ⟨M, 2, none⟩) (.inr hM) _).setCell (p := ⟨M, 3, none⟩) (.inr hM) _
  · exact Mod.setCell (S := fun b => b = M) (p := ⟨M, 3, none⟩) (Mod.setCell (S := fun b => b = M) (p := ⟨M, 2, none⟩) (Mod.setCell (S := fun b => b = M) (p := ⟨M, 1, none⟩) (Mod.setCell (S := fun b => b = M) (p := ⟨M, 0, none⟩) (Mod.refl _ _) (.inl rfl) _) (.inl rfl) _) (.inl rfl) _) (.inl rfl) _
section
variable {T : Tr} {d : Int → Nat} {off : Int → Int} {w : World} {t : Nat}
set_option maxRecDepth 100000 in
set_option maxHeartbeats 8000000 in
theorem rfind_any (h : RefAt w t (toldT T)) (hw : WFo T d off) (v : Value) (l : List (List UInt8)) (hv : RowAt w v (srow l)) (hl : l.length ≤ 1000000) : Calls Tryz.prog 54 #[.pointer (some ⟨t, 0, none⟩), v] w fun e w' => e = .returned (rfindV T (findT T 1 l)) ∧ Keep w w' := by
  obtain ⟨va, vcap, rfl, hvx⟩ := hv
  rw [srow_len]
  have HR := Lib.hid h
  obtain ⟨a, cap, hb, hx⟩ := h.row
  rw [told_len] at hb
  have HB := Lib.hid hb
  have HX := Lib.hid hx
  have HV := Lib.hid hvx
  have HW := Lib.hid hw
  have h60 := hw.many
  obtain ⟨r0, hr0, hr1, hrd⟩ := root_at hw
  obtain ⟨ab, ao, rfl, hne, hc⟩ := hx 0 _ (told_at hr0)
  rw [Nat.zero_mul, Nat.add_zero] at hc
  have c0 : w.cell? ⟨t, 0, none⟩ = some (.slice (some ⟨ab, ao, none⟩) T.length cap) := blk_cell hb 0
  have x0 : w.cell? ⟨ab, ao, none⟩ = some (.int .i64 r0.told.num) := hc 0 _ rfl
  have x1 : w.cell? ⟨ab, ao + 1, none⟩ = some (.bool r0.told.dir) := hc 1 _ rfl
  have x2 : w.cell? ⟨ab, ao + 2, none⟩ = some (.int .i64 r0.told.links) := hc 2 _ rfl
  have x3 : w.cell? ⟨ab, ao + 3, none⟩ = some (.string ⟨r0.told.data.toArray⟩) := hc 3 _ rfl
  have hT0 : 0 < T.length := (List.getElem?_eq_some_iff.1 hr0).1
  have hT0i : (0 : Int) < T.length := by omega
  have H1 := Lib.hid hr1
  clear h hb hx hvx hw hc hr0 hr1
  have hK0 : Keep w (w.alloc (.cells #[.int .i64 0, .bool false, .int .i64 0, .string ⟨#[]⟩] 41)) := (Mod.refl _ w).alloc _
  have HZ0 : RowKit.Hid (World.blk (w.alloc (.cells #[.int .i64 0, .bool false, .int .i64 0, .string ⟨#[]⟩] 41)) w.heap.size #[.int .i64 0, .bool false, .int .i64 0, .string ⟨#[]⟩] 41) := Lib.hid (blk_new _ _ _)
  have hc : ∀ p v, w.cell? p = some v → (w.alloc (.cells #[.int .i64 0, .bool false, .int .i64 0, .string ⟨#[]⟩] 41)).cell? p = some v := fun p v h => by rw [hK0.cell (lt_of_cell h) id]; exact h
  replace c0 := hc _ _ c0
  replace x0 := hc _ _ x0
  replace x1 := hc _ _ x1
  replace x2 := hc _ _ x2
  replace x3 := hc _ _ x3
  have HK0 := Lib.hid hK0
  clear hc hK0
  go_enter Tryz.func54, Tryz.ntmps54
  go_wp2_with fail
  have HZ1 := Lib.hid (blk_alloc HZ0.out (.cells (nodeCells r0.told) 41))
  have HX1 : RowKit.Hid (World.blk ((w.alloc (.cells #[.int .i64 0, .bool false, .int .i64 0, .string ⟨#[]⟩] 41)).alloc (.cells (nodeCells r0.told) 41)) (w.heap.size + 1) (nodeCells r0.told) 41) := Lib.hid (blk_new_at (by simp) _ _)
  have HK1 := Lib.hid (HK0.out.alloc (.cells (nodeCells r0.told) 41))
  unfold nodeCells at HZ1 HX1 HK1
  generalize ((w.alloc (.cells #[.int .i64 0, .bool false, .int .i64 0, .string ⟨#[]⟩] 41)).alloc (.cells #[.int .i64 r0.told.num, .bool r0.told.dir, .int .i64 r0.told.links, .string ⟨r0.told.data.toArray⟩] 41)) = w1 at *
  obtain ⟨N, hN⟩ : ∃ N, w.heap.size = N := ⟨_, rfl⟩
  rw [hN] at HZ1 HX1
  rw [hN]
  have HN := Lib.hid hN
  have hli : (l.length : Int) ≤ 1000000 := by omega
  clear HZ0 HK0 hN c0 x0 x1 x2 x3
  go_loopw [7] (fun iv wr => ∃ (i : Nat) (k : Int) (nd : Nd), i ≤ l.length ∧ iv = .int .i64 (i : Int) ∧ Keep w wr ∧ World.blk wr N #[.int .i64 0, .bool false, .int .i64 0, .string ⟨#[]⟩] 41 ∧ World.blk wr (N + 1) (nodeCells nd.told) 41 ∧ RowKit.Hid (T.get k = some nd ∧ findT T 1 l = findT T k (l.drop i))) (fun iv _ => l.length - (intOf iv).toNat)
  case atStart => exact ⟨0, 1, r0, by omega, rfl, HK1.out, HZ1.out, HX1.out, Lib.hid ⟨H1.out, rfl⟩⟩
  case round =>
    clear HK1 HZ1 HX1
    obtain ⟨i, k, nd, hi, rfl, hK, hZ, hX, Hk⟩ := hrel
    have HK := Lib.hid hK
    have HZ := Lib.hid hZ
    have HXb := Lib.hid hX
    have x0 : wr.cell? ⟨N + 1, 0, none⟩ = some (.int .i64 nd.num) := blk_cell hX 0
    have x1 : wr.cell? ⟨N + 1, 1, none⟩ = some (.bool nd.dir) := blk_cell hX 1
    have x2 : wr.cell? ⟨N + 1, 2, none⟩ = some (.int .i64 nd.links) := blk_cell hX 2
    have x3 : wr.cell? ⟨N + 1, 3, none⟩ = some (.string ⟨nd.told.data.toArray⟩) := blk_cell hX 3
    clear hK hZ hX
    by_cases hlt : i < l.length
    · obtain ⟨s, hs⟩ : ∃ s, l[i]? = some s := ⟨_, List.getElem?_eq_getElem hlt⟩
      have Hst : RowKit.Hid (findT T 1 l = findT T k (s :: l.drop (i + 1))) := Lib.hid (by
        rw [Hk.out.2]; congr 1
        rw [List.drop_eq_getElem_cons hlt]
        congr 1
        exact Option.some.inj ((List.getElem?_eq_getElem hlt).symm.trans hs))
      obtain ⟨sb, so, rfl, cs⟩ := HV.out i (.string ⟨s.toArray⟩) (by simp [srow, hs])
      have csr : wr.cell? ⟨sb, so + i, none⟩ = some (.string ⟨s.toArray⟩) := by rw [HK.out.cell (p := ⟨sb, so + i, none⟩) (lt_of_cell cs) id]; exact cs
      have hii : (i : Int) < l.length := by omega
      clear cs hs
      cases hd : nd.dir with
      | false =>
        rw [hd] at x1
        have Hv : RowKit.Hid (findT T 1 l = .error 143) := Lib.hid (by rw [Hst.out, find_cons, Hk.out.1]; simp [hd])
        have y0 : wr.frozen? ⟨N, 0, none⟩ = false := blk_free HZ.out _ rfl
        have y1 : wr.frozen? ⟨N, 1, none⟩ = false := blk_free HZ.out _ rfl
        have y2 : wr.frozen? ⟨N, 2, none⟩ = false := blk_free HZ.out _ rfl
        have y3 : wr.frozen? ⟨N, 3, none⟩ = false := blk_free HZ.out _ rfl
        have z0 : wr.cell? ⟨N, 0, none⟩ = some (.int .i64 0) := blk_cell HZ.out 0
        have z1 : wr.cell? ⟨N, 1, none⟩ = some (.bool false) := blk_cell HZ.out 1
        have z2 : wr.cell? ⟨N, 2, none⟩ = some (.int .i64 0) := blk_cell HZ.out 2
        have z3 : wr.cell? ⟨N, 3, none⟩ = some (.string ⟨#[]⟩) := blk_cell HZ.out 3
        clear hd
        go_wp2_with fail
        obtain ⟨q0, q1, q2, q3, k2⟩ := put4 ⟨0, false, 0, []⟩ HZ.out HK.out HN.out
        have HK3 := Lib.hid k2
        simp only at q0 q1 q2 q3
        generalize (((wr.setCell ⟨N, 0, none⟩ (.int .i64 0)).setCell ⟨N, 1, none⟩ (.bool false)).setCell ⟨N, 2, none⟩ (.int .i64 0)).setCell ⟨N, 3, none⟩ (.string ⟨#[]⟩) = w3 at *
        exact bodyPost_ret (v := .tuple #[nodeV ⟨0, false, 0, []⟩, .int .i64 143]) (by simp [results, Tryz.results54, go_sem, q0, q1, q2, q3]) rfl ⟨by rw [Hv.out]; rfl, HK3.out⟩
      | true =>
        rw [hd] at x1
        have htd : nd.told.data = encE nd.names := by unfold Nd.told; simp [hd]
        rw [htd] at x3
        have Hd := Lib.hid hd
        clear hd htd
        go_wp2_with fail
        obtain ⟨hm, hkn⟩ := (get_iff HW.out.sorted).1 Hk.out.1
        refine (rents_any nd Hd.out (HW.out.ents hm) nd.num nd.links wr).mono ?_
        rintro e w2 ⟨ev, rfl, ho, hk2⟩
        have hrow := rowF_own entC_len ho
        obtain ⟨ea, ecap, rfl, hex⟩ := hrow
        have HE := Lib.hid hex
        have HK2 := Lib.hid hk2
        clear ho hk2 hex
        go_wp2_with fail
        have h60n := (HW.out.names nd hm).1
        have h60i : (nd.names.length : Int) ≤ 60 := by omega
        have HSN := Lib.hid (HW.out.snames nd hm)
        clear x0 x1 x2 x3
        go_loopw [9, 10] (fun kv jv wi => ∃ j : Nat, j ≤ nd.names.length ∧ jv = .int .i64 (j : Int) ∧ Keep w2 wi ∧ kv = .int .i64 (idxO T (getN s (nd.names.take j)))) (fun _ jv _ => nd.names.length - (intOf jv).toNat)
        case atStart => exact ⟨0, by omega, rfl, Mod.refl _ _, by simp [getG, idxO]⟩
        case round =>
          obtain ⟨j, hj, rfl, hKi, rfl⟩ := hrel
          have HKi := Lib.hid hKi
          have HKw : RowKit.Hid (Keep w wr) := Lib.hid ((HK.out.keep HK2.out).keep hKi)
          have csi : wr.cell? ⟨sb, so + i, none⟩ = some (.string ⟨s.toArray⟩) := by
            have h1 := (HK2.out.keep hKi).cell (p := ⟨sb, so + i, none⟩) (lt_of_cell csr) id
            rw [h1]; exact csr
          have HRi := Lib.hid (HR.out.keep HKw.out)
          clear hKi
          by_cases hjl : j < nd.names.length
          · obtain ⟨y, hy⟩ : ∃ y, nd.names[j]? = some y := ⟨_, List.getElem?_eq_getElem hjl⟩
            obtain ⟨eb, eo, rfl, hce⟩ := HE.out j y hy
            have e0 : wr.cell? ⟨eb, eo + j * 2, none⟩ = some (.string ⟨y.1.toArray⟩) := by have h := hce 0 _ rfl; rw [HKi.out.cell (p := ⟨eb, eo + j * 2, none⟩) (lt_of_cell h) id]; exact h
            have e1 : wr.cell? ⟨eb, eo + j * 2 + 1, none⟩ = some (.int .i64 y.2) := by have h := hce 1 _ rfl; rw [HKi.out.cell (p := ⟨eb, eo + j * 2 + 1, none⟩) (lt_of_cell h) id]; exact h
            have hgt := get_take HSN.out hy s
            have Hgt := Lib.hid hgt
            have hjli : (j : Int) < nd.names.length := by omega
            clear hce hy hgt
            cases hq : (y.1 == s) with
            | true =>
              have Hv : RowKit.Hid (idxO T (getN s (nd.names.take (j + 1))) = idxL (toldT T) y.2) := Lib.hid (by rw [Hgt.out, if_pos (beq_iff_eq.1 hq)]; rfl)
              go_wp2_with fail
              refine wp_region_qe0 (by kernel_rfl) (by kernel_rfl) ?_
              repeat (quiet_step (fail))
              refine wpQuiet_nil ?_
              intro _ hw'
              obtain ⟨nq, rfl⟩ := hw'
              go_wp2_with fail
              refine (rnode_any (HRi.out.keep ((Mod.refl _ _).drewN nq)) (by rw [told_len]; omega) y.2).mono ?_
              rintro e w5 ⟨rfl, hk5⟩
              have HK5 := Lib.hid ((HKi.out.drewN nq).keep hk5)
              rw [← Hv.out]
              clear hk5 e0 e1 csi hq
              go_wp2_with fail
              exact ⟨⟨j + 1, by omega, by go_num, HK5.out, rfl⟩, by simp [intOf]; omega⟩
            | false =>
              have Hv : RowKit.Hid (idxO T (getN s (nd.names.take (j + 1))) = idxO T (getN s (nd.names.take j))) := Lib.hid (by rw [Hgt.out, if_neg (fun e => by rw [e, beq_self_eq_true] at hq; cases hq)])
              go_wp2_with fail
              refine wp_region_qe0 (by kernel_rfl) (by kernel_rfl) ?_
              repeat (quiet_step (fail))
              refine wpQuiet_nil ?_
              intro _ hw'
              obtain ⟨nq, rfl⟩ := hw'
              go_wp2_with fail
              exact ⟨⟨j + 1, by omega, by go_num, HKi.out.drewN nq, by rw [Hv.out]⟩, by simp [intOf]; omega⟩
          · obtain rfl : j = nd.names.length := by omega
            rw [List.take_length]
            have HZi := Lib.hid (blk_mod HKi.out (blk_mod HK2.out HZ.out id) id)
            have HXi := Lib.hid (blk_mod HKi.out (blk_mod HK2.out HXb.out id) id)
            clear hjl
            cases hg : getN s nd.names with
            | none =>
              have Hv : RowKit.Hid (findT T 1 l = .error 141) := Lib.hid (by rw [Hst.out, find_cons, Hk.out.1]; simp [Hd.out, hg])
              have y0 : wr.frozen? ⟨N, 0, none⟩ = false := blk_free HZi.out _ rfl
              have y1 : wr.frozen? ⟨N, 1, none⟩ = false := blk_free HZi.out _ rfl
              have y2 : wr.frozen? ⟨N, 2, none⟩ = false := blk_free HZi.out _ rfl
              have y3 : wr.frozen? ⟨N, 3, none⟩ = false := blk_free HZi.out _ rfl
              have z0 : wr.cell? ⟨N, 0, none⟩ = some (.int .i64 0) := blk_cell HZi.out 0
              have z1 : wr.cell? ⟨N, 1, none⟩ = some (.bool false) := blk_cell HZi.out 1
              have z2 : wr.cell? ⟨N, 2, none⟩ = some (.int .i64 0) := blk_cell HZi.out 2
              have z3 : wr.cell? ⟨N, 3, none⟩ = some (.string ⟨#[]⟩) := blk_cell HZi.out 3
              clear hg
              unfold idxO
              go_wp2_with fail
              obtain ⟨q0, q1, q2, q3, k2⟩ := put4 ⟨0, false, 0, []⟩ HZi.out HKw.out HN.out
              have HK3 := Lib.hid k2
              simp only at q0 q1 q2 q3
              generalize (((wr.setCell ⟨N, 0, none⟩ (.int .i64 0)).setCell ⟨N, 1, none⟩ (.bool false)).setCell ⟨N, 2, none⟩ (.int .i64 0)).setCell ⟨N, 3, none⟩ (.string ⟨#[]⟩) = w3 at *
              exact bodyPost_ret (v := .tuple #[nodeV ⟨0, false, 0, []⟩, .int .i64 141]) (by simp [results, Tryz.results54, go_sem, q0, q1, q2, q3]) rfl ⟨by rw [Hv.out]; rfl, HK3.out⟩
            | some c =>
              obtain ⟨_, nc, hncm, hncn⟩ := HW.out.closed nd hm _ ((getG_iff HSN.out).1 hg)
              have hgc := (get_iff HW.out.sorted).2 ⟨hncm, hncn⟩
              obtain ⟨mi, hmi, hidx⟩ := idx_some HW.out.sorted hgc
              have Hv : RowKit.Hid (findT T 1 l = findT T c (l.drop (i + 1))) := Lib.hid (by rw [Hst.out, find_cons, Hk.out.1]; simp [Hd.out, hg])
              have hio : idxO T (some c) = (mi : Int) := hidx
              rw [hio]
              obtain ⟨b2, o2, e2, hne2, hc2⟩ := HX.out mi _ (told_at hmi)
              injection e2 with e3
              injection e3 with e4 e5
              subst e4 e5
              have t0 : wr.cell? ⟨t, 0, none⟩ = some (.slice (some ⟨ab, ao, none⟩) T.length cap) := blk_cell (blk_mod HKw.out HB.out id) 0
              have u0 : wr.cell? ⟨ab, ao + mi * 4, none⟩ = some (.int .i64 nc.told.num) := by have h := hc2 0 _ rfl; rw [HKw.out.cell (p := ⟨ab, ao + mi * 4, none⟩) (lt_of_cell h) id]; exact h
              have u1 : wr.cell? ⟨ab, ao + mi * 4 + 1, none⟩ = some (.bool nc.told.dir) := by have h := hc2 1 _ rfl; rw [HKw.out.cell (p := ⟨ab, ao + mi * 4 + 1, none⟩) (lt_of_cell h) id]; exact h
              have u2 : wr.cell? ⟨ab, ao + mi * 4 + 2, none⟩ = some (.int .i64 nc.told.links) := by have h := hc2 2 _ rfl; rw [HKw.out.cell (p := ⟨ab, ao + mi * 4 + 2, none⟩) (lt_of_cell h) id]; exact h
              have u3 : wr.cell? ⟨ab, ao + mi * 4 + 3, none⟩ = some (.string ⟨nc.told.data.toArray⟩) := by have h := hc2 3 _ rfl; rw [HKw.out.cell (p := ⟨ab, ao + mi * 4 + 3, none⟩) (lt_of_cell h) id]; exact h
              have y0 : wr.frozen? ⟨N + 1, 0, none⟩ = false := blk_free HXi.out _ rfl
              have y1 : wr.frozen? ⟨N + 1, 1, none⟩ = false := blk_free HXi.out _ rfl
              have y2 : wr.frozen? ⟨N + 1, 2, none⟩ = false := blk_free HXi.out _ rfl
              have y3 : wr.frozen? ⟨N + 1, 3, none⟩ = false := blk_free HXi.out _ rfl
              have z0 : wr.cell? ⟨N + 1, 0, none⟩ = some (.int .i64 nd.told.num) := blk_cell HXi.out 0
              have z1 : wr.cell? ⟨N + 1, 1, none⟩ = some (.bool nd.told.dir) := blk_cell HXi.out 1
              have z2 : wr.cell? ⟨N + 1, 2, none⟩ = some (.int .i64 nd.told.links) := blk_cell HXi.out 2
              have z3 : wr.cell? ⟨N + 1, 3, none⟩ = some (.string ⟨nd.told.data.toArray⟩) := blk_cell HXi.out 3
              have hmT := (List.getElem?_eq_some_iff.1 hmi).1
              have hmTi : (mi : Int) < T.length := by omega
              have Hgc := Lib.hid hgc
              clear hg hncm hncn hgc hmi hidx hio hc2
              go_wp2_with fail
              obtain ⟨hb9, hk9, hm9⟩ := set4_ok nc.told HXi.out HKw.out (by rw [HN.out]; omega)
              exact ⟨⟨i + 1, c, nc, by omega, by go_num, hk9, blk_mod hm9 HZi.out (by omega), hb9, Lib.hid ⟨Hgc.out, Hv.out⟩⟩, by simp [intOf]; omega⟩
    · obtain rfl : i = l.length := by omega
      have Hv : RowKit.Hid (findT T 1 l = .ok k) := Lib.hid (by
        rw [Hk.out.2, List.drop_of_length_le (by omega)]; rfl)
      have x1' : wr.cell? ⟨N + 1, 1, none⟩ = some (.bool nd.told.dir) := x1
      have y0 : wr.frozen? ⟨N, 0, none⟩ = false := blk_free HZ.out _ rfl
      have y1 : wr.frozen? ⟨N, 1, none⟩ = false := blk_free HZ.out _ rfl
      have y2 : wr.frozen? ⟨N, 2, none⟩ = false := blk_free HZ.out _ rfl
      have y3 : wr.frozen? ⟨N, 3, none⟩ = false := blk_free HZ.out _ rfl
      have z0 : wr.cell? ⟨N, 0, none⟩ = some (.int .i64 0) := blk_cell HZ.out 0
      have z1 : wr.cell? ⟨N, 1, none⟩ = some (.bool false) := blk_cell HZ.out 1
      have z2 : wr.cell? ⟨N, 2, none⟩ = some (.int .i64 0) := blk_cell HZ.out 2
      have z3 : wr.cell? ⟨N, 3, none⟩ = some (.string ⟨#[]⟩) := blk_cell HZ.out 3
      have Hw : RowKit.Hid (rfindV T (findT T 1 l) = .tuple #[nodeV nd.told, .int .i64 0]) := Lib.hid (by rw [Hv.out]; unfold rfindV; simp only [Hk.out.1])
      clear hlt x1'
      go_wp2_with fail
      obtain ⟨q0, q1, q2, q3, k2⟩ := put4 nd.told HZ.out HK.out HN.out
      have HK3 := Lib.hid k2
      change World.cell? ((((wr.setCell ⟨N, 0, none⟩ (.int .i64 nd.num)).setCell ⟨N, 1, none⟩ (.bool nd.dir)).setCell ⟨N, 2, none⟩ (.int .i64 nd.links)).setCell ⟨N, 3, none⟩ (.string ⟨nd.told.data.toArray⟩)) _ = some (.int .i64 nd.num) at q0
      change World.cell? ((((wr.setCell ⟨N, 0, none⟩ (.int .i64 nd.num)).setCell ⟨N, 1, none⟩ (.bool nd.dir)).setCell ⟨N, 2, none⟩ (.int .i64 nd.links)).setCell ⟨N, 3, none⟩ (.string ⟨nd.told.data.toArray⟩)) _ = some (.bool nd.dir) at q1
      change World.cell? ((((wr.setCell ⟨N, 0, none⟩ (.int .i64 nd.num)).setCell ⟨N, 1, none⟩ (.bool nd.dir)).setCell ⟨N, 2, none⟩ (.int .i64 nd.links)).setCell ⟨N, 3, none⟩ (.string ⟨nd.told.data.toArray⟩)) _ = some (.int .i64 nd.links) at q2
      change World.cell? ((((wr.setCell ⟨N, 0, none⟩ (.int .i64 nd.num)).setCell ⟨N, 1, none⟩ (.bool nd.dir)).setCell ⟨N, 2, none⟩ (.int .i64 nd.links)).setCell ⟨N, 3, none⟩ (.string ⟨nd.told.data.toArray⟩)) _ = _ at q3
      have HK4 : RowKit.Hid (Keep w ((((wr.setCell ⟨N, 0, none⟩ (.int .i64 nd.num)).setCell ⟨N, 1, none⟩ (.bool nd.dir)).setCell ⟨N, 2, none⟩ (.int .i64 nd.links)).setCell ⟨N, 3, none⟩ (.string ⟨nd.told.data.toArray⟩))) := HK3
      generalize ((((wr.setCell ⟨N, 0, none⟩ (.int .i64 nd.num)).setCell ⟨N, 1, none⟩ (.bool nd.dir)).setCell ⟨N, 2, none⟩ (.int .i64 nd.links)).setCell ⟨N, 3, none⟩ (.string ⟨nd.told.data.toArray⟩)) = w3 at *
      exact bodyPost_ret (v := .tuple #[nodeV nd.told, .int .i64 0]) (by simp [results, Tryz.results54, go_sem, q0, q1, q2, q3]; exact ⟨rfl, rfl, rfl⟩) rfl ⟨by rw [Hw.out], HK4.out⟩
end
end
section
open Go.RowKit
section
variable {T : Tr} {d : Int → Nat} {off : Int → Int} {w : World} {t : Nat}
theorem get_find (T : Tr) (path : List UInt8) : getV (nodeT T path) = rfindV T (atT T path) := by
  unfold nodeT
  cases atT T path with
  | error e => rfl
  | ok k =>
    unfold rfindV
    simp only
    cases T.get k <;> rfl
theorem rfind_cases (T : Tr) (x : Except Int Int) (hx : ∀ k, x = .ok k → ∃ n, T.get k = some n) : (∃ e, x = .error e ∧ rfindV T x = .tuple #[nodeV ⟨0, false, 0, []⟩, .int .i64 e]) ∨ ∃ k n, x = .ok k ∧ T.get k = some n ∧ rfindV T x = .tuple #[nodeV n.told, .int .i64 0] := by
  cases x with
  | error e => exact .inl ⟨e, rfl, rfl⟩
  | ok k =>
    obtain ⟨n, hn⟩ := hx k rfl
    exact .inr ⟨k, n, rfl, hn, by unfold rfindV; simp only [hn]⟩
theorem rfind_shape (T : Tr) (x : Except Int Int) : ∃ (m : Nt) (e : Int), rfindV T x = .tuple #[nodeV m, .int .i64 e] := by
  cases x with
  | error e => exact ⟨_, _, rfl⟩
  | ok k =>
    unfold rfindV
    simp only
    cases T.get k <;> exact ⟨_, _, rfl⟩
set_option maxRecDepth 100000 in
set_option maxHeartbeats 4000000 in
theorem rget_any (h : RefAt w t (toldT T)) (hw : WFo T d off) (path : List UInt8) (hp : path.length < 4294967281) : Calls Tryz.prog 24 #[.pointer (some ⟨t, 0, none⟩), .string ⟨path.toArray⟩] w fun e w' => e = .returned (getV (nodeT T path)) ∧ Keep w w' := by
  have HR := Lib.hid h
  have HW := Lib.hid hw
  have Hp := Lib.hid hp
  clear h hw hp
  go_enter Tryz.func24, Tryz.ntmps24
  go_wp2_with fail
  refine (rpath_any path _ Hp.out).mono ?_
  rintro e w1 ⟨v, rfl, ho, hk⟩
  have HZ : RowKit.Hid (World.blk w1 w.heap.size #[.int .i64 0, .bool false, .int .i64 0, .string ⟨#[]⟩] 41) := Lib.hid (blk_mod hk (blk_new _ _ _) id)
  have HK := Lib.hid (unalloc hk)
  have HR1 := Lib.hid (HR.out.keep HK.out)
  obtain ⟨N, hN⟩ : ∃ N, w.heap.size = N := ⟨_, rfl⟩
  have HN := Lib.hid hN
  rw [hN] at HZ
  rw [hN]
  clear hN hk
  cases hpo : pathOf path with
  | none =>
    have Hv : RowKit.Hid (getV (nodeT T path) = .tuple #[nodeV ⟨0, false, 0, []⟩, .int .i64 140]) := Lib.hid (by rw [get_find, atT, hpo]; rfl)
    have e1 : pathErr path = 130 := by rw [pathErr, hpo]; rfl
    rw [e1]
    have y0 : w1.frozen? ⟨N, 0, none⟩ = false := blk_free HZ.out _ rfl
    have y1 : w1.frozen? ⟨N, 1, none⟩ = false := blk_free HZ.out _ rfl
    have y2 : w1.frozen? ⟨N, 2, none⟩ = false := blk_free HZ.out _ rfl
    have y3 : w1.frozen? ⟨N, 3, none⟩ = false := blk_free HZ.out _ rfl
    have z0 : w1.cell? ⟨N, 0, none⟩ = some (.int .i64 0) := blk_cell HZ.out 0
    have z1 : w1.cell? ⟨N, 1, none⟩ = some (.bool false) := blk_cell HZ.out 1
    have z2 : w1.cell? ⟨N, 2, none⟩ = some (.int .i64 0) := blk_cell HZ.out 2
    have z3 : w1.cell? ⟨N, 3, none⟩ = some (.string ⟨#[]⟩) := blk_cell HZ.out 3
    clear ho hpo e1
    go_wp2_with fail
    obtain ⟨q0, q1, q2, q3, k2⟩ := put4 ⟨0, false, 0, []⟩ HZ.out HK.out HN.out
    have HK3 := Lib.hid k2
    simp only at q0 q1 q2 q3
    generalize (((w1.setCell ⟨N, 0, none⟩ (.int .i64 0)).setCell ⟨N, 1, none⟩ (.bool false)).setCell ⟨N, 2, none⟩ (.int .i64 0)).setCell ⟨N, 3, none⟩ (.string ⟨#[]⟩) = w3 at *
    exact bodyPost_ret (v := .tuple #[nodeV ⟨0, false, 0, []⟩, .int .i64 140]) (by simp [results, Tryz.results24, go_sem, q0, q1, q2, q3]) rfl ⟨by rw [Hv.out], HK3.out⟩
  | some l =>
    have Hv : RowKit.Hid (getV (nodeT T path) = rfindV T (findT T 1 l)) := Lib.hid (by rw [get_find, atT, hpo])
    have e1 : pathErr path = 0 := by rw [pathErr, hpo]; rfl
    have e2 : pathNames path = l := by rw [pathNames, hpo]; rfl
    rw [e2] at ho
    rw [e1]
    have HRow := Lib.hid (row_strs ho)
    have h8 := (names_small hpo).1
    clear ho hpo e1 e2
    go_wp2_with fail
    refine (rfind_any HR1.out HW.out v l HRow.out (by omega)).mono ?_
    obtain ⟨m, er, hme⟩ := rfind_shape T (findT T 1 l)
    rw [hme] at Hv
    rw [hme]
    rintro e w2 ⟨rfl, hk2⟩
    have HZ2 := Lib.hid (blk_mod hk2 HZ.out id)
    have HK2 := Lib.hid (HK.out.keep hk2)
    clear hk2 hme
    have y0 : w2.frozen? ⟨N, 0, none⟩ = false := blk_free HZ2.out _ rfl
    have y1 : w2.frozen? ⟨N, 1, none⟩ = false := blk_free HZ2.out _ rfl
    have y2 : w2.frozen? ⟨N, 2, none⟩ = false := blk_free HZ2.out _ rfl
    have y3 : w2.frozen? ⟨N, 3, none⟩ = false := blk_free HZ2.out _ rfl
    have z0 : w2.cell? ⟨N, 0, none⟩ = some (.int .i64 0) := blk_cell HZ2.out 0
    have z1 : w2.cell? ⟨N, 1, none⟩ = some (.bool false) := blk_cell HZ2.out 1
    have z2 : w2.cell? ⟨N, 2, none⟩ = some (.int .i64 0) := blk_cell HZ2.out 2
    have z3 : w2.cell? ⟨N, 3, none⟩ = some (.string ⟨#[]⟩) := blk_cell HZ2.out 3
    go_wp2_with fail
    obtain ⟨q0, q1, q2, q3, k2⟩ := put4 m HZ2.out HK2.out HN.out
    have HK3 := Lib.hid k2
    generalize (((w2.setCell ⟨N, 0, none⟩ (.int .i64 m.num)).setCell ⟨N, 1, none⟩ (.bool m.dir)).setCell ⟨N, 2, none⟩ (.int .i64 m.links)).setCell ⟨N, 3, none⟩ (.string ⟨m.data.toArray⟩) = w3 at *
    exact bodyPost_ret (v := .tuple #[nodeV m, .int .i64 er]) (by simp [results, Tryz.results24, go_sem, q0, q1, q2, q3]) rfl ⟨by rw [Hv.out], HK3.out⟩
theorem cut_min (d : List UInt8) (i n : Int) (hi : 0 ≤ i) (hn : 0 ≤ n) : List.take (min n ((d.length - (min i (d.length : Int)).toNat : Nat) : Int)).toNat (List.drop (min i (d.length : Int)).toNat d) = cutR d i.toNat n.toNat := by
  unfold cutR
  obtain ⟨x, rfl⟩ : ∃ x : Nat, i = x := ⟨i.toNat, by omega⟩
  obtain ⟨y, rfl⟩ : ∃ y : Nat, n = y := ⟨n.toNat, by omega⟩
  rw [Int.toNat_natCast, Int.toNat_natCast]
  by_cases hx : x ≤ d.length
  · rw [show (min (x : Int) (d.length : Int)).toNat = x by omega]
    by_cases hy : y ≤ d.length - x
    · rw [show (min (y : Int) ((d.length - x : Nat) : Int)).toNat = y by omega]
    · rw [show (min (y : Int) ((d.length - x : Nat) : Int)).toNat = d.length - x by omega, List.take_of_length_le (by rw [List.length_drop]; omega), List.take_of_length_le (by rw [List.length_drop]; omega)]
  · rw [show (min (x : Int) (d.length : Int)).toNat = d.length by omega, List.drop_length, List.drop_of_length_le (by omega)]
    simp
set_option maxRecDepth 100000 in
set_option maxHeartbeats 4000000 in
theorem rread_any (h : RefAt w t (toldT T)) (hw : WFo T d off) (path : List UInt8) (hp : path.length < 4294967281) (i n : Int) (hi : i ≤ 9223372036854775807) (hn : n ≤ 9223372036854775807) :
    Calls Tryz.prog 25 #[.pointer (some ⟨t, 0, none⟩), .string ⟨path.toArray⟩, .int .i64 i, .int .i64 n] w fun e w' => e = .returned (readV (readR (nodeT T path) i n)) ∧ Keep w w' := by
  have HR := Lib.hid h
  have HW := Lib.hid hw
  have Hp := Lib.hid hp
  clear h hw hp
  go_enter Tryz.func25, Tryz.ntmps25
  go_wp2_with fail
  refine (rget_any HR.out HW.out path Hp.out).mono ?_
  rintro e w1 ⟨rfl, hk⟩
  have HK := Lib.hid hk
  clear hk
  rcases node_cases HW.out path with ⟨e, h1, h2, h3⟩ | ⟨k, nd, h1, h2, h3⟩
  · rw [h2]
    unfold getV
    clear h1
    have Hv := Lib.hid h2
    clear h2
    have Hv2 : RowKit.Hid (readV (readR (nodeT T path) i n) = .tuple #[.string ⟨#[]⟩, .int .i64 e]) := Lib.hid (by rw [Hv.out]; rfl)
    go_wp2_with fail
    go_ret2
    exact ⟨by rw [Hv2.out]; rfl, HK.out.alloc _⟩
  · rw [h3]
    have Hnd := Lib.hid h3
    unfold getV
    obtain ⟨hm, _⟩ := (get_iff HW.out.sorted).1 h2
    have Hm := Lib.hid hm
    have htd : nd.told.dir = nd.dir := rfl
    clear h1 h2 h3 hm
    cases hd : nd.dir with
    | true =>
      rw [hd] at htd
      have Hr : RowKit.Hid (readV (readR (nodeT T path) i n) = .tuple #[.string ⟨#[]⟩, .int .i64 143]) := Lib.hid (by rw [Hnd.out]; simp [readR, hd, readV])
      clear hd
      go_wp2_with fail
      go_ret2
      exact ⟨by rw [Hr.out]; rfl, HK.out.alloc _⟩
    | false =>
      rw [hd] at htd
      have hdt : nd.told.data = nd.data := by unfold Nd.told; simp [hd]
      have hl : nd.data.length ≤ 16384 := (HW.out.file nd Hm.out hd).2
      have hli : (nd.data.length : Int) ≤ 16384 := by omega
      by_cases hin : i < 0 ∨ n < 0
      · have Hr : RowKit.Hid (readV (readR (nodeT T path) i n) = .tuple #[.string ⟨#[]⟩, .int .i64 145]) := Lib.hid (by rw [Hnd.out]; simp [readR, hd, hin, readV])
        clear hd
        by_cases h1 : i < 0
        · clear hin
          go_wp2_with fail
          go_ret2
          exact ⟨by rw [Hr.out]; rfl, HK.out.alloc _⟩
        · have h2 : n < 0 := by omega
          clear hin
          go_wp2_with fail
          go_ret2
          exact ⟨by rw [Hr.out]; rfl, HK.out.alloc _⟩
      · have Hr : RowKit.Hid (readV (readR (nodeT T path) i n) = .tuple #[.string ⟨(cutR nd.data i.toNat n.toNat).toArray⟩, .int .i64 0]) := Lib.hid (by rw [Hnd.out]; simp [readR, hd, hin, readV])
        have h1 : ¬ i < 0 := by omega
        have h2 : ¬ n < 0 := by omega
        have Hc : RowKit.Hid (List.take (min n ((nd.data.length - (min i (nd.data.length : Int)).toNat : Nat) : Int)).toNat (List.drop (min i (nd.data.length : Int)).toNat nd.data) = cutR nd.data i.toNat n.toNat) := Lib.hid (cut_min nd.data i n (by omega) (by omega))
        have Hdt := Lib.hid hdt
        clear hd hin hdt
        go_wp2_with fail
        go_ret2
        have e1 : Option.getD (some nd.told.data) [] = nd.data := Hdt.out
        refine ⟨?_, HK.out.alloc _⟩
        rw [Hr.out, ← Hc.out, ← Hdt.out]
        rfl
end
end
section
open Go.RowKit
/-- append(v, x): which blocks may turn, and where the new row lies -/
theorem append_own2 {P : Program} {ts te : TypeId} {z : Value} {sz bytes : Nat} (hs : P.underlying ts = some (.slice te)) (hi : (P.info? te).map (fun i => (i.zero, i.size, i.bytes)) = some (some z, sz, bytes)) (hz : z.cells.size = sz) (hsz : 0 < sz) (base : Nat) (v : Value) (n : Nat) (xs : List Value) (w : World)
    (hown : w.ownsRow base te sz v n xs) (news : List Value) (hl : news.length = sz) (h1 : ∀ u ∈ news, u.oneCell' = true) (hn : n + 1 ≤ maxLen) (hnb : (n + 1) * bytes ≤ 140737488355328) (hbase : base ≤ w.heap.size) :
    ∃ v' w', (Builtin.append_ #[ts, ts] ts #[v, .slice (some ⟨w.heap.size, 0, none⟩) 1 1]).run P (w.alloc (.cells news.toArray te)) = .ok v' w' ∧ w'.ownsRow base te sz v' (n + 1) (xs ++ news) ∧ Mod (fun b => v.ownBlock = some b) w w' ∧ (v'.ownBlock = v.ownBlock ∨ ∃ k, v'.ownBlock = some k ∧ w.heap.size ≤ k) := by
  obtain ⟨i0, hi, hz0, hz1, hz2⟩ := info_parts hi
  obtain ⟨v', w', r1, r2, r3, _, r5⟩ := run_append_own_at (P := P) (w.alloc (.cells news.toArray te)) base ts ts te i0 z sz bytes hs hi hz0 hz1 hz2 hz hsz v n xs (hown.alloc _) ⟨w.heap.size, 0, none⟩ 1 1 news (by omega) (fun j u hu => by
    rw [addr_add, Nat.zero_add, World.cell?_alloc_at _ _ _ _ rfl]; simpa using hu) h1 hn hnb (by simp; omega)
  refine ⟨v', w', r1, r2, Mod.grown ((Mod.refl _ w).alloc _) r3 (fun k hk => .inl hk), ?_⟩
  rcases r5 with r5 | r5
  · exact .inl r5
  · exact .inr ⟨_, r5, by simp⟩
theorem own_apart {v : Value} {b o : Nat} {f : Option Nat} {m c : Nat} (e : v = .slice (some ⟨b, o, f⟩) m c) : v.ownBlock = some b := by subst e; rfl
section
variable {T : Tr} {d : Int → Nat} {off : Int → Int} {w : World} {t : Nat}
set_option maxRecDepth 100000 in
set_option maxHeartbeats 4000000 in
theorem rlist_any (h : RefAt w t (toldT T)) (hw : WFo T d off) (path : List UInt8) (hp : path.length < 4294967281) :
    Calls Tryz.prog 27 #[.pointer (some ⟨t, 0, none⟩), .string ⟨path.toArray⟩] w fun e w' => ∃ v, e = .returned (.tuple #[v, .int .i64 (listR (nodeT T path)).2]) ∧ OwnStrs w' w.heap.size v (listR (nodeT T path)).1 ∧ Keep w w' := by
  have HR := Lib.hid h
  have HW := Lib.hid hw
  have Hp := Lib.hid hp
  clear h hw hp
  go_enter Tryz.func27, Tryz.ntmps27
  go_wp2_with fail
  refine (rget_any HR.out HW.out path Hp.out).mono ?_
  rintro e w1 ⟨rfl, hk⟩
  have HK := Lib.hid hk
  clear hk
  rcases node_cases HW.out path with ⟨e, h1, h2, h3⟩ | ⟨k, nd, h1, h2, h3⟩
  · rw [h2]
    unfold getV
    clear h1
    have Hv := Lib.hid h2
    clear h2
    go_wp2_with fail
    go_ret2
    exact ⟨.slice none 0 0, by rw [Hv.out]; rfl, by rw [Hv.out]; exact ⟨rfl, .inl ⟨rfl, rfl⟩⟩, HK.out.alloc _⟩
  · have Hnd := Lib.hid h3
    rw [h3]
    unfold getV
    obtain ⟨hm, _⟩ := (get_iff HW.out.sorted).1 h2
    have Hm := Lib.hid hm
    have htd : nd.told.dir = nd.dir := rfl
    clear h1 h2 h3 hm
    cases hd : nd.dir with
    | false =>
      rw [hd] at htd
      have Hr : RowKit.Hid (listR (nodeT T path) = ([], 143)) := Lib.hid (by rw [Hnd.out]; simp [listR, hd])
      clear hd
      go_wp2_with fail
      go_ret2
      exact ⟨.slice none 0 0, by rw [Hr.out]; rfl, by rw [Hr.out]; exact ⟨rfl, .inl ⟨rfl, rfl⟩⟩, HK.out.alloc _⟩
    | true =>
      rw [hd] at htd
      have Hr : RowKit.Hid (listR (nodeT T path) = (nd.names.map (·.1), 0)) := Lib.hid (by rw [Hnd.out]; simp [listR, hd])
      have hdt : nd.told.data = encE nd.names := by unfold Nd.told; simp [hd]
      have Hd := Lib.hid hd
      clear hd
      go_wp2_with fail
      have HKa : RowKit.Hid (Keep w ((w1.alloc (.cells #[.int .i64 nd.told.num, .bool true, .int .i64 nd.told.links, .string ⟨(encE nd.names).toArray⟩] 41)).alloc (.cells #[] 9))) := Lib.hid ((HK.out.alloc _).alloc _)
      have HO : RowKit.Hid (OwnStrs ((w1.alloc (.cells #[.int .i64 nd.told.num, .bool true, .int .i64 nd.told.links, .string ⟨(encE nd.names).toArray⟩] 41)).alloc (.cells #[] 9)) (w1.heap.size + 1) (.slice (some ⟨w1.heap.size + 1, 0, none⟩) 0 0) []) := Lib.hid (own_made (l := []) (blk_new_at (by simp) _ _) (Nat.le_refl _) (by simp))
      have hsa : w1.heap.size + 1 ≤ ((w1.alloc (.cells #[.int .i64 nd.told.num, .bool true, .int .i64 nd.told.links, .string ⟨(encE nd.names).toArray⟩] 41)).alloc (.cells #[] 9)).heap.size := by simp
      have hwb : w.heap.size ≤ w1.heap.size + 1 := by have := HK.out.size; omega
      generalize ((w1.alloc (.cells #[.int .i64 nd.told.num, .bool true, .int .i64 nd.told.links, .string ⟨(encE nd.names).toArray⟩] 41)).alloc (.cells #[] 9)) = wa at *
      obtain ⟨ob, hob⟩ : ∃ ob, w1.heap.size + 1 = ob := ⟨_, rfl⟩
      rw [hob] at HO hsa hwb
      have hoa := own_ltG HO.out ob 0 none 0 0 rfl
      rw [hob]
      refine (rents_any nd Hd.out (HW.out.ents Hm.out) _ _ wa).mono ?_
      rintro e w2 ⟨ev, rfl, ho, hk2⟩
      have hrow := rowF_own entC_len ho
      have hEb : ∀ b o f m c, ev = .slice (some ⟨b, o, f⟩) m c → ob < b ∧ b < w2.heap.size := fun b o f m c e => by
        have h1 := own_ltG ho b o f m c e
        subst e
        have h2 := own_base ho
        have h3 := hoa
        omega
      obtain ⟨ea, ecap, rfl, hex⟩ := hrow
      have HE := Lib.hid hex
      have HEb := Lib.hid hEb
      have HK2 := Lib.hid (HKa.out.keep hk2)
      have HO2 := Lib.hid (own_keepF HO.out hk2)
      have hs2 : ob ≤ w2.heap.size := Nat.le_trans hsa hk2.size
      have h60n := (HW.out.names nd Hm.out).1
      have h60i : (nd.names.length : Int) ≤ 60 := by omega
      clear ho hk2 hex HKa HO hob hsa htd hdt HK
      go_wp2_with fail
      clear hEb hoa
      go_loopw [8, 10] (fun v iv wr => ∃ i : Nat, i ≤ nd.names.length ∧ iv = .int .i64 (i : Int) ∧ Mod (· = ob) w2 wr ∧ OwnStrs wr ob v ((nd.names.take i).map (·.1)) ∧ (v.ownBlock = some ob ∨ ∃ k, v.ownBlock = some k ∧ w2.heap.size ≤ k)) (fun _ iv _ => nd.names.length - (intOf iv).toNat)
      case atStart => exact ⟨0, by omega, rfl, Mod.refl _ _, HO2.out, .inl rfl⟩
      case round =>
        clear HO2
        obtain ⟨i, hi, rfl, hM, hV, hB⟩ := hrel
        have HM := Lib.hid hM
        have HV := Lib.hid hV
        have HB := Lib.hid hB
        have hsr := hM.size
        clear hM hV hB
        by_cases hlt : i < nd.names.length
        · obtain ⟨y, hy⟩ : ∃ y, nd.names[i]? = some y := ⟨_, List.getElem?_eq_getElem hlt⟩
          obtain ⟨eb, eo, rfl, hce⟩ := HE.out i y hy
          have hebo := HEb.out eb eo none _ _ rfl
          have e0 : wr.cell? ⟨eb, eo + i * 2, none⟩ = some (.string ⟨y.1.toArray⟩) := by have h := hce 0 _ rfl; rw [HM.out.cell (p := ⟨eb, eo + i * 2, none⟩) (lt_of_cell h) (by show ¬ eb = ob; omega)]; exact h
          have hii : (i : Int) < nd.names.length := by omega
          have Hy := Lib.hid hy
          have hlen : ((nd.names.take i).map (·.1)).length = i := by simp; omega
          have hown := HV.out
          unfold OwnStrs at hown
          rw [hlen] at hown
          obtain ⟨v2, w4, hr4, ho4, hm4, hb4⟩ := append_own2 (P := Tryz.prog) Tryz.underlying43 info_str rfl (by decide) ob u8 i _ wr hown [.string ⟨y.1.toArray⟩] rfl (by intro u hu; simp at hu; subst hu; rfl) (by unfold maxLen; omega) (by omega) (by omega)
          have Hr4 := Lib.hid hr4
          have HV4 : RowKit.Hid (OwnStrs w4 ob v2 ((nd.names.take (i + 1)).map (·.1))) := Lib.hid (by
            have e : (nd.names.take (i + 1)).map (·.1) = (nd.names.take i).map (·.1) ++ [y.1] := by rw [take_snoc Hy.out]; simp
            rw [e]
            refine add_str_cells (ys := [y.1]) ?_
            rw [hlen]
            exact ho4)
          have HM4 : RowKit.Hid (Mod (· = ob) w2 w4) := Lib.hid (HM.out.trans hm4 fun b hb e => by
            rcases HB.out with h | ⟨k, h, hk⟩
            · rw [h] at e; injection e with e; exact e.symm
            · rw [h] at e; injection e with e; omega)
          have HB4 : RowKit.Hid (v2.ownBlock = some ob ∨ ∃ k, v2.ownBlock = some k ∧ w2.heap.size ≤ k) := Lib.hid (by
            rcases hb4 with h | ⟨k, h, hk⟩
            · rw [h]; exact HB.out
            · exact .inr ⟨k, h, by omega⟩)
          clear hce hy hown hr4 ho4 hm4 hb4 hlen HM HV HB
          go_wp2_with ((at_builtin; refine wpList_append_run Hr4.out rfl rfl rfl rfl ?_))
          exact ⟨⟨i + 1, by omega, by go_num, HM4.out, HV4.out, HB4.out⟩, by simp [intOf]; omega⟩
        · obtain rfl : i = nd.names.length := by omega
          rw [List.take_length] at HV
          have HKe : RowKit.Hid (Keep w wr) := Lib.hid (HK2.out.new HM.out hwb)
          clear hlt
          go_wp2_with fail
          go_ret2
          exact ⟨_, by rw [Hr.out]; rfl, by rw [Hr.out]; exact own_baseO HV.out hwb, HKe.out⟩
end
end
section
open Go.RowKit
def goPut (x : Nt) : Bool → List Nt → List Nt
  | true, l => l.filter fun y => !(y.num == x.num)
  | false, [] => [x]
  | false, y :: r => if x.num ≤ y.num then x :: (y :: r).filter (fun z => !(z.num == x.num)) else y :: goPut x false r
/-- a list of the call's own, told as the reference's -/
theorem ref_of_own {w : World} {t base : Nat} {v : Value} {l : List Nt} (hb : World.blk w t #[v] 55) (h : OwnF nodeC 4 41 w base v l) (ht : t < base) : RefAt w t l := by
  rcases h.2 with ⟨rfl, h3⟩ | ⟨g, cap, cur, rfl, hgb, hg, hnc, hm, hsz, htk⟩
  · have hl : l = [] := List.length_eq_zero_iff.1 (by omega)
    subst hl
    exact ⟨⟨none, 0, hb, fun j x h => by simp at h⟩⟩
  · obtain ⟨a, cp, hv, hx⟩ := rowF_own nodeC_len h
    injection hv with e1 e2 e3
    refine ⟨⟨a, cp, by rw [← e1, ← e3]; exact hb, fun j x hj => ?_⟩⟩
    obtain ⟨b, o, e, hc⟩ := hx j x hj
    refine ⟨b, o, e, ?_, hc⟩
    rw [← e1] at e
    injection e with e
    injection e with e4
    omega
section
variable {w : World} {t : Nat} {l : List Nt}
set_option maxRecDepth 100000 in
set_option maxHeartbeats 8000000 in
theorem rput_any (h : RefAt w t l) (hl : l.length ≤ 1000) (x : Nt) : Calls Tryz.prog 53 #[.pointer (some ⟨t, 0, none⟩), nodeV x] w fun e w' => e = .returned (.tuple #[]) ∧ RefAt w' t (goPut x false l) ∧ Mod (· = t) w w' := by
  obtain ⟨a, cap, hb, hx⟩ := h.row
  have HB := Lib.hid hb
  have HX := Lib.hid hx
  have hli : (l.length : Int) ≤ 1000 := by omega
  have htl := blk_lt hb
  clear h hb hx
  go_enter Tryz.func53, Tryz.ntmps53
  go_wp2_with fail
  have HK0 : RowKit.Hid (Keep w ((w.alloc (.cells #[.int .i64 x.num, .bool x.dir, .int .i64 x.links, .string ⟨x.data.toArray⟩] 41)).alloc (.cells #[] 41))) := Lib.hid (((Mod.refl _ w).alloc _).alloc _)
  have HX0 : RowKit.Hid (World.blk ((w.alloc (.cells #[.int .i64 x.num, .bool x.dir, .int .i64 x.links, .string ⟨x.data.toArray⟩] 41)).alloc (.cells #[] 41)) w.heap.size (nodeCells x) 41) := Lib.hid (blk_alloc (blk_new _ _ _) _)
  have HV0 : RowKit.Hid (OwnF nodeC 4 41 ((w.alloc (.cells #[.int .i64 x.num, .bool x.dir, .int .i64 x.links, .string ⟨x.data.toArray⟩] 41)).alloc (.cells #[] 41)) (w.heap.size + 1) (.slice (some ⟨w.heap.size + 1, 0, none⟩) 0 0) []) := Lib.hid ⟨by simp, .inr ⟨_, 0, #[], rfl, Nat.le_refl _, blk_new_at (by simp) _ _, Nat.le_refl _, by simp, by simp, by simp⟩⟩
  have hs0 : w.heap.size + 1 ≤ ((w.alloc (.cells #[.int .i64 x.num, .bool x.dir, .int .i64 x.links, .string ⟨x.data.toArray⟩] 41)).alloc (.cells #[] 41)).heap.size := by simp
  generalize ((w.alloc (.cells #[.int .i64 x.num, .bool x.dir, .int .i64 x.links, .string ⟨x.data.toArray⟩] 41)).alloc (.cells #[] 41)) = w0 at *
  go_loopw [4, 5, 6] (fun v dv iv wr => ∃ (i : Nat) (acc : List Nt) (dn : Bool), i ≤ l.length ∧ iv = .int .i64 (i : Int) ∧ dv = .bool dn ∧ Keep w wr ∧ w.heap.size + 1 ≤ wr.heap.size ∧ World.blk wr w.heap.size (nodeCells x) 41 ∧ OwnF nodeC 4 41 wr (w.heap.size + 1) v acc ∧ acc.length ≤ i + 1 ∧ RowKit.Hid (dn = false → acc.length ≤ i) ∧ RowKit.Hid (acc ++ goPut x dn (l.drop i) = goPut x false l)) (fun _ _ iv _ => l.length - (intOf iv).toNat)
  case atStart => exact ⟨0, [], false, by omega, rfl, rfl, HK0.out, hs0, HX0.out, HV0.out, by simp, Lib.hid (fun _ => by simp), Lib.hid rfl⟩
  case round =>
    clear HK0 HX0 HV0 hs0
    obtain ⟨i, acc, dn, hi, rfl, rfl, hK, hsc, hXb, hV, hal, HL, Hg⟩ := hrel
    have HKc := Lib.hid hK
    have HBc := Lib.hid hXb
    have HVc := Lib.hid hV
    have t0 : wr.cell? ⟨t, 0, none⟩ = some (.slice a l.length cap) := blk_cell (blk_mod hK HB.out id) 0
    clear hK hXb hV
    by_cases hlt : i < l.length
    · obtain ⟨y, hy⟩ : ∃ y, l[i]? = some y := ⟨_, List.getElem?_eq_getElem hlt⟩
      obtain ⟨lb, lo, rfl, hne, hc⟩ := HX.out i y hy
      have hd : l.drop i = y :: l.drop (i + 1) := by
        rw [List.drop_eq_getElem_cons hlt]
        congr 1
        exact Option.some.inj ((List.getElem?_eq_getElem hlt).symm.trans hy)
      rw [hd] at Hg
      have u0 : wr.cell? ⟨lb, lo + i * 4, none⟩ = some (.int .i64 y.num) := by have h := hc 0 _ rfl; rw [HKc.out.cell (p := ⟨lb, lo + i * 4, none⟩) (lt_of_cell h) id]; exact h
      have x0 : wr.cell? ⟨w.heap.size, 0, none⟩ = some (.int .i64 x.num) := blk_cell HBc.out 0
      have HC := Lib.hid hc
      have hil : (i : Int) < l.length := by omega
      clear hd hy hc
      clear t0 u0 x0
      cases dn with
      | true =>
        have t0a : World.cell? wr ⟨t, 0, none⟩ = some (.slice (some ⟨lb, lo, none⟩) l.length cap) := blk_cell (blk_mod HKc.out HB.out id) 0
        have u0a : World.cell? wr ⟨lb, lo + i * 4, none⟩ = some (.int .i64 y.num) := by have h := HC.out 0 _ rfl; rw [HKc.out.cell (p := ⟨lb, lo + i * 4, none⟩) (lt_of_cell h) id]; exact h
        have u1a : World.cell? wr ⟨lb, lo + i * 4 + 1, none⟩ = some (.bool y.dir) := by have h := HC.out 1 _ rfl; rw [HKc.out.cell (p := ⟨lb, lo + i * 4 + 1, none⟩) (lt_of_cell h) id]; exact h
        have u2a : World.cell? wr ⟨lb, lo + i * 4 + 2, none⟩ = some (.int .i64 y.links) := by have h := HC.out 2 _ rfl; rw [HKc.out.cell (p := ⟨lb, lo + i * 4 + 2, none⟩) (lt_of_cell h) id]; exact h
        have u3a : World.cell? wr ⟨lb, lo + i * 4 + 3, none⟩ = some (.string ⟨y.data.toArray⟩) := by have h := HC.out 3 _ rfl; rw [HKc.out.cell (p := ⟨lb, lo + i * 4 + 3, none⟩) (lt_of_cell h) id]; exact h
        have x0a : World.cell? wr ⟨w.heap.size, 0, none⟩ = some (.int .i64 x.num) := blk_cell HBc.out 0
        have x1a : World.cell? wr ⟨w.heap.size, 1, none⟩ = some (.bool x.dir) := blk_cell HBc.out 1
        have x2a : World.cell? wr ⟨w.heap.size, 2, none⟩ = some (.int .i64 x.links) := blk_cell HBc.out 2
        have x3a : World.cell? wr ⟨w.heap.size, 3, none⟩ = some (.string ⟨x.data.toArray⟩) := blk_cell HBc.out 3
        have HgTe : RowKit.Hid (y.num = x.num → acc ++ goPut x true (l.drop (i + 1)) = goPut x false l) := Lib.hid fun h => by
          rw [← Hg.out]; unfold goPut; rw [List.filter_cons, if_neg (by simp [h])]
        have HgTn : RowKit.Hid (¬ y.num = x.num → (acc ++ [y]) ++ goPut x true (l.drop (i + 1)) = goPut x false l) := Lib.hid fun h => by
          rw [← Hg.out]; unfold goPut; rw [List.filter_cons, if_pos (by simp [h])]; simp
        clear Hg
        go_wp2_with fail
        refine wp_region_qe0 (by kernel_rfl) (by kernel_rfl) ?_
        repeat (go_big_quiet_step (fail))
        refine wpQuiet_nil ?_
        intro _ hw'
        obtain ⟨nq6, rfl⟩ := hw'
        have hkd : Keep wr (World.drewN wr nq6) := (Mod.refl _ wr).drewN _
        have HK6 := Lib.hid (HKc.out.keep hkd)
        have HB6 := Lib.hid (blk_mod hkd HBc.out id)
        have HV6 := Lib.hid (own_keepF HVc.out hkd)
        have sz6 : w.heap.size + 1 ≤ (World.drewN wr nq6).heap.size := Nat.le_trans hsc hkd.size
        clear hkd HKc HBc HVc
        clear t0a u0a u1a u2a u3a x0a x1a x2a x3a
        generalize World.drewN wr nq6 = wd6 at *
        have t0a : World.cell? wd6 ⟨t, 0, none⟩ = some (.slice (some ⟨lb, lo, none⟩) l.length cap) := blk_cell (blk_mod HK6.out HB.out id) 0
        have u0a : World.cell? wd6 ⟨lb, lo + i * 4, none⟩ = some (.int .i64 y.num) := by have h := HC.out 0 _ rfl; rw [HK6.out.cell (p := ⟨lb, lo + i * 4, none⟩) (lt_of_cell h) id]; exact h
        have u1a : World.cell? wd6 ⟨lb, lo + i * 4 + 1, none⟩ = some (.bool y.dir) := by have h := HC.out 1 _ rfl; rw [HK6.out.cell (p := ⟨lb, lo + i * 4 + 1, none⟩) (lt_of_cell h) id]; exact h
        have u2a : World.cell? wd6 ⟨lb, lo + i * 4 + 2, none⟩ = some (.int .i64 y.links) := by have h := HC.out 2 _ rfl; rw [HK6.out.cell (p := ⟨lb, lo + i * 4 + 2, none⟩) (lt_of_cell h) id]; exact h
        have u3a : World.cell? wd6 ⟨lb, lo + i * 4 + 3, none⟩ = some (.string ⟨y.data.toArray⟩) := by have h := HC.out 3 _ rfl; rw [HK6.out.cell (p := ⟨lb, lo + i * 4 + 3, none⟩) (lt_of_cell h) id]; exact h
        have x0a : World.cell? wd6 ⟨w.heap.size, 0, none⟩ = some (.int .i64 x.num) := blk_cell HB6.out 0
        have x1a : World.cell? wd6 ⟨w.heap.size, 1, none⟩ = some (.bool x.dir) := blk_cell HB6.out 1
        have x2a : World.cell? wd6 ⟨w.heap.size, 2, none⟩ = some (.int .i64 x.links) := blk_cell HB6.out 2
        have x3a : World.cell? wd6 ⟨w.heap.size, 3, none⟩ = some (.string ⟨x.data.toArray⟩) := blk_cell HB6.out 3
        go_wp2_with fail
        by_cases hyx : y.num = x.num
        · have hq9 : (y.num != x.num) = false := by rw [hyx]; simp
          have Hg9 : RowKit.Hid ((acc) ++ goPut x true (l.drop (i + 1)) = goPut x false l) := Lib.hid (HgTe.out hyx)
          clear hyx
          refine wp_region_qe0 (by kernel_rfl) (by kernel_rfl) ?_
          repeat (go_big_quiet_step (fail))
          refine wpQuiet_nil ?_
          intro _ hw'
          obtain ⟨nq9, rfl⟩ := hw'
          have hkd : Keep wd6 (World.drewN wd6 nq9) := (Mod.refl _ wd6).drewN _
          have HK9 := Lib.hid (HK6.out.keep hkd)
          have HB9 := Lib.hid (blk_mod hkd HB6.out id)
          have HV9 := Lib.hid (own_keepF HV6.out hkd)
          have sz9 : w.heap.size + 1 ≤ (World.drewN wd6 nq9).heap.size := Nat.le_trans sz6 hkd.size
          clear hkd HK6 HB6 HV6
          clear t0a u0a u1a u2a u3a x0a x1a x2a x3a
          generalize World.drewN wd6 nq9 = wd9 at *
          have t0b : World.cell? wd9 ⟨t, 0, none⟩ = some (.slice (some ⟨lb, lo, none⟩) l.length cap) := blk_cell (blk_mod HK9.out HB.out id) 0
          have u0b : World.cell? wd9 ⟨lb, lo + i * 4, none⟩ = some (.int .i64 y.num) := by have h := HC.out 0 _ rfl; rw [HK9.out.cell (p := ⟨lb, lo + i * 4, none⟩) (lt_of_cell h) id]; exact h
          have u1b : World.cell? wd9 ⟨lb, lo + i * 4 + 1, none⟩ = some (.bool y.dir) := by have h := HC.out 1 _ rfl; rw [HK9.out.cell (p := ⟨lb, lo + i * 4 + 1, none⟩) (lt_of_cell h) id]; exact h
          have u2b : World.cell? wd9 ⟨lb, lo + i * 4 + 2, none⟩ = some (.int .i64 y.links) := by have h := HC.out 2 _ rfl; rw [HK9.out.cell (p := ⟨lb, lo + i * 4 + 2, none⟩) (lt_of_cell h) id]; exact h
          have u3b : World.cell? wd9 ⟨lb, lo + i * 4 + 3, none⟩ = some (.string ⟨y.data.toArray⟩) := by have h := HC.out 3 _ rfl; rw [HK9.out.cell (p := ⟨lb, lo + i * 4 + 3, none⟩) (lt_of_cell h) id]; exact h
          have x0b : World.cell? wd9 ⟨w.heap.size, 0, none⟩ = some (.int .i64 x.num) := blk_cell HB9.out 0
          have x1b : World.cell? wd9 ⟨w.heap.size, 1, none⟩ = some (.bool x.dir) := blk_cell HB9.out 1
          have x2b : World.cell? wd9 ⟨w.heap.size, 2, none⟩ = some (.int .i64 x.links) := blk_cell HB9.out 2
          have x3b : World.cell? wd9 ⟨w.heap.size, 3, none⟩ = some (.string ⟨x.data.toArray⟩) := blk_cell HB9.out 3
          go_wp2_with fail
          exact ⟨⟨i + 1, acc, true, by omega, by go_num, rfl, HK9.out, sz9, HB9.out, HV9.out, by first | omega | (simp only [List.length_append, List.length_singleton]; omega), Lib.hid (fun h => by cases h), Hg9⟩, by simp [intOf]; omega⟩
        · have hq9 : (y.num != x.num) = true := bne_iff_ne.2 hyx
          have Hg9 : RowKit.Hid (((acc) ++ [y]) ++ goPut x true (l.drop (i + 1)) = goPut x false l) := Lib.hid (HgTn.out hyx)
          clear hyx
          refine wp_region_qe0 (by kernel_rfl) (by kernel_rfl) ?_
          repeat (go_big_quiet_step (fail))
          refine wpQuiet_nil ?_
          intro _ hw'
          obtain ⟨nq9, rfl⟩ := hw'
          have hkd : Keep wd6 (World.drewN wd6 nq9) := (Mod.refl _ wd6).drewN _
          have HK9 := Lib.hid (HK6.out.keep hkd)
          have HB9 := Lib.hid (blk_mod hkd HB6.out id)
          have HV9 := Lib.hid (own_keepF HV6.out hkd)
          have sz9 : w.heap.size + 1 ≤ (World.drewN wd6 nq9).heap.size := Nat.le_trans sz6 hkd.size
          clear hkd HK6 HB6 HV6
          clear t0a u0a u1a u2a u3a x0a x1a x2a x3a
          generalize World.drewN wd6 nq9 = wd9 at *
          have t0b : World.cell? wd9 ⟨t, 0, none⟩ = some (.slice (some ⟨lb, lo, none⟩) l.length cap) := blk_cell (blk_mod HK9.out HB.out id) 0
          have u0b : World.cell? wd9 ⟨lb, lo + i * 4, none⟩ = some (.int .i64 y.num) := by have h := HC.out 0 _ rfl; rw [HK9.out.cell (p := ⟨lb, lo + i * 4, none⟩) (lt_of_cell h) id]; exact h
          have u1b : World.cell? wd9 ⟨lb, lo + i * 4 + 1, none⟩ = some (.bool y.dir) := by have h := HC.out 1 _ rfl; rw [HK9.out.cell (p := ⟨lb, lo + i * 4 + 1, none⟩) (lt_of_cell h) id]; exact h
          have u2b : World.cell? wd9 ⟨lb, lo + i * 4 + 2, none⟩ = some (.int .i64 y.links) := by have h := HC.out 2 _ rfl; rw [HK9.out.cell (p := ⟨lb, lo + i * 4 + 2, none⟩) (lt_of_cell h) id]; exact h
          have u3b : World.cell? wd9 ⟨lb, lo + i * 4 + 3, none⟩ = some (.string ⟨y.data.toArray⟩) := by have h := HC.out 3 _ rfl; rw [HK9.out.cell (p := ⟨lb, lo + i * 4 + 3, none⟩) (lt_of_cell h) id]; exact h
          have x0b : World.cell? wd9 ⟨w.heap.size, 0, none⟩ = some (.int .i64 x.num) := blk_cell HB9.out 0
          have x1b : World.cell? wd9 ⟨w.heap.size, 1, none⟩ = some (.bool x.dir) := blk_cell HB9.out 1
          have x2b : World.cell? wd9 ⟨w.heap.size, 2, none⟩ = some (.int .i64 x.links) := blk_cell HB9.out 2
          have x3b : World.cell? wd9 ⟨w.heap.size, 3, none⟩ = some (.string ⟨x.data.toArray⟩) := blk_cell HB9.out 3
          obtain ⟨v5, w5, hr5, ho5, hk5, hm5⟩ := append_struct (f := nodeC) (x := y) (P := Tryz.prog) Tryz.underlying22 info_node rfl (by decide) nodeC_len (w.heap.size + 1) u4 (acc) wd9 w HV9.out (nodeC_one y) (by unfold maxLen; first | omega | (simp only [List.length_append, List.length_singleton]; omega)) (by first | omega | (simp only [List.length_append, List.length_singleton]; omega)) sz9 HK9.out (by omega)
          have Hr5 := Lib.hid hr5
          have HV5 := Lib.hid ho5
          have HK5 := Lib.hid hk5
          have HB5 := Lib.hid (blk_mod hm5 HB9.out (by omega))
          have sz5 : w.heap.size + 1 ≤ w5.heap.size := Nat.le_trans sz9 hm5.size
          clear hr5 ho5 hk5 hm5
          go_wp2_with ((at_builtin; refine wpList_append_run Hr5.out rfl rfl rfl rfl ?_))
          exact ⟨⟨i + 1, (acc) ++ [y], true, by omega, by go_num, rfl, HK5.out, sz5, HB5.out, HV5.out, by first | omega | (simp only [List.length_append, List.length_singleton]; omega), Lib.hid (fun h => by cases h), Hg9⟩, by simp [intOf]; omega⟩
      | false =>
        by_cases hle : x.num ≤ y.num
        · have t0a : World.cell? wr ⟨t, 0, none⟩ = some (.slice (some ⟨lb, lo, none⟩) l.length cap) := blk_cell (blk_mod HKc.out HB.out id) 0
          have u0a : World.cell? wr ⟨lb, lo + i * 4, none⟩ = some (.int .i64 y.num) := by have h := HC.out 0 _ rfl; rw [HKc.out.cell (p := ⟨lb, lo + i * 4, none⟩) (lt_of_cell h) id]; exact h
          have u1a : World.cell? wr ⟨lb, lo + i * 4 + 1, none⟩ = some (.bool y.dir) := by have h := HC.out 1 _ rfl; rw [HKc.out.cell (p := ⟨lb, lo + i * 4 + 1, none⟩) (lt_of_cell h) id]; exact h
          have u2a : World.cell? wr ⟨lb, lo + i * 4 + 2, none⟩ = some (.int .i64 y.links) := by have h := HC.out 2 _ rfl; rw [HKc.out.cell (p := ⟨lb, lo + i * 4 + 2, none⟩) (lt_of_cell h) id]; exact h
          have u3a : World.cell? wr ⟨lb, lo + i * 4 + 3, none⟩ = some (.string ⟨y.data.toArray⟩) := by have h := HC.out 3 _ rfl; rw [HKc.out.cell (p := ⟨lb, lo + i * 4 + 3, none⟩) (lt_of_cell h) id]; exact h
          have x0a : World.cell? wr ⟨w.heap.size, 0, none⟩ = some (.int .i64 x.num) := blk_cell HBc.out 0
          have x1a : World.cell? wr ⟨w.heap.size, 1, none⟩ = some (.bool x.dir) := blk_cell HBc.out 1
          have x2a : World.cell? wr ⟨w.heap.size, 2, none⟩ = some (.int .i64 x.links) := blk_cell HBc.out 2
          have x3a : World.cell? wr ⟨w.heap.size, 3, none⟩ = some (.string ⟨x.data.toArray⟩) := blk_cell HBc.out 3
          have hali := HL.out rfl
          have HgTe : RowKit.Hid (y.num = x.num → (acc ++ [x]) ++ goPut x true (l.drop (i + 1)) = goPut x false l) := Lib.hid fun h => by
            rw [← Hg.out]
            show _ = acc ++ (if x.num ≤ y.num then _ else _)
            rw [if_pos hle, List.filter_cons, if_neg (by simp [h])]
            simp [goPut]
          have HgTn : RowKit.Hid (¬ y.num = x.num → ((acc ++ [x]) ++ [y]) ++ goPut x true (l.drop (i + 1)) = goPut x false l) := Lib.hid fun h => by
            rw [← Hg.out]
            show _ = acc ++ (if x.num ≤ y.num then _ else _)
            rw [if_pos hle, List.filter_cons, if_pos (by simp [h])]
            simp [goPut]
          clear Hg
          go_wp2_with fail
          refine wp_region_qe0 (by kernel_rfl) (by kernel_rfl) ?_
          repeat (go_big_quiet_step (fail))
          refine wpQuiet_nil ?_
          intro _ hw'
          obtain ⟨nq6, rfl⟩ := hw'
          have hkd : Keep wr (World.drewN wr nq6) := (Mod.refl _ wr).drewN _
          have HK6 := Lib.hid (HKc.out.keep hkd)
          have HB6 := Lib.hid (blk_mod hkd HBc.out id)
          have HV6 := Lib.hid (own_keepF HVc.out hkd)
          have sz6 : w.heap.size + 1 ≤ (World.drewN wr nq6).heap.size := Nat.le_trans hsc hkd.size
          clear hkd HKc HBc HVc
          clear t0a u0a u1a u2a u3a x0a x1a x2a x3a
          generalize World.drewN wr nq6 = wd6 at *
          have t0a : World.cell? wd6 ⟨t, 0, none⟩ = some (.slice (some ⟨lb, lo, none⟩) l.length cap) := blk_cell (blk_mod HK6.out HB.out id) 0
          have u0a : World.cell? wd6 ⟨lb, lo + i * 4, none⟩ = some (.int .i64 y.num) := by have h := HC.out 0 _ rfl; rw [HK6.out.cell (p := ⟨lb, lo + i * 4, none⟩) (lt_of_cell h) id]; exact h
          have u1a : World.cell? wd6 ⟨lb, lo + i * 4 + 1, none⟩ = some (.bool y.dir) := by have h := HC.out 1 _ rfl; rw [HK6.out.cell (p := ⟨lb, lo + i * 4 + 1, none⟩) (lt_of_cell h) id]; exact h
          have u2a : World.cell? wd6 ⟨lb, lo + i * 4 + 2, none⟩ = some (.int .i64 y.links) := by have h := HC.out 2 _ rfl; rw [HK6.out.cell (p := ⟨lb, lo + i * 4 + 2, none⟩) (lt_of_cell h) id]; exact h
          have u3a : World.cell? wd6 ⟨lb, lo + i * 4 + 3, none⟩ = some (.string ⟨y.data.toArray⟩) := by have h := HC.out 3 _ rfl; rw [HK6.out.cell (p := ⟨lb, lo + i * 4 + 3, none⟩) (lt_of_cell h) id]; exact h
          have x0a : World.cell? wd6 ⟨w.heap.size, 0, none⟩ = some (.int .i64 x.num) := blk_cell HB6.out 0
          have x1a : World.cell? wd6 ⟨w.heap.size, 1, none⟩ = some (.bool x.dir) := blk_cell HB6.out 1
          have x2a : World.cell? wd6 ⟨w.heap.size, 2, none⟩ = some (.int .i64 x.links) := blk_cell HB6.out 2
          have x3a : World.cell? wd6 ⟨w.heap.size, 3, none⟩ = some (.string ⟨x.data.toArray⟩) := blk_cell HB6.out 3
          obtain ⟨v7, w7, hr7, ho7, hk7, hm7⟩ := append_struct (f := nodeC) (x := x) (P := Tryz.prog) Tryz.underlying22 info_node rfl (by decide) nodeC_len (w.heap.size + 1) u4 (acc) wd6 w HV6.out (nodeC_one x) (by unfold maxLen; first | omega | (simp only [List.length_append, List.length_singleton]; omega)) (by first | omega | (simp only [List.length_append, List.length_singleton]; omega)) sz6 HK6.out (by omega)
          have Hr7 := Lib.hid hr7
          have HV7 := Lib.hid ho7
          have HK7 := Lib.hid hk7
          have HB7 := Lib.hid (blk_mod hm7 HB6.out (by omega))
          have sz7 : w.heap.size + 1 ≤ w7.heap.size := Nat.le_trans sz6 hm7.size
          clear hr7 ho7 hk7 hm7
          go_wp2_with ((at_builtin; refine wpList_append_run Hr7.out rfl rfl rfl rfl ?_))
          clear t0a u0a u1a u2a u3a x0a x1a x2a x3a HV6 HK6 HB6
          have t0a : World.cell? w7 ⟨t, 0, none⟩ = some (.slice (some ⟨lb, lo, none⟩) l.length cap) := blk_cell (blk_mod HK7.out HB.out id) 0
          have u0a : World.cell? w7 ⟨lb, lo + i * 4, none⟩ = some (.int .i64 y.num) := by have h := HC.out 0 _ rfl; rw [HK7.out.cell (p := ⟨lb, lo + i * 4, none⟩) (lt_of_cell h) id]; exact h
          have u1a : World.cell? w7 ⟨lb, lo + i * 4 + 1, none⟩ = some (.bool y.dir) := by have h := HC.out 1 _ rfl; rw [HK7.out.cell (p := ⟨lb, lo + i * 4 + 1, none⟩) (lt_of_cell h) id]; exact h
          have u2a : World.cell? w7 ⟨lb, lo + i * 4 + 2, none⟩ = some (.int .i64 y.links) := by have h := HC.out 2 _ rfl; rw [HK7.out.cell (p := ⟨lb, lo + i * 4 + 2, none⟩) (lt_of_cell h) id]; exact h
          have u3a : World.cell? w7 ⟨lb, lo + i * 4 + 3, none⟩ = some (.string ⟨y.data.toArray⟩) := by have h := HC.out 3 _ rfl; rw [HK7.out.cell (p := ⟨lb, lo + i * 4 + 3, none⟩) (lt_of_cell h) id]; exact h
          have x0a : World.cell? w7 ⟨w.heap.size, 0, none⟩ = some (.int .i64 x.num) := blk_cell HB7.out 0
          have x1a : World.cell? w7 ⟨w.heap.size, 1, none⟩ = some (.bool x.dir) := blk_cell HB7.out 1
          have x2a : World.cell? w7 ⟨w.heap.size, 2, none⟩ = some (.int .i64 x.links) := blk_cell HB7.out 2
          have x3a : World.cell? w7 ⟨w.heap.size, 3, none⟩ = some (.string ⟨x.data.toArray⟩) := blk_cell HB7.out 3
          by_cases hyx : y.num = x.num
          · have hq9 : (y.num != x.num) = false := by rw [hyx]; simp
            have Hg9 : RowKit.Hid ((acc ++ [x]) ++ goPut x true (l.drop (i + 1)) = goPut x false l) := Lib.hid (HgTe.out hyx)
            clear hyx
            refine wp_region_qe0 (by kernel_rfl) (by kernel_rfl) ?_
            repeat (go_big_quiet_step (fail))
            refine wpQuiet_nil ?_
            intro _ hw'
            obtain ⟨nq9, rfl⟩ := hw'
            have hkd : Keep w7 (World.drewN w7 nq9) := (Mod.refl _ w7).drewN _
            have HK9 := Lib.hid (HK7.out.keep hkd)
            have HB9 := Lib.hid (blk_mod hkd HB7.out id)
            have HV9 := Lib.hid (own_keepF HV7.out hkd)
            have sz9 : w.heap.size + 1 ≤ (World.drewN w7 nq9).heap.size := Nat.le_trans sz7 hkd.size
            clear hkd HK7 HB7 HV7
            clear t0a u0a u1a u2a u3a x0a x1a x2a x3a
            generalize World.drewN w7 nq9 = wd9 at *
            have t0b : World.cell? wd9 ⟨t, 0, none⟩ = some (.slice (some ⟨lb, lo, none⟩) l.length cap) := blk_cell (blk_mod HK9.out HB.out id) 0
            have u0b : World.cell? wd9 ⟨lb, lo + i * 4, none⟩ = some (.int .i64 y.num) := by have h := HC.out 0 _ rfl; rw [HK9.out.cell (p := ⟨lb, lo + i * 4, none⟩) (lt_of_cell h) id]; exact h
            have u1b : World.cell? wd9 ⟨lb, lo + i * 4 + 1, none⟩ = some (.bool y.dir) := by have h := HC.out 1 _ rfl; rw [HK9.out.cell (p := ⟨lb, lo + i * 4 + 1, none⟩) (lt_of_cell h) id]; exact h
            have u2b : World.cell? wd9 ⟨lb, lo + i * 4 + 2, none⟩ = some (.int .i64 y.links) := by have h := HC.out 2 _ rfl; rw [HK9.out.cell (p := ⟨lb, lo + i * 4 + 2, none⟩) (lt_of_cell h) id]; exact h
            have u3b : World.cell? wd9 ⟨lb, lo + i * 4 + 3, none⟩ = some (.string ⟨y.data.toArray⟩) := by have h := HC.out 3 _ rfl; rw [HK9.out.cell (p := ⟨lb, lo + i * 4 + 3, none⟩) (lt_of_cell h) id]; exact h
            have x0b : World.cell? wd9 ⟨w.heap.size, 0, none⟩ = some (.int .i64 x.num) := blk_cell HB9.out 0
            have x1b : World.cell? wd9 ⟨w.heap.size, 1, none⟩ = some (.bool x.dir) := blk_cell HB9.out 1
            have x2b : World.cell? wd9 ⟨w.heap.size, 2, none⟩ = some (.int .i64 x.links) := blk_cell HB9.out 2
            have x3b : World.cell? wd9 ⟨w.heap.size, 3, none⟩ = some (.string ⟨x.data.toArray⟩) := blk_cell HB9.out 3
            go_wp2_with fail
            exact ⟨⟨i + 1, acc ++ [x], true, by omega, by go_num, rfl, HK9.out, sz9, HB9.out, HV9.out, by first | omega | (simp only [List.length_append, List.length_singleton]; omega), Lib.hid (fun h => by cases h), Hg9⟩, by simp [intOf]; omega⟩
          · have hq9 : (y.num != x.num) = true := bne_iff_ne.2 hyx
            have Hg9 : RowKit.Hid (((acc ++ [x]) ++ [y]) ++ goPut x true (l.drop (i + 1)) = goPut x false l) := Lib.hid (HgTn.out hyx)
            clear hyx
            refine wp_region_qe0 (by kernel_rfl) (by kernel_rfl) ?_
            repeat (go_big_quiet_step (fail))
            refine wpQuiet_nil ?_
            intro _ hw'
            obtain ⟨nq9, rfl⟩ := hw'
            have hkd : Keep w7 (World.drewN w7 nq9) := (Mod.refl _ w7).drewN _
            have HK9 := Lib.hid (HK7.out.keep hkd)
            have HB9 := Lib.hid (blk_mod hkd HB7.out id)
            have HV9 := Lib.hid (own_keepF HV7.out hkd)
            have sz9 : w.heap.size + 1 ≤ (World.drewN w7 nq9).heap.size := Nat.le_trans sz7 hkd.size
            clear hkd HK7 HB7 HV7
            clear t0a u0a u1a u2a u3a x0a x1a x2a x3a
            generalize World.drewN w7 nq9 = wd9 at *
            have t0b : World.cell? wd9 ⟨t, 0, none⟩ = some (.slice (some ⟨lb, lo, none⟩) l.length cap) := blk_cell (blk_mod HK9.out HB.out id) 0
            have u0b : World.cell? wd9 ⟨lb, lo + i * 4, none⟩ = some (.int .i64 y.num) := by have h := HC.out 0 _ rfl; rw [HK9.out.cell (p := ⟨lb, lo + i * 4, none⟩) (lt_of_cell h) id]; exact h
            have u1b : World.cell? wd9 ⟨lb, lo + i * 4 + 1, none⟩ = some (.bool y.dir) := by have h := HC.out 1 _ rfl; rw [HK9.out.cell (p := ⟨lb, lo + i * 4 + 1, none⟩) (lt_of_cell h) id]; exact h
            have u2b : World.cell? wd9 ⟨lb, lo + i * 4 + 2, none⟩ = some (.int .i64 y.links) := by have h := HC.out 2 _ rfl; rw [HK9.out.cell (p := ⟨lb, lo + i * 4 + 2, none⟩) (lt_of_cell h) id]; exact h
            have u3b : World.cell? wd9 ⟨lb, lo + i * 4 + 3, none⟩ = some (.string ⟨y.data.toArray⟩) := by have h := HC.out 3 _ rfl; rw [HK9.out.cell (p := ⟨lb, lo + i * 4 + 3, none⟩) (lt_of_cell h) id]; exact h
            have x0b : World.cell? wd9 ⟨w.heap.size, 0, none⟩ = some (.int .i64 x.num) := blk_cell HB9.out 0
            have x1b : World.cell? wd9 ⟨w.heap.size, 1, none⟩ = some (.bool x.dir) := blk_cell HB9.out 1
            have x2b : World.cell? wd9 ⟨w.heap.size, 2, none⟩ = some (.int .i64 x.links) := blk_cell HB9.out 2
            have x3b : World.cell? wd9 ⟨w.heap.size, 3, none⟩ = some (.string ⟨x.data.toArray⟩) := blk_cell HB9.out 3
            obtain ⟨v5, w5, hr5, ho5, hk5, hm5⟩ := append_struct (f := nodeC) (x := y) (P := Tryz.prog) Tryz.underlying22 info_node rfl (by decide) nodeC_len (w.heap.size + 1) v7 (acc ++ [x]) wd9 w HV9.out (nodeC_one y) (by unfold maxLen; first | omega | (simp only [List.length_append, List.length_singleton]; omega)) (by first | omega | (simp only [List.length_append, List.length_singleton]; omega)) sz9 HK9.out (by omega)
            have Hr5 := Lib.hid hr5
            have HV5 := Lib.hid ho5
            have HK5 := Lib.hid hk5
            have HB5 := Lib.hid (blk_mod hm5 HB9.out (by omega))
            have sz5 : w.heap.size + 1 ≤ w5.heap.size := Nat.le_trans sz9 hm5.size
            clear hr5 ho5 hk5 hm5
            go_wp2_with ((at_builtin; refine wpList_append_run Hr5.out rfl rfl rfl rfl ?_))
            exact ⟨⟨i + 1, (acc ++ [x]) ++ [y], true, by omega, by go_num, rfl, HK5.out, sz5, HB5.out, HV5.out, by first | omega | (simp only [List.length_append, List.length_singleton]; omega), Lib.hid (fun h => by cases h), Hg9⟩, by simp [intOf]; omega⟩
        · have t0a : World.cell? wr ⟨t, 0, none⟩ = some (.slice (some ⟨lb, lo, none⟩) l.length cap) := blk_cell (blk_mod HKc.out HB.out id) 0
          have u0a : World.cell? wr ⟨lb, lo + i * 4, none⟩ = some (.int .i64 y.num) := by have h := HC.out 0 _ rfl; rw [HKc.out.cell (p := ⟨lb, lo + i * 4, none⟩) (lt_of_cell h) id]; exact h
          have u1a : World.cell? wr ⟨lb, lo + i * 4 + 1, none⟩ = some (.bool y.dir) := by have h := HC.out 1 _ rfl; rw [HKc.out.cell (p := ⟨lb, lo + i * 4 + 1, none⟩) (lt_of_cell h) id]; exact h
          have u2a : World.cell? wr ⟨lb, lo + i * 4 + 2, none⟩ = some (.int .i64 y.links) := by have h := HC.out 2 _ rfl; rw [HKc.out.cell (p := ⟨lb, lo + i * 4 + 2, none⟩) (lt_of_cell h) id]; exact h
          have u3a : World.cell? wr ⟨lb, lo + i * 4 + 3, none⟩ = some (.string ⟨y.data.toArray⟩) := by have h := HC.out 3 _ rfl; rw [HKc.out.cell (p := ⟨lb, lo + i * 4 + 3, none⟩) (lt_of_cell h) id]; exact h
          have x0a : World.cell? wr ⟨w.heap.size, 0, none⟩ = some (.int .i64 x.num) := blk_cell HBc.out 0
          have x1a : World.cell? wr ⟨w.heap.size, 1, none⟩ = some (.bool x.dir) := blk_cell HBc.out 1
          have x2a : World.cell? wr ⟨w.heap.size, 2, none⟩ = some (.int .i64 x.links) := blk_cell HBc.out 2
          have x3a : World.cell? wr ⟨w.heap.size, 3, none⟩ = some (.string ⟨x.data.toArray⟩) := blk_cell HBc.out 3
          have hali := HL.out rfl
          have HgTn : RowKit.Hid ((acc ++ [y]) ++ goPut x false (l.drop (i + 1)) = goPut x false l) := Lib.hid (by
            rw [← Hg.out]
            show _ = acc ++ (if x.num ≤ y.num then _ else _)
            rw [if_neg hle]; simp)
          have hq9 : (y.num != x.num) = true := bne_iff_ne.2 (by omega)
          have hlt2 : ¬ x.num ≤ y.num := hle
          clear Hg
          go_wp2_with fail
          refine wp_region_qe0 (by kernel_rfl) (by kernel_rfl) ?_
          repeat (go_big_quiet_step (fail))
          refine wpQuiet_nil ?_
          intro _ hw'
          obtain ⟨nq6, rfl⟩ := hw'
          have hkd : Keep wr (World.drewN wr nq6) := (Mod.refl _ wr).drewN _
          have HK6 := Lib.hid (HKc.out.keep hkd)
          have HB6 := Lib.hid (blk_mod hkd HBc.out id)
          have HV6 := Lib.hid (own_keepF HVc.out hkd)
          have sz6 : w.heap.size + 1 ≤ (World.drewN wr nq6).heap.size := Nat.le_trans hsc hkd.size
          clear hkd HKc HBc HVc
          clear t0a u0a u1a u2a u3a x0a x1a x2a x3a
          generalize World.drewN wr nq6 = wd6 at *
          have t0a : World.cell? wd6 ⟨t, 0, none⟩ = some (.slice (some ⟨lb, lo, none⟩) l.length cap) := blk_cell (blk_mod HK6.out HB.out id) 0
          have u0a : World.cell? wd6 ⟨lb, lo + i * 4, none⟩ = some (.int .i64 y.num) := by have h := HC.out 0 _ rfl; rw [HK6.out.cell (p := ⟨lb, lo + i * 4, none⟩) (lt_of_cell h) id]; exact h
          have u1a : World.cell? wd6 ⟨lb, lo + i * 4 + 1, none⟩ = some (.bool y.dir) := by have h := HC.out 1 _ rfl; rw [HK6.out.cell (p := ⟨lb, lo + i * 4 + 1, none⟩) (lt_of_cell h) id]; exact h
          have u2a : World.cell? wd6 ⟨lb, lo + i * 4 + 2, none⟩ = some (.int .i64 y.links) := by have h := HC.out 2 _ rfl; rw [HK6.out.cell (p := ⟨lb, lo + i * 4 + 2, none⟩) (lt_of_cell h) id]; exact h
          have u3a : World.cell? wd6 ⟨lb, lo + i * 4 + 3, none⟩ = some (.string ⟨y.data.toArray⟩) := by have h := HC.out 3 _ rfl; rw [HK6.out.cell (p := ⟨lb, lo + i * 4 + 3, none⟩) (lt_of_cell h) id]; exact h
          have x0a : World.cell? wd6 ⟨w.heap.size, 0, none⟩ = some (.int .i64 x.num) := blk_cell HB6.out 0
          have x1a : World.cell? wd6 ⟨w.heap.size, 1, none⟩ = some (.bool x.dir) := blk_cell HB6.out 1
          have x2a : World.cell? wd6 ⟨w.heap.size, 2, none⟩ = some (.int .i64 x.links) := blk_cell HB6.out 2
          have x3a : World.cell? wd6 ⟨w.heap.size, 3, none⟩ = some (.string ⟨x.data.toArray⟩) := blk_cell HB6.out 3
          go_wp2_with fail
          refine wp_region_qe0 (by kernel_rfl) (by kernel_rfl) ?_
          repeat (go_big_quiet_step (fail))
          refine wpQuiet_nil ?_
          intro _ hw'
          obtain ⟨nq9, rfl⟩ := hw'
          have hkd : Keep wd6 (World.drewN wd6 nq9) := (Mod.refl _ wd6).drewN _
          have HK9 := Lib.hid (HK6.out.keep hkd)
          have HB9 := Lib.hid (blk_mod hkd HB6.out id)
          have HV9 := Lib.hid (own_keepF HV6.out hkd)
          have sz9 : w.heap.size + 1 ≤ (World.drewN wd6 nq9).heap.size := Nat.le_trans sz6 hkd.size
          clear hkd HK6 HB6 HV6
          clear t0a u0a u1a u2a u3a x0a x1a x2a x3a
          generalize World.drewN wd6 nq9 = wd9 at *
          have t0b : World.cell? wd9 ⟨t, 0, none⟩ = some (.slice (some ⟨lb, lo, none⟩) l.length cap) := blk_cell (blk_mod HK9.out HB.out id) 0
          have u0b : World.cell? wd9 ⟨lb, lo + i * 4, none⟩ = some (.int .i64 y.num) := by have h := HC.out 0 _ rfl; rw [HK9.out.cell (p := ⟨lb, lo + i * 4, none⟩) (lt_of_cell h) id]; exact h
          have u1b : World.cell? wd9 ⟨lb, lo + i * 4 + 1, none⟩ = some (.bool y.dir) := by have h := HC.out 1 _ rfl; rw [HK9.out.cell (p := ⟨lb, lo + i * 4 + 1, none⟩) (lt_of_cell h) id]; exact h
          have u2b : World.cell? wd9 ⟨lb, lo + i * 4 + 2, none⟩ = some (.int .i64 y.links) := by have h := HC.out 2 _ rfl; rw [HK9.out.cell (p := ⟨lb, lo + i * 4 + 2, none⟩) (lt_of_cell h) id]; exact h
          have u3b : World.cell? wd9 ⟨lb, lo + i * 4 + 3, none⟩ = some (.string ⟨y.data.toArray⟩) := by have h := HC.out 3 _ rfl; rw [HK9.out.cell (p := ⟨lb, lo + i * 4 + 3, none⟩) (lt_of_cell h) id]; exact h
          have x0b : World.cell? wd9 ⟨w.heap.size, 0, none⟩ = some (.int .i64 x.num) := blk_cell HB9.out 0
          have x1b : World.cell? wd9 ⟨w.heap.size, 1, none⟩ = some (.bool x.dir) := blk_cell HB9.out 1
          have x2b : World.cell? wd9 ⟨w.heap.size, 2, none⟩ = some (.int .i64 x.links) := blk_cell HB9.out 2
          have x3b : World.cell? wd9 ⟨w.heap.size, 3, none⟩ = some (.string ⟨x.data.toArray⟩) := blk_cell HB9.out 3
          obtain ⟨v5, w5, hr5, ho5, hk5, hm5⟩ := append_struct (f := nodeC) (x := y) (P := Tryz.prog) Tryz.underlying22 info_node rfl (by decide) nodeC_len (w.heap.size + 1) u4 (acc) wd9 w HV9.out (nodeC_one y) (by unfold maxLen; first | omega | (simp only [List.length_append, List.length_singleton]; omega)) (by first | omega | (simp only [List.length_append, List.length_singleton]; omega)) sz9 HK9.out (by omega)
          have Hr5 := Lib.hid hr5
          have HV5 := Lib.hid ho5
          have HK5 := Lib.hid hk5
          have HB5 := Lib.hid (blk_mod hm5 HB9.out (by omega))
          have sz5 : w.heap.size + 1 ≤ w5.heap.size := Nat.le_trans sz9 hm5.size
          clear hr5 ho5 hk5 hm5
          go_wp2_with ((at_builtin; refine wpList_append_run Hr5.out rfl rfl rfl rfl ?_))
          exact ⟨⟨i + 1, acc ++ [y], false, by omega, by go_num, rfl, HK5.out, sz5, HB5.out, HV5.out, by first | omega | (simp only [List.length_append, List.length_singleton]; omega), Lib.hid (fun _ => by first | omega | (simp only [List.length_append, List.length_singleton]; omega)), HgTn⟩, by simp [intOf]; omega⟩
    · obtain rfl : i = l.length := by omega
      have hd : l.drop l.length = [] := List.drop_length
      rw [hd] at Hg
      have f0 : wr.frozen? ⟨t, 0, none⟩ = false := blk_free (blk_mod HKc.out HB.out id) _ rfl
      clear hlt hd
      cases dn with
      | true =>
        have He : RowKit.Hid (goPut x false l = acc) := Lib.hid (by rw [← Hg.out]; simp [goPut])
        obtain ⟨ua, ucap, ue, _⟩ := rowF_own nodeC_len HVc.out
        subst ue
        have hmf : Mod (· = t) w (wr.setCell ⟨t, 0, none⟩ (.slice ua acc.length ucap)) := Mod.setCell (S := fun b => b = t) (p := ⟨t, 0, none⟩) (HKc.out.mono (fun _ _ h => h.elim)) (.inl rfl) _
        have hms : Mod (· = t) wr (wr.setCell ⟨t, 0, none⟩ (.slice ua acc.length ucap)) := Mod.setCell (S := fun b => b = t) (p := ⟨t, 0, none⟩) (Mod.refl _ _) (.inl rfl) _
        have HF : RowKit.Hid (RefAt (wr.setCell ⟨t, 0, none⟩ (.slice ua acc.length ucap)) t acc) := Lib.hid (ref_of_own (blk_set (blk_mod HKc.out HB.out id) 0 _) (own_modF HVc.out hms (by omega)) (by omega))
        have HMf := Lib.hid hmf
        clear Hg hmf hms
        go_wp2_with fail
        go_end0
        exact ⟨rfl, by rw [He.out]; exact HF.out, HMf.out⟩
      | false =>
        have He : RowKit.Hid (goPut x false l = acc ++ [x]) := Lib.hid (by rw [← Hg.out]; simp [goPut])
        have x0 : wr.cell? ⟨w.heap.size, 0, none⟩ = some (.int .i64 x.num) := blk_cell HBc.out 0
        have x1 : wr.cell? ⟨w.heap.size, 1, none⟩ = some (.bool x.dir) := blk_cell HBc.out 1
        have x2 : wr.cell? ⟨w.heap.size, 2, none⟩ = some (.int .i64 x.links) := blk_cell HBc.out 2
        have x3 : wr.cell? ⟨w.heap.size, 3, none⟩ = some (.string ⟨x.data.toArray⟩) := blk_cell HBc.out 3
        obtain ⟨v7, w7, hr7, ho7, hk7, hm7⟩ := append_struct (f := nodeC) (x := x) (P := Tryz.prog) Tryz.underlying22 info_node rfl (by decide) nodeC_len (w.heap.size + 1) u4 acc wr w HVc.out (nodeC_one x) (by unfold maxLen; omega) (by omega) hsc HKc.out (by omega)
        have Hr7 := Lib.hid hr7
        have HV7 := Lib.hid ho7
        have HK7 := Lib.hid hk7
        have f7 : w7.frozen? ⟨t, 0, none⟩ = false := blk_free (blk_mod hk7 HB.out id) _ rfl
        have t7 : w7.cell? ⟨t, 0, none⟩ = some (.slice a l.length cap) := blk_cell (blk_mod hk7 HB.out id) 0
        obtain ⟨ua, ucap, ue, _⟩ := rowF_own nodeC_len HV7.out
        subst ue
        have hmf : Mod (· = t) w (w7.setCell ⟨t, 0, none⟩ (.slice ua (acc ++ [x]).length ucap)) := Mod.setCell (S := fun b => b = t) (p := ⟨t, 0, none⟩) (HK7.out.mono (fun _ _ h => h.elim)) (.inl rfl) _
        have hms : Mod (· = t) w7 (w7.setCell ⟨t, 0, none⟩ (.slice ua (acc ++ [x]).length ucap)) := Mod.setCell (S := fun b => b = t) (p := ⟨t, 0, none⟩) (Mod.refl _ _) (.inl rfl) _
        have HF : RowKit.Hid (RefAt (w7.setCell ⟨t, 0, none⟩ (.slice ua (acc ++ [x]).length ucap)) t (acc ++ [x])) := Lib.hid (ref_of_own (blk_set (blk_mod HK7.out HB.out id) 0 _) (own_modF HV7.out hms (by omega)) (by omega))
        have HMf := Lib.hid hmf
        rw [show (acc ++ [x]).length = acc.length + 1 by simp] at HF HMf
        clear Hg hr7 ho7 hk7 hm7 hmf hms
        go_wp2_with ((at_builtin; refine wpList_append_run Hr7.out rfl rfl rfl rfl ?_))
        go_end0
        exact ⟨rfl, by rw [He.out]; exact HF.out, HMf.out⟩
theorem goDrop_len (num : Int) (l : List Nt) : (l.filter fun y => !(y.num == num)).length ≤ l.length := List.length_filter_le _ _
set_option maxRecDepth 100000 in
set_option maxHeartbeats 8000000 in
theorem rdrop_any (h : RefAt w t l) (hl : l.length ≤ 1000) (num : Int) : Calls Tryz.prog 52 #[.pointer (some ⟨t, 0, none⟩), .int .i64 num] w fun e w' => e = .returned (.tuple #[]) ∧ RefAt w' t (l.filter fun y => !(y.num == num)) ∧ Mod (· = t) w w' := by
  obtain ⟨a, cap, hb, hx⟩ := h.row
  have HB := Lib.hid hb
  have HX := Lib.hid hx
  have hli : (l.length : Int) ≤ 1000 := by omega
  have htl := blk_lt hb
  clear h hb hx
  go_enter Tryz.func52, Tryz.ntmps52
  go_wp2_with fail
  have HK0 : RowKit.Hid (Keep w (w.alloc (.cells #[] 41))) := Lib.hid ((Mod.refl _ w).alloc _)
  have HV0 : RowKit.Hid (OwnF nodeC 4 41 (w.alloc (.cells #[] 41)) w.heap.size (.slice (some ⟨w.heap.size, 0, none⟩) 0 0) []) := Lib.hid ⟨by simp, .inr ⟨_, 0, #[], rfl, Nat.le_refl _, blk_new _ _ _, Nat.le_refl _, by simp, by simp, by simp⟩⟩
  have hs0 : w.heap.size ≤ (w.alloc (.cells #[] 41)).heap.size := by simp
  generalize (w.alloc (.cells #[] 41)) = w0 at *
  go_loopw [4, 5] (fun v iv wr => ∃ (i : Nat) (acc : List Nt), i ≤ l.length ∧ iv = .int .i64 (i : Int) ∧ Keep w wr ∧ w.heap.size ≤ wr.heap.size ∧ OwnF nodeC 4 41 wr w.heap.size v acc ∧ acc.length ≤ i ∧ RowKit.Hid (acc = (l.take i).filter fun y => !(y.num == num))) (fun _ iv _ => l.length - (intOf iv).toNat)
  case atStart => exact ⟨0, [], by omega, rfl, HK0.out, hs0, HV0.out, by simp, Lib.hid rfl⟩
  case round =>
    clear HK0 HV0 hs0
    obtain ⟨i, acc, hi, rfl, hK, hsc, hV, hal, Hg⟩ := hrel
    have HKc := Lib.hid hK
    have HVc := Lib.hid hV
    have t0 : wr.cell? ⟨t, 0, none⟩ = some (.slice a l.length cap) := blk_cell (blk_mod hK HB.out id) 0
    clear hK hV
    by_cases hlt : i < l.length
    · obtain ⟨y, hy⟩ : ∃ y, l[i]? = some y := ⟨_, List.getElem?_eq_getElem hlt⟩
      obtain ⟨lb, lo, rfl, hne, hc⟩ := HX.out i y hy
      have u0 : wr.cell? ⟨lb, lo + i * 4, none⟩ = some (.int .i64 y.num) := by have h := hc 0 _ rfl; rw [HKc.out.cell (p := ⟨lb, lo + i * 4, none⟩) (lt_of_cell h) id]; exact h
      have u1 : wr.cell? ⟨lb, lo + i * 4 + 1, none⟩ = some (.bool y.dir) := by have h := hc 1 _ rfl; rw [HKc.out.cell (p := ⟨lb, lo + i * 4 + 1, none⟩) (lt_of_cell h) id]; exact h
      have u2 : wr.cell? ⟨lb, lo + i * 4 + 2, none⟩ = some (.int .i64 y.links) := by have h := hc 2 _ rfl; rw [HKc.out.cell (p := ⟨lb, lo + i * 4 + 2, none⟩) (lt_of_cell h) id]; exact h
      have u3 : wr.cell? ⟨lb, lo + i * 4 + 3, none⟩ = some (.string ⟨y.data.toArray⟩) := by have h := hc 3 _ rfl; rw [HKc.out.cell (p := ⟨lb, lo + i * 4 + 3, none⟩) (lt_of_cell h) id]; exact h
      have hil : (i : Int) < l.length := by omega
      have Hy := Lib.hid hy
      clear hy hc hne
      by_cases hq : y.num = num
      · have hqb : (y.num != num) = false := by rw [hq]; simp
        have Hg2 : RowKit.Hid (acc = (l.take (i + 1)).filter fun y => !(y.num == num)) := Lib.hid (by rw [take_snoc Hy.out, List.filter_append, ← Hg.out]; simp [hq])
        clear hq
        go_wp2_with fail
        exact ⟨⟨i + 1, acc, by omega, by go_num, HKc.out, hsc, HVc.out, by omega, Hg2⟩, by simp [intOf]; omega⟩
      · have hqb : (y.num != num) = true := bne_iff_ne.2 hq
        have Hg2 : RowKit.Hid (acc ++ [y] = (l.take (i + 1)).filter fun y => !(y.num == num)) := Lib.hid (by rw [take_snoc Hy.out, List.filter_append, ← Hg.out]; simp [hq])
        obtain ⟨v7, w7, hr7, ho7, hk7, hm7⟩ := append_struct (f := nodeC) (x := y) (P := Tryz.prog) Tryz.underlying22 info_node rfl (by decide) nodeC_len w.heap.size u4 acc wr w HVc.out (nodeC_one y) (by unfold maxLen; omega) (by omega) hsc HKc.out (by omega)
        have Hr7 := Lib.hid hr7
        have HV7 := Lib.hid ho7
        have HK7 := Lib.hid hk7
        have hs7 : w.heap.size ≤ w7.heap.size := Nat.le_trans hsc hm7.size
        clear hq hr7 ho7 hk7 hm7
        go_wp2_with ((at_builtin; refine wpList_append_run Hr7.out rfl rfl rfl rfl ?_))
        exact ⟨⟨i + 1, acc ++ [y], by omega, by go_num, HK7.out, hs7, HV7.out, by simp; omega, Hg2⟩, by simp [intOf]; omega⟩
    · obtain rfl : i = l.length := by omega
      have He : RowKit.Hid ((l.filter fun y => !(y.num == num)) = acc) := Lib.hid (by rw [Hg.out, List.take_length])
      have f0 : wr.frozen? ⟨t, 0, none⟩ = false := blk_free (blk_mod HKc.out HB.out id) _ rfl
      obtain ⟨ua, ucap, ue, _⟩ := rowF_own nodeC_len HVc.out
      subst ue
      have hmf : Mod (· = t) w (wr.setCell ⟨t, 0, none⟩ (.slice ua acc.length ucap)) := Mod.setCell (S := fun b => b = t) (p := ⟨t, 0, none⟩) (HKc.out.mono (fun _ _ h => h.elim)) (.inl rfl) _
      have hms : Mod (· = t) wr (wr.setCell ⟨t, 0, none⟩ (.slice ua acc.length ucap)) := Mod.setCell (S := fun b => b = t) (p := ⟨t, 0, none⟩) (Mod.refl _ _) (.inl rfl) _
      have HF : RowKit.Hid (RefAt (wr.setCell ⟨t, 0, none⟩ (.slice ua acc.length ucap)) t acc) := Lib.hid (ref_of_own (blk_set (blk_mod HKc.out HB.out id) 0 _) (own_modF HVc.out hms (by omega)) (by omega))
      have HMf := Lib.hid hmf
      clear Hg hmf hms hlt
      go_wp2_with fail
      go_end0
      exact ⟨rfl, by rw [He.out]; exact HF.out, HMf.out⟩
end
end
end Go.Proofs.YthmpblccplphfaaGreatDoor
