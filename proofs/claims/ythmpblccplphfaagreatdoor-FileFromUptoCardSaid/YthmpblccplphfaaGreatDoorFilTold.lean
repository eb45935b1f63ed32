/-
  A node as it is told; all nodes.
-/
import Derived.Test.YthmpblccplphfaaGreatDoorFilList
import Derived.Test.YthmpblccplphfaaGreatDoorTabLays
namespace Go.Proofs.YthmpblccplphfaaGreatDoor
open Go.RowKit
abbrev nodeV (x : Nt) : Value := .agg #[.int .i64 x.num, .bool x.dir, .int .i64 x.links, .string ⟨x.data.toArray⟩]
def nodeC (x : Nt) : List Value := [.int .i64 x.num, .bool x.dir, .int .i64 x.links, .string ⟨x.data.toArray⟩]
theorem nodeC_len : ∀ x, (nodeC x).length = 4 := fun _ => rfl
theorem info_ent : (Tryz.prog.info? 98).map (fun i => (i.zero, i.size, i.bytes)) = some (some (.agg #[.string ⟨#[]⟩, .int .i64 0]), 2, 24) := by kernel_rfl
theorem entC_one : ∀ p, ∀ u ∈ entC p, u.oneCell' = true := by
  intro p u hu
  simp only [entC, List.mem_cons, List.not_mem_nil, or_false] at hu
  rcases hu with rfl | rfl <;> rfl
theorem ents_sorted {l : Nm} (h : ∀ p ∈ l, nameOk p.1 = true ∧ 1 ≤ p.2 ∧ p.2 ≤ 65535) : ∀ was, (∀ s, was = some s → ∀ p ∈ l, bytesBefore s p.1 = true) → SortedN l → entsB was l = true := by
  induction l with
  | nil => intro _ _ _; rfl
  | cons p r ih =>
    intro was hw hs
    obtain ⟨h1, h2⟩ := List.pairwise_cons.1 hs
    rw [entsB, Bool.and_eq_true]
    obtain ⟨a, b, c⟩ := h p (by simp)
    refine ⟨?_, ih (fun q hq => h q (by simp [hq])) _ (fun s e q hq => by cases e; exact h1 q hq) h2⟩
    cases was with
    | none => simp [entB, a, b, c]
    | some s => simp [entB, a, b, c, hw s rfl p (by simp)]
theorem WFo.ents {T : Tr} {d : Int → Nat} {off : Int → Int} (hw : WFo T d off) {n : Nd} (hn : n ∈ T) : entsOk n.names = true := by
  obtain ⟨h1, h2⟩ := hw.names n hn
  rw [entsOk, Bool.and_eq_true, decide_eq_true_eq]
  refine ⟨by omega, ents_sorted (fun p hp => ?_) none (fun s e => by cases e) (hw.snames n hn)⟩
  obtain ⟨_, m, hm, e⟩ := hw.closed n hn p hp
  have := hw.nums m hm
  exact ⟨h2 p hp, by omega, by omega⟩
set_option maxRecDepth 100000 in
set_option maxHeartbeats 1000000 in
theorem entries_any (l : Nm) (v : Value) (w : World) (hrow : RowF entC 2 w v l) (hl : l.length ≤ 1000000000) (hs : ∀ p ∈ l, p.1.length ≤ 1000000000 ∧ -9223372036854775808 ≤ p.2 ∧ p.2 ≤ 9223372036854775807) (hok : entsOk l = true) :
    Calls Tryz.prog 66 #[v] w fun e w' => e = .returned (.tuple #[.string ⟨(encE l).toArray⟩, .int .i64 0]) ∧ Keep w w' := by
  have HR := Lib.hid hrow
  have Hl := Lib.hid hl
  have HS := Lib.hid hs
  have Ho : RowKit.Hid (laysR l = .tuple #[.string ⟨(encE l).toArray⟩, .int .i64 0]) := Lib.hid (by rw [laysR, if_pos hok])
  clear hrow hl hs hok
  go_enter Tryz.func66, Tryz.ntmps66
  go_wp2_with fail
  refine (form_any _).mono ?_
  rintro e w1 ⟨rfl, hk⟩
  have HR1 := Lib.hid (rowF_keep HR.out hk)
  have HK := Lib.hid hk
  clear hk
  go_wp2_with fail
  refine (lays_any l v w1 HR1.out Hl.out HS.out).mono ?_
  rintro e w2 ⟨rfl, hk⟩
  have HK2 := Lib.hid (HK.out.keep hk)
  clear hk
  rw [Ho.out]
  go_wp2_with fail
  go_ret2
  exact ⟨rfl, HK2.out⟩
section
variable {w : World} {p tb : Nat} {T : Tr} {A M : Int → Nat} {role : Nat → Role} {d : Int → Nat} {off : Int → Int}
set_option maxRecDepth 100000 in
set_option maxHeartbeats 1000000 in
theorem list_any (h : TreeAt w p T tb A M role) (hw : WFo T d off) {k : Int} {n : Nd} (hg : T.get k = some n) (hd : n.dir = true) :
    Calls Tryz.prog 55 #[.pointer (some ⟨A k, 0, none⟩)] w fun e w' => ∃ v, e = .returned v ∧ OwnStrs w' w.heap.size v (n.names.map (·.1)) ∧ Keep w w' := by
  obtain ⟨hm, hk⟩ := (get_iff hw.sorted).1 hg
  have c4 : w.cell? ⟨A k, 4, none⟩ = some (.map (if n.dir = true then some (M k) else none)) := h.cell hw.sorted hg 4
  have hN := Lib.hid (h.names n hm hd)
  rw [hk] at hN
  rw [if_pos hd] at c4
  have HS := Lib.hid (hw.snames n hm)
  have Hl := Lib.hid (hw.names n hm).1
  clear h hw hg hd hm hk
  go_enter Tryz.func55, Tryz.ntmps55
  go_wp2_with fail
  refine (keysS_any _ _).mono ?_
  rintro e w1 ⟨rfl, rfl⟩
  go_wp2_with fail
  refine (sortedS_any (M k) n.names w hN.out HS.out (by have := Hl.out; omega)).mono ?_
  rintro e w1 ⟨v, rfl, ho, hk⟩
  have HO := Lib.hid ho
  have HK := Lib.hid hk
  clear ho hk
  go_wp2_with fail
  go_ret
  exact ⟨_, rfl, HO.out, HK.out⟩
set_option maxRecDepth 100000 in
set_option maxHeartbeats 2000000 in
theorem told_any (h : TreeAt w p T tb A M role) (hw : WFo T d off) {k : Int} {n : Nd} (hg : T.get k = some n) :
    Calls Tryz.prog 35 #[.pointer (some ⟨A k, 0, none⟩)] w fun e w' => e = .returned (nodeV n.told) ∧ Keep w w' := by
  obtain ⟨hm, hk⟩ := (get_iff hw.sorted).1 hg
  have c0 : w.cell? ⟨A k, 0, none⟩ = some (.int .i64 n.num) := h.cell hw.sorted hg 0
  have c1 : w.cell? ⟨A k, 1, none⟩ = some (.bool n.dir) := h.cell hw.sorted hg 1
  have c2 : w.cell? ⟨A k, 2, none⟩ = some (.int .i64 n.links) := h.cell hw.sorted hg 2
  have c3 : w.cell? ⟨A k, 3, none⟩ = some (.string ⟨n.data.toArray⟩) := h.cell hw.sorted hg 3
  have hlt := lt_of_cell c0
  simp only at hlt
  have HT := Lib.hid h
  have HW := Lib.hid hw
  have Hg := Lib.hid hg
  clear h hw hg hm hk
  go_enter Tryz.func35, Tryz.ntmps35
  go_wp2_with fail
  go_region
  all_goals
    have HX : RowKit.Hid (World.blk ((w.alloc (.cells #[.int .i64 0, .bool false, .int .i64 0, .string ⟨#[]⟩] 41)).alloc (.cells #[.int .i64 n.num, .bool n.dir, .int .i64 n.links, .string ⟨n.data.toArray⟩] 41)).drew (w.heap.size + 1) #[.int .i64 n.num, .bool n.dir, .int .i64 n.links, .string ⟨n.data.toArray⟩] 41) := Lib.hid (blk_drew (blk_new_at (by simp) _ _))
    have HZ : RowKit.Hid (World.blk ((w.alloc (.cells #[.int .i64 0, .bool false, .int .i64 0, .string ⟨#[]⟩] 41)).alloc (.cells #[.int .i64 n.num, .bool n.dir, .int .i64 n.links, .string ⟨n.data.toArray⟩] 41)).drew w.heap.size #[.int .i64 0, .bool false, .int .i64 0, .string ⟨#[]⟩] 41) := Lib.hid (blk_drew (blk_alloc (blk_new _ _ _) _))
    have HK : RowKit.Hid (Keep w ((w.alloc (.cells #[.int .i64 0, .bool false, .int .i64 0, .string ⟨#[]⟩] 41)).alloc (.cells #[.int .i64 n.num, .bool n.dir, .int .i64 n.links, .string ⟨n.data.toArray⟩] 41)).drew) := Lib.hid ((((Mod.refl _ w).alloc _).alloc _).drew)
    generalize ((w.alloc (.cells #[.int .i64 0, .bool false, .int .i64 0, .string ⟨#[]⟩] 41)).alloc (.cells #[.int .i64 n.num, .bool n.dir, .int .i64 n.links, .string ⟨n.data.toArray⟩] 41)).drew = w1 at *
    have HT1 := Lib.hid (HT.out.keep HK.out)
    have d1 : w1.cell? ⟨A k, 1, none⟩ = some (.bool n.dir) := HT1.out.cell HW.out.sorted Hg.out 1
    obtain ⟨N, hN⟩ : ∃ N, w.heap.size = N := ⟨_, rfl⟩
    rw [hN] at HX HZ hlt
    rw [hN]
    have HN := Lib.hid hN
    clear hN c0 c1 c2 c3
    obtain ⟨hm, hk⟩ := (get_iff HW.out.sorted).1 Hg.out
    have Hm := Lib.hid (And.intro hm hk)
    clear hm hk
    cases hd : n.dir with
    | false =>
      rw [hd] at d1 HX
      have Ht : RowKit.Hid (n.told = ⟨n.num, false, n.links, n.data⟩) := Lib.hid (by simp [Nd.told, hd])
      clear hd
      have x0 : w1.cell? ⟨N + 1, 0, none⟩ = some (.int .i64 n.num) := blk_cell HX.out 0
      have x1 : w1.cell? ⟨N + 1, 1, none⟩ = some (.bool false) := blk_cell HX.out 1
      have x2 : w1.cell? ⟨N + 1, 2, none⟩ = some (.int .i64 n.links) := blk_cell HX.out 2
      have x3 : w1.cell? ⟨N + 1, 3, none⟩ = some (.string ⟨n.data.toArray⟩) := blk_cell HX.out 3
      have y0 : w1.frozen? ⟨N, 0, none⟩ = false := blk_free HZ.out _ rfl
      have y1 : w1.frozen? ⟨N, 1, none⟩ = false := blk_free HZ.out _ rfl
      have y2 : w1.frozen? ⟨N, 2, none⟩ = false := blk_free HZ.out _ rfl
      have y3 : w1.frozen? ⟨N, 3, none⟩ = false := blk_free HZ.out _ rfl
      have z0 : w1.cell? ⟨N, 0, none⟩ = some (.int .i64 0) := blk_cell HZ.out 0
      have z1 : w1.cell? ⟨N, 1, none⟩ = some (.bool false) := blk_cell HZ.out 1
      have z2 : w1.cell? ⟨N, 2, none⟩ = some (.int .i64 0) := blk_cell HZ.out 2
      have z3 : w1.cell? ⟨N, 3, none⟩ = some (.string ⟨#[]⟩) := blk_cell HZ.out 3
      go_wp2_with fail
      have hB := blk_set (blk_set (blk_set (blk_set HZ.out 0 (.int .i64 n.num)) 1 (.bool false)) 2 (.int .i64 n.links)) 3 (.string ⟨n.data.toArray⟩)
      have k2 := (((HK.out.setCell (p := ⟨N, 0, none⟩) (.inr (by rw [HN.out]; exact Nat.le_refl _)) (.int .i64 n.num)).setCell (p := ⟨N, 1, none⟩) (.inr (by rw [HN.out]; exact Nat.le_refl _)) (.bool false)).setCell (p := ⟨N, 2, none⟩) (.inr (by rw [HN.out]; exact Nat.le_refl _)) (.int .i64 n.links)).setCell (p := ⟨N, 3, none⟩) (.inr (by rw [HN.out]; exact Nat.le_refl _)) (.string ⟨n.data.toArray⟩)
      have HK2 := Lib.hid k2
      generalize ((((w1.setCell ⟨N, 0, none⟩ (.int .i64 n.num)).setCell ⟨N, 1, none⟩ (.bool false)).setCell ⟨N, 2, none⟩ (.int .i64 n.links)).setCell ⟨N, 3, none⟩ (.string ⟨n.data.toArray⟩)) = w2 at *
      have q0 : w2.cell? ⟨N, 0, none⟩ = some (.int .i64 n.num) := blk_cell hB 0
      have q1 : w2.cell? ⟨N, 1, none⟩ = some (.bool false) := blk_cell hB 1
      have q2 : w2.cell? ⟨N, 2, none⟩ = some (.int .i64 n.links) := blk_cell hB 2
      have q3 : w2.cell? ⟨N, 3, none⟩ = some (.string ⟨n.data.toArray⟩) := blk_cell hB 3
      exact bodyPost_ret (v := nodeV ⟨n.num, false, n.links, n.data⟩) (by simp [results, Tryz.results35, go_sem, q0, q1, q2, q3]) rfl ⟨by rw [Ht.out], HK2.out⟩
    | true =>
      rw [hd] at d1 HX
      have Ht : RowKit.Hid (n.told = ⟨n.num, true, n.links, encE n.names⟩) := Lib.hid (by simp [Nd.told, hd])
      have Hd := Lib.hid hd
      clear hd
      go_wp2_with fail
      refine (list_any HT1.out HW.out Hg.out Hd.out).mono ?_
      rintro e w2 ⟨lv, rfl, ho, hk⟩
      have HX2 := Lib.hid (blk_mod hk HX.out id)
      have HZ2 := Lib.hid (blk_mod hk HZ.out id)
      have HT2 := Lib.hid (HT1.out.keep hk)
      have HR2 := Lib.hid (row_strs ho)
      have HK2 := Lib.hid (HK.out.keep hk)
      have hsz2 := hk.size
      clear ho hk HX HZ HT1 HK d1
      obtain ⟨a, cap, hlv⟩ := row_shape HR2.out
      rw [srow_len, List.length_map] at hlv
      subst hlv
      have hN1 : N + 1 < w2.heap.size := blk_lt HX2.out
      have h60 : n.names.length ≤ 60 := (HW.out.names n Hm.out.1).1
      have h60' : (n.names.length : Int) ≤ 9223372036854775807 := by omega
      go_wp2_with fail
      go_loopw [4, 31] (fun v i wr => ∃ j : Nat, j ≤ n.names.length ∧ i = .int .i64 (j : Int) ∧ Keep w2 wr ∧ OwnF entC 2 98 wr w2.heap.size v (n.names.take j)) (fun _ i _ => n.names.length - (intOf i).toNat)
      case atStart => exact ⟨0, by omega, rfl, Mod.refl _ _, rfl, .inl ⟨rfl, rfl⟩⟩
      case round =>
        obtain ⟨j, hj, rfl, hK, hV⟩ := hrel
        have HK3 := Lib.hid hK
        have HV := Lib.hid hV
        have hsz3 := hK.size
        have HT3 := Lib.hid (HT2.out.keep hK)
        clear hK hV
        by_cases hlt2 : j < n.names.length
        · obtain ⟨x, hx⟩ : ∃ x, n.names[j]? = some x := ⟨_, List.getElem?_eq_getElem hlt2⟩
          have Hx := Lib.hid hx
          obtain ⟨b, o, rfl, cs0⟩ := row_at HR2.out (j := j) (x := .string ⟨x.1.toArray⟩) (by simp [srow, hx])
          have cs : wr.cell? ⟨b, o + j, none⟩ = some (.string ⟨x.1.toArray⟩) := by rw [HK3.out.cell (p := ⟨b, o + j, none⟩) (lt_of_cell cs0) id]; exact cs0
          have c4 : wr.cell? ⟨A k, 4, none⟩ = some (.map (if n.dir = true then some (M k) else none)) := HT3.out.cell HW.out.sorted Hg.out 4
          rw [if_pos Hd.out] at c4
          have hmap := HT3.out.names n Hm.out.1 Hd.out
          rw [Hm.out.2] at hmap
          have hxl : x.1.length ≤ 16 := by
            have := (HW.out.names n Hm.out.1).2 x (List.mem_of_getElem? hx)
            simp only [nameOk, Bool.and_eq_true, decide_eq_true_eq] at this
            exact this.1.1.2
          have r1 := MapN.look1 hmap Tryz.underlying68 Tryz.underlying9 Tryz.underlying3 (zero_int wr) x.1 (by omega)
          have hgx : getG x.1 n.names = some x.2 := (getG_iff (HW.out.snames n Hm.out.1)).2 (List.mem_of_getElem? hx)
          rw [hgx] at r1
          simp only [Option.getD_some] at r1
          obtain ⟨v2, w3, hr, ho, hk2, hm2⟩ := append_struct (f := entC) (x := x) (P := Tryz.prog) Tryz.underlying73 info_ent rfl (by decide) entC_len w2.heap.size u4 (n.names.take j) wr w2 HV.out (entC_one x) (by rw [List.length_take]; unfold maxLen; omega) (by rw [List.length_take]; omega) hsz3 HK3.out (Nat.le_refl _)
          have Hr := Lib.hid hr
          have Ho := Lib.hid ho
          have Hk2 := Lib.hid hk2
          clear hx cs0 hmap hgx hr ho hk2 hm2
          go_wp2_with ((at_builtin; refine wpList_append_run Hr.out rfl rfl rfl rfl ?_))
          refine ⟨⟨j + 1, by omega, by go_num, Hk2.out, by rw [take_snoc Hx.out]; exact Ho.out⟩, by simp [intOf]; omega⟩
        · obtain rfl : j = n.names.length := by omega
          rw [List.take_length] at HV
          have HR3 := Lib.hid (rowF_own entC_len HV.out)
          go_wp2_with fail
          refine (entries_any n.names _ wr HR3.out (by omega) (fun q hq => ?_) (HW.out.ents Hm.out.1)).mono ?_
          · have h1 := (HW.out.names n Hm.out.1).2 q hq
            simp only [nameOk, Bool.and_eq_true, decide_eq_true_eq] at h1
            obtain ⟨_, m, hm, e⟩ := HW.out.closed n Hm.out.1 q hq
            have h2 := HW.out.nums m hm
            have h3 := h1.1.1.2
            omega
          rintro e w4 ⟨rfl, hk4⟩
          have HX4 := Lib.hid (blk_mod hk4 (blk_mod HK3.out HX2.out id) id)
          have HZ4 := Lib.hid (blk_mod hk4 (blk_mod HK3.out HZ2.out id) id)
          have HK4 := Lib.hid ((HK2.out.keep HK3.out).keep hk4)
          clear hk4 HX2 HZ2 HK3 HV HR3
          have x0 : w4.cell? ⟨N + 1, 0, none⟩ = some (.int .i64 n.num) := blk_cell HX4.out 0
          have x1 : w4.cell? ⟨N + 1, 1, none⟩ = some (.bool true) := blk_cell HX4.out 1
          have x2 : w4.cell? ⟨N + 1, 2, none⟩ = some (.int .i64 n.links) := blk_cell HX4.out 2
          have x3 : w4.cell? ⟨N + 1, 3, none⟩ = some (.string ⟨n.data.toArray⟩) := blk_cell HX4.out 3
          have y0 : w4.frozen? ⟨N, 0, none⟩ = false := blk_free HZ4.out _ rfl
          have y1 : w4.frozen? ⟨N, 1, none⟩ = false := blk_free HZ4.out _ rfl
          have y2 : w4.frozen? ⟨N, 2, none⟩ = false := blk_free HZ4.out _ rfl
          have y3 : w4.frozen? ⟨N, 3, none⟩ = false := blk_free HZ4.out _ rfl
          have y4 : w4.frozen? ⟨N + 1, 3, none⟩ = false := blk_free HX4.out _ rfl
          have z0 : w4.cell? ⟨N, 0, none⟩ = some (.int .i64 0) := blk_cell HZ4.out 0
          have z1 : w4.cell? ⟨N, 1, none⟩ = some (.bool false) := blk_cell HZ4.out 1
          have z2 : w4.cell? ⟨N, 2, none⟩ = some (.int .i64 0) := blk_cell HZ4.out 2
          have z3 : w4.cell? ⟨N, 3, none⟩ = some (.string ⟨#[]⟩) := blk_cell HZ4.out 3
          go_wp2_with fail
          have hB := blk_set (blk_set (blk_set (blk_set (blk_set_other HZ4.out ⟨N + 1, 3, none⟩ (by simp) (.string ⟨(encE n.names).toArray⟩)) 0 (.int .i64 n.num)) 1 (.bool true)) 2 (.int .i64 n.links)) 3 (.string ⟨(encE n.names).toArray⟩)
          have k2 := ((((HK4.out.setCell (p := ⟨N + 1, 3, none⟩) (.inr (by rw [HN.out]; simp)) (.string ⟨(encE n.names).toArray⟩)).setCell (p := ⟨N, 0, none⟩) (.inr (by rw [HN.out]; exact Nat.le_refl _)) (.int .i64 n.num)).setCell (p := ⟨N, 1, none⟩) (.inr (by rw [HN.out]; exact Nat.le_refl _)) (.bool true)).setCell (p := ⟨N, 2, none⟩) (.inr (by rw [HN.out]; exact Nat.le_refl _)) (.int .i64 n.links)).setCell (p := ⟨N, 3, none⟩) (.inr (by rw [HN.out]; exact Nat.le_refl _)) (.string ⟨(encE n.names).toArray⟩)
          have HK5 := Lib.hid k2
          generalize (((((w4.setCell ⟨N + 1, 3, none⟩ (.string ⟨(encE n.names).toArray⟩)).setCell ⟨N, 0, none⟩ (.int .i64 n.num)).setCell ⟨N, 1, none⟩ (.bool true)).setCell ⟨N, 2, none⟩ (.int .i64 n.links)).setCell ⟨N, 3, none⟩ (.string ⟨(encE n.names).toArray⟩)) = w5 at *
          have q0 : w5.cell? ⟨N, 0, none⟩ = some (.int .i64 n.num) := blk_cell hB 0
          have q1 : w5.cell? ⟨N, 1, none⟩ = some (.bool true) := blk_cell hB 1
          have q2 : w5.cell? ⟨N, 2, none⟩ = some (.int .i64 n.links) := blk_cell hB 2
          have q3 : w5.cell? ⟨N, 3, none⟩ = some (.string ⟨(encE n.names).toArray⟩) := blk_cell hB 3
          exact bodyPost_ret (v := nodeV ⟨n.num, true, n.links, encE n.names⟩) (by simp [results, Tryz.results35, go_sem, q0, q1, q2, q3]) rfl ⟨by rw [Ht.out], HK5.out⟩
end
end Go.Proofs.YthmpblccplphfaaGreatDoor
