/-
  What a path tells; all nodes.
-/
import Derived.Test.YthmpblccplphfaaGreatDoorFilTold
namespace Go.Proofs.YthmpblccplphfaaGreatDoor
open Go.RowKit
theorem info_node : (Tryz.prog.info? 41).map (fun i => (i.zero, i.size, i.bytes)) = some (some (.agg #[.int .i64 0, .bool false, .int .i64 0, .string ⟨#[]⟩]), 4, 40) := by kernel_rfl
theorem nodeC_one : ∀ p, ∀ u ∈ nodeC p, u.oneCell' = true := by
  intro p u hu
  simp only [nodeC, List.mem_cons, List.not_mem_nil, or_false] at hu
  rcases hu with rfl | rfl | rfl | rfl <;> rfl
theorem put4 {w W : World} {N : Nat} {a b c e : Value} {t : TypeId} (x : Nt) (h : World.blk W N #[a, b, c, e] t) (hk : Keep w W) (hN : w.heap.size = N) :
    let W' := (((W.setCell ⟨N, 0, none⟩ (.int .i64 x.num)).setCell ⟨N, 1, none⟩ (.bool x.dir)).setCell ⟨N, 2, none⟩ (.int .i64 x.links)).setCell ⟨N, 3, none⟩ (.string ⟨x.data.toArray⟩)
    W'.cell? ⟨N, 0, none⟩ = some (.int .i64 x.num) ∧ W'.cell? ⟨N, 1, none⟩ = some (.bool x.dir) ∧ W'.cell? ⟨N, 2, none⟩ = some (.int .i64 x.links) ∧ W'.cell? ⟨N, 3, none⟩ = some (.string ⟨x.data.toArray⟩) ∧ Keep w W' := by
  have hB := blk_set (blk_set (blk_set (blk_set h 0 (.int .i64 x.num)) 1 (.bool x.dir)) 2 (.int .i64 x.links)) 3 (.string ⟨x.data.toArray⟩)
  refine ⟨blk_cell hB 0, blk_cell hB 1, blk_cell hB 2, blk_cell hB 3, ?_⟩
  subst hN
  exact (((hk.setCell (p := ⟨w.heap.size, 0, none⟩) (.inr (Nat.le_refl _)) _).setCell (p := ⟨w.heap.size, 1, none⟩) (.inr (Nat.le_refl _)) _).setCell (p := ⟨w.heap.size, 2, none⟩) (.inr (Nat.le_refl _)) _).setCell (p := ⟨w.heap.size, 3, none⟩) (.inr (Nat.le_refl _)) _
def nodeT (T : Tr) (path : List UInt8) : Except Int Nd := match atT T path with
  | .error e => .error e
  | .ok k => match T.get k with
    | none => .error 141
    | some n => .ok n
def getV : Except Int Nd → Value
  | .ok n => .tuple #[nodeV n.told, .int .i64 0]
  | .error e => .tuple #[nodeV ⟨0, false, 0, []⟩, .int .i64 e]
def cutR (d : List UInt8) (i n : Nat) : List UInt8 := (d.drop i).take n
def readR (x : Except Int Nd) (i n : Int) : List UInt8 × Int := match x with
  | .error e => ([], e)
  | .ok nd => if nd.dir = true then ([], 143) else if i < 0 ∨ n < 0 then ([], 145) else (cutR nd.data i.toNat n.toNat, 0)
def readV (r : List UInt8 × Int) : Value := .tuple #[.string ⟨r.1.toArray⟩, .int .i64 r.2]
def listR (x : Except Int Nd) : List (List UInt8) × Int := match x with
  | .error e => ([], e)
  | .ok nd => if nd.dir = true then (nd.names.map (·.1), 0) else ([], 143)
section
variable {w : World} {p tb : Nat} {T : Tr} {A M : Int → Nat} {role : Nat → Role} {d : Int → Nat} {off : Int → Int}
theorem node_cases (hw : WFo T d off) (path : List UInt8) : (∃ e, atT T path = .error e ∧ nodeT T path = .error e ∧ (e == 0) = false) ∨ ∃ k n, atT T path = .ok k ∧ T.get k = some n ∧ nodeT T path = .ok n := by
  cases ha : atT T path with
  | error e =>
    refine .inl ⟨e, rfl, by rw [nodeT, ha], ?_⟩
    have := at_err ha
    rw [beq_eq_false_iff_ne]; omega
  | ok k =>
    obtain ⟨_, n, _, _, hg⟩ := at_ok hw ha
    exact .inr ⟨k, n, rfl, hg, by rw [nodeT, ha]; simp [hg]⟩
set_option maxRecDepth 100000 in
set_option maxHeartbeats 1000000 in
theorem nodes_any (h : TreeAt w p T tb A M role) (hw : WFo T d off) :
    Calls Tryz.prog 15 #[.pointer (some ⟨p, 0, none⟩)] w fun e w' => ∃ v, e = .returned v ∧ OwnF nodeC 4 41 w' w.heap.size v (toldT T) ∧ Keep w w' := by
  have c0 : w.cell? ⟨p, 0, none⟩ = some (.map (some tb)) := blk_cell h.tree 0
  have HT := Lib.hid h
  have HW := Lib.hid hw
  clear h hw
  go_enter Tryz.func15, Tryz.ntmps15
  go_wp2_with fail
  refine (keysI_any _ _).mono ?_
  rintro e w1 ⟨rfl, rfl⟩
  go_wp2_with fail
  have hnum : (addrs T A).map (·.1) = T.map (·.num) := by simp [addrs]
  have h60 := HW.out.many
  refine (sortedI_any tb (addrs T A) w HT.out.of (by rw [hnum]; exact sorted_map.1 HW.out.sorted) (by simp [addrs]; omega)).mono ?_
  rintro e w1 ⟨lv, rfl, ho, hk⟩
  rw [hnum] at ho
  have HR := Lib.hid (row_of_own ho)
  have HK := Lib.hid hk
  have hsz := hk.size
  have HT1 := Lib.hid (HT.out.keep hk)
  obtain ⟨a, cap, hlv⟩ := row_shape HR.out
  rw [ints_lenO, List.length_map] at hlv
  subst hlv
  have h60' : (T.length : Int) ≤ 9223372036854775807 := by omega
  clear ho hk hnum c0
  go_wp2_with fail
  go_loopw [3, 13] (fun v i wr => ∃ j : Nat, j ≤ T.length ∧ i = .int .i64 (j : Int) ∧ Keep w1 wr ∧ OwnF nodeC 4 41 wr w1.heap.size v (toldT (T.take j))) (fun _ i _ => T.length - (intOf i).toNat)
  case atStart => exact ⟨0, by omega, rfl, Mod.refl _ _, rfl, .inl ⟨rfl, rfl⟩⟩
  case round =>
    obtain ⟨j, hj, rfl, hK, hV⟩ := hrel
    have HK3 := Lib.hid hK
    have HV := Lib.hid hV
    have hsz3 := hK.size
    have HT3 := Lib.hid (HT1.out.keep hK)
    clear hK hV
    by_cases hlt2 : j < T.length
    · obtain ⟨x, hx⟩ : ∃ x, T[j]? = some x := ⟨_, List.getElem?_eq_getElem hlt2⟩
      have Hx := Lib.hid hx
      obtain ⟨b, o, rfl, cs0⟩ := row_at HR.out (j := j) (x := .int .i64 x.num) (by simp [intsO, hx])
      have cs : wr.cell? ⟨b, o + j, none⟩ = some (.int .i64 x.num) := by rw [HK3.out.cell (p := ⟨b, o + j, none⟩) (lt_of_cell cs0) id]; exact cs0
      have c0 : wr.cell? ⟨p, 0, none⟩ = some (.map (some tb)) := blk_cell HT3.out.tree 0
      have hg : T.get x.num = some x := (get_iff HW.out.sorted).2 ⟨List.mem_of_getElem? hx, rfl⟩
      have hb := HW.out.nums x (List.mem_of_getElem? hx)
      have r1 := HT3.out.look1 HW.out.sorted hg (by omega)
      have Hg := Lib.hid hg
      clear hx cs0 hg hb
      go_wp2_with fail
      refine (told_any HT3.out HW.out Hg.out).mono ?_
      rintro e w4 ⟨rfl, hk4⟩
      have hs4 := hk4.size
      obtain ⟨v2, w3, hr, ho, hk2, hm2⟩ := append_struct (f := nodeC) (x := x.told) (P := Tryz.prog) Tryz.underlying22 info_node rfl (by decide) nodeC_len w1.heap.size u3 (toldT (T.take j)) w4 w1 (own_keepF HV.out hk4) (nodeC_one x.told) (by simp [toldT, List.length_take]; unfold maxLen; omega) (by simp [toldT, List.length_take]; omega) (by omega) (HK3.out.keep hk4) (Nat.le_refl _)
      have Hr := Lib.hid hr
      have Ho := Lib.hid ho
      have Hk2 := Lib.hid hk2
      clear hr ho hk2 hm2 hk4 r1 cs c0
      go_wp2_with ((at_builtin; refine wpList_append_run Hr.out rfl rfl rfl rfl ?_))
      refine ⟨⟨j + 1, by omega, by go_num, Hk2.out, by rw [take_snoc Hx.out]; simp only [toldT, List.map_append, List.map_cons, List.map_nil]; exact Ho.out⟩, by simp [intOf]; omega⟩
    · obtain rfl : j = T.length := by omega
      rw [List.take_length] at HV
      go_wp2_with fail
      go_ret
      exact ⟨_, rfl, own_baseO HV.out hsz, HK.out.keep HK3.out⟩
set_option maxRecDepth 100000 in
set_option maxHeartbeats 1000000 in
theorem get_any (h : TreeAt w p T tb A M role) (hw : WFo T d off) (he : Env w) (path : List UInt8) (hp : path.length < 4294967281) :
    Calls Tryz.prog 19 #[.pointer (some ⟨p, 0, none⟩), .string ⟨path.toArray⟩] w fun e w' => e = .returned (getV (nodeT T path)) ∧ Keep w w' := by
  have HT := Lib.hid h
  have HW := Lib.hid hw
  have He := Lib.hid he
  have Hp := Lib.hid hp
  clear h hw he hp
  go_enter Tryz.func19, Tryz.ntmps19
  go_wp2_with fail
  refine (at_any (HT.out.keep ((Mod.refl _ w).alloc _)) HW.out (He.out.keep ((Mod.refl _ w).alloc _)) path Hp.out).mono ?_
  rintro e w1 ⟨rfl, hk⟩
  have HZ : RowKit.Hid (World.blk w1 w.heap.size #[.int .i64 0, .bool false, .int .i64 0, .string ⟨#[]⟩] 41) := Lib.hid (blk_mod hk (blk_new _ _ _) id)
  have HK := Lib.hid (unalloc hk)
  have HT1 := Lib.hid (HT.out.keep HK.out)
  clear hk
  obtain ⟨N, hN⟩ : ∃ N, w.heap.size = N := ⟨_, rfl⟩
  have HN := Lib.hid hN
  rw [hN] at HZ
  rw [hN]
  clear hN
  rcases node_cases HW.out path with ⟨e, h1, h2, h3⟩ | ⟨k, n, h1, h2, h3⟩
  · rw [h1]
    have Hv := Lib.hid h2
    have y0 : w1.frozen? ⟨N, 0, none⟩ = false := blk_free HZ.out _ rfl
    have y1 : w1.frozen? ⟨N, 1, none⟩ = false := blk_free HZ.out _ rfl
    have y2 : w1.frozen? ⟨N, 2, none⟩ = false := blk_free HZ.out _ rfl
    have y3 : w1.frozen? ⟨N, 3, none⟩ = false := blk_free HZ.out _ rfl
    have z0 : w1.cell? ⟨N, 0, none⟩ = some (.int .i64 0) := blk_cell HZ.out 0
    have z1 : w1.cell? ⟨N, 1, none⟩ = some (.bool false) := blk_cell HZ.out 1
    have z2 : w1.cell? ⟨N, 2, none⟩ = some (.int .i64 0) := blk_cell HZ.out 2
    have z3 : w1.cell? ⟨N, 3, none⟩ = some (.string ⟨#[]⟩) := blk_cell HZ.out 3
    clear h1 h2
    unfold findV
    go_wp2_with fail
    obtain ⟨q0, q1, q2, q3, k2⟩ := put4 ⟨0, false, 0, []⟩ HZ.out HK.out HN.out
    have HK3 := Lib.hid k2
    clear y0 y1 y2 y3 z0 z1 z2 z3
    simp only at q0 q1 q2 q3
    generalize (((w1.setCell ⟨N, 0, none⟩ (.int .i64 0)).setCell ⟨N, 1, none⟩ (.bool false)).setCell ⟨N, 2, none⟩ (.int .i64 0)).setCell ⟨N, 3, none⟩ (.string ⟨#[]⟩) = w3 at *
    exact bodyPost_ret (v := .tuple #[nodeV ⟨0, false, 0, []⟩, .int .i64 e]) (by simp [results, Tryz.results19, go_sem, q0, q1, q2, q3]) rfl ⟨by rw [Hv.out]; rfl, HK3.out⟩
  · rw [h1]
    have Hv := Lib.hid h3
    have Hg := Lib.hid h2
    clear h1 h2 h3
    unfold findV
    go_wp2_with fail
    refine (told_any HT1.out HW.out Hg.out).mono ?_
    rintro e w2 ⟨rfl, hk⟩
    have HZ2 := Lib.hid (blk_mod hk HZ.out id)
    have HK2 := Lib.hid (HK.out.keep hk)
    clear hk HZ HK
    have y0 : w2.frozen? ⟨N, 0, none⟩ = false := blk_free HZ2.out _ rfl
    have y1 : w2.frozen? ⟨N, 1, none⟩ = false := blk_free HZ2.out _ rfl
    have y2 : w2.frozen? ⟨N, 2, none⟩ = false := blk_free HZ2.out _ rfl
    have y3 : w2.frozen? ⟨N, 3, none⟩ = false := blk_free HZ2.out _ rfl
    have z0 : w2.cell? ⟨N, 0, none⟩ = some (.int .i64 0) := blk_cell HZ2.out 0
    have z1 : w2.cell? ⟨N, 1, none⟩ = some (.bool false) := blk_cell HZ2.out 1
    have z2 : w2.cell? ⟨N, 2, none⟩ = some (.int .i64 0) := blk_cell HZ2.out 2
    have z3 : w2.cell? ⟨N, 3, none⟩ = some (.string ⟨#[]⟩) := blk_cell HZ2.out 3
    go_wp2_with fail
    obtain ⟨q0, q1, q2, q3, k2⟩ := put4 n.told HZ2.out HK2.out HN.out
    have HK3 := Lib.hid k2
    generalize (((w2.setCell ⟨N, 0, none⟩ (.int .i64 n.told.num)).setCell ⟨N, 1, none⟩ (.bool n.told.dir)).setCell ⟨N, 2, none⟩ (.int .i64 n.told.links)).setCell ⟨N, 3, none⟩ (.string ⟨n.told.data.toArray⟩) = w3 at *
    exact bodyPost_ret (v := .tuple #[nodeV n.told, .int .i64 0]) (by simp [results, Tryz.results19, go_sem, q0, q1, q2, q3]) rfl ⟨by rw [Hv.out]; rfl, HK3.out⟩
set_option maxRecDepth 100000 in
set_option maxHeartbeats 1000000 in
theorem listf_any (h : TreeAt w p T tb A M role) (hw : WFo T d off) (he : Env w) (path : List UInt8) (hp : path.length < 4294967281) :
    Calls Tryz.prog 26 #[.pointer (some ⟨p, 0, none⟩), .string ⟨path.toArray⟩] w fun e w' => ∃ v, e = .returned (.tuple #[v, .int .i64 (listR (nodeT T path)).2]) ∧ OwnStrs w' w.heap.size v (listR (nodeT T path)).1 ∧ Keep w w' := by
  have HT := Lib.hid h
  have HW := Lib.hid hw
  have He := Lib.hid he
  have Hp := Lib.hid hp
  clear h hw he hp
  go_enter Tryz.func26, Tryz.ntmps26
  go_wp2_with fail
  refine (at_any HT.out HW.out He.out path Hp.out).mono ?_
  rintro e w1 ⟨rfl, hk⟩
  have HK := Lib.hid hk
  have HT1 := Lib.hid (HT.out.keep HK.out)
  clear hk
  rcases node_cases HW.out path with ⟨e, h1, h2, h3⟩ | ⟨k, n, h1, h2, h3⟩
  · rw [h1]
    have Hv := Lib.hid h2
    clear h1 h2
    unfold findV
    go_wp2_with fail
    go_ret2
    refine ⟨.slice none 0 0, by rw [Hv.out]; rfl, by rw [Hv.out]; exact ⟨rfl, .inl ⟨rfl, rfl⟩⟩, HK.out⟩
  · rw [h1]
    have Hv := Lib.hid h3
    have Hg := Lib.hid h2
    have c1 : w1.cell? ⟨A k, 1, none⟩ = some (.bool n.dir) := HT1.out.cell HW.out.sorted Hg.out 1
    clear h1 h2 h3
    unfold findV
    cases hd : n.dir with
    | false =>
      rw [hd] at c1
      have Hd := Lib.hid hd
      clear hd
      go_wp2_with fail
      go_ret2
      refine ⟨.slice none 0 0, by rw [Hv.out]; simp [listR, Hd.out], by rw [Hv.out]; simp only [listR, Hd.out]; exact ⟨rfl, .inl ⟨rfl, rfl⟩⟩, HK.out⟩
    | true =>
      rw [hd] at c1
      have Hd := Lib.hid hd
      clear hd
      go_wp2_with fail
      refine (list_any HT1.out HW.out Hg.out Hd.out).mono ?_
      rintro e w2 ⟨v, rfl, ho, hk⟩
      have HO := Lib.hid (own_baseO ho HK.out.size)
      have HK2 := Lib.hid (HK.out.keep hk)
      clear ho hk
      go_wp2_with fail
      go_ret2
      refine ⟨v, by rw [Hv.out]; simp [listR, Hd.out], by rw [Hv.out]; simp only [listR, Hd.out, if_true]; exact HO.out, HK2.out⟩
set_option maxRecDepth 100000 in
set_option maxHeartbeats 2000000 in
theorem read_any (h : TreeAt w p T tb A M role) (hw : WFo T d off) (he : Env w) (path : List UInt8) (hp : path.length < 4294967281) (i n : Int) (hi : i ≤ 9223372036854775807) (hn : n ≤ 9223372036854775807) :
    Calls Tryz.prog 18 #[.pointer (some ⟨p, 0, none⟩), .string ⟨path.toArray⟩, .int .i64 i, .int .i64 n] w fun e w' => e = .returned (readV (readR (nodeT T path) i n)) ∧ Keep w w' := by
  have HT := Lib.hid h
  have HW := Lib.hid hw
  have He := Lib.hid he
  have Hp := Lib.hid hp
  clear h hw he hp
  go_enter Tryz.func18, Tryz.ntmps18
  go_wp2_with fail
  refine (at_any HT.out HW.out He.out path Hp.out).mono ?_
  rintro e w1 ⟨rfl, hk⟩
  have HK := Lib.hid hk
  have HT1 := Lib.hid (HT.out.keep HK.out)
  clear hk
  rcases node_cases HW.out path with ⟨e, h1, h2, h3⟩ | ⟨k, nd, h1, h2, h3⟩
  · rw [h1]
    have Hv := Lib.hid h2
    clear h1 h2
    unfold findV
    go_wp2_with fail
    go_ret2
    exact ⟨by rw [Hv.out]; rfl, HK.out⟩
  · rw [h1]
    have Hv := Lib.hid h3
    have Hg := Lib.hid h2
    have c1 : w1.cell? ⟨A k, 1, none⟩ = some (.bool nd.dir) := HT1.out.cell HW.out.sorted Hg.out 1
    have c3 : w1.cell? ⟨A k, 3, none⟩ = some (.string ⟨nd.data.toArray⟩) := HT1.out.cell HW.out.sorted Hg.out 3
    clear h1 h2 h3
    unfold findV
    cases hd : nd.dir with
    | true =>
      rw [hd] at c1
      have Hr : RowKit.Hid (readR (nodeT T path) i n = ([], 143)) := Lib.hid (by rw [Hv.out]; simp [readR, hd])
      clear hd
      go_wp2_with fail
      go_ret2
      exact ⟨by rw [Hr.out]; rfl, HK.out⟩
    | false =>
      rw [hd] at c1
      have hl : nd.data.length ≤ 16384 := (HW.out.file nd ((get_iff HW.out.sorted).1 Hg.out).1 hd).2
      by_cases hin : i < 0 ∨ n < 0
      · have Hr : RowKit.Hid (readR (nodeT T path) i n = ([], 145)) := Lib.hid (by rw [Hv.out]; simp [readR, hd, hin])
        clear hd
        by_cases h1 : i < 0
        · go_wp2_with fail
          go_ret2
          exact ⟨by rw [Hr.out]; rfl, HK.out⟩
        · have h2 : n < 0 := by omega
          clear hin
          go_wp2_with fail
          go_ret2
          exact ⟨by rw [Hr.out]; rfl, HK.out⟩
      · have Hr : RowKit.Hid (readR (nodeT T path) i n = (cutR nd.data i.toNat n.toNat, 0)) := Lib.hid (by rw [Hv.out]; simp [readR, hd, hin])
        obtain ⟨x, rfl⟩ : ∃ x : Nat, i = x := ⟨i.toNat, by omega⟩
        obtain ⟨y, rfl⟩ : ∃ y : Nat, n = y := ⟨n.toNat, by omega⟩
        clear hd hin
        rw [Int.toNat_natCast, Int.toNat_natCast] at Hr
        have h1 : ¬ (x : Int) < 0 := by omega
        have h2 : ¬ (y : Int) < 0 := by omega
        go_wp2_with fail
        obtain ⟨z, hz, hmin, hcut⟩ : ∃ z : Nat, z ≤ nd.data.length ∧ min (x : Int) (nd.data.length : Int) = (z : Int) ∧ nd.data.drop x = nd.data.drop z := by
          by_cases hx : x ≤ nd.data.length
          · exact ⟨x, hx, by omega, rfl⟩
          · exact ⟨nd.data.length, Nat.le_refl _, by omega, by rw [List.drop_of_length_le (by omega), List.drop_length]⟩
        have hz0 : (0 : Int) ≤ z := by omega
        have hz1 : (z : Int) ≤ nd.data.length := by omega
        have Hcut := Lib.hid hcut
        have Hin := Lib.hid hl
        clear hcut hi hl
        refine wp_region_qe0 (by kernel_rfl) (by kernel_rfl) ?_
        repeat (quiet_step (fail))
        refine wpQuiet_nil ?_
        intro _ hw'
        obtain ⟨nq, rfl⟩ := hw'
        have hsl : (nd.data.drop z).length ≤ 16384 := by have := Hin.out; rw [List.length_drop]; omega
        obtain ⟨s, hs⟩ : ∃ s, nd.data.drop z = s := ⟨_, rfl⟩
        rw [hs] at hsl Hcut
        rw [hs]
        obtain ⟨u, hu, humin, hucut⟩ : ∃ u : Nat, u ≤ s.length ∧ min (y : Int) (s.length : Int) = (u : Int) ∧ s.take y = s.take u := by
          by_cases hy : y ≤ s.length
          · exact ⟨y, hy, by omega, rfl⟩
          · exact ⟨s.length, Nat.le_refl _, by omega, by rw [List.take_of_length_le (by omega), List.take_length]⟩
        have hu0 : (0 : Int) ≤ u := by omega
        have hu1 : (u : Int) ≤ s.length := by omega
        have Hr2 : RowKit.Hid (readR (nodeT T path) x y = (s.take u, 0)) := Lib.hid (by rw [Hr.out, cutR, Hcut.out, hucut])
        clear hs hmin hz hz0 hz1 hucut hn
        go_wp2_with fail
        go_ret2
        exact ⟨by rw [Hr2.out]; rfl, HK.out.drewN _⟩
end
end Go.Proofs.YthmpblccplphfaaGreatDoor
