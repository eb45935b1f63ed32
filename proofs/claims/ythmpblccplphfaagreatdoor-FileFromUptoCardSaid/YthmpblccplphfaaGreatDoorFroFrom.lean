/-
  files.From of any nodes.
  How often each node is met, of any nodes, by the reference: stillageref14.Meet.below.
  stillageref14.From of any nodes.
  stillageref14.From of any nodes: the walk.
-/
import Derived.Test.YthmpblccplphfaaGreatDoorFroRead
import Derived.Test.YthmpblccplphfaaGreatDoorFroL
import Derived.Test.YthmpblccplphfaaGreatDoorRefPut
import Derived.Test.YthmpblccplphfaaGreatDoorLawNames
namespace Go.Proofs.YthmpblccplphfaaGreatDoor
section
open Go.RowKit Go.Maps
section
variable {T : Tr}
def one1 : Int → Nat := fun j => if j = 1 then 1 else 0
theorem root_zero (hs : Sorted T) {r : Nd} (hr : T.get 1 = some r) (hd : r.dir = true) (hok : okN T 8 (namesAt T 1) = true) : subT T (oneN 1) 8 1 = 0 := by
  rw [met_levels hs hr hd]
  exact sum_zero _ _ fun i hi => root_level hs hok i (List.mem_range.1 hi)
theorem metOk_of_makes (h : Makes T) : MetOk T 8 1 one1 := by
  refine ⟨h.ok, fun j hj => ?_⟩
  obtain ⟨r, hr, hrd, _⟩ := h.root
  by_cases e : j = 1
  · subst e
    rw [root_zero h.sorted hr hrd h.ok]; simp [one1]
  · unfold dirAt at hj
    cases hg : T.get j with
    | none => rw [hg] at hj; cases hj
    | some m =>
      rw [hg] at hj
      obtain ⟨hm, hmj⟩ := (get_iff h.sorted).1 hg
      have := h.once m hm hj (by omega)
      rw [hmj] at this
      unfold one1; rw [if_neg e]; omega
theorem makes_of (hw : Raw T) (h60 : T.length ≤ 60) {r : Nd} (hr : T.get 1 = some r) (hd : r.dir = true) (hl : r.links = 1) (hm : MetOk T 8 1 one1) (hc : ∀ n ∈ T, 1 ≤ n.links ∧ ((one1 n.num + subT T (oneN n.num) 8 1 : Nat) : Int) = n.links) : Makes T where
  sorted := hw.sorted
  nums := hw.nums
  root := ⟨r, hr, hd, hl⟩
  many := h60
  reads := hw.reads
  ok := hm.1
  count n hn h1 := by
    have := hc n hn
    unfold one1 at this
    rw [if_neg h1] at this
    omega
  once n hn hdn h1 := by
    have h2 := hm.2 n.num (by unfold dirAt; rw [(get_iff hw.sorted).2 ⟨hn, rfl⟩]; exact hdn)
    omega
theorem count_of (h : Makes T) {n : Nd} (hn : n ∈ T) : 1 ≤ n.links ∧ ((one1 n.num + subT T (oneN n.num) 8 1 : Nat) : Int) = n.links := by
  obtain ⟨r, hr, hrd, hrl⟩ := h.root
  by_cases e : n.num = 1
  · have hnr : n = r := by
      have h1 := (get_iff h.sorted).2 ⟨hn, e⟩
      rw [hr] at h1; exact (Option.some.inj h1).symm
    rw [e, root_zero h.sorted hr hrd h.ok, hnr, hrl]
    simp [one1]
  · have := h.count n hn e
    unfold one1
    rw [if_neg e]; omega
theorem fromOk_iff {l : List Nt} (hw : Raw T) (ht : toldT T = l) : FromOk l ↔ Makes T := by
  constructor
  · rintro ⟨U, hu, hm⟩
    have : U = T := toldT_inj U T hm.reads hw.reads (hu.trans ht.symm)
    rw [← this]; exact hm
  · intro h
    exact ⟨T, ht, h⟩
/-- a first node that cannot be -/
theorem from_no {l : List Nt} {k : Nat} {x : Nt} (hx : l[k]? = some x) (h : ¬ ReadsT x ∨ x.num < 1 ∨ 65535 < x.num ∨ ∃ j y, k = j + 1 ∧ l[j]? = some y ∧ x.num ≤ y.num) : ¬ FromOk l := by
  rintro ⟨T, rfl, hm⟩
  unfold toldT at hx
  rw [List.getElem?_map] at hx
  obtain ⟨n, hn, rfl⟩ := Option.map_eq_some_iff.1 hx
  have hmem := List.mem_of_getElem? hn
  rcases h with h | h | h | ⟨j, y, rfl, hy, hle⟩
  · exact h ⟨n, hm.reads n hmem, rfl⟩
  · have := (hm.nums n hmem).1
    have h2 : n.told.num = n.num := rfl
    omega
  · have := (hm.nums n hmem).2
    have h2 : n.told.num = n.num := rfl
    omega
  · unfold toldT at hy
    rw [List.getElem?_map] at hy
    obtain ⟨m, hm2, rfl⟩ := Option.map_eq_some_iff.1 hy
    have h3 := sorted_lt hm.sorted hm2 hn (by omega)
    have h4 : n.told.num = n.num := rfl
    have h5 : m.told.num = m.num := rfl
    omega
theorem raw_add (h : Raw T) {n : Nd} (hn : Reads n) (h1 : ∀ m ∈ T, m.num < n.num) (h2 : 1 ≤ n.num ∧ n.num ≤ 65535) : Raw (T ++ [n]) where
  sorted := List.pairwise_append.2 ⟨h.sorted, List.pairwise_singleton _ _, fun a ha b hb => by
    rw [List.mem_singleton] at hb; subst hb; exact h1 a ha⟩
  nums m hm := by
    rcases List.mem_append.1 hm with h3 | h3
    · exact h.nums m h3
    · rw [List.mem_singleton] at h3; subst h3; exact h2
  reads m hm := by
    rcases List.mem_append.1 hm with h3 | h3
    · exact h.reads m h3
    · rw [List.mem_singleton] at h3; subst h3; exact hn
end
def FromPostG (w : World) (l : List Nt) (e : Ending) (w' : World) : Prop :=
  (∃ T, toldT T = l ∧ Makes T ∧ FromPost w T e w') ∨ (¬ FromOk l ∧ e = .returned (.tuple #[.pointer none, .int .i64 1]) ∧ Keep w w')
set_option maxRecDepth 100000 in
set_option maxHeartbeats 16000000 in
theorem from_gen (l : List Nt) (hll : l.length ≤ 1048576) (hsm : ∀ x ∈ l, x.data.length ≤ 1048576) (v : Value) (w : World) (hrow : RowF nodeC 4 w v l) (hg : ErrT w) : Calls Tryz.prog 11 #[v] w (FromPostG w l) := by
  obtain ⟨av, cap, rfl, hrow⟩ := hrow
  have HR := Lib.hid hrow
  have Hg := Lib.hid hg
  have Hsm := Lib.hid hsm
  have hmm := @run_makeMap Tryz.prog
  have hli : (l.length : Int) ≤ 1048576 := by omega
  clear hrow hg hsm
  go_enter Tryz.func11, Tryz.ntmps11
  go_wp2_with fail
  have HT0 : RowKit.Hid (TreeAt ((w.alloc (.map #[] 0)).alloc (.cells #[.map (some w.heap.size)] 64)) (w.heap.size + 1) [] w.heap.size (fun _ => 0) (fun _ => 0) (fun b => if b = w.heap.size + 1 then .tree else if b = w.heap.size then .of else .none)) := Lib.hid (tree_none (blk_new_at (by simp) _ _) ((MapO.made w).mod ((Mod.refl (fun _ => False) _).alloc _) id) (by omega))
  have HK0 : RowKit.Hid (Keep w ((w.alloc (.map #[] 0)).alloc (.cells #[.map (some w.heap.size)] 64))) := Lib.hid (((Mod.refl _ w).alloc _).alloc _)
  generalize ((w.alloc (.map #[] 0)).alloc (.cells #[.map (some w.heap.size)] 64)) = w0 at *
  go_loopw [5, 20] (fun m i wr => ∃ (k : Nat) (T : Tr) (mm : Int) (A M : Int → Nat) (role : Nat → Role), k ≤ l.length ∧ i = .int .i64 (k : Int) ∧ m = .int .i64 mm ∧ Keep w wr ∧ TreeAt wr (w.heap.size + 1) T w.heap.size A M role ∧ RowKit.Hid (T.length = k ∧ toldT T = l.take k ∧ Raw T) ∧ RowKit.Hid ((∀ b, role b ≠ .none → w.heap.size ≤ b) ∧ 0 ≤ mm ∧ mm ≤ 65535 ∧ (∀ n ∈ T, n.num ≤ mm) ∧ (mm = 0 ∨ ∃ j y, k = j + 1 ∧ l[j]? = some y ∧ y.num = mm))) (fun _ i _ => l.length - (intOf i).toNat)
  case atStart =>
    refine ⟨0, [], 0, _, _, _, by omega, rfl, rfl, HK0.out, HT0.out, Lib.hid ⟨rfl, rfl, ⟨List.Pairwise.nil, (fun n hn => by cases hn), (fun n hn => by cases hn)⟩⟩, Lib.hid ⟨fun b hb => ?_, by omega, by omega, (fun n hn => by cases hn), .inl rfl⟩⟩
    by_cases e : b = w.heap.size + 1
    · omega
    · by_cases e2 : b = w.heap.size
      · omega
      · simp only [if_neg e, if_neg e2] at hb; exact absurd rfl hb
  case round =>
    clear HK0 HT0
    obtain ⟨k, T, mm, A, M, role, hk, rfl, rfl, hK, hT, HT9, Hq⟩ := hrel
    have HK := Lib.hid hK
    have HT := Lib.hid hT
    clear hK hT
    by_cases hlt : k < l.length
    · obtain ⟨x, hx⟩ : ∃ x, l[k]? = some x := ⟨_, List.getElem?_eq_getElem hlt⟩
      have Hx := Lib.hid hx
      obtain ⟨b, o, rfl, hc⟩ := HR.out k x hx
      have c0 : wr.cell? ⟨b, o + k * 4, none⟩ = some (.int .i64 x.num) := by have h := hc 0 _ rfl; rw [HK.out.cell (p := ⟨b, o + k * 4, none⟩) (lt_of_cell h) id]; exact h
      have c1 : wr.cell? ⟨b, o + k * 4 + 1, none⟩ = some (.bool x.dir) := by have h := hc 1 _ rfl; rw [HK.out.cell (p := ⟨b, o + k * 4 + 1, none⟩) (lt_of_cell h) id]; exact h
      have c2 : wr.cell? ⟨b, o + k * 4 + 2, none⟩ = some (.int .i64 x.links) := by have h := hc 2 _ rfl; rw [HK.out.cell (p := ⟨b, o + k * 4 + 2, none⟩) (lt_of_cell h) id]; exact h
      have c3 : wr.cell? ⟨b, o + k * 4 + 3, none⟩ = some (.string ⟨x.data.toArray⟩) := by have h := hc 3 _ rfl; rw [HK.out.cell (p := ⟨b, o + k * 4 + 3, none⟩) (lt_of_cell h) id]; exact h
      have hkt : (k : Int) < l.length := by omega
      have hszw : w.heap.size + 1 < wr.heap.size := HT.out.lt _ (by rw [HT.out.rtree]; exact Role.noConfusion)
      have hxs := Hsm.out x (List.mem_of_getElem? hx)
      clear hx hc
      go_wp2_with fail
      refine (readx_any x (by omega) _ (Hg.out.keep (HK.out.alloc _))).mono ?_
      rintro e w4 (⟨n, hnr, hnt, na, nm, rfl, hna, hnm, hne, hnl, hnb, hnn, hk4⟩ | ⟨hno, ⟨a, rfl⟩, hk4⟩)
      · have Hnr := Lib.hid hnr
        have Hnt := Lib.hid hnt
        have hnx : n.num = x.num := congrArg Nt.num hnt
        have HX4 : RowKit.Hid (World.blk w4 wr.heap.size #[.int .i64 x.num, .bool x.dir, .int .i64 x.links, .string ⟨x.data.toArray⟩] 41) := Lib.hid (blk_mod hk4 (blk_new _ _ _) id)
        have HNB := Lib.hid hnb
        have HNN := Lib.hid hnn
        have HK4 := Lib.hid (unalloc hk4)
        simp only [World.alloc, Array.size_push] at hna hnm
        have hz := blk_lt HX4.out
        have z0 : w4.cell? ⟨wr.heap.size, 0, none⟩ = some (.int .i64 x.num) := blk_cell HX4.out 0
        have t0 : w4.cell? ⟨w.heap.size + 1, 0, none⟩ = some (.map (some w.heap.size)) := blk_cell (HT.out.keep HK4.out).tree 0
        clear hnb hnn hk4 c0 c1 c2 c3 hnr hnt
        by_cases hmx1 : x.num ≤ mm
        · have Hno : RowKit.Hid (¬ FromOk l) := Lib.hid (from_no Hx.out (by
            rcases Hq.out.2.2.2.2 with h | ⟨j, y, h1, h2, h3⟩
            · exact .inr (.inl (by omega))
            · exact .inr (.inr (.inr ⟨j, y, h1, h2, by omega⟩))))
          clear hnx
          go_wp2_with fail
          go_ret2
          exact .inr ⟨Hno.out, rfl, HK.out.keep HK4.out⟩
        · by_cases hmx2 : 65535 < x.num
          · have Hno : RowKit.Hid (¬ FromOk l) := Lib.hid (from_no Hx.out (.inr (.inr (.inl hmx2))))
            clear hnx
            go_wp2_with fail
            go_ret2
            exact .inr ⟨Hno.out, rfl, HK.out.keep HK4.out⟩
          · have Hnx := Lib.hid hnx
            clear hnx
            go_wp2_with fail
            refine wp_region_qd0 7 (by kernel_rfl) (by kernel_rfl) ?_
            simp only [List.take_succ_cons, List.take_zero, List.drop_succ_cons, List.drop_zero]
            repeat (quiet_step (fail))
            refine wpQuiet_nil ?_
            intro _ hw'
            obtain ⟨nq, rfl⟩ := hw'
            have hkx : Keep w4 (w4.drewN nq) := (Mod.refl _ w4).drewN nq
            have HNB5 := Lib.hid (blk_mod hkx HNB.out id)
            have HNN5 : RowKit.Hid (n.dir = true → MapS (w4.drewN nq) nm n.names) := Lib.hid fun h => (HNN.out h).mod hkx id
            have HK5 := Lib.hid (HK4.out.keep hkx)
            have hz5 := hkx.size
            have hnl5 : nm < (w4.drewN nq).heap.size := Nat.lt_of_lt_of_le hnl hz5
            have hna5 := blk_lt HNB5.out
            clear hkx HNB HNN HK4 z0 t0 HX4
            generalize w4.drewN nq = w5 at *
            have hto := HT.out.rof
            have hTl := HT9.out.1
            have hq0 := Hq.out.2.1
            go_wp2_with ((at_mapUpdate
                          refine wpList_store_O (HT.out.of.mod HK5.out id) Tryz.underlying62 Tryz.underlying3 x.num (by omega) na (by simp [addrs]; omega) rfl rfl rfl rfl rfl ?_
                          intro w6 hm6 hmod6
                          have hmodB : Mod (· = w.heap.size) wr w6 := (HK5.out.mono (fun _ _ h => h.elim)).trans hmod6 (fun _ _ h => h)
                          have hna6 : na ≠ w.heap.size := by omega
                          have hnm6 : nm ≠ w.heap.size := by omega
                          have hnlt : ∀ y ∈ T, y.num < n.num := fun y hy => by
                            have h1 := Hq.out.2.2.2.1 y hy
                            have h2 := Hnx.out
                            omega
                          have hnum : ∀ y ∈ T, y.num ≠ n.num := fun y hy => by have := hnlt y hy; omega
                          rw [← Hnx.out] at hm6
                          have ht6 := tree_add (n0 := n) (a := na) (m := nm) HT.out hnum hmodB (by omega) (by omega) (Ne.symm hne) (Nat.lt_of_lt_of_le hna5 hmod6.size) (fun _ => Nat.lt_of_lt_of_le hnl5 hmod6.size) hm6 (blk_mod hmod6 HNB5.out hna6) (fun h => (HNN5.out h).mod hmod6 hnm6)
                          rw [add_snoc hnlt] at ht6
                          have HT6 := Lib.hid ht6
                          have HK6 : RowKit.Hid (Keep w w6) := Lib.hid (HK.out.new hmodB (Nat.le_refl _))
                          have Hnlt := Lib.hid hnlt
                          clear hm6 hmod6 hmodB hnum ht6 hnlt))
            refine ⟨⟨k + 1, T ++ [n], x.num, _, _, _, by omega, by go_num, rfl, HK6.out, HT6.out, Lib.hid ⟨by rw [List.length_append]; simp; omega, ?_, raw_add HT9.out.2.2 Hnr.out Hnlt.out (by have := Hnx.out; omega)⟩, Lib.hid ⟨fun b hb => ?_, by omega, by omega, fun m hm => ?_, .inr ⟨k, x, rfl, Hx.out, rfl⟩⟩⟩, by simp [intOf]; omega⟩
            · rw [take_snoc Hx.out, ← HT9.out.2.1, ← Hnt.out]; simp [toldT]
            · by_cases e1 : b = na
              · omega
              · by_cases e2 : b = nm ∧ n.dir = true
                · omega
                · simp only [if_neg e1, if_neg e2] at hb
                  exact Hq.out.1 b hb
            · rcases List.mem_append.1 hm with h | h
              · have := Hnlt.out m h; have := Hnx.out; omega
              · rw [List.mem_singleton] at h; subst h; have := Hnx.out; omega
      · have Hno : RowKit.Hid (¬ FromOk l) := Lib.hid (from_no Hx.out (.inl hno))
        have HK4 := Lib.hid (unalloc hk4)
        clear hk4 c0 c1 c2 c3 hno
        go_wp2_with fail
        go_ret2
        exact .inr ⟨Hno.out, rfl, HK.out.keep HK4.out⟩
    · obtain rfl : k = l.length := by omega
      obtain ⟨hTl, htold, hraw⟩ := HT9.out
      rw [List.take_length] at htold
      have Hraw := Lib.hid hraw
      have Hiff := Lib.hid (fromOk_iff hraw htold)
      have Htold := Lib.hid htold
      have HTl := Lib.hid hTl
      clear hraw htold hTl HT9
      have r1 := MapO.look HT.out.of Tryz.underlying62 Tryz.underlying3 (zero_node wr) 1 (by decide)
      have t0 : wr.cell? ⟨w.heap.size + 1, 0, none⟩ = some (.map (some w.heap.size)) := blk_cell HT.out.tree 0
      rw [addrs_get] at r1
      cases hgr : T.get 1 with
      | none =>
        have Hno : RowKit.Hid (¬ FromOk l) := Lib.hid (fun h => by
          obtain ⟨r, hr, _⟩ := (Hiff.out.1 h).root
          rw [hgr] at hr; cases hr)
        rw [hgr] at r1
        simp only [Option.map_none, Option.isSome_none] at r1
        clear hgr
        by_cases h60 : (60 : Int) < l.length
        · go_wp2_with fail
          go_ret2
          exact .inr ⟨Hno.out, rfl, HK.out⟩
        · go_wp2_with fail
          go_ret2
          exact .inr ⟨Hno.out, rfl, HK.out⟩
      | some r =>
        have a1 : wr.cell? ⟨A 1, 1, none⟩ = some (.bool r.dir) := HT.out.cell Hraw.out.sorted hgr 1
        have a2 : wr.cell? ⟨A 1, 2, none⟩ = some (.int .i64 r.links) := HT.out.cell Hraw.out.sorted hgr 2
        rw [hgr] at r1
        have hr1 := ((get_iff Hraw.out.sorted).1 hgr).2
        simp only [Option.map_some, Option.isSome_some] at r1
        rw [hr1] at r1
        have Hgr := Lib.hid hgr
        clear hgr hr1
        by_cases h60 : (60 : Int) < l.length
        · have Hno : RowKit.Hid (¬ FromOk l) := Lib.hid (fun h => by
            have := (Hiff.out.1 h).many
            have := HTl.out
            omega)
          go_wp2_with fail
          go_ret2
          exact .inr ⟨Hno.out, rfl, HK.out⟩
        · have H60 := Lib.hid h60
          cases hrd : r.dir with
          | false =>
            have Hno : RowKit.Hid (¬ FromOk l) := Lib.hid (fun h => by
              obtain ⟨r', hr', hd', _⟩ := (Hiff.out.1 h).root
              rw [Hgr.out] at hr'
              rw [← Option.some.inj hr', hrd] at hd'; cases hd')
            rw [hrd] at a1
            clear hrd
            go_wp2_with fail
            go_ret2
            exact .inr ⟨Hno.out, rfl, HK.out⟩
          | true =>
            have Hrd := Lib.hid hrd
            rw [hrd] at a1
            clear hrd
            by_cases hrl : r.links = 1
            · have Hrl := Lib.hid hrl
              rw [hrl] at a2
              clear hrl
              obtain ⟨w5, hrun, hc5, hm5⟩ := (CntAt.made wr).store 1 1 (by decide) (by omega) (by omega)
              have hrun2 : (Instr.mapUpdate 71 (.map (some wr.heap.size)) (.int .i64 1) (.int .i64 1)).run Tryz.prog (wr.alloc (.map #[] 0)) = .ok () w5 := hrun
              have HC5 : RowKit.Hid (CntAt w5 wr.heap.size one1 1) := Lib.hid (hc5.same (fun j => rfl) rfl)
              have HM5 : RowKit.Hid (Keep wr w5) := Lib.hid (((Mod.refl (fun _ => False) wr).alloc _).new hm5 (Nat.le_refl _))
              have hc0 : role wr.heap.size = .none := by
                refine Classical.byContradiction fun hne => ?_
                have := HT.out.lt _ hne; omega
              have Hc0 := Lib.hid hc0
              clear hrun hc5 hm5 hc0
              go_wp2_with fail
              have HT5 := Lib.hid (HT.out.keep HM5.out)
              clear r1 t0 a1 a2 hrun2
              have hT60 : T.length ≤ 60 := by have := HTl.out; have := H60.out; omega
              have HT60 := Lib.hid hT60
              refine (met_gen Hraw.out hT60 Hc0.out 8 1 r w5 one1 1 HT5.out HC5.out Hgr.out Hrd.out (by decide) (fun j _ => by unfold one1; split <;> omega) (by have := unmet_le T one1; omega)).mono ?_
              rintro e w6 ⟨bb, C', s', rfl, hc6, hm6, hcc, hss, hbt, hbf⟩
              have HC6 := Lib.hid hc6
              have HT6 : RowKit.Hid (TreeAt w6 (w.heap.size + 1) T w.heap.size A M role) := Lib.hid (HT5.out.mod hm6 fun b hb e => hb (by rw [e]; exact Hc0.out))
              have HK6 : RowKit.Hid (Keep w w6) := Lib.hid ((HK.out.keep HM5.out).new hm6 (HK.out.size))
              have hcl := HC6.out.lt
              clear hc6 hm6 HC5 HM5 HT5 HK HT hcc hss hT60
              generalize wr.heap.size = cb at *
              cases bb with
              | false =>
                have Hno : RowKit.Hid (¬ FromOk l) := Lib.hid (fun h => hbf rfl (metOk_of_makes (Hiff.out.1 h)))
                clear hbt hbf
                go_wp2_with fail
                go_ret2
                exact .inr ⟨Hno.out, rfl, HK6.out⟩
              | true =>
                have HMk := Lib.hid (hbt rfl)
                clear hbt hbf
                have t0 : w6.cell? ⟨w.heap.size + 1, 0, none⟩ = some (.map (some w.heap.size)) := blk_cell HT6.out.tree 0
                go_wp2_with (at_range; refine wpList_range_own _ rfl _ 62 rfl 3 65 (int_keyed Tryz.underlying3) Tryz.underlying62 _ w.heap.size (addrs T A).length (toO (addrs T A)) rfl HT6.out.of ?_; intro w7 hrg0 hg0 hs0)
                try go_frame
                have Hrg0 := Lib.hid hrg0
                have HK7 : RowKit.Hid (Keep w6 w7) := Lib.hid (keep_grown hg0)
                clear hrg0 hg0 hs0 t0
                go_loopw [13] (fun _ wr => ∃ (left : Lit → Bool) (cnt : Nat), World.ranges wr Tryz.prog 3 ptrElem w.heap.size w6.heap.size (addrs T A).length (toO (addrs T A)) left cnt ∧ Keep w6 wr ∧ RowKit.Hid (∀ n ∈ T, left (.int .i64 n.num) = false → 1 ≤ n.links ∧ ((C' n.num : Nat) : Int) = n.links)) (fun _ wr => wr.rangeLeft w.heap.size w6.heap.size)
                case atStart => exact ⟨_, _, Hrg0.out, HK7.out, Lib.hid (fun n hn h => by
                  rw [has_toG int_same, addrs_get, (get_iff Hraw.out.sorted).2 ⟨hn, rfl⟩] at h; cases h)⟩
                case round =>
                  clear Hrg0 HK7
                  obtain ⟨left, cn, hrg, hK, Hlf⟩ := hrel
                  have Hrg := Lib.hid hrg
                  have HK := Lib.hid hK
                  clear hrg hK
                  go_wp2_with (at_next; refine wpList_next_ranges wr rfl _ rfl 3 (int_keyed Tryz.underlying3) ptrElem (Value.int .i64) Value.pointer inv_int inv_ptr w.heap.size w6.heap.size _ (toO (addrs T A)) left cn rfl Hrg.out ?_ ?_)
                  · intro _ hl0
                    have Hmk : RowKit.Hid (Makes T) := Lib.hid (makes_of Hraw.out HT60.out Hgr.out Hrd.out Hrl.out HMk.out.1 (fun n hn => by
                      have h := Hlf.out n hn (hl0 _)
                      rw [HMk.out.2] at h; exact h))
                    clear hl0
                    go_wp2_with fail
                    go_ret2
                    exact .inl ⟨T, Htold.out, Hmk.out, w.heap.size + 1, w.heap.size, A, M, role, rfl, HT6.out.keep HK.out, Hq.out.1, HK6.out.keep HK.out⟩
                  · intro x c kl yd yp w' cnt' hkey hlk hv hat hrg1 hlt hg1 hs1 hen
                    obtain ⟨x', ex, rfl, _⟩ := Maps.keyOf_int_inv Tryz.underlying3 hkey
                    cases ex
                    obtain ⟨a, hga, rfl⟩ := ptr_of hv hat
                    rw [addrs_get] at hga
                    cases hgn : T.get x with
                    | none => rw [hgn] at hga; cases hga
                    | some n =>
                      rw [hgn] at hga
                      obtain ⟨hnm, hnx⟩ := (get_iff Hraw.out.sorted).1 hgn
                      have ha : A x = a := by
                        have : A n.num = a := Option.some.inj hga
                        rw [hnx] at this; exact this
                      subst ha
                      have HK' : RowKit.Hid (Keep w6 w') := Lib.hid (HK.out.grown hg1 (fun i e => .inr (by injection e with e; omega)))
                      have HT' := Lib.hid (HT6.out.keep HK'.out)
                      have HC' := Lib.hid (HC6.out.mod HK'.out id)
                      have a2 : w'.cell? ⟨A x, 2, none⟩ = some (.int .i64 n.links) := HT'.out.cell Hraw.out.sorted hgn 2
                      have hxb : -9223372036854775808 ≤ x ∧ x ≤ 9223372036854775807 := by have := Hraw.out.nums n hnm; omega
                      have r2 : ∀ m, (Instr.lookup 71 (.map (some cb)) (.int .i64 x) false).run Tryz.prog (w'.drewN m) = .ok (.int .i64 (C' x : Int)) (w'.drewN m) := fun m => (HC'.out.mod ((Mod.refl (fun _ => False) w').drewN m) id).look x hxb
                      have Hrg1 := Lib.hid hrg1
                      have Hlt := Lib.hid (show cnt' < cn from hlt)
                      have Hleft := Lib.hid (Hrg.out.left_eq)
                      have Hnm := Lib.hid (And.intro hnm hnx)
                      have Hbad : RowKit.Hid (¬ (1 ≤ n.links ∧ (C' x : Int) = n.links) → ¬ FromOk l) := Lib.hid (fun hb h => by
                        have h1 := count_of (Hiff.out.1 h) hnm
                        have h2 := HMk.out.2 n.num
                        rw [hnx] at h1 h2
                        rw [← h2] at h1
                        exact hb h1)
                      clear hkey hlk hv hat hrg1 hlt hg1 hs1 hga hnm hnx hgn
                      by_cases hl1 : n.links < 1
                      · have Hno : RowKit.Hid (¬ FromOk l) := Lib.hid (Hbad.out (by omega))
                        have hd1 : decide (n.links < 1) = true := decide_eq_true hl1
                        clear hl1
                        go_wp2_with fail
                        refine wp_region_qe0 (by kernel_rfl) (by kernel_rfl) ?_
                        repeat (go_big_quiet_step (fail))
                        refine wpQuiet_nil ?_
                        intro _ hw'
                        obtain ⟨nq, rfl⟩ := hw'
                        have hkx : Keep w' (w'.drewN nq) := (Mod.refl _ w').drewN nq
                        go_wp2_with fail
                        go_ret2
                        exact .inr ⟨Hno.out, rfl, (HK6.out.keep HK'.out).keep hkx⟩
                      · have hd1 : decide (n.links < 1) = false := decide_eq_false hl1
                        by_cases hcx : (C' x : Int) = n.links
                        · have Hgood : RowKit.Hid (1 ≤ n.links ∧ ((C' n.num : Nat) : Int) = n.links) := Lib.hid ⟨by omega, by rw [Hnm.out.2]; exact hcx⟩
                          rw [hcx] at r2
                          clear hcx hl1
                          go_wp2_with fail
                          refine wp_region_qe0 (by kernel_rfl) (by kernel_rfl) ?_
                          repeat (go_big_quiet_step (fail))
                          refine wpQuiet_nil ?_
                          intro _ hw'
                          obtain ⟨nq, rfl⟩ := hw'
                          have hkx : Keep w' (w'.drewN nq) := (Mod.refl _ w').drewN nq
                          have HK'' := Lib.hid (HK'.out.keep hkx)
                          have Hrg2 := Lib.hid (Hrg1.out.kept (grown_keep hkx) (by simp) (by simp))
                          clear hkx
                          generalize w'.drewN nq = w'' at *
                          go_wp2_with fail
                          refine ⟨⟨_, cnt', Hrg2.out, HK''.out, Lib.hid (fun m hm h => ?_)⟩, ?_⟩
                          · by_cases e : m.num = x
                            · have hmn : m = n := num_inj Hraw.out.sorted hm Hnm.out.1 (by rw [e, Hnm.out.2])
                              rw [hmn]; exact Hgood.out
                            · refine Hlf.out m hm ?_
                              simp only [Bool.and_eq_false_iff] at h
                              rcases h with h | h
                              · exact h
                              · exfalso
                                apply e
                                simpa [Lit.sameKey] using h
                          · rw [Hrg2.out.left_eq, Hleft.out]
                            exact Hlt.out
                        · have Hno : RowKit.Hid (¬ FromOk l) := Lib.hid (Hbad.out (fun h => hcx h.2))
                          have hb0 : ((C' x : Int) == n.links) = false := beq_false_of_ne hcx
                          have hb1 : ((C' x : Int) != n.links) = true := bne_iff_ne.2 hcx
                          clear hcx hl1
                          go_wp2_with fail
                          refine wp_region_qe0 (by kernel_rfl) (by kernel_rfl) ?_
                          repeat (go_big_quiet_step (fail))
                          refine wpQuiet_nil ?_
                          intro _ hw'
                          obtain ⟨nq, rfl⟩ := hw'
                          have hkx : Keep w' (w'.drewN nq) := (Mod.refl _ w').drewN nq
                          go_wp2_with fail
                          go_ret2
                          exact .inr ⟨Hno.out, rfl, (HK6.out.keep HK'.out).keep hkx⟩
            · have Hno : RowKit.Hid (¬ FromOk l) := Lib.hid (fun h => by
                obtain ⟨r', hr', _, hl'⟩ := (Hiff.out.1 h).root
                rw [Hgr.out] at hr'
                rw [← Option.some.inj hr'] at hl'
                exact hrl hl')
              have hr0 : (r.links == 1) = false := beq_false_of_ne hrl
              have hr2 : (r.links != 1) = true := bne_iff_ne.2 hrl
              clear hrl
              go_wp2_with fail
              go_ret2
              exact .inr ⟨Hno.out, rfl, HK.out⟩
end
section
open Go.RowKit
/-- the reference's nodes in memory, and where they lie -/
structure RefRow (w : World) (t rb ro cap : Nat) (T : Tr) : Prop where
  tree : World.blk w t #[.slice (some ⟨rb, ro, none⟩) T.length cap] 55
  row : ∀ (j : Nat) n, T[j]? = some n → ∀ i c, (nodeC n.told)[i]? = some c → w.cell? ⟨rb, ro + j * 4 + i, none⟩ = some c
  apart : rb ≠ t
theorem RefRow.mod {w w' : World} {t rb ro cap : Nat} {T : Tr} {S : Nat → Prop} (h : RefRow w t rb ro cap T) (m : Mod S w w') (h1 : ¬ S t) (h2 : ¬ S rb) : RefRow w' t rb ro cap T where
  tree := blk_mod m h.tree h1
  row j n hj i c hi := by
    have := h.row j n hj i c hi
    rw [m.cell (p := ⟨rb, ro + j * 4 + i, none⟩) (lt_of_cell this) h2]; exact this
  apart := h.apart
theorem RefRow.at {w : World} {t rb ro cap : Nat} {T : Tr} (h : RefRow w t rb ro cap T) : RefAt w t (toldT T) where
  row := ⟨some ⟨rb, ro, none⟩, cap, by rw [told_len]; exact h.tree, fun j x hj => by
    simp only [toldT, List.getElem?_map] at hj
    cases hm : T[j]? with
    | none => rw [hm] at hj; cases hj
    | some m =>
      rw [hm] at hj
      obtain rfl := Option.some.inj hj
      exact ⟨rb, ro, rfl, h.apart, h.row j m hm⟩⟩
def MeetC (t cb n : Nat) (ok : Bool) : Array Value := #[.pointer (some ⟨t, 0, none⟩), .slice (some ⟨cb, 0, none⟩) n n, .bool ok]
def BelPost (T : Tr) (w : World) (mb t cb : Nat) (f : Nat) (k : Int) (C : Int → Nat) (s : Nat) (e : Ending) (w' : World) : Prop :=
  ∃ (b : Bool) (C' : Int → Nat) (s' : Nat), e = .returned (.tuple #[]) ∧ World.blk w' mb (MeetC t cb T.length b) 78 ∧ CntRow w' cb T C' ∧ Mod (fun x => x = mb ∨ x = cb) w w' ∧ (∀ j, C j ≤ C' j) ∧
    (b = true → (∀ j, C' j ≤ s') ∧ s' + 60 * unmet T C' ≤ s + 60 * unmet T C + 60 ∧ MetOk T f k C ∧ ∀ j, C' j = C j + subT T (oneN j) f k) ∧ (b = false → ¬ MetOk T f k C)
section
variable {T : Tr} {mb t rb ro cap cb : Nat}
set_option maxRecDepth 100000 in
set_option maxHeartbeats 16000000 in
theorem rbelow_gen (hw : Raw T) (hT : T.length ≤ 60) (hap : t ≠ mb ∧ t ≠ cb ∧ rb ≠ mb ∧ rb ≠ cb ∧ mb ≠ cb) : ∀ (f : Nat) (k : Int) (n : Nd) (w : World) (C : Int → Nat) (s : Nat), RefRow w t rb ro cap T → World.blk w mb (MeetC t cb T.length true) 78 → CntRow w cb T C → T.get k = some n → n.dir = true → f ≤ 100 → (∀ j, dirAt T j = true → C j ≤ 1) → (∀ j, C j ≤ s) → s + 60 * unmet T C ≤ 100000 →
    Calls Tryz.prog 32 #[.pointer (some ⟨mb, 0, none⟩), nodeV n.told, .int .i64 (f : Int)] w (BelPost T w mb t cb f k C s) := by
  have HW := Lib.hid hw
  have HA := Lib.hid hap
  clear hw hap
  intro f
  induction f using Nat.strongRecOn with
  | _ f ih =>
    intro k n w C s h hB hC hg hd h100 hone hCs hs
    have HT := Lib.hid h
    have HB := Lib.hid hB
    have HC := Lib.hid hC
    have Hg := Lib.hid hg
    have IH := Lib.hid ih
    obtain ⟨hm, hk⟩ := (get_iff HW.out.sorted).1 hg
    have hna : namesAt T k = n.names := by unfold namesAt; rw [hg]
    have Hna := Lib.hid hna
    have Hm := Lib.hid (And.intro hm hk)
    have Hrd := Lib.hid (HW.out.reads n hm)
    have Hd := Lib.hid hd
    have Hone := Lib.hid hone
    have HCs := Lib.hid hCs
    have Hs := Lib.hid hs
    have h60 := Hrd.out.many
    have h60i : (n.names.length : Int) ≤ 60 := by omega
    have htold : n.told = ⟨n.num, true, n.links, encE n.names⟩ := by simp [Nd.told, hd]
    have Hokn : RowKit.Hid (entsOk n.names = true) := Lib.hid Hrd.out.ents
    rw [htold]
    clear h hB hC hg ih hd hm hk hone hCs hs hna htold
    unfold nodeV
    go_enter Tryz.func32, Tryz.ntmps32
    go_wp2_with fail
    refine (rents_any n Hd.out Hokn.out _ _ _).mono ?_
    rintro e w1 ⟨lv, rfl, hlo, hk1⟩
    have HK1 := Lib.hid (unalloc hk1)
    obtain ⟨ea, ecap, rfl, hex⟩ := rowF_own entC_len hlo
    have HE := Lib.hid hex
    have HO := Lib.hid hlo
    have hmbl := blk_lt HB.out
    have hcbl := HC.out.lt
    have HT1 := Lib.hid (HT.out.mod HK1.out id id)
    have HB1 := Lib.hid (blk_mod HK1.out HB.out id)
    have HC1 := Lib.hid (HC.out.mod HK1.out id)
    clear hk1 hex hlo HT HB HC
    go_wp2_with fail
    go_loopw [7] (fun iv wr => ∃ (i : Nat) (ok : Bool) (C' : Int → Nat) (s' : Nat), i ≤ n.names.length ∧ iv = .int .i64 (i : Int) ∧ Mod (fun x => x = mb ∨ x = cb) w1 wr ∧ World.blk wr mb (MeetC t cb T.length ok) 78 ∧ CntRow wr cb T C' ∧ RowKit.Hid (∀ j, C j ≤ C' j) ∧ RowKit.Hid (ok = false → ¬ MetOk T f k C) ∧
        RowKit.Hid (ok = true → (∀ j, C' j + restS n.names i (fun p => oneN j p.2 + if dirAt T p.2 = true then subT T (oneN j) (f - 1) p.2 else 0) = C j + (n.names.map fun p => oneN j p.2 + if dirAt T p.2 = true then subT T (oneN j) (f - 1) p.2 else 0).sum) ∧ (∀ j, C' j ≤ s') ∧ s' + restS n.names i (fun _ => 1) + 60 * unmet T C' ≤ s + 60 * unmet T C + 60 ∧ (∀ j, dirAt T j = true → C' j ≤ 1) ∧ ∀ q ∈ n.names.take i, okP T f q = true)) (fun iv _ => n.names.length - (intOf iv).toNat)
    case atStart =>
      refine ⟨0, true, C, s, by omega, rfl, Mod.refl _ _, HB1.out, HC1.out, Lib.hid fun j => Nat.le_refl _, Lib.hid (fun h => by cases h), Lib.hid fun _ => ⟨fun j => rfl, HCs.out, ?_, Hone.out, fun q hq => by simp at hq⟩⟩
      have h6 := Hrd.out.many
      have : restS n.names 0 (fun _ => 1) = n.names.length := ones_sum n.names
      omega
    case round =>
      clear HB1 HC1
      obtain ⟨i, ok, C', s', hi, rfl, hM, hB, hC, Hmo, Hno, Hq⟩ := hrel
      have HM := Lib.hid hM
      have HB := Lib.hid hB
      have HC' := Lib.hid hC
      have HTr := Lib.hid (HT1.out.mod hM (fun e => e.elim HA.out.1 HA.out.2.1) (fun e => e.elim HA.out.2.2.1 HA.out.2.2.2.1))
      have HKw : RowKit.Hid (Mod (fun x => x = mb ∨ x = cb) w wr) := Lib.hid ((HK1.out.mono (fun _ _ h => h.elim)).trans hM (fun _ _ h => h))
      have m0 : wr.cell? ⟨mb, 0, none⟩ = some (.pointer (some ⟨t, 0, none⟩)) := blk_cell hB 0
      have m1 : wr.cell? ⟨mb, 1, none⟩ = some (.slice (some ⟨cb, 0, none⟩) T.length T.length) := blk_cell hB 1
      have m2 : wr.cell? ⟨mb, 2, none⟩ = some (.bool ok) := blk_cell hB 2
      clear hM hB hC
      by_cases hlt : i < n.names.length
      · have hlti : (i : Int) < n.names.length := by omega
        cases ok with
        | false =>
          go_wp2_with fail
          go_end0
          exact ⟨false, C', s', rfl, HB.out, HC'.out, HKw.out, Hmo.out, (fun h => by cases h), fun _ => Hno.out trivial⟩
        | true =>
          have HQ := Lib.hid (Hq.out rfl)
          clear Hno Hq
          obtain ⟨⟨x', c⟩, hx⟩ : ∃ x, n.names[i]? = some x := ⟨_, List.getElem?_eq_getElem hlt⟩
          have hin := List.mem_of_getElem? hx
          obtain ⟨b, o, rfl, cs⟩ := HE.out i (x', c) hx
          have hbb := own_base HO.out
          rw [World.size_alloc] at hbb
          have e1 : wr.cell? ⟨b, o + i * 2 + 1, none⟩ = some (.int .i64 c) := by
            have h := cs 1 _ rfl
            rw [HM.out.cell (p := ⟨b, o + i * 2 + 1, none⟩) (lt_of_cell h) (by show ¬ (b = mb ∨ b = cb); rintro (rfl | rfl) <;> omega)]; exact h
          have e0 : wr.cell? ⟨b, o + i * 2, none⟩ = some (.string ⟨x'.toArray⟩) := by
            have h := cs 0 _ rfl
            rw [HM.out.cell (p := ⟨b, o + i * 2, none⟩) (lt_of_cell h) (by show ¬ (b = mb ∨ b = cb); rintro (rfl | rfl) <;> omega)]; exact h
          have hnb := ents_all Hokn.out _ hin
          have hcb : -9223372036854775808 ≤ c ∧ c ≤ 9223372036854775807 := by have h := hnb.2; omega
          have hstep : ∀ g, restS n.names i g = g (x', c) + restS n.names (i + 1) g := fun g => rest_step n.names i g hx
          have Hstep := Lib.hid hstep
          have Hin := Lib.hid hin
          have Hx := Lib.hid hx
          obtain ⟨Cc, hCc⟩ : ∃ Cc, C' c = Cc := ⟨_, rfl⟩
          have HCc := Lib.hid hCc
          have hCs : Cc ≤ s' := by rw [← hCc]; exact HQ.out.2.1 c
          have hs' : s' + 1 ≤ 1000000 := by
            have e := HQ.out.2.2.1
            rw [hstep] at e
            have h1 := Hs.out
            omega
          have Hbad : RowKit.Hid (okP T f (x', c) = false → ¬ MetOk T f k C) := Lib.hid fun h1 h2 => by
            have h3 := h2.1
            rw [okN_all, Hna.out, List.all_eq_true] at h3
            rw [h3 _ Hin.out] at h1; cases h1
          have Hlow : RowKit.Hid (∀ j, 1 ≤ f → C' j + (oneN j c + if dirAt T c = true then subT T (oneN j) (f - 1) c else 0) ≤ C j + subT T (oneN j) f k) := Lib.hid fun j hf => by
            have e := HQ.out.1 j
            rw [Hstep.out] at e
            rw [(subT_names HW.out.sorted (oneN j) f k).2 hf, Hna.out]
            simp only at e
            omega
          have Hpot : RowKit.Hid (s' + 1 + restS n.names (i + 1) (fun _ => 1) + 60 * unmet T C' ≤ s + 60 * unmet T C + 60) := Lib.hid (by
            have e := HQ.out.2.2.1
            rw [Hstep.out] at e
            omega)
          have Hmon : RowKit.Hid (∀ j, C j ≤ (if j = c then Cc + 1 else C' j)) := Lib.hid fun j => by
            have e := Hmo.out j
            by_cases ej : j = c
            · rw [if_pos ej]; subst ej; rw [HCc.out] at e; omega
            · rw [if_neg ej]; exact e
          have Hmon2 : RowKit.Hid (unmet T (fun j => if j = c then Cc + 1 else C' j) ≤ unmet T C') := Lib.hid (unmet_mono fun j => by
            by_cases ej : j = c
            · show C' j ≤ if j = c then Cc + 1 else C' j
              rw [if_pos ej]; subst ej; rw [HCc.out]; omega
            · show C' j ≤ if j = c then Cc + 1 else C' j
              rw [if_neg ej]; omega)
          clear hx hin hnb hstep hCc cs
          have mf : wr.frozen? ⟨mb, 2, none⟩ = false := blk_free HB.out _ rfl
          have hmbr : mb < wr.heap.size := blk_lt HB.out
          have hbr : b < wr.heap.size := lt_of_cell e1
          go_wp2_with fail
          refine wp_region_ke (by kernel_rfl) (by kernel_rfl) ?_
          repeat (quiet_step (with_reducible exact quiet_keep (rnode_any (HTr.out.mod (keep_ext _ _) id id).at (by rw [told_len]; omega) c)))
          refine wpQuiet_nil ?_
          intro _ hw'
          obtain ⟨xq, rfl⟩ := hw'
          have hk2 : Keep wr (wr.ext xq) := keep_ext _ _
          generalize wr.ext xq = w2 at *
          have HK2 := Lib.hid hk2
          have HT2 := Lib.hid (HTr.out.mod hk2 id id)
          have HB2 := Lib.hid (blk_mod hk2 HB.out id)
          have HC2 := Lib.hid (HC'.out.mod hk2 id)
          have HM2 := Lib.hid (HM.out.keep hk2)
          have HKw2 := Lib.hid (HKw.out.keep hk2)
          have n0 : w2.cell? ⟨mb, 0, none⟩ = some (.pointer (some ⟨t, 0, none⟩)) := blk_cell HB2.out 0
          have n1 : w2.cell? ⟨mb, 1, none⟩ = some (.slice (some ⟨cb, 0, none⟩) T.length T.length) := blk_cell HB2.out 1
          have n2 : w2.cell? ⟨mb, 2, none⟩ = some (.bool true) := blk_cell HB2.out 2
          have nf : w2.frozen? ⟨mb, 2, none⟩ = false := blk_free HB2.out _ rfl
          have E1 : w2.cell? ⟨b, o + i * 2 + 1, none⟩ = some (.int .i64 c) := by rw [hk2.cell (p := ⟨b, o + i * 2 + 1, none⟩) (lt_of_cell e1) id]; exact e1
          clear hk2 m0 m1 m2 mf e0 e1 HB HC' HM HKw HTr
          have Hfail : RowKit.Hid (¬ MetOk T f k C → BelPost T w mb t cb f k C s (.returned (.tuple #[])) (w2.setCell ⟨mb, 2, none⟩ (.bool false))) := Lib.hid fun hb => ⟨false, C', s', rfl, blk_set HB2.out 2 _, HC2.out.mod (Mod.setCell (S := fun x => x = mb) (Mod.refl _ w2) (p := ⟨mb, 2, none⟩) (.inl rfl) _) (Ne.symm HA.out.2.2.2.2), Mod.setCell HKw2.out (p := ⟨mb, 2, none⟩) (.inl (.inl rfl)) _, Hmo.out, (fun h => by cases h), fun _ => hb⟩
          cases hgc : T.get c with
          | none =>
            have hix : idxL (toldT T) c = -1 := idx_none hgc
            have Hbad2 : RowKit.Hid (¬ MetOk T f k C) := Lib.hid (Hbad.out (by
              cases f with
              | zero => rfl
              | succ f => show ((T.get c).isSome && _) = false; rw [hgc]; rfl))
            rw [hix]
            clear hgc hix
            go_wp2_with fail
            go_end0
            exact Hfail.out Hbad2.out
          | some nc =>
            obtain ⟨K, hK, hix⟩ := idx_some HW.out.sorted hgc
            have hncn := ((get_iff HW.out.sorted).1 hgc).2
            have Hncm := Lib.hid ((get_iff HW.out.sorted).1 hgc)
            have HKx := Lib.hid hK
            have hKl := (List.getElem?_eq_some_iff.1 hK).1
            have hKi : (K : Int) < T.length := by omega
            have Hgc := Lib.hid hgc
            rw [hix]
            clear hgc hix hK hncn
            by_cases hc1 : c = 1
            · subst hc1
              have Hbad2 : RowKit.Hid (¬ MetOk T f k C) := Lib.hid (Hbad.out (by
                cases f with
                | zero => rfl
                | succ f => show ((T.get 1).isSome && (!((1 : Int) == 1) && _)) = false; simp))
              go_wp2_with fail
              go_end0
              exact Hfail.out Hbad2.out
            · have hc1' : (c == 1) = false := beq_false_of_ne hc1
              have Hc1 := Lib.hid hc1
              clear hc1
              by_cases hf : f = 0
              · subst hf
                have Hbad2 : RowKit.Hid (¬ MetOk T 0 k C) := Lib.hid (Hbad.out rfl)
                go_wp2_with fail
                go_end0
                exact Hfail.out Hbad2.out
              · have hf1 : 1 ≤ f := by omega
                have hf0 : ((f : Int) == 0) = false := beq_false_of_ne (by omega)
                clear hf Hfail
                have cc : w2.cell? ⟨cb, K, none⟩ = some (.int .i64 (Cc : Int)) := by rw [← HCc.out, HC2.out.cell HKx.out, Hncm.out.2]
                have cf : w2.frozen? ⟨cb, K, none⟩ = false := HC2.out.free _ rfl
                have HC3 : RowKit.Hid (CntRow (w2.setCell ⟨cb, K, none⟩ (.int .i64 ((Cc : Int) + 1))) cb T (fun j => if j = c then Cc + 1 else C' j)) := Lib.hid (by
                  have h := HC2.out.put HW.out.sorted HKx.out (Cc + 1)
                  rw [Hncm.out.2, show ((Cc + 1 : Nat) : Int) = (Cc : Int) + 1 by omega] at h
                  exact h)
                have HMs : RowKit.Hid (Mod (fun x => x = cb) w2 (w2.setCell ⟨cb, K, none⟩ (.int .i64 ((Cc : Int) + 1)))) := Lib.hid (Mod.setCell (S := fun x => x = cb) (Mod.refl _ w2) (p := ⟨cb, K, none⟩) (.inl rfl) _)
                have HB3 := Lib.hid (blk_mod HMs.out HB2.out HA.out.2.2.2.2)
                have HT3 := Lib.hid (HT2.out.mod HMs.out HA.out.2.1 HA.out.2.2.2.1)
                have HM3 := Lib.hid (HM2.out.trans HMs.out (fun x _ h => .inr h))
                have HKw3 := Lib.hid (HKw2.out.trans HMs.out (fun x _ h => .inr h))
                have c0 : (w2.setCell ⟨cb, K, none⟩ (.int .i64 ((Cc : Int) + 1))).cell? ⟨mb, 0, none⟩ = some (.pointer (some ⟨t, 0, none⟩)) := blk_cell HB3.out 0
                have c1 : (w2.setCell ⟨cb, K, none⟩ (.int .i64 ((Cc : Int) + 1))).cell? ⟨mb, 1, none⟩ = some (.slice (some ⟨cb, 0, none⟩) T.length T.length) := blk_cell HB3.out 1
                have c2 : (w2.setCell ⟨cb, K, none⟩ (.int .i64 ((Cc : Int) + 1))).cell? ⟨mb, 2, none⟩ = some (.bool true) := blk_cell HB3.out 2
                have c3 : (w2.setCell ⟨cb, K, none⟩ (.int .i64 ((Cc : Int) + 1))).frozen? ⟨mb, 2, none⟩ = false := blk_free HB3.out _ rfl
                have c4 : (w2.setCell ⟨cb, K, none⟩ (.int .i64 ((Cc : Int) + 1))).cell? ⟨t, 0, none⟩ = some (.slice (some ⟨rb, ro, none⟩) T.length cap) := blk_cell HT3.out.tree 0
                have c5 : (w2.setCell ⟨cb, K, none⟩ (.int .i64 ((Cc : Int) + 1))).cell? ⟨rb, ro + K * 4, none⟩ = some (.int .i64 nc.told.num) := HT3.out.row K nc HKx.out 0 _ rfl
                have c6 : (w2.setCell ⟨cb, K, none⟩ (.int .i64 ((Cc : Int) + 1))).cell? ⟨rb, ro + K * 4 + 1, none⟩ = some (.bool nc.dir) := HT3.out.row K nc HKx.out 1 _ rfl
                have c7 : (w2.setCell ⟨cb, K, none⟩ (.int .i64 ((Cc : Int) + 1))).cell? ⟨rb, ro + K * 4 + 2, none⟩ = some (.int .i64 nc.told.links) := HT3.out.row K nc HKx.out 2 _ rfl
                have c8 : (w2.setCell ⟨cb, K, none⟩ (.int .i64 ((Cc : Int) + 1))).cell? ⟨rb, ro + K * 4 + 3, none⟩ = some (.string ⟨nc.told.data.toArray⟩) := HT3.out.row K nc HKx.out 3 _ rfl
                have c9 : (w2.setCell ⟨cb, K, none⟩ (.int .i64 ((Cc : Int) + 1))).cell? ⟨cb, K, none⟩ = some (.int .i64 ((Cc : Int) + 1)) := by
                  rw [HC3.out.cell HKx.out, Hncm.out.2, if_pos rfl]; simp
                clear HMs
                cases hcd : nc.dir with
                | false =>
                  have hda : dirAt T c = false := by unfold dirAt; rw [Hgc.out]; exact hcd
                  have Hda := Lib.hid hda
                  rw [hcd] at c6
                  clear hcd hda
                  go_wp2_with fail
                  refine ⟨⟨i + 1, true, _, s' + 1, by omega, by go_num, HM3.out, HB3.out, HC3.out, Hmon, Lib.hid (fun h => by cases h), Lib.hid fun _ => ⟨fun j => ?_, fun j => ?_, ?_, fun j hj => ?_, fun q hq => ?_⟩⟩, by simp [intOf]; omega⟩
                  · rw [← HQ.out.1 j, Hstep.out]
                    simp only [Hda.out, oneN]
                    by_cases e : j = c
                    · subst e; rw [HCc.out]; simp; omega
                    · rw [if_neg e, if_neg (Ne.symm e)]; simp
                  · have h := HQ.out.2.1 j
                    show (if j = c then Cc + 1 else C' j) ≤ s' + 1
                    split <;> omega
                  · have := Hpot.out; have := Hmon2.out; omega
                  · have ej : j ≠ c := fun e => by rw [e, Hda.out] at hj; cases hj
                    show (if j = c then Cc + 1 else C' j) ≤ 1
                    rw [if_neg ej]; exact HQ.out.2.2.2.1 j hj
                  · rw [take_snoc Hx.out] at hq
                    rcases List.mem_append.1 hq with h | h
                    · exact HQ.out.2.2.2.2 q h
                    · rw [List.mem_singleton] at h
                      rw [h]
                      obtain ⟨f', rfl⟩ : ∃ f', f = f' + 1 := ⟨f - 1, by omega⟩
                      show ((T.get c).isSome && (!(c == 1) && (!(dirAt T c) || _))) = true
                      rw [Hgc.out, Hda.out, beq_false_of_ne Hc1.out]; rfl
                | true =>
                  have Hcd := Lib.hid hcd
                  have hda : dirAt T c = true := by unfold dirAt; rw [Hgc.out]; exact hcd
                  have Hda := Lib.hid hda
                  rw [hcd] at c6
                  clear hcd hda
                  by_cases hcc : Cc = 0
                  · have hb1 : ((Cc : Int) + 1 == 1) = true := by rw [hcc]; rfl
                    have Hcc := Lib.hid hcc
                    have HB4 : RowKit.Hid (World.blk ((w2.setCell ⟨cb, K, none⟩ (.int .i64 ((Cc : Int) + 1))).setCell ⟨mb, 2, none⟩ (.bool true)) mb (MeetC t cb T.length true) 78) := Lib.hid (blk_set HB3.out 2 _)
                    have hmo4 : Mod (fun x => x = mb) (w2.setCell ⟨cb, K, none⟩ (.int .i64 ((Cc : Int) + 1))) ((w2.setCell ⟨cb, K, none⟩ (.int .i64 ((Cc : Int) + 1))).setCell ⟨mb, 2, none⟩ (.bool true)) := Mod.setCell (S := fun x => x = mb) (Mod.refl _ _) (p := ⟨mb, 2, none⟩) (.inl rfl) _
                    have HT4 := Lib.hid (HT3.out.mod hmo4 HA.out.1 HA.out.2.2.1)
                    have HM4 : RowKit.Hid (Mod (fun x => x = mb ∨ x = cb) w1 ((w2.setCell ⟨cb, K, none⟩ (.int .i64 ((Cc : Int) + 1))).setCell ⟨mb, 2, none⟩ (.bool true))) := Lib.hid (HM3.out.trans hmo4 (fun x _ h => .inl h))
                    have HKw4 : RowKit.Hid (Mod (fun x => x = mb ∨ x = cb) w ((w2.setCell ⟨cb, K, none⟩ (.int .i64 ((Cc : Int) + 1))).setCell ⟨mb, 2, none⟩ (.bool true))) := Lib.hid (HKw3.out.trans hmo4 (fun x _ h => .inl h))
                    have HC4 := Lib.hid (HC3.out.mod hmo4 (Ne.symm HA.out.2.2.2.2))
                    have d0 : ((w2.setCell ⟨cb, K, none⟩ (.int .i64 ((Cc : Int) + 1))).setCell ⟨mb, 2, none⟩ (.bool true)).cell? ⟨mb, 0, none⟩ = some (.pointer (some ⟨t, 0, none⟩)) := blk_cell HB4.out 0
                    have d1 : ((w2.setCell ⟨cb, K, none⟩ (.int .i64 ((Cc : Int) + 1))).setCell ⟨mb, 2, none⟩ (.bool true)).cell? ⟨mb, 1, none⟩ = some (.slice (some ⟨cb, 0, none⟩) T.length T.length) := blk_cell HB4.out 1
                    have d2 : ((w2.setCell ⟨cb, K, none⟩ (.int .i64 ((Cc : Int) + 1))).setCell ⟨mb, 2, none⟩ (.bool true)).cell? ⟨mb, 2, none⟩ = some (.bool true) := blk_cell HB4.out 2
                    have d4 : ((w2.setCell ⟨cb, K, none⟩ (.int .i64 ((Cc : Int) + 1))).setCell ⟨mb, 2, none⟩ (.bool true)).cell? ⟨t, 0, none⟩ = some (.slice (some ⟨rb, ro, none⟩) T.length cap) := blk_cell HT4.out.tree 0
                    have d5 : ((w2.setCell ⟨cb, K, none⟩ (.int .i64 ((Cc : Int) + 1))).setCell ⟨mb, 2, none⟩ (.bool true)).cell? ⟨rb, ro + K * 4, none⟩ = some (.int .i64 nc.told.num) := HT4.out.row K nc HKx.out 0 _ rfl
                    have d6 : ((w2.setCell ⟨cb, K, none⟩ (.int .i64 ((Cc : Int) + 1))).setCell ⟨mb, 2, none⟩ (.bool true)).cell? ⟨rb, ro + K * 4 + 1, none⟩ = some (.bool nc.dir) := HT4.out.row K nc HKx.out 1 _ rfl
                    have d7 : ((w2.setCell ⟨cb, K, none⟩ (.int .i64 ((Cc : Int) + 1))).setCell ⟨mb, 2, none⟩ (.bool true)).cell? ⟨rb, ro + K * 4 + 2, none⟩ = some (.int .i64 nc.told.links) := HT4.out.row K nc HKx.out 2 _ rfl
                    have d8 : ((w2.setCell ⟨cb, K, none⟩ (.int .i64 ((Cc : Int) + 1))).setCell ⟨mb, 2, none⟩ (.bool true)).cell? ⟨rb, ro + K * 4 + 3, none⟩ = some (.string ⟨nc.told.data.toArray⟩) := HT4.out.row K nc HKx.out 3 _ rfl
                    rw [Hcd.out] at d6
                    have hnv : nodeV nc.told = .agg #[.int .i64 nc.told.num, .bool true, .int .i64 nc.told.links, .string ⟨nc.told.data.toArray⟩] := by
                      have e : nc.told.dir = true := Hcd.out
                      unfold nodeV; rw [e]
                    have Hnv := Lib.hid hnv
                    have hfc : ((f - 1 : Nat) : Int) = (f : Int) - 1 := by omega
                    have Hfc := Lib.hid hfc
                    have hU : unmet T (fun j => if j = c then Cc + 1 else C' j) + 1 = unmet T C' := by
                      have h := unmet_step HW.out.sorted Hncm.out.1 Hcd.out (C := C') (C' := fun j => if j = c then Cc + 1 else C' j) (by rw [Hncm.out.2]; exact HCc.out.trans Hcc.out) (by rw [Hncm.out.2]; simp) (fun j hj => by rw [Hncm.out.2] at hj; simp [hj])
                      exact h
                    have HU := Lib.hid hU
                    clear hU hfc hnv hmo4 hcc
                    go_wp2_with fail
                    rw [← Hfc.out, ← Hnv.out]
                    refine (IH.out (f - 1) (by omega) c nc _ _ (s' + 1) HT4.out HB4.out HC4.out Hgc.out Hcd.out (by omega) (fun j hj => ?_) (fun j => ?_) ?_).mono ?_
                    · show (if j = c then Cc + 1 else C' j) ≤ 1
                      have := Hcc.out
                      by_cases e : j = c
                      · rw [if_pos e]; omega
                      · rw [if_neg e]; exact HQ.out.2.2.2.1 j hj
                    · have h := HQ.out.2.1 j
                      show (if j = c then Cc + 1 else C' j) ≤ s' + 1
                      split <;> omega
                    · have := Hpot.out; have := HU.out; have := Hs.out; omega
                    rintro e w5 ⟨b5, C5, s5, rfl, hb5, hc5, hm5, hmo5, ht5, hf5⟩
                    have HB5 := Lib.hid hb5
                    have HC5 := Lib.hid hc5
                    have HM5 := Lib.hid (HM4.out.trans hm5 (fun _ _ h => h))
                    have Hmo5 : RowKit.Hid (∀ j, C j ≤ C5 j) := Lib.hid fun j => Nat.le_trans (Hmon.out j) (hmo5 j)
                    have Ht5 := Lib.hid ht5
                    have Hf5 := Lib.hid hf5
                    clear hb5 hc5 hm5 hmo5 ht5 hf5 d0 d1 d2 d4 d5 d6 d7 d8 c0 c1 c2 c3 c4 c5 c6 c7 c8 c9 n0 n1 n2 nf E1 cc cf
                    go_wp2_with fail
                    refine ⟨⟨i + 1, b5, C5, s5, by omega, by go_num, HM5.out, HB5.out, HC5.out, Hmo5, Lib.hid fun hb hmk => Hf5.out hb (by
                      have h3 := hmk.1
                      rw [okN_all, Hna.out, List.all_eq_true] at h3
                      have h4 := h3 _ Hin.out
                      obtain ⟨f', rfl⟩ : ∃ f', f = f' + 1 := ⟨f - 1, by omega⟩
                      have h5 : ((T.get c).isSome && (!(c == 1) && (!(dirAt T c) || okN T f' (namesAt T c)))) = true := h4
                      rw [Hda.out] at h5
                      simp only [Bool.not_true, Bool.false_or, Bool.and_eq_true] at h5
                      refine ⟨h5.2.2, fun j hj => ?_⟩
                      have h6 := Hlow.out j (by omega)
                      rw [Hda.out, if_pos rfl] at h6
                      have h7 := hmk.2 j hj
                      have h8 := Hcc.out
                      have h9 : f' + 1 - 1 = f' := rfl
                      rw [h9] at h6 ⊢
                      by_cases e : j = c
                      · have e1 : oneN j c = 1 := by unfold oneN; rw [if_pos e.symm]
                        rw [e1] at h6
                        show (if j = c then Cc + 1 else C' j) + _ ≤ 1
                        rw [if_pos e]; omega
                      · show (if j = c then Cc + 1 else C' j) + _ ≤ 1
                        rw [if_neg e]; omega), Lib.hid fun hb => ?_⟩, by simp [intOf]; omega⟩
                    have q := Ht5.out hb
                    refine ⟨fun j => ?_, q.1, ?_, fun j hj => ?_, fun p hp => ?_⟩
                    · rw [← HQ.out.1 j, Hstep.out, q.2.2.2 j]
                      simp only [Hda.out, oneN, if_true]
                      have h8 := Hcc.out
                      by_cases e : j = c
                      · subst e; rw [HCc.out]; simp; omega
                      · rw [if_neg e, if_neg (Ne.symm e)]; simp; omega
                    · have := Hpot.out; have := q.2.1; have := HU.out; omega
                    · rw [q.2.2.2 j]
                      exact q.2.2.1.2 j hj
                    · rw [take_snoc Hx.out] at hp
                      rcases List.mem_append.1 hp with h | h
                      · exact HQ.out.2.2.2.2 p h
                      · rw [List.mem_singleton] at h
                        rw [h]
                        obtain ⟨f', rfl⟩ : ∃ f', f = f' + 1 := ⟨f - 1, by omega⟩
                        show ((T.get c).isSome && (!(c == 1) && (!(dirAt T c) || okN T f' (namesAt T c)))) = true
                        have h5 : okN T f' (namesAt T c) = true := q.2.2.1.1
                        rw [Hgc.out, h5, beq_false_of_ne Hc1.out]; simp
                  · have hb1 : ((Cc : Int) + 1 == 1) = false := beq_false_of_ne (by omega)
                    have Hbad2 : RowKit.Hid (¬ MetOk T f k C) := Lib.hid fun hmk => by
                      have h6 := Hlow.out c hf1
                      have h7 := hmk.2 c Hda.out
                      have h8 := HCc.out
                      have e1 : oneN c c = 1 := by unfold oneN; rw [if_pos rfl]
                      rw [e1] at h6
                      omega
                    have HB4 : RowKit.Hid (World.blk ((w2.setCell ⟨cb, K, none⟩ (.int .i64 ((Cc : Int) + 1))).setCell ⟨mb, 2, none⟩ (.bool false)) mb (MeetC t cb T.length false) 78) := Lib.hid (blk_set HB3.out 2 _)
                    have d2 : ((w2.setCell ⟨cb, K, none⟩ (.int .i64 ((Cc : Int) + 1))).setCell ⟨mb, 2, none⟩ (.bool false)).cell? ⟨mb, 2, none⟩ = some (.bool false) := blk_cell HB4.out 2
                    have HM4 : RowKit.Hid (Mod (fun x => x = mb ∨ x = cb) w1 ((w2.setCell ⟨cb, K, none⟩ (.int .i64 ((Cc : Int) + 1))).setCell ⟨mb, 2, none⟩ (.bool false))) := Lib.hid (Mod.setCell HM3.out (p := ⟨mb, 2, none⟩) (.inl (.inl rfl)) _)
                    have HC4 : RowKit.Hid (CntRow ((w2.setCell ⟨cb, K, none⟩ (.int .i64 ((Cc : Int) + 1))).setCell ⟨mb, 2, none⟩ (.bool false)) cb T (fun j => if j = c then Cc + 1 else C' j)) := Lib.hid (HC3.out.mod (Mod.setCell (S := fun x => x = mb) (Mod.refl _ _) (p := ⟨mb, 2, none⟩) (.inl rfl) _) (Ne.symm HA.out.2.2.2.2))
                    clear hcc
                    go_wp2_with fail
                    exact ⟨⟨i + 1, false, _, s' + 1, by omega, by go_num, HM4.out, HB4.out, HC4.out, Hmon, Lib.hid fun _ => Hbad2.out, Lib.hid (fun h => by cases h)⟩, by simp [intOf]; omega⟩
      · obtain rfl : i = n.names.length := by omega
        clear hlt
        have Hok : RowKit.Hid (ok = true → MetOk T f k C ∧ ∀ j, C' j = C j + subT T (oneN j) f k) := Lib.hid fun hok => by
          have q := Hq.out hok
          have hokn : okN T f (namesAt T k) = true := by
            rw [okN_all, Hna.out, List.all_eq_true]
            exact fun p hp => q.2.2.2.2 p (by rw [List.take_length]; exact hp)
          have hsub : ∀ j, C' j = C j + subT T (oneN j) f k := fun j => by
            have e := q.1 j
            rw [rest_end, Nat.add_zero] at e
            rw [e]
            by_cases hf : 1 ≤ f
            · rw [(subT_names HW.out.sorted (oneN j) f k).2 hf, Hna.out]
            · obtain rfl : f = 0 := by omega
              unfold okN at hokn
              rw [List.isEmpty_iff, Hna.out] at hokn
              rw [hokn]; rfl
          exact ⟨⟨hokn, fun j hj => by rw [← hsub j]; exact q.2.2.2.1 j hj⟩, hsub⟩
        go_wp2_with fail
        go_end0
        refine ⟨ok, C', s', rfl, HB.out, HC'.out, HKw.out, Hmo.out, fun hok => ?_, Hno.out⟩
        have q := Hq.out hok
        have e := q.2.2.1
        rw [rest_end, Nat.add_zero] at e
        exact ⟨q.2.1, e, (Hok.out hok).1, (Hok.out hok).2⟩
end
end
section
open Go.RowKit
theorem reads_file {x : Nt} (hd : x.dir = false) (hl : x.data.length ≤ 16384) : ReadsT x := by
  refine ⟨⟨x.num, false, x.links, x.data, []⟩, ⟨fun _ => ⟨rfl, hl⟩, (fun h => by cases h), rfl, List.Pairwise.nil, (by simp)⟩, ?_⟩
  obtain ⟨num, dir, links, S⟩ := x
  simp only at hd
  subst hd
  simp [Nd.told]
theorem reads_long {x : Nt} (hl : 16384 < x.data.length) : ¬ ReadsT x := by
  rintro ⟨n, hn, hnt⟩
  have h1 := congrArg Nt.data hnt
  cases hnd : n.dir with
  | true =>
    simp only [Nd.told, hnd, if_true] at h1
    have := encE_small hn.ents hn.many
    rw [h1] at this
    omega
  | false =>
    simp only [Nd.told, hnd] at h1
    have := (hn.file hnd).2
    have h2 : n.data = x.data := by simpa using h1
    rw [h2] at this
    omega
def RParPost (w : World) (x : Nt) (e : Ending) (w' : World) : Prop := ∃ (a : Option Addr) (m cap : Nat) (e0 : Int), e = .returned (.tuple #[.slice a m cap, .int .i64 e0]) ∧ Keep w w' ∧ m ≤ 4096 ∧ ((e0 = 0 ∧ m ≤ 60 ∧ ReadsT x) ∨ (e0 = 0 ∧ 60 < m ∧ ¬ ReadsT x) ∨ (e0 = 120 ∧ ¬ ReadsT x))
theorem rpar_any (x : Nt) (hd : x.dir = true) (hl : x.data.length ≤ 16384) (w : World) : Calls Tryz.prog 31 #[.string ⟨x.data.toArray⟩] w (RParPost w x) := by
  by_cases hex : ∃ l, entsOk l = true ∧ encE l = x.data
  · obtain ⟨l, hok, hdat⟩ := hex
    rw [← hdat]
    refine (rparsee_ok l hok w).mono ?_
    rintro e w' ⟨v, rfl, ho, hk⟩
    obtain ⟨a, cap, rfl, _⟩ := rowF_own entC_len ho
    have h4 : l.length ≤ 4096 := by rw [entsOk, Bool.and_eq_true, decide_eq_true_eq] at hok; exact hok.1
    have ht : (⟨x.num, true, x.links, [], l⟩ : Nd).told = x := by
      obtain ⟨num, dir, links, S⟩ := x
      simp only at hd hdat
      subst hd
      simp [Nd.told, hdat]
    by_cases hm : l.length ≤ 60
    · exact ⟨a, l.length, cap, 0, rfl, hk, h4, .inl ⟨rfl, hm, _, ⟨(fun h => by cases h), fun _ => rfl, hok, ents_sortedN hok, hm⟩, ht⟩⟩
    · refine ⟨a, l.length, cap, 0, rfl, hk, h4, .inr (.inl ⟨rfl, by omega, ?_⟩)⟩
      rintro ⟨n, hn, hnt⟩
      have hnd : n.dir = true := by
        have := congrArg Nt.dir hnt
        exact this.trans hd
      have hnn : encE n.names = encE l := by
        have := congrArg Nt.data hnt
        simp only [Nd.told, hnd, if_true] at this
        rw [this, hdat]
      have := encE_inj hn.ents hok hnn
      have h60 := hn.many
      rw [this] at h60
      exact hm h60
  · have hbad : NoEnts x.data := fun l hok e => hex ⟨l, hok, e⟩
    refine (rparsee_bad x.data (by omega) hbad w).mono ?_
    rintro e w' ⟨rfl, hk⟩
    refine ⟨none, 0, 0, 120, rfl, hk, by omega, .inr (.inr ⟨rfl, ?_⟩)⟩
    rintro ⟨n, hn, hnt⟩
    have hnd : n.dir = true := by
      have := congrArg Nt.dir hnt
      exact this.trans hd
    refine hbad n.names hn.ents ?_
    have := congrArg Nt.data hnt
    simpa only [Nd.told, hnd, if_true] using this
section
variable {T : Tr}
theorem met0_iff (hs : Sorted T) {r : Nd} (hr : T.get 1 = some r) (hd : r.dir = true) : MetOk T 8 1 (fun _ => 0) ↔ MetOk T 8 1 one1 := by
  constructor
  · rintro ⟨h1, h2⟩
    refine ⟨h1, fun j hj => ?_⟩
    by_cases e : j = 1
    · subst e
      rw [root_zero hs hr hd h1]; simp [one1]
    · have := h2 j hj
      unfold one1; rw [if_neg e]; exact this
  · rintro ⟨h1, h2⟩
    refine ⟨h1, fun j hj => ?_⟩
    have := h2 j hj
    simp only at this ⊢
    omega
/-- what the links' check wants -/
theorem makes_of0 (hw : Raw T) (h60 : T.length ≤ 60) {r : Nd} (hr : T.get 1 = some r) (h0 : T[0]? = some r) (hd : r.dir = true) (hl : r.links = 1) (hm : MetOk T 8 1 (fun _ => 0)) (hc : ∀ (i : Nat) n, 1 ≤ i → T[i]? = some n → 1 ≤ n.links ∧ ((subT T (oneN n.num) 8 1 : Nat) : Int) = n.links) : Makes T := by
  refine makes_of hw h60 hr hd hl ((met0_iff hw.sorted hr hd).1 hm) fun n hn => ?_
  have hr1 := ((get_iff hw.sorted).1 hr).2
  obtain ⟨i, hi⟩ := List.mem_iff_getElem?.1 hn
  by_cases e : i = 0
  · subst e
    rw [h0] at hi
    obtain rfl := Option.some.inj hi
    rw [hr1, root_zero hw.sorted hr hd hm.1, hl]; simp [one1]
  · have h1 : n.num ≠ 1 := by
      have := sorted_lt hw.sorted h0 hi (by omega)
      omega
    have := hc i n (by omega) hi
    unfold one1; rw [if_neg h1, Nat.zero_add]; exact this
theorem count_of0 (h : Makes T) {r n : Nd} (hr : T.get 1 = some r) {i : Nat} (h0 : T[0]? = some r) (h1 : 1 ≤ i) (hi : T[i]? = some n) : 1 ≤ n.links ∧ ((subT T (oneN n.num) 8 1 : Nat) : Int) = n.links := by
  have hr1 := ((get_iff h.sorted).1 hr).2
  have h2 : n.num ≠ 1 := by
    have := sorted_lt h.sorted h0 hi (by omega)
    omega
  have := count_of h (List.mem_of_getElem? hi)
  unfold one1 at this
  rw [if_neg h2, Nat.zero_add] at this
  exact this
end
def RFromPost (w : World) (l : List Nt) (e : Ending) (w' : World) : Prop :=
  (FromOk l ∧ ∃ a, e = .returned (.tuple #[.pointer (some a), .int .i64 0]) ∧ Keep w w') ∨ (¬ FromOk l ∧ e = .returned (.tuple #[.pointer none, .int .i64 1]) ∧ Keep w w')
end
section
open Go.RowKit
/-- append(v, row...): the row, of structs, came from elsewhere -/
theorem append_rowF {α : Type} {f : α → List Value} {sz : Nat} {P : Program} {ts te : TypeId} {z : Value} {bytes : Nat} (hs : P.underlying ts = some (.slice te)) (hi : (P.info? te).map (fun i => (i.zero, i.size, i.bytes)) = some (some z, sz, bytes)) (hz : z.cells.size = sz) (hsz : 0 < sz)
    (hf : ∀ a, (f a).length = sz) (base : Nat) (v : Value) (l : List α) (w w0 : World) (hown : OwnF f sz te w base v l) (va : Value) (ys : List α) (ha : RowF f sz w va ys) (h1 : ∀ y ∈ ys, ∀ u ∈ f y, u.oneCell' = true) (hn : l.length + ys.length ≤ maxLen) (hnb : (l.length + ys.length) * bytes ≤ 140737488355328)
    (hbase : base ≤ w.heap.size) (h0 : Keep w0 w) (hb0 : w0.heap.size ≤ base) :
    ∃ v' w', (Builtin.append_ #[ts, ts] ts #[v, va]).run P w = .ok v' w' ∧ OwnF f sz te w' base v' (l ++ ys) ∧ Keep w0 w' ∧ Mod (fun b => base ≤ b) w w' := by
  obtain ⟨i0, hi, hz0, hz1, hz2⟩ := info_parts hi
  obtain ⟨a, cap, rfl, hx⟩ := ha
  rcases a with _ | a
  · have hy : ys = [] := by
      cases ys with
      | nil => rfl
      | cons y ys => obtain ⟨b, o, hb, _⟩ := hx 0 y rfl; cases hb
    subst hy
    obtain ⟨a0, sl, sc, rfl, hle⟩ : ∃ a0 sl sc, v = .slice a0 sl sc ∧ sl ≤ sc := by
      rcases hown.2 with ⟨rfl, h⟩ | ⟨g, cp, cur, rfl, _, _, hc, _⟩
      · exact ⟨none, 0, 0, rfl, Nat.le_refl _⟩
      · exact ⟨_, _, _, rfl, hc⟩
    refine ⟨_, w, run_append_nothing w ts ts ts te i0 hs hi a0 sl sc hle (.slice none 0 cap) (Src.ofNil w hs cap), by simpa [OwnF] using hown, h0, Mod.refl _ _⟩
  · have hlen := flat_len hf ys
    have hnews : ∀ j u, (ys.flatMap f)[j]? = some u → w.cell? (a.add j) = some u := fun j u hj => by
      have hj1 := (List.getElem?_eq_some_iff.1 hj).1
      rw [hlen] at hj1
      have hq : j / sz * sz + j % sz = j := by rw [Nat.mul_comm]; exact Nat.div_add_mod j sz
      have h5 := flat_get hf ys (j / sz) (j % sz) (Nat.mod_lt _ hsz)
      rw [hq, hj] at h5
      cases hy : ys[j / sz]? with
      | none => rw [hy] at h5; cases h5
      | some y =>
        rw [hy] at h5
        obtain ⟨b, o, hb, hc⟩ := hx (j / sz) y hy
        cases hb
        rw [addr_add]
        have := hc (j % sz) u h5.symm
        rwa [Nat.add_assoc, hq] at this
    obtain ⟨v', w', r1, r2, r3, _⟩ := run_append_own (P := P) w base ts ts te i0 z sz bytes hs hi hz0 hz1 hz2 hz hsz v l.length (l.flatMap f) hown a ys.length cap (ys.flatMap f) hlen hnews (fun u hu => by
      obtain ⟨y, hy, hu⟩ := List.mem_flatMap.1 hu
      exact h1 y hy u hu) hn hnb hbase
    refine ⟨v', w', r1, ?_, Mod.grown h0 r3 (fun k hk => .inr (Nat.le_trans hb0 (hown.lt k hk).1)), Mod.grown (Mod.refl _ w) r3 (fun k hk => .inl (hown.lt k hk).1)⟩
    unfold OwnF
    rw [List.flatMap_append, List.length_append]
    exact r2
theorem from_nil : ¬ FromOk [] := by
  rintro ⟨T, ht, hm⟩
  obtain ⟨r, hr, _⟩ := hm.root
  have : T = [] := List.map_eq_nil_iff.1 ht
  subst this
  simp [Tr.get] at hr
theorem from_first {x : Nt} {r : List Nt} (h : FromOk (x :: r)) : x.num = 1 ∧ x.dir = true ∧ x.links = 1 := by
  obtain ⟨T, ht, hm⟩ := h
  obtain ⟨rt, hr, hd, hl⟩ := hm.root
  obtain ⟨hin, hn⟩ := (get_iff hm.sorted).1 hr
  cases T with
  | nil => cases ht
  | cons n T' =>
    injection ht with h1 _
    have hnr : n = rt := by
      rcases List.mem_cons.1 hin with h2 | h2
      · exact h2.symm
      · have h3 := (List.pairwise_cons.1 hm.sorted).1 rt h2
        have h4 := (hm.nums n (by simp)).1
        omega
    subst h1 hnr
    exact ⟨hn, hd, hl⟩
theorem from_many {l : List Nt} (h : FromOk l) : l.length ≤ 60 := by
  obtain ⟨T, rfl, hm⟩ := h
  rw [told_len]; exact hm.many
set_option maxRecDepth 100000 in
set_option maxHeartbeats 16000000 in
theorem rfrom_any (l : List Nt) (hl : l.length ≤ 1048576) (hc : ∀ c ∈ l, c.data.length ≤ 1048576 ∧ (-9223372036854775808 ≤ c.num ∧ c.num ≤ 9223372036854775807) ∧ (-9223372036854775808 ≤ c.links ∧ c.links ≤ 9223372036854775807)) (v : Value) (w : World) (hrow : RowF nodeC 4 w v l) :
    Calls Tryz.prog 12 #[v] w (RFromPost w l) := by
  have hrow0 := hrow
  obtain ⟨av, cap, rfl, hrow⟩ := hrow
  have HR := Lib.hid hrow
  have HC := Lib.hid hc
  have hli : (l.length : Int) ≤ 1048576 := by omega
  have HV0 : OwnF nodeC 4 41 (w.alloc (.cells #[] 41)) w.heap.size (.slice (some ⟨w.heap.size, 0, none⟩) 0 0) [] := ⟨by simp, .inr ⟨_, 0, #[], rfl, Nat.le_refl _, blk_new _ _ _, Nat.le_refl _, by simp, by simp, by simp⟩⟩
  obtain ⟨v1, w1, hr1, ho1, hk1, _⟩ := append_rowF (f := nodeC) (P := Tryz.prog) Tryz.underlying22 info_node rfl (by decide) nodeC_len w.heap.size _ [] _ w HV0 _ l (rowF_keep hrow0 ((Mod.refl _ w).alloc _)) (fun y _ => nodeC_one y) (by unfold maxLen; simp; omega) (by simp; omega) (by simp) ((Mod.refl _ w).alloc _) (Nat.le_refl _)
  rw [List.nil_append] at ho1
  have Hr1 := Lib.hid hr1
  have HO1 := Lib.hid ho1
  have HK1 := Lib.hid hk1
  have hob : ∀ b o f m c, v1 = .slice (some ⟨b, o, f⟩) m c → w.heap.size ≤ b ∧ b < w1.heap.size := fun b o f m c e => by
    subst e; exact ⟨own_base ho1, own_ltG ho1 b o f m c rfl⟩
  obtain ⟨rb1, cap1, rfl, hx1⟩ := rowF_own nodeC_len ho1
  have HOB := Lib.hid hob
  have HX1 := Lib.hid hx1
  clear hrow hrow0 hc HV0 hr1 ho1 hk1 hob hx1
  by_cases hnil : l = []
  · subst hnil
    have Hno := Lib.hid from_nil
    simp only [List.length_nil] at Hr1 HOB
    go_enter Tryz.func12, Tryz.ntmps12
    go_wp2_with ((at_builtin; refine wpList_append_run Hr1.out rfl rfl rfl rfl ?_))
    go_ret2
    exact .inr ⟨Hno.out, rfl, HK1.out.alloc _⟩
  · have hpos : 0 < l.length := List.length_pos_iff.2 hnil
    have hposi : ¬ (l.length : Int) < 1 := by omega
    have hposj : (0 : Int) < l.length := by omega
    obtain ⟨x0, hx0⟩ : ∃ x, l[0]? = some x := ⟨_, List.getElem?_eq_getElem hpos⟩
    have Hx0 := Lib.hid hx0
    obtain ⟨b, o, rfl, hc0⟩ := HR.out 0 x0 hx0
    have c0 : w1.cell? ⟨b, o, none⟩ = some (.int .i64 x0.num) := by have h := hc0 0 _ rfl; rw [Nat.zero_mul] at h; rw [HK1.out.cell (p := ⟨b, o, none⟩) (lt_of_cell h) id]; exact h
    have c1 : w1.cell? ⟨b, o + 1, none⟩ = some (.bool x0.dir) := by have h := hc0 1 _ rfl; rw [Nat.zero_mul] at h; rw [HK1.out.cell (p := ⟨b, o + 1, none⟩) (lt_of_cell h) id]; exact h
    have c2 : w1.cell? ⟨b, o + 2, none⟩ = some (.int .i64 x0.links) := by have h := hc0 2 _ rfl; rw [Nat.zero_mul] at h; rw [HK1.out.cell (p := ⟨b, o + 2, none⟩) (lt_of_cell h) id]; exact h
    have c3 : w1.cell? ⟨b, o + 3, none⟩ = some (.string ⟨x0.data.toArray⟩) := by have h := hc0 3 _ rfl; rw [Nat.zero_mul] at h; rw [HK1.out.cell (p := ⟨b, o + 3, none⟩) (lt_of_cell h) id]; exact h
    have hbl : b < w1.heap.size := lt_of_cell c0
    obtain ⟨rb, ro, rfl, _⟩ := HX1.out 0 x0 hx0
    obtain ⟨hrb1, hrb2⟩ := HOB.out rb ro none _ _ rfl
    have hcons : ∃ r, l = x0 :: r := by
      cases l with
      | nil => exact absurd rfl hnil
      | cons y r => injection hx0 with h; exact ⟨r, by rw [h]⟩
    have Hcons := Lib.hid hcons
    clear hx0 hc0 hnil hcons hpos
    by_cases h60 : 60 < l.length
    · have Hno : RowKit.Hid (¬ FromOk l) := Lib.hid fun h => by have := from_many h; omega
      have h60i : (60 : Int) < l.length := by omega
      go_enter Tryz.func12, Tryz.ntmps12
      go_wp2_with ((at_builtin; refine wpList_append_run Hr1.out rfl rfl rfl rfl ?_))
      go_ret2
      exact .inr ⟨Hno.out, rfl, HK1.out.alloc _⟩
    · have h60i : ¬ (60 : Int) < l.length := by omega
      have h60j : (l.length : Int) ≤ 60 := by omega
      by_cases hq1 : x0.num = 1
      · have hb1 : (x0.num != 1) = false := by rw [hq1]; rfl
        have Hq1 := Lib.hid hq1
        clear hq1
        cases hd0 : x0.dir with
        | false =>
          have Hno : RowKit.Hid (¬ FromOk l) := Lib.hid fun h => by
            obtain ⟨r, e⟩ := Hcons.out
            rw [e] at h
            have := (from_first h).2.1
            rw [hd0] at this; cases this
          rw [hd0] at c1
          clear hd0
          go_enter Tryz.func12, Tryz.ntmps12
          go_wp2_with ((at_builtin; refine wpList_append_run Hr1.out rfl rfl rfl rfl ?_))
          go_ret2
          exact .inr ⟨Hno.out, rfl, HK1.out.alloc _⟩
        | true =>
          have Hd0 := Lib.hid hd0
          rw [hd0] at c1
          clear hd0
          by_cases hl0 : x0.links = 1
          · have hb2 : (x0.links != 1) = false := by rw [hl0]; rfl
            have Hl0 := Lib.hid hl0
            clear hl0
            go_enter Tryz.func12, Tryz.ntmps12
            go_wp2_with ((at_builtin; refine wpList_append_run Hr1.out rfl rfl rfl rfl ?_))
            have HK2 : RowKit.Hid (Keep w (w1.alloc (.cells #[.slice (some ⟨rb, ro, none⟩) l.length cap1] 55))) := Lib.hid (HK1.out.alloc _)
            have HT2 : RowKit.Hid (World.blk (w1.alloc (.cells #[.slice (some ⟨rb, ro, none⟩) l.length cap1] 55)) w1.heap.size #[.slice (some ⟨rb, ro, none⟩) l.length cap1] 55) := Lib.hid (blk_new _ _ _)
            have HX2 : RowKit.Hid (∀ j x, l[j]? = some x → ∀ i c, (nodeC x)[i]? = some c → (w1.alloc (.cells #[.slice (some ⟨rb, ro, none⟩) l.length cap1] 55)).cell? ⟨rb, ro + j * 4 + i, none⟩ = some c) := Lib.hid fun j x hx i c hi => by
              obtain ⟨b', o', e, hcc⟩ := HX1.out j x hx
              cases e
              have h := hcc i c hi
              rw [((Mod.refl (fun _ => False) w1).alloc (.cells #[.slice (some ⟨rb, ro, none⟩) l.length cap1] 55)).cell (p := ⟨rb, ro + j * 4 + i, none⟩) (lt_of_cell h) id]; exact h
            have htw : w.heap.size ≤ w1.heap.size := HK1.out.size
            clear c0 c1 c2 c3 hb1 hb2 Hr1 HO1 HX1 HOB HK1
            generalize (w1.alloc (.cells #[.slice (some ⟨rb, ro, none⟩) l.length cap1] 55)) = w2 at *
            obtain ⟨tb, htb⟩ : ∃ tb, w1.heap.size = tb := ⟨_, rfl⟩
            rw [htb] at HT2 hbl hrb2 htw
            rw [htb]
            clear htb
            go_loopw [5] (fun iv wr => ∃ (k : Nat) (T : Tr) (mm : Int), k ≤ l.length ∧ iv = .int .i64 (k : Int) ∧ Keep w2 wr ∧ RowKit.Hid (T.length = k ∧ toldT T = l.take k ∧ Raw T) ∧ RowKit.Hid (0 ≤ mm ∧ (∀ n ∈ T, n.num ≤ mm) ∧ (k = 0 ∨ ∃ j y, k = j + 1 ∧ l[j]? = some y ∧ y.num = mm))) (fun iv _ => l.length - (intOf iv).toNat)
            case atStart => exact ⟨0, [], 0, by omega, rfl, Mod.refl _ _, Lib.hid ⟨rfl, rfl, ⟨List.Pairwise.nil, (fun n hn => by cases hn), (fun n hn => by cases hn)⟩⟩, Lib.hid ⟨by omega, (fun n hn => by cases hn), .inl rfl⟩⟩
            case round =>
              obtain ⟨k, T, mm, hk, rfl, hK, HT9, Hq⟩ := hrel
              have HK := Lib.hid hK
              clear hK
              by_cases hlt : k < l.length
              · obtain ⟨x, hx⟩ : ∃ x, l[k]? = some x := ⟨_, List.getElem?_eq_getElem hlt⟩
                have Hx := Lib.hid hx
                obtain ⟨b', o', e, hcx⟩ := HR.out k x hx
                cases e
                have hKw := HK2.out.keep HK.out
                have c0 : wr.cell? ⟨b, o + k * 4, none⟩ = some (.int .i64 x.num) := by have h := hcx 0 _ rfl; rw [hKw.cell (p := ⟨b, o + k * 4, none⟩) (lt_of_cell h) id]; exact h
                have c1 : wr.cell? ⟨b, o + k * 4 + 1, none⟩ = some (.bool x.dir) := by have h := hcx 1 _ rfl; rw [hKw.cell (p := ⟨b, o + k * 4 + 1, none⟩) (lt_of_cell h) id]; exact h
                have c3 : wr.cell? ⟨b, o + k * 4 + 3, none⟩ = some (.string ⟨x.data.toArray⟩) := by have h := hcx 3 _ rfl; rw [hKw.cell (p := ⟨b, o + k * 4 + 3, none⟩) (lt_of_cell h) id]; exact h
                have hkt : (k : Int) < l.length := by omega
                have HKw := Lib.hid hKw
                clear hcx hKw
                -- is it less than the one ahead?
                rcases Nat.eq_zero_or_pos k with rfl | hk0
                · have hx00 : x = x0 := by
                    have h := Hx.out
                    rw [Hx0.out] at h
                    exact (Option.some.inj h).symm
                  have hlow : 1 ≤ x.num := by rw [hx00, Hq1.out]; omega
                  have hnum : ¬ 65535 < x.num := by rw [hx00, Hq1.out]; omega
                  have hnum2 : decide (65535 < x.num) = false := decide_eq_false hnum
                  have Hall : RowKit.Hid (∀ n ∈ T, n.num < x.num) := Lib.hid fun n hn => by
                    have := HT9.out.1
                    rw [List.length_eq_zero_iff] at this
                    rw [this] at hn; cases hn
                  simp only [Nat.zero_mul, Nat.add_zero] at c0 c1 c3
                  clear hx00 hx
                  by_cases hdl : 16384 < x.data.length
                  · have Hno : RowKit.Hid (¬ FromOk l) := Lib.hid (from_no Hx.out (.inl (reads_long hdl)))
                    have hdli : (16384 : Int) < x.data.length := by omega
                    go_wp2_with fail
                    refine wp_region_qe0 (by kernel_rfl) (by kernel_rfl) ?_
                    repeat (go_big_quiet_step (fail))
                    refine wpQuiet_nil ?_
                    intro _ hw'
                    obtain ⟨nq, rfl⟩ := hw'
                    go_wp2_with fail
                    go_ret2
                    exact .inr ⟨Hno.out, rfl, HKw.out.drewN nq⟩
                  · have hdli : ¬ (16384 : Int) < x.data.length := by omega
                    have hdlj : decide ((16384 : Int) < x.data.length) = false := decide_eq_false hdli
                    have Hdl := Lib.hid (show x.data.length ≤ 16384 by omega)
                    clear hdl
                    have Hend : RowKit.Hid (ReadsT x → ∃ (T' : Tr), T'.length = 0 + 1 ∧ toldT T' = l.take (0 + 1) ∧ Raw T' ∧ ∀ n ∈ T', n.num ≤ x.num) := Lib.hid (by
                      rintro ⟨n, hnr, hnt⟩
                      have hnx : n.num = x.num := congrArg Nt.num hnt
                      refine ⟨T ++ [n], by simp [HT9.out.1], ?_, raw_add HT9.out.2.2 hnr (fun m hm => by have := Hall.out m hm; omega) (by omega), fun m hm => ?_⟩
                      · rw [take_snoc Hx.out, ← HT9.out.2.1]
                        simp [toldT, hnt]
                      · rcases List.mem_append.1 hm with h | h
                        · have := Hall.out m h; omega
                        · rw [List.mem_singleton] at h; subst h; omega)
                    have hkk : (0 : Nat) + 1 ≤ l.length := by omega
                    cases hxd : x.dir with
                    | true =>
                      have Hxd := Lib.hid hxd
                      rw [hxd] at c1
                      clear hxd
                      go_wp2_with fail
                      refine wp_region_qe0 (by kernel_rfl) (by kernel_rfl) ?_
                      repeat (go_big_quiet_step (fail))
                      refine wpQuiet_nil ?_
                      intro _ hw'
                      obtain ⟨nq, rfl⟩ := hw'
                      have HKd := Lib.hid (HK.out.drewN nq)
                      have HKwd := Lib.hid (HKw.out.drewN nq)
                      go_wp2_with fail
                      refine (rpar_any x Hxd.out Hdl.out _).mono ?_
                      rintro e w4 ⟨pa, pm, pcap, e0, rfl, hk4, hm4, hcase⟩
                      have HK4 := Lib.hid (HKd.out.keep hk4)
                      have HKw4 := Lib.hid (HKwd.out.keep hk4)
                      clear hk4 HKd HKwd c0 c1 c3
                      rcases hcase with ⟨rfl, hm60, hrd⟩ | ⟨rfl, hm60, hno⟩ | ⟨rfl, hno⟩
                      · obtain ⟨T', h1, h2, h3, h4⟩ := Hend.out hrd
                        have H1 := Lib.hid h1
                        have H2 := Lib.hid h2
                        have H3 := Lib.hid h3
                        have H4 := Lib.hid h4
                        have hm60i : ¬ (60 : Int) < pm := by omega
                        clear hrd h1 h2 h3 h4
                        go_wp2_with fail
                        exact ⟨⟨0 + 1, T', x.num, hkk, by go_num, HK4.out, Lib.hid ⟨H1.out, H2.out, H3.out⟩, Lib.hid ⟨by omega, H4.out, .inr ⟨0, x, rfl, Hx.out, rfl⟩⟩⟩, by simp [intOf]; omega⟩
                      · have Hno : RowKit.Hid (¬ FromOk l) := Lib.hid (from_no Hx.out (.inl hno))
                        have hm60i : (60 : Int) < pm := by omega
                        clear hno
                        go_wp2_with fail
                        go_ret2
                        exact .inr ⟨Hno.out, rfl, HKw4.out⟩
                      · have Hno : RowKit.Hid (¬ FromOk l) := Lib.hid (from_no Hx.out (.inl hno))
                        clear hno
                        go_wp2_with fail
                        go_ret2
                        exact .inr ⟨Hno.out, rfl, HKw4.out⟩
                    | false =>
                      obtain ⟨T', h1, h2, h3, h4⟩ := Hend.out (reads_file hxd Hdl.out)
                      have H1 := Lib.hid h1
                      have H2 := Lib.hid h2
                      have H3 := Lib.hid h3
                      have H4 := Lib.hid h4
                      rw [hxd] at c1
                      clear hxd h1 h2 h3 h4
                      go_wp2_with fail
                      refine wp_region_qe0 (by kernel_rfl) (by kernel_rfl) ?_
                      repeat (go_big_quiet_step (fail))
                      refine wpQuiet_nil ?_
                      intro _ hw'
                      obtain ⟨nq, rfl⟩ := hw'
                      go_wp2_with fail
                      exact ⟨⟨0 + 1, T', x.num, hkk, by go_num, HK.out.drewN nq, Lib.hid ⟨H1.out, H2.out, H3.out⟩, Lib.hid ⟨by omega, H4.out, .inr ⟨0, x, rfl, Hx.out, rfl⟩⟩⟩, by simp [intOf]; omega⟩
                · obtain ⟨j, rfl⟩ : ∃ j, k = j + 1 := ⟨k - 1, by omega⟩
                  obtain ⟨y, hy⟩ : ∃ y, l[j]? = some y := ⟨_, List.getElem?_eq_getElem (by omega)⟩
                  have Hy := Lib.hid hy
                  obtain ⟨b', o', e, hcy⟩ := HR.out j y hy
                  cases e
                  have d0 : wr.cell? ⟨b, o + j * 4, none⟩ = some (.int .i64 y.num) := by have h := hcy 0 _ rfl; rw [HKw.out.cell (p := ⟨b, o + j * 4, none⟩) (lt_of_cell h) id]; exact h
                  have hg1 : (0 : Int) < (j : Int) + 1 := by omega
                  have hg2 : IntKind.i64.wrap ((j : Int) + 1 - 1) = (j : Int) := by rw [show (j : Int) + 1 - 1 = j by omega]; exact IntWalk.i64_in _ (by omega)
                  have hg3 : (j : Int) < l.length := by omega
                  have hmm : y.num = mm := by
                    rcases Hq.out.2.2 with h | ⟨i, z, h1, h2, h3⟩
                    · omega
                    · obtain rfl : j = i := by omega
                      rw [Hy.out] at h2
                      rw [← h3, Option.some.inj h2]
                  have Hmm := Lib.hid hmm
                  clear hcy hy hx hmm
                  by_cases hle : x.num ≤ y.num
                  · have Hno : RowKit.Hid (¬ FromOk l) := Lib.hid (from_no Hx.out (.inr (.inr (.inr ⟨j, y, rfl, Hy.out, hle⟩))))
                    have hle2 : decide (x.num ≤ y.num) = true := decide_eq_true hle
                    go_wp2_with fail
                    refine wp_region_qe0 (by kernel_rfl) (by kernel_rfl) ?_
                    repeat (go_big_quiet_step (fail))
                    refine wpQuiet_nil ?_
                    intro _ hw'
                    obtain ⟨nq, rfl⟩ := hw'
                    go_wp2_with fail
                    go_ret2
                    exact .inr ⟨Hno.out, rfl, HKw.out.drewN nq⟩
                  · have hle2 : decide (x.num ≤ y.num) = false := decide_eq_false hle
                    by_cases hnum : 65535 < x.num
                    · have Hno : RowKit.Hid (¬ FromOk l) := Lib.hid (from_no Hx.out (.inr (.inr (.inl hnum))))
                      have hnum2 : decide (65535 < x.num) = true := decide_eq_true hnum
                      go_wp2_with fail
                      refine wp_region_qe0 (by kernel_rfl) (by kernel_rfl) ?_
                      repeat (go_big_quiet_step (fail))
                      refine wpQuiet_nil ?_
                      intro _ hw'
                      obtain ⟨nq, rfl⟩ := hw'
                      go_wp2_with fail
                      go_ret2
                      exact .inr ⟨Hno.out, rfl, HKw.out.drewN nq⟩
                    · have hnum2 : decide (65535 < x.num) = false := decide_eq_false hnum
                      have hlow : 1 ≤ x.num := by have := Hq.out.1; have := Hmm.out; omega
                      have Hall : RowKit.Hid (∀ n ∈ T, n.num < x.num) := Lib.hid fun n hn => by
                        have := Hq.out.2.1 n hn; have := Hmm.out; omega
                      by_cases hdl : 16384 < x.data.length
                      · have Hno : RowKit.Hid (¬ FromOk l) := Lib.hid (from_no Hx.out (.inl (reads_long hdl)))
                        have hdli : (16384 : Int) < x.data.length := by omega
                        go_wp2_with fail
                        refine wp_region_qe0 (by kernel_rfl) (by kernel_rfl) ?_
                        repeat (go_big_quiet_step (fail))
                        refine wpQuiet_nil ?_
                        intro _ hw'
                        obtain ⟨nq, rfl⟩ := hw'
                        go_wp2_with fail
                        go_ret2
                        exact .inr ⟨Hno.out, rfl, HKw.out.drewN nq⟩
                      · have hdli : ¬ (16384 : Int) < x.data.length := by omega
                        have hdlj : decide ((16384 : Int) < x.data.length) = false := decide_eq_false hdli
                        have Hdl := Lib.hid (show x.data.length ≤ 16384 by omega)
                        clear hdl
                        have Hend : RowKit.Hid (ReadsT x → ∃ (T' : Tr), T'.length = (j + 1) + 1 ∧ toldT T' = l.take ((j + 1) + 1) ∧ Raw T' ∧ ∀ n ∈ T', n.num ≤ x.num) := Lib.hid (by
                          rintro ⟨n, hnr, hnt⟩
                          have hnx : n.num = x.num := congrArg Nt.num hnt
                          refine ⟨T ++ [n], by simp [HT9.out.1], ?_, raw_add HT9.out.2.2 hnr (fun m hm => by have := Hall.out m hm; omega) (by omega), fun m hm => ?_⟩
                          · rw [take_snoc Hx.out, ← HT9.out.2.1]
                            simp [toldT, hnt]
                          · rcases List.mem_append.1 hm with h | h
                            · have := Hall.out m h; omega
                            · rw [List.mem_singleton] at h; subst h; omega)
                        have hkk : ((j + 1) : Nat) + 1 ≤ l.length := by omega
                        cases hxd : x.dir with
                        | true =>
                          have Hxd := Lib.hid hxd
                          rw [hxd] at c1
                          clear hxd
                          go_wp2_with fail
                          refine wp_region_qe0 (by kernel_rfl) (by kernel_rfl) ?_
                          repeat (go_big_quiet_step (fail))
                          refine wpQuiet_nil ?_
                          intro _ hw'
                          obtain ⟨nq, rfl⟩ := hw'
                          have HKd := Lib.hid (HK.out.drewN nq)
                          have HKwd := Lib.hid (HKw.out.drewN nq)
                          go_wp2_with fail
                          refine (rpar_any x Hxd.out Hdl.out _).mono ?_
                          rintro e w4 ⟨pa, pm, pcap, e0, rfl, hk4, hm4, hcase⟩
                          have HK4 := Lib.hid (HKd.out.keep hk4)
                          have HKw4 := Lib.hid (HKwd.out.keep hk4)
                          clear hk4 HKd HKwd c0 c1 c3
                          rcases hcase with ⟨rfl, hm60, hrd⟩ | ⟨rfl, hm60, hno⟩ | ⟨rfl, hno⟩
                          · obtain ⟨T', h1, h2, h3, h4⟩ := Hend.out hrd
                            have H1 := Lib.hid h1
                            have H2 := Lib.hid h2
                            have H3 := Lib.hid h3
                            have H4 := Lib.hid h4
                            have hm60i : ¬ (60 : Int) < pm := by omega
                            clear hrd h1 h2 h3 h4
                            go_wp2_with fail
                            exact ⟨⟨(j + 1) + 1, T', x.num, hkk, by go_num, HK4.out, Lib.hid ⟨H1.out, H2.out, H3.out⟩, Lib.hid ⟨by omega, H4.out, .inr ⟨(j + 1), x, rfl, Hx.out, rfl⟩⟩⟩, by simp [intOf]; omega⟩
                          · have Hno : RowKit.Hid (¬ FromOk l) := Lib.hid (from_no Hx.out (.inl hno))
                            have hm60i : (60 : Int) < pm := by omega
                            clear hno
                            go_wp2_with fail
                            go_ret2
                            exact .inr ⟨Hno.out, rfl, HKw4.out⟩
                          · have Hno : RowKit.Hid (¬ FromOk l) := Lib.hid (from_no Hx.out (.inl hno))
                            clear hno
                            go_wp2_with fail
                            go_ret2
                            exact .inr ⟨Hno.out, rfl, HKw4.out⟩
                        | false =>
                          obtain ⟨T', h1, h2, h3, h4⟩ := Hend.out (reads_file hxd Hdl.out)
                          have H1 := Lib.hid h1
                          have H2 := Lib.hid h2
                          have H3 := Lib.hid h3
                          have H4 := Lib.hid h4
                          rw [hxd] at c1
                          clear hxd h1 h2 h3 h4
                          go_wp2_with fail
                          refine wp_region_qe0 (by kernel_rfl) (by kernel_rfl) ?_
                          repeat (go_big_quiet_step (fail))
                          refine wpQuiet_nil ?_
                          intro _ hw'
                          obtain ⟨nq, rfl⟩ := hw'
                          go_wp2_with fail
                          exact ⟨⟨(j + 1) + 1, T', x.num, hkk, by go_num, HK.out.drewN nq, Lib.hid ⟨H1.out, H2.out, H3.out⟩, Lib.hid ⟨by omega, H4.out, .inr ⟨(j + 1), x, rfl, Hx.out, rfl⟩⟩⟩, by simp [intOf]; omega⟩
              · obtain rfl : k = l.length := by omega
                have hT60 : T.length ≤ 60 := by have := HT9.out.1; omega
                have htl : toldT T = l := by have := HT9.out.2.1; rwa [List.take_length] at this
                have Htl := Lib.hid htl
                have Hraw := Lib.hid HT9.out.2.2
                have hTl : l.length = T.length := HT9.out.1.symm
                obtain ⟨rt, hrt, hrtx⟩ : ∃ rt, T[0]? = some rt ∧ rt.told = x0 := by
                  have h := Hx0.out
                  rw [← htl] at h
                  unfold toldT at h
                  rw [List.getElem?_map] at h
                  exact Option.map_eq_some_iff.1 h
                have hrn : rt.num = 1 := (congrArg Nt.num hrtx).trans Hq1.out
                have hrd : rt.dir = true := (congrArg Nt.dir hrtx).trans Hd0.out
                have hrl : rt.links = 1 := (congrArg Nt.links hrtx).trans Hl0.out
                have hgr : T.get 1 = some rt := (get_iff Hraw.out.sorted).2 ⟨List.mem_of_getElem? hrt, hrn⟩
                have Hgr := Lib.hid hgr
                have Hrt := Lib.hid hrt
                have Hrd := Lib.hid hrd
                have Hrl := Lib.hid hrl
                have Hrtx := Lib.hid hrtx
                have HTl := Lib.hid hTl
                obtain ⟨b', o', e, hcx⟩ := HR.out 0 x0 Hx0.out
                cases e
                have HKw := Lib.hid (HK2.out.keep HK.out)
                simp only [Nat.zero_mul, Nat.add_zero] at hcx
                have c0 : wr.cell? ⟨b, o, none⟩ = some (.int .i64 x0.num) := by have h := hcx 0 _ rfl; rw [Nat.add_zero] at h; rw [HKw.out.cell (p := ⟨b, o, none⟩) (lt_of_cell h) id]; exact h
                have c1 : wr.cell? ⟨b, o + 1, none⟩ = some (.bool x0.dir) := by have h := hcx 1 _ rfl; rw [HKw.out.cell (p := ⟨b, o + 1, none⟩) (lt_of_cell h) id]; exact h
                have c2 : wr.cell? ⟨b, o + 2, none⟩ = some (.int .i64 x0.links) := by have h := hcx 2 _ rfl; rw [HKw.out.cell (p := ⟨b, o + 2, none⟩) (lt_of_cell h) id]; exact h
                have c3 : wr.cell? ⟨b, o + 3, none⟩ = some (.string ⟨x0.data.toArray⟩) := by have h := hcx 3 _ rfl; rw [HKw.out.cell (p := ⟨b, o + 3, none⟩) (lt_of_cell h) id]; exact h
                have hbr : b < wr.heap.size := lt_of_cell c0
                have hlpos : 1 ≤ l.length := by omega
                have hmk := fun W => run_make_int (P := Tryz.prog) (ts := 44) (te := 3) Tryz.underlying44 (by kernel_rfl) l.length (by omega) W
                clear hcx hrn hrd hrl hgr hrt hrtx htl hTl
                go_wp2_with fail
                have HKm : RowKit.Hid (Keep wr ((wr.alloc (.cells (Array.replicate l.length (.int .i64 0)) 3)).alloc (.cells #[.pointer (some ⟨tb, 0, none⟩), .slice (some ⟨wr.heap.size, 0, none⟩) l.length l.length, .bool true] 78))) := Lib.hid (((Mod.refl _ wr).alloc _).alloc _)
                have HCm : RowKit.Hid (CntRow ((wr.alloc (.cells (Array.replicate l.length (.int .i64 0)) 3)).alloc (.cells #[.pointer (some ⟨tb, 0, none⟩), .slice (some ⟨wr.heap.size, 0, none⟩) l.length l.length, .bool true] 78)) wr.heap.size T (fun _ => 0)) := Lib.hid ⟨_, blk_alloc (blk_new _ _ _) _, by simp [HTl.out], fun i n hn => by
                  have := (List.getElem?_eq_some_iff.1 hn).1
                  rw [HTl.out]; simp [this]⟩
                have HBm : RowKit.Hid (World.blk ((wr.alloc (.cells (Array.replicate l.length (.int .i64 0)) 3)).alloc (.cells #[.pointer (some ⟨tb, 0, none⟩), .slice (some ⟨wr.heap.size, 0, none⟩) l.length l.length, .bool true] 78)) (wr.heap.size + 1) (MeetC tb wr.heap.size T.length true) 78) := Lib.hid (by rw [← HTl.out]; exact blk_new_at (by simp) _ _)
                have htbr : tb < wr.heap.size := blk_lt (blk_mod HK.out HT2.out id)
                have hrbr : rb < wr.heap.size := by
                  have h := HX2.out 0 x0 Hx0.out 0 _ rfl
                  have := lt_of_cell h
                  have := HK.out.size
                  simp only at *
                  omega
                have hrbt : rb ≠ tb := by omega
                clear c0 c1 c2 c3 hmk
                generalize ((wr.alloc (.cells (Array.replicate l.length (.int .i64 0)) 3)).alloc (.cells #[.pointer (some ⟨tb, 0, none⟩), .slice (some ⟨wr.heap.size, 0, none⟩) l.length l.length, .bool true] 78)) = w5 at *
                obtain ⟨cb, hcb⟩ : ∃ cb, wr.heap.size = cb := ⟨_, rfl⟩
                rw [hcb] at HCm HBm htbr hrbr hbr
                rw [hcb]
                have HK5 := Lib.hid (HK.out.keep HKm.out)
                have HR5 : RowKit.Hid (RefRow w5 tb rb ro cap1 T) := Lib.hid ⟨by rw [← HTl.out]; exact blk_mod HK5.out HT2.out id, fun j n hj i c hi => by
                  have hlj : l[j]? = some n.told := by rw [← Htl.out]; unfold toldT; rw [List.getElem?_map, hj]; rfl
                  have h := HX2.out j n.told hlj i c hi
                  rw [HK5.out.cell (p := ⟨rb, ro + j * 4 + i, none⟩) (lt_of_cell h) id]; exact h, hrbt⟩
                have hkw5 := HKw.out.keep HKm.out
                have HKw5 := Lib.hid hkw5
                have hsz : w.heap.size ≤ cb := by rw [← hcb]; exact HKw.out.size
                have e8 : (8 : Int) = ((8 : Nat) : Int) := rfl
                rw [← Hrtx.out]
                rw [show (Value.int .i64 8) = Value.int .i64 ((8 : Nat) : Int) from rfl]
                clear hcb e8 hkw5
                refine (rbelow_gen Hraw.out hT60 ⟨by omega, by omega, by omega, by omega, by omega⟩ 8 1 rt w5 (fun _ => 0) 0 HR5.out HBm.out HCm.out Hgr.out Hrd.out (by decide) (fun j _ => by show 0 ≤ 1; omega) (fun j => Nat.le_refl _) (by have := unmet_le T (fun _ => 0); omega)).mono ?_
                rintro e w6 ⟨bb, C', s', rfl, hB6, hC6, hM6, hmon, hyes, hno⟩
                have HB6 := Lib.hid hB6
                have HC6 := Lib.hid hC6
                have Hyes := Lib.hid hyes
                have Hno6 := Lib.hid hno
                have HKw6 : RowKit.Hid (Keep w w6) := Lib.hid (HKw5.out.trans (hM6.mono fun i _ h => (show (i = cb + 1 ∨ i = cb) from h)) (fun i hi h => by rcases h with h | h <;> omega))
                clear hB6 hC6 hM6 hmon hyes hno HBm HCm HR5 HKw5 HK5 HKm
                go_wp2_with fail
                go_loopw [9] (fun iv wi => ∃ (i : Nat), 1 ≤ i ∧ i ≤ l.length ∧ iv = .int .i64 (i : Int) ∧ Keep w6 wi ∧ RowKit.Hid (∀ j n, 1 ≤ j → j < i → T[j]? = some n → 1 ≤ n.links ∧ (C' n.num : Int) = n.links)) (fun iv _ => l.length - (intOf iv).toNat)
                case atStart => exact ⟨1, by omega, by omega, rfl, Mod.refl _ _, Lib.hid fun j n h1 h2 => by omega⟩
                case round =>
                  obtain ⟨i, hi1, hil, rfl, hKi, Hli⟩ := hrel
                  have HKi := Lib.hid hKi
                  have m2 : wr.cell? ⟨cb + 1, 2, none⟩ = some (.bool bb) := blk_cell (blk_mod hKi HB6.out id) 2
                  have m1 : wr.cell? ⟨cb + 1, 1, none⟩ = some (.slice (some ⟨cb, 0, none⟩) T.length T.length) := blk_cell (blk_mod hKi HB6.out id) 1
                  have HKwi := Lib.hid (HKw6.out.keep hKi)
                  clear hKi
                  by_cases hlt2 : i < l.length
                  · have hlt2i : (i : Int) < l.length := by omega
                    cases bb with
                    | false =>
                      have Hno : RowKit.Hid (¬ FromOk l) := Lib.hid fun h => by
                        have h1 := metOk_of_makes ((fromOk_iff Hraw.out Htl.out).1 h)
                        exact Hno6.out rfl ((met0_iff Hraw.out.sorted Hgr.out Hrd.out).2 h1)
                      go_wp2_with fail
                      refine wp_region_qe0 (by kernel_rfl) (by kernel_rfl) ?_
                      repeat (go_big_quiet_step (fail))
                      refine wpQuiet_nil ?_
                      intro _ hw'
                      obtain ⟨nq, rfl⟩ := hw'
                      go_wp2_with fail
                      go_ret2
                      exact .inr ⟨Hno.out, rfl, HKwi.out.drewN nq⟩
                    | true =>
                      obtain ⟨hq1, hq2, hq3, hq4⟩ := Hyes.out rfl
                      have Hcnt : RowKit.Hid (∀ j, C' j = subT T (oneN j) 8 1) := Lib.hid fun j => by rw [hq4 j]; simp
                      clear hq1 hq2 hq3 hq4
                      obtain ⟨n, hn⟩ : ∃ n, T[i]? = some n := ⟨_, List.getElem?_eq_getElem (by rw [← HTl.out]; exact hlt2)⟩
                      have Hn := Lib.hid hn
                      have hlx : l[i]? = some n.told := by rw [← Htl.out]; unfold toldT; rw [List.getElem?_map, hn]; rfl
                      obtain ⟨b', o', e, hcx⟩ := HR.out i n.told hlx
                      cases e
                      have c2 : wr.cell? ⟨b, o + i * 4 + 2, none⟩ = some (.int .i64 n.links) := by have h := hcx 2 _ rfl; rw [HKwi.out.cell (p := ⟨b, o + i * 4 + 2, none⟩) (lt_of_cell h) id]; exact h
                      have d0 : wr.cell? ⟨cb, i, none⟩ = some (.int .i64 (C' n.num : Int)) := (HC6.out.mod HKi.out id).cell hn
                      have hTi : (i : Int) < T.length := by rw [← HTl.out]; exact hlt2i
                      have Hcount : RowKit.Hid (FromOk l → 1 ≤ n.links ∧ (C' n.num : Int) = n.links) := Lib.hid fun h => by
                        have := count_of0 ((fromOk_iff Hraw.out Htl.out).1 h) Hgr.out Hrt.out hi1 Hn.out
                        rw [Hcnt.out]; exact this
                      clear hn hlx hcx
                      obtain ⟨Cn, hCn⟩ : ∃ Cn : Int, (C' n.num : Int) = Cn := ⟨_, rfl⟩
                      rw [hCn] at d0
                      have HCn := Lib.hid hCn
                      clear hCn
                      by_cases hl1 : n.links < 1
                      · have Hno : RowKit.Hid (¬ FromOk l) := Lib.hid fun h => by have := (Hcount.out h).1; omega
                        have hl2 : decide (n.links < 1) = true := decide_eq_true hl1
                        go_wp2_with fail
                        refine wp_region_qe0 (by kernel_rfl) (by kernel_rfl) ?_
                        repeat (go_big_quiet_step (fail))
                        refine wpQuiet_nil ?_
                        intro _ hw'
                        obtain ⟨nq, rfl⟩ := hw'
                        go_wp2_with fail
                        go_ret2
                        exact .inr ⟨Hno.out, rfl, HKwi.out.drewN nq⟩
                      · have hl2 : decide (n.links < 1) = false := decide_eq_false hl1
                        by_cases hcl : Cn = n.links
                        · have hb3 : (Cn != n.links) = false := by rw [hcl]; simp
                          have Hl2 : RowKit.Hid (∀ j n, 1 ≤ j → j < i + 1 → T[j]? = some n → 1 ≤ n.links ∧ (C' n.num : Int) = n.links) := Lib.hid fun j m h1 h2 h3 => by
                            by_cases e : j = i
                            · subst e
                              rw [Hn.out] at h3
                              obtain rfl := Option.some.inj h3
                              exact ⟨by omega, by rw [HCn.out]; exact hcl⟩
                            · exact Hli.out j m h1 (by omega) h3
                          have Hcl := Lib.hid hcl
                          clear hcl
                          go_wp2_with fail
                          refine wp_region_qe0 (by kernel_rfl) (by kernel_rfl) ?_
                          repeat (go_big_quiet_step (fail))
                          refine wpQuiet_nil ?_
                          intro _ hw'
                          obtain ⟨nq, rfl⟩ := hw'
                          go_wp2_with fail
                          exact ⟨⟨i + 1, by omega, by omega, by go_num, HKi.out.drewN nq, Hl2⟩, by simp [intOf]; omega⟩
                        · have hb3 : (Cn != n.links) = true := by simpa using hcl
                          have Hno : RowKit.Hid (¬ FromOk l) := Lib.hid fun h => hcl (by rw [← HCn.out]; exact (Hcount.out h).2)
                          clear hcl
                          go_wp2_with fail
                          refine wp_region_qe0 (by kernel_rfl) (by kernel_rfl) ?_
                          repeat (go_big_quiet_step (fail))
                          refine wpQuiet_nil ?_
                          intro _ hw'
                          obtain ⟨nq, rfl⟩ := hw'
                          go_wp2_with fail
                          go_ret2
                          exact .inr ⟨Hno.out, rfl, HKwi.out.drewN nq⟩
                  · obtain rfl : i = l.length := by omega
                    cases bb with
                    | false =>
                      have Hno : RowKit.Hid (¬ FromOk l) := Lib.hid fun h => by
                        have h1 := metOk_of_makes ((fromOk_iff Hraw.out Htl.out).1 h)
                        exact Hno6.out rfl ((met0_iff Hraw.out.sorted Hgr.out Hrd.out).2 h1)
                      go_wp2_with fail
                      go_ret2
                      exact .inr ⟨Hno.out, rfl, HKwi.out⟩
                    | true =>
                      obtain ⟨hq1, hq2, hq3, hq4⟩ := Hyes.out rfl
                      have Hok : RowKit.Hid (FromOk l) := Lib.hid ((fromOk_iff Hraw.out Htl.out).2 (makes_of0 Hraw.out hT60 Hgr.out Hrt.out Hrd.out Hrl.out hq3 fun i n h1 h2 => by
                        have h3 := Hli.out i n h1 (by rw [HTl.out]; exact (List.getElem?_eq_some_iff.1 h2).1) h2
                        rw [hq4] at h3
                        simpa using h3))
                      clear hq1 hq2 hq3 hq4
                      go_wp2_with fail
                      go_ret2
                      exact .inl ⟨Hok.out, _, rfl, HKwi.out⟩
          · have hb2 : (x0.links != 1) = true := by simpa using hl0
            have Hno : RowKit.Hid (¬ FromOk l) := Lib.hid fun h => by
              obtain ⟨r, e⟩ := Hcons.out
              rw [e] at h
              exact hl0 (from_first h).2.2
            clear hl0
            go_enter Tryz.func12, Tryz.ntmps12
            go_wp2_with ((at_builtin; refine wpList_append_run Hr1.out rfl rfl rfl rfl ?_))
            go_ret2
            exact .inr ⟨Hno.out, rfl, HK1.out.alloc _⟩
      · have hb1 : (x0.num != 1) = true := by simpa using hq1
        have Hno : RowKit.Hid (¬ FromOk l) := Lib.hid fun h => by
          obtain ⟨r, e⟩ := Hcons.out
          rw [e] at h
          exact hq1 (from_first h).1
        clear hq1
        go_enter Tryz.func12, Tryz.ntmps12
        go_wp2_with ((at_builtin; refine wpList_append_run Hr1.out rfl rfl rfl rfl ?_))
        go_ret2
        exact .inr ⟨Hno.out, rfl, HK1.out.alloc _⟩
end
end Go.Proofs.YthmpblccplphfaaGreatDoor
