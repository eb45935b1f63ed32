/-
  files: writes, links.
-/
import Derived.Test.YthmpblccplphfaaGreatDoorFilUpd
namespace Go.Proofs.YthmpblccplphfaaGreatDoor
open Go.RowKit
section
variable {w : World} {p tb : Nat} {T : Tr} {A M : Int → Nat} {role : Nat → Role} {d : Int → Nat}
theorem node_num (h : WF T d) {k : Int} {n : Nd} (hg : T.get k = some n) : n.num = k ∧ -9223372036854775808 ≤ k ∧ k ≤ 9223372036854775807 := by
  obtain ⟨hm, hk⟩ := (get_iff h.sorted).1 hg
  have := h.nums n hm
  omega
theorem cnt_le {j : Int} (h : ∀ n ∈ T, n.names.length ≤ 60) : cnt T j ≤ T.length * 60 := by
  unfold cnt
  induction T with
  | nil => simp
  | cons y r ih =>
    have h1 := ih fun n hn => h n (by simp [hn])
    have h2 := h y (by simp)
    have h3 : cntN y.names j ≤ y.names.length := List.countP_le_length
    simp only [List.map_cons, List.sum_cons, List.length_cons]
    omega
theorem links_small (h : WF T d) {k : Int} {n : Nd} (hg : T.get k = some n) : 1 ≤ n.links ∧ n.links ≤ 3600 := by
  obtain ⟨hm, hk⟩ := (get_iff h.sorted).1 hg
  by_cases h1 : n.num = 1
  · obtain ⟨r, hr, e, _, hl⟩ := h.root
    have := num_inj h.sorted hm hr (by omega)
    rw [this, hl]; omega
  · have hc := h.count n hm h1
    have h2 := cnt_le (T := T) (j := n.num) fun m hm => (h.names m hm).1
    have := h.many
    omega
set_option maxRecDepth 100000 in
set_option maxHeartbeats 4000000 in
theorem links_any (h : TreeAt w p T tb A M role) (hw : WF T d) (he : Env w) (c : Cmd) (hc : c.Small) :
    Calls Tryz.prog 39 #[.pointer (some ⟨p, 0, none⟩), cmdV c] w fun e w' => e = .returned (.int .i64 (linksT T c).2) ∧ Turned w w' p tb role (linksT T c).1 := by
  have HC := Lib.hid hc
  have hk0 : Keep w (w.alloc (.cells (cmdC c) 38)) := (Mod.refl _ w).alloc _
  have HT := Lib.hid (h.keep hk0)
  have HW := Lib.hid hw
  have He := Lib.hid (he.keep hk0)
  have HT0 := Lib.hid h
  have HCB : RowKit.Hid (World.blk (w.alloc (.cells (cmdC c) 38)) w.heap.size (cmdC c) 38) := Lib.hid (blk_new _ _ _)
  clear h hw he hc hk0
  go_enter Tryz.func39, Tryz.ntmps39
  unfold cmdV cmdC
  go_wp2_with fail
  unfold cmdC at HT He HCB
  have HK0 : RowKit.Hid (Keep w (w.alloc (.cells #[.int .i64 c.kind, .string ⟨c.path.toArray⟩, .string ⟨c.dest.toArray⟩, .int .i64 c.pos, .string ⟨c.data.toArray⟩] 38))) := Lib.hid ((Mod.refl _ w).alloc _)
  generalize w.alloc (.cells #[.int .i64 c.kind, .string ⟨c.path.toArray⟩, .string ⟨c.dest.toArray⟩, .int .i64 c.pos, .string ⟨c.data.toArray⟩] 38) = w0 at *
  refine (at_any HT.out HW.out He.out c.path HC.out.path).mono ?_
  rintro e w1 ⟨rfl, hk⟩
  have HCB1 := Lib.hid (blk_mod hk HCB.out id)
  have HT1 := Lib.hid (HT.out.keep hk)
  have He1 := Lib.hid (He.out.keep hk)
  have HK1 := Lib.hid (HK0.out.keep hk)
  clear hk HCB HT He HK0
  cases ha : atT T c.path with
  | error e =>
    have hne : (e == 0) = false := by have := at_err ha; rw [beq_eq_false_iff_ne]; omega
    have Hv : RowKit.Hid (linksT T c = (T, e)) := Lib.hid (by rw [linksT, ha])
    clear ha
    unfold findV
    go_wp2_with fail
    go_ret
    exact ⟨by rw [Hv.out]; rfl, by rw [Hv.out]; exact Turned.same HT0.out HK1.out⟩
  | ok j =>
    obtain ⟨l, n, _, _, hg⟩ := at_ok HW.out ha
    have c1 : w1.cell? ⟨A j, 1, none⟩ = some (.bool n.dir) := HT1.out.cell HW.out.sorted hg 1
    unfold findV
    cases hd : n.dir with
    | true =>
      rw [hd] at c1
      have Hv : RowKit.Hid (linksT T c = (T, 143)) := Lib.hid (by rw [linksT, ha]; simp [hg, hd])
      clear ha hg hd
      go_wp2_with fail
      go_ret
      exact ⟨by rw [Hv.out]; rfl, by rw [Hv.out]; exact Turned.same HT0.out HK1.out⟩
    | false =>
      rw [hd] at c1
      have Hv : RowKit.Hid (linksT T c = match roomT T c.dest with
          | .error e => (T, e)
          | .ok (k, s) => ((T.named k (putN s j)).upd j fun n => { n with links := n.links + 1 }, 0)) := Lib.hid (by rw [linksT, ha]; simp only [hg, hd]; rfl)
      have Hg := Lib.hid hg
      have Hd := Lib.hid hd
      have z2 : w1.cell? ⟨w.heap.size, 2, none⟩ = some (.string ⟨c.dest.toArray⟩) := blk_cell HCB1.out 2
      clear ha hg hd
      go_wp2_with fail
      refine (room_any HT1.out HW.out He1.out c.dest HC.out.dest).mono ?_
      rintro e w2 ⟨rfl, hk⟩
      have HT2 := Lib.hid (HT1.out.keep hk)
      have HK2 := Lib.hid (HK1.out.keep hk)
      clear hk c1 z2
      cases hr : roomT T c.dest with
      | error e =>
        have hne : (e == 0) = false := by have := room_err hr; rw [beq_eq_false_iff_ne]; omega
        rw [hr] at Hv
        clear hr
        unfold roomV
        go_wp2_with fail
        go_ret
        exact ⟨by rw [Hv.out]; rfl, by rw [Hv.out]; exact Turned.same HT0.out HK2.out⟩
      | ok x =>
        obtain ⟨k, s⟩ := x
        obtain ⟨q, up, hp, hp7, hok, hf, hgk, hdk, hn, h60, hdd⟩ := room_ok HW.out hr
        rw [hr] at Hv
        simp only at Hv
        have d4 : w2.cell? ⟨A k, 4, none⟩ = some (.map (if up.dir = true then some (M k) else none)) := HT2.out.cell HW.out.sorted hgk 4
        rw [if_pos hdk] at d4
        have d0 : w2.cell? ⟨A j, 0, none⟩ = some (.int .i64 n.num) := HT2.out.cell HW.out.sorted Hg.out 0
        obtain ⟨hnum, hnb⟩ := node_num HW.out Hg.out
        rw [hnum] at d0
        have Hup := Lib.hid (And.intro hgk (And.intro hdk (And.intro hn h60)))
        have hsl : s.length ≤ 16 := by
          simp only [nameOk, Bool.and_eq_true, decide_eq_true_eq] at hok
          exact hok.1.1.2
        have Hnum := Lib.hid hnum
        clear hr hp hp7 hok hf hgk hdk hn h60 hdd hnum
        unfold roomV
        go_wp2_with fail
        refine wp_region_qd0 9 (by kernel_rfl) (by kernel_rfl) ?_
        simp only [List.take_succ_cons, List.take_zero, List.drop_succ_cons, List.drop_zero]
        repeat (quiet_step (fail))
        refine wpQuiet_nil ?_
        intro _ hw'
        obtain ⟨nq, rfl⟩ := hw'
        have HT2d := (HT2.out.keep ((Mod.refl (fun _ => False) w2).drewN nq))
        have hmap := HT2d.names up ((get_iff HW.out.sorted).1 Hup.out.1).1 Hup.out.2.1
        rw [((get_iff HW.out.sorted).1 Hup.out.1).2] at hmap
        obtain ⟨w3, hrun, hm3, hmod3⟩ := MapN.store hmap Tryz.underlying68 Tryz.underlying9 Tryz.underlying3 s (by omega) j hnb (by have := Hup.out.2.2.2; omega)
        refine wpList_update_run hrun rfl rfl rfl rfl rfl ?_
        have ht3 := tree_named (f := putN s j) HT2d HW.out.sorted Hup.out.1 Hup.out.2.1 hmod3 hm3
        have hjk : j ≠ k := fun e => by
          have h1 := Hg.out
          rw [e, Hup.out.1] at h1
          have h2 := Option.some.inj h1
          have h3 := Hup.out.2.1
          rw [h2, Hd.out] at h3; cases h3
        have hs3 : Sorted (T.named k (putN s j)) := upd_sorted (fun _ => rfl) HW.out.sorted
        have hg3 : (T.named k (putN s j)).get j = some n := by rw [get_named, if_neg hjk]; exact Hg.out
        have hB3 := ht3.node n ((get_iff hs3).1 hg3).1
        rw [Hnum.out] at hB3
        have HB3 := Lib.hid hB3
        have HT3 := Lib.hid ht3
        have HS3 := Lib.hid hs3
        have HG3 := Lib.hid hg3
        have HM3 : RowKit.Hid (Mod (fun b => role b ≠ .none) w w3) := Lib.hid (((HK2.out.drewN nq).mono (fun _ _ h => h.elim)).trans hmod3 (fun i hi e => by
          have hr := HT0.out.rnames up ((get_iff HW.out.sorted).1 Hup.out.1).1 Hup.out.2.1
          rw [((get_iff HW.out.sorted).1 Hup.out.1).2] at hr
          rw [e, hr]; exact Role.noConfusion))
        have e2 : w3.cell? ⟨A j, 2, none⟩ = some (.int .i64 n.links) := blk_cell hB3 2
        have e3 : w3.frozen? ⟨A j, 2, none⟩ = false := blk_free hB3 _ rfl
        have hlk := links_small HW.out Hg.out
        clear HT2d hmap hrun hm3 hmod3 ht3 hjk hs3 hg3 hB3 d4 d0
        go_wp2_with fail
        go_ret
        refine ⟨by rw [Hv.out]; rfl, ?_⟩
        rw [Hv.out]
        have hmod4 : Mod (· = A j) w3 (w3.setCell ⟨A j, 2, none⟩ (.int .i64 (n.links + 1))) := (Mod.refl (fun x => x = A j) w3).setCell (p := ⟨A j, 2, none⟩) (.inl rfl) _
        refine ⟨A, M, role, tree_upd (f := fun n => { n with links := n.links + 1 }) HT3.out HS3.out (fun _ => ⟨rfl, rfl, rfl⟩) HG3.out hmod4 (blk_set HB3.out 2 _), fun _ hb => .inl hb, HM3.out.trans hmod4 (fun i hi e => ?_)⟩
        have hr := HT0.out.rnode n ((get_iff HW.out.sorted).1 Hg.out).1
        rw [Hnum.out] at hr
        rw [e, hr]; exact Role.noConfusion
end
end Go.Proofs.YthmpblccplphfaaGreatDoor
