/-
  files: writes, links.
  files: writes.
  files: makes.
  files: parent, removes.
  files: deep.
  files: renames.
  files: New, Do.
-/
import Derived.Test.YthmpblccplphfaaGreatDoorFilUpd
import Derived.Carry
namespace Go.Proofs.YthmpblccplphfaaGreatDoor
section
open Go.RowKit
section
variable {w : World} {p tb : Nat} {T : Tr} {A M : Int → Nat} {role : Nat → Role} {d : Int → Nat}
theorem node_num (h : WF T d) {k : Int} {n : Nd} (hg : T.get k = some n) : n.num = k ∧ -9223372036854775808 ≤ k ∧ k ≤ 9223372036854775807 := by
  obtain ⟨hm, hk⟩ := (get_iff h.sorted).1 hg
  have := h.nums n hm
  omega
theorem cnt_le {j : Int} (h : ∀ n ∈ T, n.names.length ≤ 60) : cnt T j ≤ T.length * 60 := by
  unfold cnt
  induction T with
  | nil => simp
  | cons y r ih =>
    have h1 := ih fun n hn => h n (by simp [hn])
    have h2 := h y (by simp)
    have h3 : cntN y.names j ≤ y.names.length := List.countP_le_length
    simp only [List.map_cons, List.sum_cons, List.length_cons]
    omega
theorem links_small (h : WF T d) {k : Int} {n : Nd} (hg : T.get k = some n) : 1 ≤ n.links ∧ n.links ≤ 3600 := by
  obtain ⟨hm, hk⟩ := (get_iff h.sorted).1 hg
  by_cases h1 : n.num = 1
  · obtain ⟨r, hr, e, _, hl⟩ := h.root
    have := num_inj h.sorted hm hr (by omega)
    rw [this, hl]; omega
  · have hc := h.count n hm h1
    have h2 := cnt_le (T := T) (j := n.num) fun m hm => (h.names m hm).1
    have := h.many
    omega
set_option maxRecDepth 100000 in
set_option maxHeartbeats 4000000 in
theorem links_any (h : TreeAt w p T tb A M role) (hw : WF T d) (he : Env w) (c : Cmd) (hc : c.Small) :
    Calls Tryz.prog 39 #[.pointer (some ⟨p, 0, none⟩), cmdV c] w fun e w' => e = .returned (.int .i64 (linksT T c).2) ∧ Turned w w' p tb role (linksT T c).1 := by
  have HC := Lib.hid hc
  have hk0 : Keep w (w.alloc (.cells (cmdC c) 38)) := (Mod.refl _ w).alloc _
  have HT := Lib.hid (h.keep hk0)
  have HW := Lib.hid hw
  have He := Lib.hid (he.keep hk0)
  have HT0 := Lib.hid h
  have HCB : RowKit.Hid (World.blk (w.alloc (.cells (cmdC c) 38)) w.heap.size (cmdC c) 38) := Lib.hid (blk_new _ _ _)
  clear h hw he hc hk0
  go_enter Tryz.func39, Tryz.ntmps39
  unfold cmdV cmdC
  go_wp2_with fail
  unfold cmdC at HT He HCB
  have HK0 : RowKit.Hid (Keep w (w.alloc (.cells #[.int .i64 c.kind, .string ⟨c.path.toArray⟩, .string ⟨c.dest.toArray⟩, .int .i64 c.pos, .string ⟨c.data.toArray⟩] 38))) := Lib.hid ((Mod.refl _ w).alloc _)
  generalize w.alloc (.cells #[.int .i64 c.kind, .string ⟨c.path.toArray⟩, .string ⟨c.dest.toArray⟩, .int .i64 c.pos, .string ⟨c.data.toArray⟩] 38) = w0 at *
  refine (at_any HT.out HW.out He.out c.path HC.out.path).mono ?_
  rintro e w1 ⟨rfl, hk⟩
  have HCB1 := Lib.hid (blk_mod hk HCB.out id)
  have HT1 := Lib.hid (HT.out.keep hk)
  have He1 := Lib.hid (He.out.keep hk)
  have HK1 := Lib.hid (HK0.out.keep hk)
  clear hk HCB HT He HK0
  cases ha : atT T c.path with
  | error e =>
    have hne : (e == 0) = false := by have := at_err ha; rw [beq_eq_false_iff_ne]; omega
    have Hv : RowKit.Hid (linksT T c = (T, e)) := Lib.hid (by rw [linksT, ha])
    clear ha
    unfold findV
    go_wp2_with fail
    go_ret
    exact ⟨by rw [Hv.out]; rfl, by rw [Hv.out]; exact Turned.same HT0.out HK1.out⟩
  | ok j =>
    obtain ⟨l, n, _, _, hg⟩ := at_ok HW.out ha
    have c1 : w1.cell? ⟨A j, 1, none⟩ = some (.bool n.dir) := HT1.out.cell HW.out.sorted hg 1
    unfold findV
    cases hd : n.dir with
    | true =>
      rw [hd] at c1
      have Hv : RowKit.Hid (linksT T c = (T, 143)) := Lib.hid (by rw [linksT, ha]; simp [hg, hd])
      clear ha hg hd
      go_wp2_with fail
      go_ret
      exact ⟨by rw [Hv.out]; rfl, by rw [Hv.out]; exact Turned.same HT0.out HK1.out⟩
    | false =>
      rw [hd] at c1
      have Hv : RowKit.Hid (linksT T c = match roomT T c.dest with
          | .error e => (T, e)
          | .ok (k, s) => ((T.named k (putN s j)).upd j fun n => { n with links := n.links + 1 }, 0)) := Lib.hid (by rw [linksT, ha]; simp only [hg, hd]; rfl)
      have Hg := Lib.hid hg
      have Hd := Lib.hid hd
      have z2 : w1.cell? ⟨w.heap.size, 2, none⟩ = some (.string ⟨c.dest.toArray⟩) := blk_cell HCB1.out 2
      clear ha hg hd
      go_wp2_with fail
      refine (room_any HT1.out HW.out He1.out c.dest HC.out.dest).mono ?_
      rintro e w2 ⟨rfl, hk⟩
      have HT2 := Lib.hid (HT1.out.keep hk)
      have HK2 := Lib.hid (HK1.out.keep hk)
      clear hk c1 z2
      cases hr : roomT T c.dest with
      | error e =>
        have hne : (e == 0) = false := by have := room_err hr; rw [beq_eq_false_iff_ne]; omega
        rw [hr] at Hv
        clear hr
        unfold roomV
        go_wp2_with fail
        go_ret
        exact ⟨by rw [Hv.out]; rfl, by rw [Hv.out]; exact Turned.same HT0.out HK2.out⟩
      | ok x =>
        obtain ⟨k, s⟩ := x
        obtain ⟨q, up, hp, hp7, hok, hf, hgk, hdk, hn, h60, hdd⟩ := room_ok HW.out hr
        rw [hr] at Hv
        simp only at Hv
        have d4 : w2.cell? ⟨A k, 4, none⟩ = some (.map (if up.dir = true then some (M k) else none)) := HT2.out.cell HW.out.sorted hgk 4
        rw [if_pos hdk] at d4
        have d0 : w2.cell? ⟨A j, 0, none⟩ = some (.int .i64 n.num) := HT2.out.cell HW.out.sorted Hg.out 0
        obtain ⟨hnum, hnb⟩ := node_num HW.out Hg.out
        rw [hnum] at d0
        have Hup := Lib.hid (And.intro hgk (And.intro hdk (And.intro hn h60)))
        have hsl : s.length ≤ 16 := by
          simp only [nameOk, Bool.and_eq_true, decide_eq_true_eq] at hok
          exact hok.1.1.2
        have Hnum := Lib.hid hnum
        clear hr hp hp7 hok hf hgk hdk hn h60 hdd hnum
        unfold roomV
        go_wp2_with fail
        refine wp_region_qd0 9 (by kernel_rfl) (by kernel_rfl) ?_
        simp only [List.take_succ_cons, List.take_zero, List.drop_succ_cons, List.drop_zero]
        repeat (quiet_step (fail))
        refine wpQuiet_nil ?_
        intro _ hw'
        obtain ⟨nq, rfl⟩ := hw'
        have HT2d := (HT2.out.keep ((Mod.refl (fun _ => False) w2).drewN nq))
        have hmap := HT2d.names up ((get_iff HW.out.sorted).1 Hup.out.1).1 Hup.out.2.1
        rw [((get_iff HW.out.sorted).1 Hup.out.1).2] at hmap
        obtain ⟨w3, hrun, hm3, hmod3⟩ := MapN.store hmap Tryz.underlying68 Tryz.underlying9 Tryz.underlying3 s (by omega) j hnb (by have := Hup.out.2.2.2; omega)
        refine wpList_update_run hrun rfl rfl rfl rfl rfl ?_
        have ht3 := tree_named (f := putN s j) HT2d HW.out.sorted Hup.out.1 Hup.out.2.1 hmod3 hm3
        have hjk : j ≠ k := fun e => by
          have h1 := Hg.out
          rw [e, Hup.out.1] at h1
          have h2 := Option.some.inj h1
          have h3 := Hup.out.2.1
          rw [h2, Hd.out] at h3; cases h3
        have hs3 : Sorted (T.named k (putN s j)) := upd_sorted (fun _ => rfl) HW.out.sorted
        have hg3 : (T.named k (putN s j)).get j = some n := by rw [get_named, if_neg hjk]; exact Hg.out
        have hB3 := ht3.node n ((get_iff hs3).1 hg3).1
        rw [Hnum.out] at hB3
        have HB3 := Lib.hid hB3
        have HT3 := Lib.hid ht3
        have HS3 := Lib.hid hs3
        have HG3 := Lib.hid hg3
        have HM3 : RowKit.Hid (Mod (fun b => role b ≠ .none) w w3) := Lib.hid (((HK2.out.drewN nq).mono (fun _ _ h => h.elim)).trans hmod3 (fun i hi e => by
          have hr := HT0.out.rnames up ((get_iff HW.out.sorted).1 Hup.out.1).1 Hup.out.2.1
          rw [((get_iff HW.out.sorted).1 Hup.out.1).2] at hr
          rw [e, hr]; exact Role.noConfusion))
        have e2 : w3.cell? ⟨A j, 2, none⟩ = some (.int .i64 n.links) := blk_cell hB3 2
        have e3 : w3.frozen? ⟨A j, 2, none⟩ = false := blk_free hB3 _ rfl
        have hlk := links_small HW.out Hg.out
        clear HT2d hmap hrun hm3 hmod3 ht3 hjk hs3 hg3 hB3 d4 d0
        go_wp2_with fail
        go_ret
        refine ⟨by rw [Hv.out]; rfl, ?_⟩
        rw [Hv.out]
        have hmod4 : Mod (· = A j) w3 (w3.setCell ⟨A j, 2, none⟩ (.int .i64 (n.links + 1))) := (Mod.refl (fun x => x = A j) w3).setCell (p := ⟨A j, 2, none⟩) (.inl rfl) _
        refine ⟨A, M, role, tree_upd (f := fun n => { n with links := n.links + 1 }) HT3.out HS3.out (fun _ => ⟨rfl, rfl, rfl⟩) HG3.out hmod4 (blk_set HB3.out 2 _), fun _ hb => .inl hb, HM3.out.trans hmod4 (fun i hi e => ?_)⟩
        have hr := HT0.out.rnode n ((get_iff HW.out.sorted).1 Hg.out).1
        rw [Hnum.out] at hr
        rw [e, hr]; exact Role.noConfusion
end
end
section
open Go.RowKit
section
variable {w : World} {p tb : Nat} {T : Tr} {A M : Int → Nat} {role : Nat → Role} {d : Int → Nat}
set_option maxRecDepth 100000 in
set_option maxHeartbeats 8000000 in
theorem writes_any (h : TreeAt w p T tb A M role) (hw : WF T d) (he : Env w) (c : Cmd) (hc : c.Small) (hp0 : 0 ≤ c.pos ∧ c.pos ≤ 16384) (hdl : c.data.length ≤ 512) (hcut : c.kind ≠ 2 → c.data = []) :
    Calls Tryz.prog 38 #[.pointer (some ⟨p, 0, none⟩), cmdV c] w fun e w' => e = .returned (.int .i64 (writesT T c).2) ∧ Turned w w' p tb role (writesT T c).1 := by
  have HC := Lib.hid hc
  have hk0 : Keep w (w.alloc (.cells (cmdC c) 38)) := (Mod.refl _ w).alloc _
  have HT := Lib.hid (h.keep hk0)
  have HW := Lib.hid hw
  have He := Lib.hid (he.keep hk0)
  have HT0 := Lib.hid h
  have HCB : RowKit.Hid (World.blk (w.alloc (.cells (cmdC c) 38)) w.heap.size (cmdC c) 38) := Lib.hid (blk_new _ _ _)
  have Hpos := Lib.hid hp0
  have Hdl := Lib.hid hdl
  have Hcut := Lib.hid hcut
  clear h hw he hc hk0 hp0 hdl hcut
  go_enter Tryz.func38, Tryz.ntmps38
  unfold cmdV cmdC
  go_wp2_with fail
  unfold cmdC at HT He HCB
  have HK0 : RowKit.Hid (Keep w (w.alloc (.cells #[.int .i64 c.kind, .string ⟨c.path.toArray⟩, .string ⟨c.dest.toArray⟩, .int .i64 c.pos, .string ⟨c.data.toArray⟩] 38))) := Lib.hid ((Mod.refl _ w).alloc _)
  generalize w.alloc (.cells #[.int .i64 c.kind, .string ⟨c.path.toArray⟩, .string ⟨c.dest.toArray⟩, .int .i64 c.pos, .string ⟨c.data.toArray⟩] 38) = w0 at *
  refine (at_any HT.out HW.out He.out c.path HC.out.path).mono ?_
  rintro e w1 ⟨rfl, hk⟩
  have HCB1 := Lib.hid (blk_mod hk HCB.out id)
  have HT1 := Lib.hid (HT.out.keep hk)
  have He1 := Lib.hid (He.out.keep hk)
  have HK1 := Lib.hid (HK0.out.keep hk)
  clear hk HCB HT He HK0
  cases ha : atT T c.path with
  | error e =>
    have hne : (e == 0) = false := by have := at_err ha; rw [beq_eq_false_iff_ne]; omega
    have Hv : RowKit.Hid (writesT T c = (T, e)) := Lib.hid (by rw [writesT, ha])
    clear ha
    unfold findV
    go_wp2_with fail
    go_ret
    exact ⟨by rw [Hv.out]; rfl, by rw [Hv.out]; exact Turned.same HT0.out HK1.out⟩
  | ok j =>
    obtain ⟨_, n, _, _, hg⟩ := at_ok HW.out ha
    have c1 : w1.cell? ⟨A j, 1, none⟩ = some (.bool n.dir) := HT1.out.cell HW.out.sorted hg 1
    have c3 : w1.cell? ⟨A j, 3, none⟩ = some (.string ⟨n.data.toArray⟩) := HT1.out.cell HW.out.sorted hg 3
    unfold findV
    cases hd : n.dir with
    | true =>
      rw [hd] at c1
      have Hv : RowKit.Hid (writesT T c = (T, 143)) := Lib.hid (by rw [writesT, ha]; simp [hg, hd])
      clear ha hg hd
      go_wp2_with fail
      go_ret
      exact ⟨by rw [Hv.out]; rfl, by rw [Hv.out]; exact Turned.same HT0.out HK1.out⟩
    | false =>
      rw [hd] at c1
      have Hv : RowKit.Hid (writesT T c = if (n.data.length : Int) < c.pos ∨ c.kind = 2 ∧ 16384 < c.pos + c.data.length then (T, 145) else (T.upd j fun n => { n with data := cutW c n.data }, 0)) := Lib.hid (by rw [writesT, ha]; simp [hg, hd])
      have hnl := (HW.out.file n ((get_iff HW.out.sorted).1 hg).1 hd).2
      have Hnl := Lib.hid hnl
      have Hg := Lib.hid hg
      have z0 : w1.cell? ⟨w.heap.size, 0, none⟩ = some (.int .i64 c.kind) := blk_cell HCB1.out 0
      have z3 : w1.cell? ⟨w.heap.size, 3, none⟩ = some (.int .i64 c.pos) := blk_cell HCB1.out 3
      have z4 : w1.cell? ⟨w.heap.size, 4, none⟩ = some (.string ⟨c.data.toArray⟩) := blk_cell HCB1.out 4
      obtain ⟨pos, hpos⟩ : ∃ pos : Nat, c.pos = pos := ⟨c.pos.toNat, by have := Hpos.out; omega⟩
      have HP := Lib.hid hpos
      rw [hpos] at z3
      have hpb : pos ≤ 16384 := by have := Hpos.out; omega
      have Hpb := Lib.hid hpb
      obtain ⟨kd, hkd⟩ : ∃ kd, c.kind = kd := ⟨_, rfl⟩
      rw [hkd] at z0
      have HKd := Lib.hid hkd
      obtain ⟨D, hD⟩ : ∃ D, c.data = D := ⟨_, rfl⟩
      rw [hD] at z4
      have HD := Lib.hid hD
      have hDl : D.length ≤ 512 := by rw [← hD]; exact Hdl.out
      have HDl := Lib.hid hDl
      clear ha hg hd hnl hpos hkd hD hpb hDl
      by_cases hb1 : (n.data.length : Int) < pos
      · have Hv2 : RowKit.Hid (writesT T c = (T, 145)) := Lib.hid (by rw [Hv.out, HP.out, if_pos (.inl hb1)])
        go_wp2_with fail
        refine wp_region_qe0 (by kernel_rfl) (by kernel_rfl) ?_
        repeat (go_big_quiet_step (fail))
        refine wpQuiet_nil ?_
        intro _ hw'
        obtain ⟨nq, rfl⟩ := hw'
        go_wp2_with fail
        go_ret
        exact ⟨by rw [Hv2.out]; rfl, by rw [Hv2.out]; exact Turned.same HT0.out (HK1.out.drewN nq)⟩
      · have hle : pos ≤ n.data.length := by omega
        have hd1 : decide (n.data.length < pos) = false := by rw [decide_eq_false_iff_not]; omega
        have hsum : IntKind.i64.wrap ((pos : Int) + (D.length : Int)) = (pos : Int) + (D.length : Int) := by rw [IntKind.wrap_i64]; have := Hpb.out; have := HDl.out; omega
        by_cases hk2 : kd = 2
        · have hq2 : (kd == 2) = true := beq_iff_eq.2 hk2
          by_cases hb2 : (16384 : Int) < (pos : Int) + (D.length : Int)
          · have Hv2 : RowKit.Hid (writesT T c = (T, 145)) := Lib.hid (by rw [Hv.out, HP.out, HKd.out, HD.out, if_pos (.inr ⟨hk2, hb2⟩)])
            have hd2 : decide ((16384 : Int) < (pos : Int) + (D.length : Int)) = true := by rw [decide_eq_true_iff]; exact hb2
            clear hk2 hle hb1 hb2
            go_wp2_with fail
            refine wp_region_qe0 (by kernel_rfl) (by kernel_rfl) ?_
            repeat (go_big_quiet_step (fail))
            refine wpQuiet_nil ?_
            intro _ hw'
            obtain ⟨nq, rfl⟩ := hw'
            go_wp2_with fail
            go_ret
            exact ⟨by rw [Hv2.out]; rfl, by rw [Hv2.out]; exact Turned.same HT0.out (HK1.out.drewN nq)⟩
          · have Hv2 : RowKit.Hid (writesT T c = (T.upd j fun n => { n with data := cutW c n.data }, 0)) := Lib.hid (by rw [Hv.out, HP.out, HKd.out, HD.out, if_neg (by rintro (h | ⟨_, h⟩); exact hb1 h; exact hb2 h)])
            have Hle := Lib.hid hle
            have hz1 : (pos : Int) ≤ n.data.length := by omega
            have hz0 : (0 : Int) ≤ pos := by omega
            have hcat : ¬ 9223372036854775807 < min pos n.data.length + D.length := by have := Hpb.out; have := HDl.out; omega
            have hd2 : decide ((16384 : Int) < (pos : Int) + (D.length : Int)) = false := by rw [decide_eq_false_iff_not]; exact hb2
            clear hle hb1 hb2 hk2
            go_wp2_with fail
            refine wp_region_qe0 (by kernel_rfl) (by kernel_rfl) ?_
            repeat (go_big_quiet_step (fail))
            refine wpQuiet_nil ?_
            intro _ hw'
            obtain ⟨nq, rfl⟩ := hw'
            go_wp2_with fail
            refine wp_region_qe (by kernel_rfl) (by kernel_rfl) ?_
            repeat (go_big_quiet_step (fail))
            refine wpQuiet_nil ?_
            intro _ hw'
            obtain ⟨nr, rfl⟩ := hw'
            have hsl : (n.data.take pos ++ D).length ≤ 16896 := by have := Hpb.out; have := HDl.out; rw [List.length_append, List.length_take]; omega
            obtain ⟨s, hs⟩ : ∃ s, n.data.take pos ++ D = s := ⟨_, rfl⟩
            rw [hs] at hsl
            rw [hs]
            have Hs := Lib.hid hs
            have Hsl := Lib.hid hsl
            have hf3 : w1.frozen? ⟨A j, 3, none⟩ = false := by
              have hB := HT1.out.node n ((get_iff HW.out.sorted).1 Hg.out).1
              rw [(node_num HW.out Hg.out).1] at hB
              exact blk_free hB _ rfl
            clear hs hsl hd1 hsum hz1 hz0 hcat hd2 c1 z3 z4
            by_cases hlt : s.length < n.data.length
            · have hX : RowKit.Hid (s ++ n.data.drop s.length = cutW c n.data) := Lib.hid (by
                unfold cutW
                rw [HP.out, Int.toNat_natCast, HD.out, Hs.out]
                simp only
                rw [if_pos ⟨HKd.out.trans (by simpa using hq2), hlt⟩])
              have hl1 : (s.length : Int) < n.data.length := by omega
              have hl2 : (s.length : Int) ≤ n.data.length := by omega
              have hl0 : (0 : Int) ≤ s.length := by omega
              have hcat : ¬ 9223372036854775807 < s.length + (n.data.length - s.length) := by have := Hnl.out; omega
              have hl3 : s.length ≤ n.data.length := by omega
              go_wp2_with fail
              go_ret
              refine ⟨by rw [Hv2.out]; rfl, ?_⟩
              rw [Hv2.out]
              have hnum := (node_num HW.out Hg.out).1
              have hB := (HT1.out.keep ((Mod.refl (fun _ => False) w1).drewN nr)).node n ((get_iff HW.out.sorted).1 Hg.out).1
              rw [hnum] at hB
              have hrA := HT0.out.rnode n ((get_iff HW.out.sorted).1 Hg.out).1
              rw [hnum] at hrA
              have hmod4 : Mod (· = A j) (w1.drewN nr) ((w1.drewN nr).setCell ⟨A j, 3, none⟩ (.string ⟨(cutW c n.data).toArray⟩)) := (Mod.refl (fun x => x = A j) _).setCell (p := ⟨A j, 3, none⟩) (.inl rfl) _
              have hX := hX.out
              rw [hX]
              exact ⟨A, M, role, tree_upd (f := fun n => { n with data := cutW c n.data }) (HT1.out.keep ((Mod.refl (fun _ => False) w1).drewN nr)) HW.out.sorted (fun _ => ⟨rfl, rfl, rfl⟩) Hg.out hmod4 (blk_set hB 3 _), fun _ hb => .inl hb, ((HK1.out.drewN nr).mono (fun _ _ h => h.elim)).trans hmod4 (fun i hi e => by rw [e, hrA]; exact Role.noConfusion)⟩
            · have hX : RowKit.Hid (s = cutW c n.data) := Lib.hid (by
                unfold cutW
                rw [HP.out, Int.toNat_natCast, HD.out, Hs.out]
                simp only
                rw [if_neg (fun h => hlt h.2)])
              have hl1 : ¬ (s.length : Int) < n.data.length := by omega
              clear hlt
              go_wp2_with fail
              go_ret
              refine ⟨by rw [Hv2.out]; rfl, ?_⟩
              rw [Hv2.out]
              have hnum := (node_num HW.out Hg.out).1
              have hB := (HT1.out.keep ((Mod.refl (fun _ => False) w1).drewN nr)).node n ((get_iff HW.out.sorted).1 Hg.out).1
              rw [hnum] at hB
              have hrA := HT0.out.rnode n ((get_iff HW.out.sorted).1 Hg.out).1
              rw [hnum] at hrA
              have hmod4 : Mod (· = A j) (w1.drewN nr) ((w1.drewN nr).setCell ⟨A j, 3, none⟩ (.string ⟨(cutW c n.data).toArray⟩)) := (Mod.refl (fun x => x = A j) _).setCell (p := ⟨A j, 3, none⟩) (.inl rfl) _
              have hX := hX.out
              rw [hX]
              exact ⟨A, M, role, tree_upd (f := fun n => { n with data := cutW c n.data }) (HT1.out.keep ((Mod.refl (fun _ => False) w1).drewN nr)) HW.out.sorted (fun _ => ⟨rfl, rfl, rfl⟩) Hg.out hmod4 (blk_set hB 3 _), fun _ hb => .inl hb, ((HK1.out.drewN nr).mono (fun _ _ h => h.elim)).trans hmod4 (fun i hi e => by rw [e, hrA]; exact Role.noConfusion)⟩
        · have hq2 : (kd == 2) = false := beq_false_of_ne hk2
          have Hv2 : RowKit.Hid (writesT T c = (T.upd j fun n => { n with data := cutW c n.data }, 0)) := Lib.hid (by rw [Hv.out, HP.out, HKd.out, HD.out, if_neg (by rintro (h | ⟨h, _⟩); exact hb1 h; exact hk2 h)])
          have Hle := Lib.hid hle
          have hz1 : (pos : Int) ≤ n.data.length := by omega
          have hz0 : (0 : Int) ≤ pos := by omega
          have hcat : ¬ 9223372036854775807 < min pos n.data.length + D.length := by have := Hpb.out; have := HDl.out; omega
          have Hk2 := Lib.hid hk2
          clear hle hb1 hk2
          go_wp2_with fail
          refine wp_region_qe0 (by kernel_rfl) (by kernel_rfl) ?_
          repeat (go_big_quiet_step (fail))
          refine wpQuiet_nil ?_
          intro _ hw'
          obtain ⟨nq, rfl⟩ := hw'
          go_wp2_with fail
          refine wp_region_qe (by kernel_rfl) (by kernel_rfl) ?_
          repeat (go_big_quiet_step (fail))
          refine wpQuiet_nil ?_
          intro _ hw'
          obtain ⟨nr, rfl⟩ := hw'
          have hX : RowKit.Hid (n.data.take pos ++ D = cutW c n.data) := Lib.hid (by
            unfold cutW
            rw [HP.out, Int.toNat_natCast, HD.out]
            simp only
            rw [if_neg (fun h => Hk2.out (HKd.out.symm.trans h.1))])
          have hf3 : w1.frozen? ⟨A j, 3, none⟩ = false := by
            have hB := HT1.out.node n ((get_iff HW.out.sorted).1 Hg.out).1
            rw [(node_num HW.out Hg.out).1] at hB
            exact blk_free hB _ rfl
          rw [hX.out]
          clear hd1 hsum hz1 hz0 hcat c1 z3 z4
          go_wp2_with fail
          go_ret
          refine ⟨by rw [Hv2.out]; rfl, ?_⟩
          rw [Hv2.out]
          have hnum := (node_num HW.out Hg.out).1
          have hB := (HT1.out.keep ((Mod.refl (fun _ => False) w1).drewN nr)).node n ((get_iff HW.out.sorted).1 Hg.out).1
          rw [hnum] at hB
          have hrA := HT0.out.rnode n ((get_iff HW.out.sorted).1 Hg.out).1
          rw [hnum] at hrA
          have hmod4 : Mod (· = A j) (w1.drewN nr) ((w1.drewN nr).setCell ⟨A j, 3, none⟩ (.string ⟨(cutW c n.data).toArray⟩)) := (Mod.refl (fun x => x = A j) _).setCell (p := ⟨A j, 3, none⟩) (.inl rfl) _
          exact ⟨A, M, role, tree_upd (f := fun n => { n with data := cutW c n.data }) (HT1.out.keep ((Mod.refl (fun _ => False) w1).drewN nr)) HW.out.sorted (fun _ => ⟨rfl, rfl, rfl⟩) Hg.out hmod4 (blk_set hB 3 _), fun _ hb => .inl hb, ((HK1.out.drewN nr).mono (fun _ _ h => h.elim)).trans hmod4 (fun i hi e => by rw [e, hrA]; exact Role.noConfusion)⟩
end
end
section
open Go.RowKit
section
variable {w : World} {p tb : Nat} {T : Tr} {A M : Int → Nat} {role : Nat → Role} {d : Int → Nat}
theorem fresh_free (h : WF T d) {f : Nat} {k : Int} (e : freshT T T.length 2 = freshT T f k) : f = 0 → T.get k = none := by
  intro h0
  subst h0
  have := h.fresh.1
  rw [e] at this; exact this
set_option maxRecDepth 100000 in
set_option maxHeartbeats 8000000 in
theorem makes_any (h : TreeAt w p T tb A M role) (hw : WF T d) (he : Env w) (c : Cmd) (hc : c.Small) (hk : c.kind = 0 ∨ c.kind = 1) :
    Calls Tryz.prog 37 #[.pointer (some ⟨p, 0, none⟩), cmdV c] w fun e w' => e = .returned (.int .i64 (makesT T c).2) ∧ Turned w w' p tb role (makesT T c).1 := by
  have HC := Lib.hid hc
  have hk0 : Keep w (w.alloc (.cells (cmdC c) 38)) := (Mod.refl _ w).alloc _
  have HT := Lib.hid (h.keep hk0)
  have HW := Lib.hid hw
  have He := Lib.hid (he.keep hk0)
  have HT0 := Lib.hid h
  have HCB : RowKit.Hid (World.blk (w.alloc (.cells (cmdC c) 38)) w.heap.size (cmdC c) 38) := Lib.hid (blk_new _ _ _)
  have HKd := Lib.hid hk
  clear h hw he hc hk0 hk
  go_enter Tryz.func37, Tryz.ntmps37
  unfold cmdV cmdC
  go_wp2_with fail
  unfold cmdC at HT He HCB
  have HK0 : RowKit.Hid (Keep w (w.alloc (.cells #[.int .i64 c.kind, .string ⟨c.path.toArray⟩, .string ⟨c.dest.toArray⟩, .int .i64 c.pos, .string ⟨c.data.toArray⟩] 38))) := Lib.hid ((Mod.refl _ w).alloc _)
  generalize w.alloc (.cells #[.int .i64 c.kind, .string ⟨c.path.toArray⟩, .string ⟨c.dest.toArray⟩, .int .i64 c.pos, .string ⟨c.data.toArray⟩] 38) = w0 at *
  refine (room_any HT.out HW.out He.out c.path HC.out.path).mono ?_
  rintro e w1 ⟨rfl, hk⟩
  have HCB1 := Lib.hid (blk_mod hk HCB.out id)
  have HT1 := Lib.hid (HT.out.keep hk)
  have HK1 := Lib.hid (HK0.out.keep hk)
  clear hk HCB HT He HK0
  cases hr : roomT T c.path with
  | error e =>
    have hne : (e == 0) = false := by have := room_err hr; rw [beq_eq_false_iff_ne]; omega
    have Hv : RowKit.Hid (makesT T c = (T, e)) := Lib.hid (by rw [makesT, hr])
    clear hr
    unfold roomV
    go_wp2_with fail
    go_ret
    exact ⟨by rw [Hv.out]; rfl, by rw [Hv.out]; exact Turned.same HT0.out HK1.out⟩
  | ok x =>
    obtain ⟨k, s⟩ := x
    obtain ⟨q, up, hp, hp7, hok, hf, hgk, hdk, hn, h60, hdd⟩ := room_ok HW.out hr
    have hsl : s.length ≤ 16 := by
      simp only [nameOk, Bool.and_eq_true, decide_eq_true_eq] at hok
      exact hok.1.1.2
    have Hup := Lib.hid (And.intro hgk (And.intro hdk (And.intro hn h60)))
    have c0 : w1.cell? ⟨p, 0, none⟩ = some (.map (some tb)) := blk_cell HT1.out.tree 0
    have hlen := fun ty => MapO.len (tm := 62) HT1.out.of Tryz.underlying62 ty
    have hla : (addrs T A).length = T.length := by simp [addrs]
    rw [hla] at hlen
    have Hr := Lib.hid hr
    clear hr hp hp7 hok hf hgk hdk hn h60 hdd hla
    unfold roomV
    by_cases hb : 60 ≤ T.length
    · have Hv : RowKit.Hid (makesT T c = (T, 145)) := Lib.hid (by rw [makesT, Hr.out]; simp only [hb, if_true])
      have hb2 : (60 : Int) ≤ T.length := by omega
      clear hb
      go_wp2_with fail
      go_ret
      exact ⟨by rw [Hv.out]; rfl, by rw [Hv.out]; exact Turned.same HT0.out HK1.out⟩
    · have Hv : RowKit.Hid (makesT T c = ((Tr.add ⟨freshT T T.length 2, c.kind == 1, 1, [], []⟩ T).named k (putN s (freshT T T.length 2)), 0)) := Lib.hid (by rw [makesT, Hr.out]; simp only [hb, if_false])
      have hb2 : ¬ (60 : Int) ≤ T.length := by omega
      have Hb := Lib.hid hb
      clear hb
      go_wp2_with fail
      go_loop [8] (fun i => ∃ (f : Nat) (k : Int), f ≤ T.length ∧ i = .int .i64 k ∧ k = 2 + (T.length : Int) - f ∧ RowKit.Hid (freshT T T.length 2 = freshT T f k)) (fun i => (2 + (T.length : Int) - intOf i).toNat)
      case atStart => exact ⟨T.length, 2, Nat.le_refl _, rfl, by omega, Lib.hid rfl⟩
      case round =>
        obtain ⟨f, i, hf, rfl, hi, Hfr⟩ := hrel
        have hib : 0 ≤ i ∧ i ≤ 100 := by have := Hb.out; omega
        have Hi := Lib.hid hi
        clear hi
        have r1 := MapO.look1 (tm := 62) HT1.out.of Tryz.underlying62 Tryz.underlying3 (zero_node w1) i (by omega)
        rw [addrs_get] at r1
        cases hg : T.get i with
        | some n =>
          rw [hg] at r1
          simp only [Option.map_some] at r1
          have hf1 : 1 ≤ f := by
            rcases Nat.eq_zero_or_pos f with h0 | h0
            · have := fresh_free HW.out Hfr.out h0
              rw [hg] at this; cases this
            · exact h0
          have Hfr2 : RowKit.Hid (freshT T T.length 2 = freshT T (f - 1) (i + 1)) := Lib.hid (by
            rw [Hfr.out]
            obtain ⟨g, rfl⟩ : ∃ g, f = g + 1 := ⟨f - 1, by omega⟩
            show (if (T.get i).isSome = true then freshT T g (i + 1) else i) = _
            rw [hg]; rfl)
          clear hg
          go_wp2_with fail
          go_round
          case rel => exact ⟨f - 1, i + 1, by omega, rfl, by have := Hi.out; omega, Hfr2⟩
          case measure => have := Hi.out; simp [intOf]; omega
        | none =>
          rw [hg] at r1
          simp only [Option.map_none] at r1
          have Hnum : RowKit.Hid (freshT T T.length 2 = i) := Lib.hid (by
            rw [Hfr.out]
            cases f with
            | zero => rfl
            | succ g =>
              show (if (T.get i).isSome = true then freshT T g (i + 1) else i) = _
              rw [hg]; rfl)
          have Hgi := Lib.hid hg
          have z0 : w1.cell? ⟨w.heap.size, 0, none⟩ = some (.int .i64 c.kind) := blk_cell HCB1.out 0
          have hlt0 : w.heap.size < w1.heap.size := blk_lt HCB1.out
          have hltp : p < w1.heap.size := blk_lt HT1.out.tree
          have hmm := @run_makeMap Tryz.prog
          clear hg hf Hi Hfr hlen
          rcases HKd.out with hk0 | hk1
          · have Hv2 : RowKit.Hid (makesT T c = ((Tr.add ⟨i, false, 1, [], []⟩ T).named k (putN s i), 0)) := Lib.hid (by
              rw [Hv.out, Hnum.out, hk0]; rfl)
            rw [hk0] at z0
            have hki : k ≠ i := fun e => by have := Hup.out.1; rw [e, Hgi.out] at this; cases this
            have Hki := Lib.hid hki
            have tok1 : True := trivial
            clear hki hk0
            go_wp2_with (first
              | (at_mapUpdate
                 have _t := tok1
                 refine wpList_store_O (HT1.out.of.mod ((Mod.refl (fun _ => False) w1).alloc _) id) Tryz.underlying62 Tryz.underlying3 i (by omega) w1.heap.size (by have := Hb.out; simp [addrs]; omega) rfl rfl rfl rfl rfl ?_
                 intro w2 hm2 hmod2
                 have hnt : w1.heap.size ≠ tb := fun e => by have := HT1.out.of.lt; omega
                 have hmodB : Mod (· = tb) w1 w2 := ((Mod.refl (fun x => x = tb) w1).alloc _).trans hmod2 (fun _ _ h => h)
                 have hnode : World.blk w2 w1.heap.size (cellsN ⟨i, false, 1, [], []⟩ (w1.heap.size + 1)) 70 := blk_mod hmod2 (blk_new _ _ _) hnt
                 have ht2 := tree_add (n0 := ⟨i, false, 1, [], []⟩) (a := w1.heap.size) (m := w1.heap.size + 1) HT1.out (get_none.1 Hgi.out) hmodB (Nat.le_refl _) (by omega) (by omega) (blk_lt hnode) (fun h => by cases h) hm2 hnode (fun h => by cases h)
                 have hs2 : Sorted (Tr.add ⟨i, false, 1, [], []⟩ T) := add_sorted HW.out.sorted (get_none.1 Hgi.out)
                 have hg2 : (Tr.add ⟨i, false, 1, [], []⟩ T).get k = some up := by rw [get_add HW.out.sorted (get_none.1 Hgi.out), if_neg Hki.out]; exact Hup.out.1
                 have e4 : w2.cell? ⟨A k, 4, none⟩ = some (.map (some (M k))) := by
                   have h := ht2.cell hs2 hg2 4
                   simp only [if_neg Hki.out] at h
                   rw [h]
                   show some (Value.map (if up.dir = true then some (M k) else none)) = _
                   rw [if_pos Hup.out.2.1]
                 have hmapN := ht2.names up ((get_iff hs2).1 hg2).1 Hup.out.2.1
                 have hupn : up.num = k := ((get_iff hs2).1 hg2).2
                 rw [hupn] at hmapN
                 simp only [if_neg Hki.out] at hmapN
                 have HMN := Lib.hid hmapN
                 have HT2 := Lib.hid ht2
                 have HS2 := Lib.hid hs2
                 have HG2 := Lib.hid hg2
                 have HM2 : RowKit.Hid (Mod (fun b => role b ≠ .none) w w2) := Lib.hid ((HK1.out.mono (fun _ _ h => h.elim)).trans hmodB (fun j hj e => by rw [e, HT0.out.rof]; exact Role.noConfusion))
                 clear tok1 hm2 hmod2 hnt hmodB hnode ht2 hs2 hg2 hmapN hupn)
              | (at_mapUpdate
                 refine wpList_store_N HMN.out Tryz.underlying68 Tryz.underlying9 Tryz.underlying3 s (by omega) i (by omega) (by have := Hup.out.2.2.2; omega) rfl rfl rfl rfl rfl ?_
                 intro w3 hm3 hmod3
                 have hm3' := hm3
                 have ht3 := tree_named (f := putN s i) HT2.out HS2.out HG2.out Hup.out.2.1 (by simp only [if_neg Hki.out]; exact hmod3) (by simp only [if_neg Hki.out]; exact hm3)
                 have HT3 := Lib.hid ht3
                 have HM3 : RowKit.Hid (Mod (fun b => role b ≠ .none) w w3) := Lib.hid (HM2.out.trans hmod3 (fun j hj e => by
                   have hr := HT0.out.rnames up ((get_iff HW.out.sorted).1 Hup.out.1).1 Hup.out.2.1
                   rw [((get_iff HW.out.sorted).1 Hup.out.1).2] at hr
                   rw [e, hr]; exact Role.noConfusion))
                 clear hm3 hm3' hmod3 ht3 e4))
            go_ret
            refine ⟨by rw [Hv2.out]; rfl, ?_⟩
            rw [Hv2.out]
            refine ⟨_, _, _, HT3.out, fun b hb => ?_, HM3.out⟩
            have hsz := HK1.out.size
            by_cases e1 : b = w1.heap.size
            · exact .inr (by omega)
            · by_cases e2 : b = w1.heap.size + 1
              · exact .inr (by omega)
              · left
                rw [if_neg e1, if_neg (fun h => e2 h.1)] at hb
                exact hb
          · have Hv2 : RowKit.Hid (makesT T c = ((Tr.add ⟨i, true, 1, [], []⟩ T).named k (putN s i), 0)) := Lib.hid (by
              rw [Hv.out, Hnum.out, hk1]; rfl)
            rw [hk1] at z0
            have hki : k ≠ i := fun e => by have := Hup.out.1; rw [e, Hgi.out] at this; cases this
            have Hki := Lib.hid hki
            have tok1 : True := trivial
            clear hki hk1
            go_wp2_with (first
              | (at_mapUpdate
                 have _t := tok1
                 refine wpList_store_O (HT1.out.of.mod (((Mod.refl (fun _ => False) w1).alloc _).alloc _) id) Tryz.underlying62 Tryz.underlying3 i (by omega) w1.heap.size (by have := Hb.out; simp [addrs]; omega) rfl rfl rfl rfl rfl ?_
                 intro w2 hm2 hmod2
                 have hnt : w1.heap.size ≠ tb := fun e => by have := HT1.out.of.lt; omega
                 have hmodB : Mod (· = tb) w1 w2 := (((Mod.refl (fun x => x = tb) w1).alloc _).alloc _).trans hmod2 (fun _ _ h => h)
                 have hnode : World.blk w2 w1.heap.size (cellsN ⟨i, true, 1, [], []⟩ (w1.heap.size + 1)) 70 := blk_mod hmod2 (blk_alloc (blk_new _ _ _) _) hnt
                 have ht2 := tree_add (n0 := ⟨i, true, 1, [], []⟩) (a := w1.heap.size) (m := w1.heap.size + 1) HT1.out (get_none.1 Hgi.out) hmodB (Nat.le_refl _) (by omega) (by omega) (blk_lt hnode) (fun _ => by have := hmod2.size; simp at this; omega) hm2 hnode (fun _ => (MapN.made' (by simp) ()).mod hmod2 (fun e => by have := HT1.out.of.lt; omega))
                 have hs2 : Sorted (Tr.add ⟨i, true, 1, [], []⟩ T) := add_sorted HW.out.sorted (get_none.1 Hgi.out)
                 have hg2 : (Tr.add ⟨i, true, 1, [], []⟩ T).get k = some up := by rw [get_add HW.out.sorted (get_none.1 Hgi.out), if_neg Hki.out]; exact Hup.out.1
                 have e4 : w2.cell? ⟨A k, 4, none⟩ = some (.map (some (M k))) := by
                   have h := ht2.cell hs2 hg2 4
                   simp only [if_neg Hki.out] at h
                   rw [h]
                   show some (Value.map (if up.dir = true then some (M k) else none)) = _
                   rw [if_pos Hup.out.2.1]
                 have hmapN := ht2.names up ((get_iff hs2).1 hg2).1 Hup.out.2.1
                 have hupn : up.num = k := ((get_iff hs2).1 hg2).2
                 rw [hupn] at hmapN
                 simp only [if_neg Hki.out] at hmapN
                 have HMN := Lib.hid hmapN
                 have HT2 := Lib.hid ht2
                 have HS2 := Lib.hid hs2
                 have HG2 := Lib.hid hg2
                 have HM2 : RowKit.Hid (Mod (fun b => role b ≠ .none) w w2) := Lib.hid ((HK1.out.mono (fun _ _ h => h.elim)).trans hmodB (fun j hj e => by rw [e, HT0.out.rof]; exact Role.noConfusion))
                 clear tok1 hm2 hmod2 hnt hmodB hnode ht2 hs2 hg2 hmapN hupn)
              | (at_mapUpdate
                 refine wpList_store_N HMN.out Tryz.underlying68 Tryz.underlying9 Tryz.underlying3 s (by omega) i (by omega) (by have := Hup.out.2.2.2; omega) rfl rfl rfl rfl rfl ?_
                 intro w3 hm3 hmod3
                 have hm3' := hm3
                 have ht3 := tree_named (f := putN s i) HT2.out HS2.out HG2.out Hup.out.2.1 (by simp only [if_neg Hki.out]; exact hmod3) (by simp only [if_neg Hki.out]; exact hm3)
                 have HT3 := Lib.hid ht3
                 have HM3 : RowKit.Hid (Mod (fun b => role b ≠ .none) w w3) := Lib.hid (HM2.out.trans hmod3 (fun j hj e => by
                   have hr := HT0.out.rnames up ((get_iff HW.out.sorted).1 Hup.out.1).1 Hup.out.2.1
                   rw [((get_iff HW.out.sorted).1 Hup.out.1).2] at hr
                   rw [e, hr]; exact Role.noConfusion))
                 clear hm3 hm3' hmod3 ht3 e4))
            go_ret
            refine ⟨by rw [Hv2.out]; rfl, ?_⟩
            rw [Hv2.out]
            refine ⟨_, _, _, HT3.out, fun b hb => ?_, HM3.out⟩
            have hsz := HK1.out.size
            by_cases e1 : b = w1.heap.size
            · exact .inr (by omega)
            · by_cases e2 : b = w1.heap.size + 1
              · exact .inr (by omega)
              · left
                rw [if_neg e1, if_neg (fun h => e2 h.1)] at hb
                exact hb
end
end
section
open Go.RowKit
section
variable {w : World} {p tb : Nat} {T : Tr} {A M : Int → Nat} {role : Nat → Role} {d : Int → Nat}
set_option maxRecDepth 100000 in
set_option maxHeartbeats 2000000 in
theorem parent_any (h : TreeAt w p T tb A M role) (hw : WF T d) (he : Env w) (path : List UInt8) (hp : path.length < 4294967281) {q : List (List UInt8)} {s : List UInt8} {o : Int} (hpo : pathOf path = some (q ++ [s])) (hf : findT T 1 q = .ok o) :
    Calls Tryz.prog 75 #[.pointer (some ⟨p, 0, none⟩), .string ⟨path.toArray⟩] w fun e w' => e = .returned (.tuple #[.pointer (some ⟨A o, 0, none⟩), .string ⟨s.toArray⟩]) ∧ Keep w w' := by
  have HT := Lib.hid h
  have HW := Lib.hid hw
  have He := Lib.hid he
  have Hp := Lib.hid hp
  have Hf := Lib.hid hf
  have Hpo := Lib.hid hpo
  clear h hw he hp hf hpo
  go_enter Tryz.func75, Tryz.ntmps75
  go_wp2_with fail
  refine (path_any path w He.out Hp.out).mono ?_
  rintro e w1 ⟨v, rfl, ho, hk⟩
  have hL : pathNames path = q ++ [s] := by rw [pathNames, Hpo.out]; rfl
  rw [hL] at ho
  have HR := Lib.hid (row_strs ho)
  have HT1 := Lib.hid (HT.out.keep hk)
  have HK := Lib.hid hk
  obtain ⟨a, cap, hv⟩ := row_shape HR.out
  rw [srow_len] at hv
  have hcap : (q ++ [s]).length ≤ cap := by rw [hv] at ho; exact own_cap ho
  obtain ⟨N, hN⟩ : ∃ N, q.length = N := ⟨_, rfl⟩
  have hv2 : v = .slice a (N + 1) cap := by rw [hv]; simp [hN]
  subst hv2
  obtain ⟨hR0, b, o', rfl, c0⟩ := row_init HR.out hN
  have HR0 := Lib.hid hR0
  have hcp : N + 1 ≤ cap := by simp [hN] at hcap; omega
  have Hl := Lib.hid (names_small Hpo.out)
  have Hq : RowKit.Hid (q.length = N) := Lib.hid hN
  have hN8 : N ≤ 7 := by have := Hl.out.1; simp at this; omega
  obtain ⟨pe, hpe⟩ : ∃ pe, pathErr path = pe := ⟨_, rfl⟩
  rw [hpe]
  clear hpe hL hv hR0 hN HR hcap ho hk
  go_wp2_with fail
  refine (find_any HT1.out HW.out _ q HR0.out (by have := Hq.out; omega) (fun x hx => by have := Hl.out.2 x (by simp [hx]); omega)).mono ?_
  rintro e w2 ⟨rfl, hk2⟩
  have c1 : w2.cell? ⟨b, o' + N, none⟩ = some (.string ⟨s.toArray⟩) := by rw [hk2.cell (p := ⟨b, o' + N, none⟩) (lt_of_cell c0) id]; exact c0
  have HK2 := Lib.hid (HK.out.keep hk2)
  clear hk2 c0
  rw [Hf.out]
  unfold findV
  go_wp2_with fail
  have q1 : IntKind.i64.wrap (N : Int) = (N : Int) := by rw [IntKind.wrap_i64]; omega
  have q2 : (0 : Int) ≤ N := by omega
  have q3 : (N : Int) < (N : Int) + 1 := by omega
  refine wp_region_qe0 (by kernel_rfl) (by kernel_rfl) ?_
  repeat (quiet_step (fail))
  refine wpQuiet_nil ?_
  intro _ hw'
  obtain ⟨nq, rfl⟩ := hw'
  go_wp2_with fail
  go_ret2
  exact ⟨rfl, HK2.out.drewN _⟩
theorem drop_upd {T : Tr} {j : Int} {f : Nd → Nd} (hf : ∀ n, (f n).num = n.num) : (T.upd j f).drop j = T.drop j := by
  unfold Tr.upd Tr.drop
  induction T with
  | nil => rfl
  | cons y r ih =>
    rw [List.map_cons, List.filter_cons, List.filter_cons, ih]
    have e : (if (y.num == j) = true then f y else y).num = y.num := by
      split
      · exact hf y
      · rfl
    rw [e]
    by_cases h : y.num = j
    · rw [beq_iff_eq.2 h]; rfl
    · rw [beq_false_of_ne h]; rfl
set_option maxRecDepth 100000 in
set_option maxHeartbeats 4000000 in
theorem removes_any (h : TreeAt w p T tb A M role) (hw : WF T d) (he : Env w) (c : Cmd) (hc : c.Small) :
    Calls Tryz.prog 41 #[.pointer (some ⟨p, 0, none⟩), cmdV c] w fun e w' => e = .returned (.int .i64 (removesT T c).2) ∧ Turned w w' p tb role (removesT T c).1 := by
  have HC := Lib.hid hc
  have hk0 : Keep w (w.alloc (.cells (cmdC c) 38)) := (Mod.refl _ w).alloc _
  have HT := Lib.hid (h.keep hk0)
  have HW := Lib.hid hw
  have He := Lib.hid (he.keep hk0)
  have HT0 := Lib.hid h
  have HCB : RowKit.Hid (World.blk (w.alloc (.cells (cmdC c) 38)) w.heap.size (cmdC c) 38) := Lib.hid (blk_new _ _ _)
  clear h hw he hc hk0
  by_cases hroot : c.path = [47]
  · have hq : (c.path == [47]) = true := beq_iff_eq.2 hroot
    have Hv : RowKit.Hid (removesT T c = (T, 144)) := Lib.hid (by rw [removesT, if_pos hroot])
    clear hroot HT He HCB
    go_enter Tryz.func41, Tryz.ntmps41
    unfold cmdV cmdC
    go_wp2_with fail
    go_ret
    exact ⟨by rw [Hv.out]; rfl, by rw [Hv.out]; exact Turned.same HT0.out ((Mod.refl _ w).alloc _)⟩
  · have hq : (c.path == [47]) = false := beq_false_of_ne hroot
    have Hroot := Lib.hid hroot
    clear hroot
    go_enter Tryz.func41, Tryz.ntmps41
    unfold cmdV cmdC
    go_wp2_with fail
    unfold cmdC at HT He HCB
    have HK0 : RowKit.Hid (Keep w (w.alloc (.cells #[.int .i64 c.kind, .string ⟨c.path.toArray⟩, .string ⟨c.dest.toArray⟩, .int .i64 c.pos, .string ⟨c.data.toArray⟩] 38))) := Lib.hid ((Mod.refl _ w).alloc _)
    generalize w.alloc (.cells #[.int .i64 c.kind, .string ⟨c.path.toArray⟩, .string ⟨c.dest.toArray⟩, .int .i64 c.pos, .string ⟨c.data.toArray⟩] 38) = w0 at *
    refine (at_any HT.out HW.out He.out c.path HC.out.path).mono ?_
    rintro e w1 ⟨rfl, hk⟩
    have HCB1 := Lib.hid (blk_mod hk HCB.out id)
    have HT1 := Lib.hid (HT.out.keep hk)
    have He1 := Lib.hid (He.out.keep hk)
    have HK1 := Lib.hid (HK0.out.keep hk)
    clear hk HCB HT He HK0
    cases ha : atT T c.path with
    | error e =>
      have hne : (e == 0) = false := by have := at_err ha; rw [beq_eq_false_iff_ne]; omega
      have Hv : RowKit.Hid (removesT T c = (T, e)) := Lib.hid (by rw [removesT, if_neg Hroot.out, ha])
      clear ha
      unfold findV
      go_wp2_with fail
      go_ret
      exact ⟨by rw [Hv.out]; rfl, by rw [Hv.out]; exact Turned.same HT0.out HK1.out⟩
    | ok j =>
      obtain ⟨_, n, _, _, hg⟩ := at_ok HW.out ha
      obtain ⟨q, s, o, up, hpo, hfj, hfo, hgo, hdo, hs⟩ := last_ok HW.out ha Hroot.out
      have c4 : w1.cell? ⟨A j, 4, none⟩ = some (.map (if n.dir = true then some (M j) else none)) := HT1.out.cell HW.out.sorted hg 4
      obtain ⟨hnum, hnb⟩ := node_num HW.out hg
      have hm := ((get_iff HW.out.sorted).1 hg).1
      have hlen : ∀ ty, (Builtin.len_ #[68] ty #[.map (if n.dir = true then some (M j) else none)]).run Tryz.prog w1 = .ok (.int .i64 (n.names.length : Int)) w1 := fun ty => by
        by_cases hd : n.dir = true
        · rw [if_pos hd]
          have hmap := HT1.out.names n hm hd
          rw [hnum] at hmap
          exact MapN.len hmap Tryz.underlying68 ty
        · rw [if_neg hd]
          have : n.names = [] := (HW.out.file n hm (by simpa using hd)).1
          rw [this]
          exact Maps.len_nil Tryz.underlying68 ty
      have Hnum := Lib.hid hnum
      have Hg := Lib.hid hg
      have Hup := Lib.hid (And.intro hgo (And.intro hdo hs))
      have Hpo := Lib.hid hpo
      have Hfo := Lib.hid hfo
      have hsl : s.length ≤ 16 := by
        have := (names_small hpo).2 s (by simp)
        exact this
      have h60 := (HW.out.names n hm).1
      generalize hmp : (Value.map (if n.dir = true then some (M j) else none)) = mp at *
      clear hmp
      have z1 : w1.cell? ⟨w.heap.size, 1, none⟩ = some (.string ⟨c.path.toArray⟩) := blk_cell HCB1.out 1
      unfold findV
      by_cases hnm : n.names = []
      · have hl0 : n.names.length = 0 := by rw [hnm]; rfl
        rw [hl0] at hlen
        have Hnm := Lib.hid hnm
        have Hv : RowKit.Hid (removesT T c = (if n.links = 1 then (T.named o (delN s)).drop j else (T.named o (delN s)).upd j fun n => { n with links := n.links - 1 }, 0)) := Lib.hid (by
          rw [removesT, if_neg Hroot.out, ha]
          simp [hg, hnm, hpo, hfo])
        clear ha hg hfj hpo hfo hgo hdo hs hnum hm hnm h60 hl0
        go_wp2_with fail
        refine (parent_any HT1.out HW.out He1.out c.path HC.out.path Hpo.out Hfo.out).mono ?_
        rintro e w2 ⟨rfl, hk⟩
        have HT2 := Lib.hid (HT1.out.keep hk)
        have HK2 := Lib.hid (HK1.out.keep hk)
        clear hk c4 z1 hlen
        obtain ⟨hom, hon⟩ := (get_iff HW.out.sorted).1 Hup.out.1
        have d4 : w2.cell? ⟨A o, 4, none⟩ = some (.map (if up.dir = true then some (M o) else none)) := HT2.out.cell HW.out.sorted Hup.out.1 4
        rw [if_pos Hup.out.2.1] at d4
        have hmap := HT2.out.names up hom Hup.out.2.1
        rw [hon] at hmap
        have hjo : j ≠ o := fun e => by
          have h1 := Hg.out
          rw [e, Hup.out.1] at h1
          have h2 := Option.some.inj h1
          have h3 := Hup.out.2.2
          rw [h2, Hnm.out] at h3; cases h3
        have Hjo := Lib.hid hjo
        have Hon := Lib.hid (And.intro hom hon)
        have Hmap := Lib.hid hmap
        have Hlk := Lib.hid (links_small HW.out Hg.out)
        clear hjo hom hon hmap
        by_cases hl1 : n.links = 1
        · have Hl1 := Lib.hid hl1
          clear hl1
          go_wp2_with (
            (at_delete
             refine wpList_delete_N Hmap.out Tryz.underlying68 Tryz.underlying9 s (by omega) rfl rfl rfl rfl ?_
             intro w3 hm3 hmod3
             have ht3 := tree_named (f := delN s) HT2.out HW.out.sorted Hup.out.1 Hup.out.2.1 hmod3 hm3
             have hs3 : Sorted (T.named o (delN s)) := upd_sorted (fun _ => rfl) HW.out.sorted
             have hg3 : (T.named o (delN s)).get j = some n := by rw [get_named, if_neg Hjo.out]; exact Hg.out
             have hB3 := ht3.node n ((get_iff hs3).1 hg3).1
             rw [Hnum.out] at hB3
             have HB3 := Lib.hid hB3
             have HT3 := Lib.hid ht3
             have HS3 := Lib.hid hs3
             have HG3 := Lib.hid hg3
             have HM3 : RowKit.Hid (Mod (fun b => role b ≠ .none) w w3) := Lib.hid ((HK2.out.mono (fun _ _ h => h.elim)).trans hmod3 (fun i hi e => by
               have hr := HT0.out.rnames up Hon.out.1 Hup.out.2.1
               rw [Hon.out.2] at hr
               rw [e, hr]; exact Role.noConfusion))
             have e2 : w3.cell? ⟨A j, 2, none⟩ = some (.int .i64 1) := by rw [← Hl1.out]; exact blk_cell hB3 2
             have e3 : w3.frozen? ⟨A j, 2, none⟩ = false := blk_free hB3 _ rfl
             clear hm3 hmod3 ht3 hs3 hg3 hB3 d4))
          have hmod4 : Mod (· = A j) w3 (w3.setCell ⟨A j, 2, none⟩ (.int .i64 0)) := (Mod.refl (fun x => x = A j) w3).setCell (p := ⟨A j, 2, none⟩) (.inl rfl) _
          have hB4 := blk_set HB3.out 2 (.int .i64 0)
          have ht4 := tree_upd (f := fun n => { n with links := 0 }) HT3.out HS3.out (fun _ => ⟨rfl, rfl, rfl⟩) HG3.out hmod4 hB4
          have hrA := HT0.out.rnode n ((get_iff HW.out.sorted).1 Hg.out).1
          rw [Hnum.out] at hrA
          have HM4 := Lib.hid (HM3.out.trans hmod4 (fun i hi e => by rw [e, hrA]; exact Role.noConfusion))
          generalize w3.setCell ⟨A j, 2, none⟩ (.int .i64 0) = w4 at *
          have f0 : w4.cell? ⟨p, 0, none⟩ = some (.map (some tb)) := blk_cell ht4.tree 0
          have f1 : w4.cell? ⟨A j, 0, none⟩ = some (.int .i64 j) := by rw [← Hnum.out]; rw [← Hnum.out] at hB4; exact blk_cell hB4 0
          have HT4 := Lib.hid ht4
          clear ht4 hB4 hmod4 hrA e2 e3
          refine wp_region_qd0 8 (by kernel_rfl) (by kernel_rfl) ?_
          simp only [List.take_succ_cons, List.take_zero, List.drop_succ_cons, List.drop_zero]
          repeat (quiet_step (fail))
          refine wpQuiet_nil ?_
          intro _ hw'
          obtain ⟨nq, rfl⟩ := hw'
          have HT4d := HT4.out.keep ((Mod.refl (fun _ => False) w4).drewN nq)
          refine wpList_delete_O HT4d.of Tryz.underlying62 Tryz.underlying3 j hnb rfl rfl rfl rfl ?_
          intro w5 hm5 hmod5
          have ht5 := tree_drop HT4d hmod5 hm5
          rw [drop_upd (f := fun n => { n with links := 0 }) (fun _ => rfl)] at ht5
          have HT5 := Lib.hid ht5
          have HM5 := Lib.hid ((HM4.out.drewN nq).trans hmod5 (fun i hi e => by rw [e, HT0.out.rof]; exact Role.noConfusion))
          clear ht5 hm5 hmod5 HT4d f0 f1
          go_wp2_with fail
          go_ret
          refine ⟨by rw [Hv.out]; rfl, ?_⟩
          rw [Hv.out, if_pos Hl1.out]
          exact ⟨A, M, role, HT5.out, fun _ hb => .inl hb, HM5.out⟩
        · have Hl1 := Lib.hid hl1
          have hq3 : (n.links - 1 == 0) = false := by rw [beq_eq_false_iff_ne]; omega
          have hlk := Hlk.out
          clear hl1
          go_wp2_with (
            (at_delete
             refine wpList_delete_N Hmap.out Tryz.underlying68 Tryz.underlying9 s (by omega) rfl rfl rfl rfl ?_
             intro w3 hm3 hmod3
             have ht3 := tree_named (f := delN s) HT2.out HW.out.sorted Hup.out.1 Hup.out.2.1 hmod3 hm3
             have hs3 : Sorted (T.named o (delN s)) := upd_sorted (fun _ => rfl) HW.out.sorted
             have hg3 : (T.named o (delN s)).get j = some n := by rw [get_named, if_neg Hjo.out]; exact Hg.out
             have hB3 := ht3.node n ((get_iff hs3).1 hg3).1
             rw [Hnum.out] at hB3
             have HB3 := Lib.hid hB3
             have HT3 := Lib.hid ht3
             have HS3 := Lib.hid hs3
             have HG3 := Lib.hid hg3
             have HM3 : RowKit.Hid (Mod (fun b => role b ≠ .none) w w3) := Lib.hid ((HK2.out.mono (fun _ _ h => h.elim)).trans hmod3 (fun i hi e => by
               have hr := HT0.out.rnames up Hon.out.1 Hup.out.2.1
               rw [Hon.out.2] at hr
               rw [e, hr]; exact Role.noConfusion))
             have e2 : w3.cell? ⟨A j, 2, none⟩ = some (.int .i64 n.links) := blk_cell hB3 2
             have e3 : w3.frozen? ⟨A j, 2, none⟩ = false := blk_free hB3 _ rfl
             clear hm3 hmod3 ht3 hs3 hg3 hB3 d4))
          go_ret
          refine ⟨by rw [Hv.out]; rfl, ?_⟩
          rw [Hv.out, if_neg Hl1.out]
          have hmod4 : Mod (· = A j) w3 (w3.setCell ⟨A j, 2, none⟩ (.int .i64 (n.links - 1))) := (Mod.refl (fun x => x = A j) w3).setCell (p := ⟨A j, 2, none⟩) (.inl rfl) _
          have hrA := HT0.out.rnode n ((get_iff HW.out.sorted).1 Hg.out).1
          rw [Hnum.out] at hrA
          exact ⟨A, M, role, tree_upd (f := fun n => { n with links := n.links - 1 }) HT3.out HS3.out (fun _ => ⟨rfl, rfl, rfl⟩) HG3.out hmod4 (blk_set HB3.out 2 _), fun _ hb => .inl hb, HM3.out.trans hmod4 (fun i hi e => by rw [e, hrA]; exact Role.noConfusion)⟩
      · have hl0 : ¬ ((n.names.length : Int) = 0) := by
          intro e
          exact hnm (List.length_eq_zero_iff.1 (by omega))
        have hl1 : (0 : Int) < n.names.length := by omega
        have Hv : RowKit.Hid (removesT T c = (T, 144)) := Lib.hid (by rw [removesT, if_neg Hroot.out, ha]; simp [hg, hnm])
        clear ha hg hfj hpo hfo hgo hdo hs hnum hm hnm
        go_wp2_with fail
        go_ret
        exact ⟨by rw [Hv.out]; rfl, by rw [Hv.out]; exact Turned.same HT0.out HK1.out⟩
end
end
section
open Go.RowKit Go.Maps
theorem fold_is {α : Type} (g : α → Nat) : ∀ (l : List α) (m0 m : Nat), m0 ≤ m → (∀ q ∈ l, g q ≤ m) → (m = m0 ∨ ∃ q ∈ l, m = g q) → l.foldl (fun m p => max m (g p)) m0 = m := by
  intro l
  induction l with
  | nil =>
    intro m0 m h0 _ h2
    rcases h2 with rfl | ⟨q, hq, _⟩
    · rfl
    · cases hq
  | cons x r ih =>
    intro m0 m h0 h1 h2
    rw [List.foldl_cons]
    refine ih (max m0 (g x)) m (by have := h1 x (by simp); omega) (fun q hq => h1 q (by simp [hq])) ?_
    rcases h2 with rfl | ⟨q, hq, e⟩
    · left; have := h1 x (by simp); omega
    · rcases List.mem_cons.1 hq with rfl | hq
      · left; omega
      · right; exact ⟨q, hq, e⟩
theorem fold_one {T : Tr} {f : Nat} (l : Nm) (m : Nat) : l.foldl (fun m p => max m (1 + deepT T f p.2)) m = l.foldl (fun m p => max m ((fun p : List UInt8 × Int => 1 + deepT T f p.2) p)) m := rfl
theorem deep_le {T : Tr} : ∀ (f : Nat) (k : Int), deepT T f k ≤ f := by
  intro f
  induction f with
  | zero => intro k; exact Nat.le_refl _
  | succ f ih =>
    intro k
    have key : ∀ (l : Nm) (m : Nat), m ≤ f + 1 → l.foldl (fun m p => max m (1 + deepT T f p.2)) m ≤ f + 1 := by
      intro l
      induction l with
      | nil => intro m h; exact h
      | cons q r ih2 =>
        intro m h
        rw [List.foldl_cons]
        exact ih2 _ (by have := ih q.2; omega)
    show (match T.get k with | none => 0 | some n => _) ≤ _
    split
    · omega
    · exact key _ 0 (by omega)
theorem elem_of {l : Nm} {x : List UInt8} {c : Int} {yd : DataW Value} {yp : List MemPlace} {te : TypeId} (he : Tryz.prog.underlying te = some (.int .i64)) (hv : plainElem Tryz.prog te (.int .i64 c) = some (yd, yp)) (hat : ∀ zd, (toN l).atKey (.string x) zd = yd) : getG x l = some c := by
  obtain ⟨a, ea, ey, _⟩ := plainElem_int_inv he hv
  have ea2 : c = a := by injection ea
  subst ea2
  have ey2 : yd = litI c := congrArg Prod.fst ey
  have h1 := (at_toG (ef := litI) str_same x l (litI 0)).symm.trans (hat (litI 0))
  have h2 := (at_toG (ef := litI) str_same x l (litI 1)).symm.trans (hat (litI 1))
  rw [ey2] at h1 h2
  cases hg : getG x l with
  | none =>
    rw [hg] at h1 h2
    have e1 := lit_inj (a := 0) (b := c) h1
    have e2 := lit_inj (a := 1) (b := c) h2
    omega
  | some b =>
    rw [hg] at h1
    exact congrArg some (lit_inj h1)
section
variable {w : World} {p tb : Nat} {T : Tr} {A M : Int → Nat} {role : Nat → Role} {d : Int → Nat}
set_option maxRecDepth 100000 in
set_option maxHeartbeats 4000000 in
theorem deep_any (hw : WF T d) : ∀ (f : Nat) (k : Int) (n : Nd) (w : World), TreeAt w p T tb A M role → T.get k = some n → 1 ≤ f → f ≤ 100 → (n.dir = true → 9 ≤ d k + f) →
    Calls Tryz.prog 74 #[.pointer (some ⟨p, 0, none⟩), .pointer (some ⟨A k, 0, none⟩)] w fun e w' => e = .returned (.int .i64 (deepT T f k : Int)) ∧ Keep w w' := by
  have HW := Lib.hid hw
  clear hw
  intro f
  induction f with
  | zero => intro k n w _ _ h1 _ _; omega
  | succ f ih =>
    intro k n w h hg h1 h100 hd9
    have HT := Lib.hid h
    have Hg := Lib.hid hg
    have IH := Lib.hid ih
    have c4 : w.cell? ⟨A k, 4, none⟩ = some (.map (if n.dir = true then some (M k) else none)) := h.cell HW.out.sorted hg 4
    obtain ⟨hm, hk⟩ := (get_iff HW.out.sorted).1 hg
    have hdv : deepT T (f + 1) k = n.names.foldl (fun m p => max m (1 + deepT T f p.2)) 0 := by
      show (match T.get k with | none => 0 | some n => _) = _
      rw [hg]
    have Hm := Lib.hid (And.intro hm hk)
    have Hdv := Lib.hid hdv
    have H9 := Lib.hid hd9
    clear h hg ih h1 hm hk hdv hd9
    cases hd : n.dir with
    | false =>
      rw [hd] at c4
      have hnm := (HW.out.file n Hm.out.1 hd).1
      have Hv : RowKit.Hid (deepT T (f + 1) k = 0) := Lib.hid (by rw [Hdv.out, hnm]; rfl)
      clear hnm
      have hr1 := run_range_nilMap (P := Tryz.prog) w _ _ _ Tryz.underlying68
      have hr2 := fun ty => run_next_nilMap (P := Tryz.prog) w ty 0 0 #[]
      go_enter Tryz.func74, Tryz.ntmps74
      go_wp2_with fail
      refine wp_loop_rounds 1 ?_
      rw [rounds_succ]
      go_wp2_with fail
      go_ret
      exact ⟨by rw [Hv.out]; rfl, (Mod.refl _ w).alloc _⟩
    | true =>
      rw [hd, if_pos rfl] at c4
      have hmap := HT.out.names n Hm.out.1 hd
      rw [Hm.out.2] at hmap
      have Hmap := Lib.hid hmap
      have Hd := Lib.hid hd
      clear hmap hd
      go_enter Tryz.func74, Tryz.ntmps74
      go_wp2_with (at_range; refine wpList_range_own _ rfl _ 68 rfl 9 3 (string_keyed Tryz.underlying9) Tryz.underlying68 _ (M k) n.names.length (toN n.names) rfl Hmap.out ?_; intro w0 hrg0 hg0 hs0)
      go_frame
      have Hrg0 := Lib.hid hrg0
      have HK0 := Lib.hid (keep_grown hg0)
      clear hrg0 hg0 hs0 c4
      go_loopw [5] (fun v wr => ∃ (left : Lit → Bool) (cnt m : Nat), World.ranges wr Tryz.prog 9 (plainElem Tryz.prog 3) (M k) w.heap.size n.names.length (toN n.names) left cnt ∧ v = .int .i64 (m : Int) ∧ Keep w wr ∧ RowKit.Hid (m ≤ 101 ∧ (∀ q ∈ n.names, left (.string q.1) = false → 1 + deepT T f q.2 ≤ m) ∧ (m = 0 ∨ ∃ q ∈ n.names, m = 1 + deepT T f q.2))) (fun _ wr => wr.rangeLeft (M k) w.heap.size)
      case atStart =>
        refine ⟨_, _, 0, Hrg0.out, rfl, HK0.out, Lib.hid ⟨by omega, fun q hq hl => ?_, .inl rfl⟩⟩
        rw [has_toG str_same, (getG_iff (HW.out.snames n Hm.out.1)).2 hq] at hl
        cases hl
      case round =>
        clear Hrg0 HK0
        obtain ⟨left, cnt, m, hrg, rfl, hK, Hq⟩ := hrel
        have Hrg := Lib.hid hrg
        have HK := Lib.hid hK
        clear hrg hK
        go_wp2_with (at_next; refine wpList_next_ranges wr rfl _ rfl 9 (string_keyed Tryz.underlying9) (plainElem Tryz.prog 3) (fun x : List UInt8 => .string ⟨x.toArray⟩) (Value.int .i64) (fun key kl h => by obtain ⟨x, hx, _⟩ := Maps.keyOf_str Tryz.underlying9 h; exact ⟨x, hx⟩) (fun v y h => by obtain ⟨a, ha, _⟩ := plainElem_int_inv Tryz.underlying3 h; exact ⟨a, ha⟩) (M k) w.heap.size _ (toN n.names) left cnt rfl Hrg.out ?_ ?_)
        · intro _ hl0
          have Hv : RowKit.Hid (deepT T (f + 1) k = m) := Lib.hid (by
            rw [Hdv.out]
            exact fold_is _ _ 0 m (Nat.zero_le _) (fun q hq => Hq.out.2.1 q hq (hl0 _)) Hq.out.2.2)
          clear hl0
          go_wp2_with fail
          go_ret
          exact ⟨by rw [Hv.out]; rfl, HK.out⟩
        · intro x c kl yd yp w' cnt' hkey hlk hv hat hrg1 hlt hg1 hs1 hen
          obtain ⟨x', ex, rfl, _⟩ := Maps.keyOf_str Tryz.underlying9 hkey
          have ex2 : x' = x := by simpa [Go.Proofs.encStr] using ex.symm
          subst ex2
          have hgx := elem_of Tryz.underlying3 hv hat
          have Hin := Lib.hid ((getG_iff (HW.out.snames n Hm.out.1)).1 hgx)
          obtain ⟨_, nc, hnc, hcn⟩ := HW.out.closed n Hm.out.1 _ Hin.out
          have Hgc := Lib.hid ((get_iff HW.out.sorted).2 ⟨hnc, hcn⟩)
          have HK' : RowKit.Hid (Keep w w') := Lib.hid (HK.out.grown hg1 (fun i e => .inr (by injection e with e; omega)))
          have HT' := Lib.hid (HT.out.keep HK'.out)
          have d0 : w'.cell? ⟨p, 0, none⟩ = some (.map (some tb)) := blk_cell HT'.out.tree 0
          have hcb := (node_num HW.out Hgc.out).2
          have r1 := HT'.out.look1 HW.out.sorted Hgc.out hcb
          have h7 := HW.out.deep n Hm.out.1 (List.ne_nil_of_mem Hin.out)
          rw [Hm.out.2] at h7
          have h9 := H9.out Hd.out
          have Hfu : RowKit.Hid (1 ≤ f ∧ f ≤ 100 ∧ (nc.dir = true → 9 ≤ d c + f)) := Lib.hid ⟨by omega, by omega, fun hcd => by
            have := HW.out.depth n Hm.out.1 _ Hin.out nc hnc hcn hcd
            rw [Hm.out.2] at this
            simp only at this
            omega⟩
          have Hrg1 := Lib.hid hrg1
          have Hlt := Lib.hid (show cnt' < cnt from hlt)
          have Hleft := Lib.hid (Hrg.out.left_eq)
          clear hkey hlk hv hat hrg1 hlt hg1 hs1 ex hgx hnc hcn h7 h9 hcb
          go_wp2_with fail
          refine (IH.out c nc w' HT'.out Hgc.out Hfu.out.1 Hfu.out.2.1 Hfu.out.2.2).mono ?_
          rintro e w2 ⟨rfl, hk2⟩
          have HK2 := Lib.hid (HK'.out.keep hk2)
          have Hrg2 := Lib.hid (Hrg1.out.kept (grown_keep hk2) (by simp) (by simp))
          obtain ⟨dv, hdv⟩ : ∃ dv, deepT T f c = dv := ⟨_, rfl⟩
          have Hdl := deep_le (T := T) f c
          rw [hdv] at Hdl
          rw [hdv]
          have hm1 := Hq.out.1
          have hfb := Hfu.out.2.1
          have hmax : max (m : Int) (1 + (dv : Int)) = ((max m (1 + dv) : Nat) : Int) := by omega
          have Hq2 : RowKit.Hid (max m (1 + dv) ≤ 101 ∧ (∀ q ∈ n.names, (left (.string q.1) && !(Lit.string q.1).sameKey (.string x')) = false → 1 + deepT T f q.2 ≤ max m (1 + dv)) ∧ (max m (1 + dv) = 0 ∨ ∃ q ∈ n.names, max m (1 + dv) = 1 + deepT T f q.2)) := Lib.hid (by
            refine ⟨by omega, fun q hq hl => ?_, ?_⟩
            · cases hlq : left (.string q.1) with
              | false => have := Hq.out.2.1 q hq hlq; omega
              | true =>
                rw [hlq] at hl
                have e : q.1 = x' := by simpa [Lit.sameKey] using hl
                have e2 := name_inj (HW.out.snames n Hm.out.1) hq Hin.out e
                rw [e2]
                show 1 + deepT T f c ≤ _
                rw [hdv]; omega
            · by_cases hge : m ≤ 1 + dv
              · exact .inr ⟨_, Hin.out, by show _ = 1 + deepT T f c; rw [hdv]; omega⟩
              · rcases Hq.out.2.2 with h0 | ⟨q, hq, e⟩
                · omega
                · exact .inr ⟨q, hq, by omega⟩)
          clear hk2 hdv hen d0 r1
          go_wp2_with fail
          refine ⟨⟨_, cnt', max m (1 + dv), Hrg2.out, rfl, HK2.out, Hq2⟩, ?_⟩
          rw [Hrg2.out.left_eq, Hleft.out]
          exact Hlt.out
end
end
section
open Go.RowKit Go.Maps
theorem hasPrefix_any (s p : List UInt8) (w : World) :
    Calls Tryz.prog 72 #[.string ⟨s.toArray⟩, .string ⟨p.toArray⟩] w fun e w' => e = .returned (.bool (Lib.hasPrefix s p)) ∧ w' = w :=
  Tryz.strings_HasPrefix ⟨s.toArray⟩ ⟨p.toArray⟩ w
section
variable {w : World} {p tb : Nat} {T : Tr} {A M : Int → Nat} {role : Nat → Role} {d : Int → Nat}
set_option maxRecDepth 100000 in
set_option maxHeartbeats 8000000 in
theorem renames_any (h : TreeAt w p T tb A M role) (hw : WF T d) (he : Env w) (c : Cmd) (hc : c.Small) :
    Calls Tryz.prog 40 #[.pointer (some ⟨p, 0, none⟩), cmdV c] w fun e w' => e = .returned (.int .i64 (renamesT T c).2) ∧ Turned w w' p tb role (renamesT T c).1 := by
  have HC := Lib.hid hc
  have hk0 : Keep w (w.alloc (.cells (cmdC c) 38)) := (Mod.refl _ w).alloc _
  have HT := Lib.hid (h.keep hk0)
  have HW := Lib.hid hw
  have He := Lib.hid (he.keep hk0)
  have HT0 := Lib.hid h
  have HCB : RowKit.Hid (World.blk (w.alloc (.cells (cmdC c) 38)) w.heap.size (cmdC c) 38) := Lib.hid (blk_new _ _ _)
  clear h hw he hc hk0
  by_cases hroot : c.path = [47]
  · have hq : (c.path == [47]) = true := beq_iff_eq.2 hroot
    have Hv : RowKit.Hid (renamesT T c = (T, 144)) := Lib.hid (by rw [renamesT, if_pos hroot])
    clear hroot HT He HCB
    go_enter Tryz.func40, Tryz.ntmps40
    unfold cmdV cmdC
    go_wp2_with fail
    go_ret
    exact ⟨by rw [Hv.out]; rfl, by rw [Hv.out]; exact Turned.same HT0.out ((Mod.refl _ w).alloc _)⟩
  · have hq : (c.path == [47]) = false := beq_false_of_ne hroot
    have Hroot := Lib.hid hroot
    clear hroot
    go_enter Tryz.func40, Tryz.ntmps40
    unfold cmdV cmdC
    go_wp2_with fail
    unfold cmdC at HT He HCB
    have HK0 : RowKit.Hid (Keep w (w.alloc (.cells #[.int .i64 c.kind, .string ⟨c.path.toArray⟩, .string ⟨c.dest.toArray⟩, .int .i64 c.pos, .string ⟨c.data.toArray⟩] 38))) := Lib.hid ((Mod.refl _ w).alloc _)
    generalize w.alloc (.cells #[.int .i64 c.kind, .string ⟨c.path.toArray⟩, .string ⟨c.dest.toArray⟩, .int .i64 c.pos, .string ⟨c.data.toArray⟩] 38) = w0 at *
    refine (at_any HT.out HW.out He.out c.path HC.out.path).mono ?_
    rintro e w1 ⟨rfl, hk⟩
    have HCB1 := Lib.hid (blk_mod hk HCB.out id)
    have HT1 := Lib.hid (HT.out.keep hk)
    have He1 := Lib.hid (He.out.keep hk)
    have HK1 := Lib.hid (HK0.out.keep hk)
    clear hk HCB HT He HK0
    cases ha : atT T c.path with
    | error e =>
      have hne : (e == 0) = false := by have := at_err ha; rw [beq_eq_false_iff_ne]; omega
      have Hv : RowKit.Hid (renamesT T c = (T, e)) := Lib.hid (by rw [renamesT, if_neg Hroot.out, ha])
      clear ha
      unfold findV
      go_wp2_with fail
      go_ret
      exact ⟨by rw [Hv.out]; rfl, by rw [Hv.out]; exact Turned.same HT0.out HK1.out⟩
    | ok j =>
      obtain ⟨_, n, _, _, hg⟩ := at_ok HW.out ha
      obtain ⟨q, s, o, up, hpo, hfj, hfo, hgo, hdo, hs⟩ := last_ok HW.out ha Hroot.out
      obtain ⟨hnum, hnb⟩ := node_num HW.out hg
      have Hnum := Lib.hid hnum
      have Hg := Lib.hid hg
      have Hup := Lib.hid (And.intro hgo (And.intro hdo hs))
      have Hpo := Lib.hid hpo
      have Hfo := Lib.hid hfo
      have Ha := Lib.hid ha
      have Hsl := Lib.hid ((names_small hpo).2 s (by simp))
      clear ha hg hpo hfj hfo hgo hdo hs hnum
      have z1 : w1.cell? ⟨w.heap.size, 1, none⟩ = some (.string ⟨c.path.toArray⟩) := blk_cell HCB1.out 1
      have z2 : w1.cell? ⟨w.heap.size, 2, none⟩ = some (.string ⟨c.dest.toArray⟩) := blk_cell HCB1.out 2
      have hpl : ¬ 9223372036854775807 < c.path.length + 1 := by have := HC.out.path; omega
      unfold findV
      go_wp2_with fail
      refine (hasPrefix_any c.dest (c.path ++ [47]) w1).mono ?_
      rintro e w' ⟨rfl, rfl⟩
      cases hpx : Lib.hasPrefix c.dest (c.path ++ [47]) with
      | true =>
        have Hv : RowKit.Hid (renamesT T c = (T, 144)) := Lib.hid (by rw [renamesT, if_neg Hroot.out, Ha.out]; simp only [hpx, if_true])
        clear hpx
        go_wp2_with fail
        go_ret
        exact ⟨by rw [Hv.out]; rfl, by rw [Hv.out]; exact Turned.same HT0.out HK1.out⟩
      | false =>
        have Hpx := Lib.hid hpx
        clear hpx
        go_wp2_with fail
        refine (room_any HT1.out HW.out He1.out c.dest HC.out.dest).mono ?_
        rintro e w2 ⟨rfl, hk⟩
        have HT2 := Lib.hid (HT1.out.keep hk)
        have HK2 := Lib.hid (HK1.out.keep hk)
        have He2 := Lib.hid (He1.out.keep hk)
        have HCB2 := Lib.hid (blk_mod hk HCB1.out id)
        clear hk z1 z2 HCB1 HT1 He1 HK1
        cases hr : roomT T c.dest with
        | error e =>
          have hne : (e == 0) = false := by have := room_err hr; rw [beq_eq_false_iff_ne]; omega
          have Hv : RowKit.Hid (renamesT T c = (T, e)) := Lib.hid (by rw [renamesT, if_neg Hroot.out, Ha.out]; simp only [Hpx.out, hr]; rfl)
          clear hr
          unfold roomV
          go_wp2_with fail
          go_ret
          exact ⟨by rw [Hv.out]; rfl, by rw [Hv.out]; exact Turned.same HT0.out HK2.out⟩
        | ok x =>
          obtain ⟨k, s2⟩ := x
          obtain ⟨q2, up2, hp2, hp7, hok, hf2, hgk, hdk, hn2, h60, hdd⟩ := room_ok HW.out hr
          have Hv0 : RowKit.Hid (renamesT T c = if 8 < (q2 ++ [s2]).length + deepT T 9 j then (T, 145) else ((T.named o (delN s)).named k (putN s2 j), 0)) := Lib.hid (by
            rw [renamesT, if_neg Hroot.out, Ha.out]
            simp only [Hpx.out, hr, hp2, Option.getD_some, Hpo.out, List.dropLast_concat, List.getLastD_concat, Hfo.out]
            rfl)
          have hsl2 : s2.length ≤ 16 := by
            simp only [nameOk, Bool.and_eq_true, decide_eq_true_eq] at hok
            exact hok.1.1.2
          have Hp2 := Lib.hid hp2
          have Hup2 := Lib.hid (And.intro hgk (And.intro hdk (And.intro hn2 h60)))
          have z1 : w2.cell? ⟨w.heap.size, 1, none⟩ = some (.string ⟨c.path.toArray⟩) := blk_cell HCB2.out 1
          have z2 : w2.cell? ⟨w.heap.size, 2, none⟩ = some (.string ⟨c.dest.toArray⟩) := blk_cell HCB2.out 2
          clear hr hp2 hok hf2 hgk hdk hn2 h60 hdd
          unfold roomV
          go_wp2_with fail
          refine (path_any c.dest w2 He2.out HC.out.dest).mono ?_
          rintro e w3 ⟨v3, rfl, ho3, hk3⟩
          have hL : pathNames c.dest = q2 ++ [s2] := by rw [pathNames, Hp2.out]; rfl
          rw [hL] at ho3
          obtain ⟨a3, cap3, hv3⟩ := row_shape (row_strs ho3)
          rw [srow_len] at hv3
          obtain ⟨L2, hL2⟩ : ∃ L2, (q2 ++ [s2]).length = L2 := ⟨_, rfl⟩
          rw [hL2] at hv3
          subst hv3
          have HL2 := Lib.hid hL2
          have hLb : L2 ≤ 8 := by rw [← hL2]; simp; omega
          obtain ⟨pe, hpe⟩ : ∃ pe, pathErr c.dest = pe := ⟨_, rfl⟩
          rw [hpe]
          have HT3 := Lib.hid (HT2.out.keep hk3)
          have HK3 := Lib.hid (HK2.out.keep hk3)
          have He3 := Lib.hid (He2.out.keep hk3)
          have HCB3 := Lib.hid (blk_mod hk3 HCB2.out id)
          clear hL hpe ho3 hk3 z1 z2 HT2 HK2 He2 HCB2 hL2
          go_wp2_with fail
          refine (deep_any HW.out 9 j n w3 HT3.out Hg.out (by omega) (by omega) (fun _ => by omega)).mono ?_
          rintro e w4 ⟨rfl, hk4⟩
          have HT4 := Lib.hid (HT3.out.keep hk4)
          have HK4 := Lib.hid (HK3.out.keep hk4)
          have He4 := Lib.hid (He3.out.keep hk4)
          have HCB4 := Lib.hid (blk_mod hk4 HCB3.out id)
          have hdl := deep_le (T := T) 9 j
          obtain ⟨dv, hdv⟩ : ∃ dv, deepT T 9 j = dv := ⟨_, rfl⟩
          rw [hdv] at hdl Hv0
          rw [hdv]
          clear hk4 HT3 HK3 He3 HCB3 hdv
          have z1 : w4.cell? ⟨w.heap.size, 1, none⟩ = some (.string ⟨c.path.toArray⟩) := blk_cell HCB4.out 1
          by_cases h8 : 8 < L2 + dv
          · have Hv : RowKit.Hid (renamesT T c = (T, 145)) := Lib.hid (by rw [Hv0.out, HL2.out, if_pos h8])
            have h8' : (8 : Int) < (L2 : Int) + (dv : Int) := by omega
            clear h8
            go_wp2_with fail
            go_ret
            exact ⟨by rw [Hv.out]; rfl, by rw [Hv.out]; exact Turned.same HT0.out HK4.out⟩
          · have Hv : RowKit.Hid (renamesT T c = ((T.named o (delN s)).named k (putN s2 j), 0)) := Lib.hid (by rw [Hv0.out, HL2.out, if_neg h8])
            have h8' : ¬ (8 : Int) < (L2 : Int) + (dv : Int) := by omega
            clear h8
            go_wp2_with fail
            refine (parent_any HT4.out HW.out He4.out c.path HC.out.path Hpo.out Hfo.out).mono ?_
            rintro e w5 ⟨rfl, hk⟩
            have HT5 := Lib.hid (HT4.out.keep hk)
            have HK5 := Lib.hid (HK4.out.keep hk)
            clear hk z1 HT4 HK4 He4 HCB4
            have Hon := Lib.hid ((get_iff HW.out.sorted).1 Hup.out.1)
            have d4 : w5.cell? ⟨A o, 4, none⟩ = some (.map (if up.dir = true then some (M o) else none)) := HT5.out.cell HW.out.sorted Hup.out.1 4
            rw [if_pos Hup.out.2.1] at d4
            have hmap := HT5.out.names up Hon.out.1 Hup.out.2.1
            rw [Hon.out.2] at hmap
            have Hmap := Lib.hid hmap
            have hs6 : Sorted (T.named o (delN s)) := upd_sorted (fun _ => rfl) HW.out.sorted
            have HS6 := Lib.hid hs6
            -- the other directory, behind the strike
            obtain ⟨up3, hg3, hd3, hn3, hl3⟩ : ∃ up3, (T.named o (delN s)).get k = some up3 ∧ up3.dir = true ∧ getN s2 up3.names = none ∧ up3.names.length < 60 := by
              rw [get_named]
              by_cases e : k = o
              · rw [if_pos e, Hup2.out.1]
                refine ⟨_, rfl, Hup2.out.2.1, ?_, Nat.lt_of_le_of_lt (delG_len _ _) Hup2.out.2.2.2⟩
                rw [getG_none]
                intro x hx
                exact getG_none.1 Hup2.out.2.2.1 x (delG_mem.1 hx).1
              · rw [if_neg e]; exact ⟨up2, Hup2.out.1, Hup2.out.2.1, Hup2.out.2.2.1, Hup2.out.2.2.2⟩
            obtain ⟨n3, hgj3, hnn3⟩ : ∃ n3, (T.named o (delN s)).get j = some n3 ∧ n3.num = j := by
              rw [get_named]
              by_cases e : j = o
              · rw [if_pos e, Hg.out]; exact ⟨_, rfl, Hnum.out⟩
              · rw [if_neg e]; exact ⟨n, Hg.out, Hnum.out⟩
            have Hup3 := Lib.hid (And.intro hg3 (And.intro hd3 (And.intro hn3 hl3)))
            have Hn3 := Lib.hid (And.intro hgj3 hnn3)
            clear hmap hs6 hg3 hd3 hn3 hl3 hgj3 hnn3
            have hsl := Hsl.out
            go_wp2_with (
              (at_delete
               refine wpList_delete_N Hmap.out Tryz.underlying68 Tryz.underlying9 s (by omega) rfl rfl rfl rfl ?_
               intro w6 hm6 hmod6
               have ht6 := tree_named (f := delN s) HT5.out HW.out.sorted Hup.out.1 Hup.out.2.1 hmod6 hm6
               have HT6 := Lib.hid ht6
               have HM6 : RowKit.Hid (Mod (fun b => role b ≠ .none) w w6) := Lib.hid ((HK5.out.mono (fun _ _ h => h.elim)).trans hmod6 (fun i hi e => by
                 have hr := HT0.out.rnames up Hon.out.1 Hup.out.2.1
                 rw [Hon.out.2] at hr
                 rw [e, hr]; exact Role.noConfusion))
               have e4 : w6.cell? ⟨A k, 4, none⟩ = some (.map (if up3.dir = true then some (M k) else none)) := ht6.cell HS6.out Hup3.out.1 4
               rw [if_pos Hup3.out.2.1] at e4
               have e0 : w6.cell? ⟨A j, 0, none⟩ = some (.int .i64 n3.num) := ht6.cell HS6.out Hn3.out.1 0
               rw [Hn3.out.2] at e0
               clear hm6 hmod6 ht6 d4))
            refine wp_region_qd0 9 (by kernel_rfl) (by kernel_rfl) ?_
            simp only [List.take_succ_cons, List.take_zero, List.drop_succ_cons, List.drop_zero]
            repeat (quiet_step (fail))
            refine wpQuiet_nil ?_
            intro _ hw'
            obtain ⟨nq, rfl⟩ := hw'
            have HT6d := HT6.out.keep ((Mod.refl (fun _ => False) w6).drewN nq)
            have hmk := (get_iff HS6.out).1 Hup3.out.1
            have hmap3 := HT6d.names up3 hmk.1 Hup3.out.2.1
            rw [hmk.2] at hmap3
            have hr3 := HT6.out.rnames up3 hmk.1 Hup3.out.2.1
            rw [hmk.2] at hr3
            refine wpList_store_N hmap3 Tryz.underlying68 Tryz.underlying9 Tryz.underlying3 s2 (by omega) j hnb (by have := Hup3.out.2.2.2; omega) rfl rfl rfl rfl rfl ?_
            intro w7 hm7 hmod7
            have ht7 := tree_named (f := putN s2 j) HT6d HS6.out Hup3.out.1 Hup3.out.2.1 hmod7 hm7
            have HT7 := Lib.hid ht7
            have HM7 := Lib.hid ((HM6.out.drewN nq).trans hmod7 (fun i hi e => by rw [e, hr3]; exact Role.noConfusion))
            clear ht7 hm7 hmod7 HT6d hmk hmap3 hr3 e4 e0
            go_wp2_with fail
            go_ret
            refine ⟨by rw [Hv.out]; rfl, ?_⟩
            rw [Hv.out]
            exact ⟨A, M, role, HT7.out, fun _ hb => .inl hb, HM7.out⟩
end
end
section
open Go.RowKit
set_option maxRecDepth 100000 in
set_option maxHeartbeats 1000000 in
theorem new_any (w : World) : Calls Tryz.prog 16 #[] w fun e w' => ∃ p tb A M role, e = .returned (.pointer (some ⟨p, 0, none⟩)) ∧ TreeAt w' p Tr.new tb A M role ∧ (∀ b, role b ≠ .none → w.heap.size ≤ b) ∧ Keep w w' := by
  have hmm := @run_makeMap Tryz.prog
  have hk3 : Keep (w.alloc (.map #[] 0)) (((w.alloc (.map #[] 0)).alloc (.map #[] 0)).alloc (.cells #[.int .i64 1, .bool true, .int .i64 1, .string ⟨#[]⟩, .map (some (w.heap.size + 1))] 70)) := ((Mod.refl _ _).alloc _).alloc _
  have hmap : MapP (((w.alloc (.map #[] 0)).alloc (.map #[] 0)).alloc (.cells #[.int .i64 1, .bool true, .int .i64 1, .string ⟨#[]⟩, .map (some (w.heap.size + 1))] 70)) w.heap.size [] := (MapO.made w).mod hk3 id
  have hnm : MapS (((w.alloc (.map #[] 0)).alloc (.map #[] 0)).alloc (.cells #[.int .i64 1, .bool true, .int .i64 1, .string ⟨#[]⟩, .map (some (w.heap.size + 1))] 70)) (w.heap.size + 1) [] := (MapN.made' (by simp) ()).mod ((Mod.refl (fun _ => False) _).alloc _) id
  have hnode : World.blk (((w.alloc (.map #[] 0)).alloc (.map #[] 0)).alloc (.cells #[.int .i64 1, .bool true, .int .i64 1, .string ⟨#[]⟩, .map (some (w.heap.size + 1))] 70)) (w.heap.size + 1 + 1) #[.int .i64 1, .bool true, .int .i64 1, .string ⟨#[]⟩, .map (some (w.heap.size + 1))] 70 := blk_new_at (by simp) _ _
  obtain ⟨w4, hrun, hm4, hmod4⟩ := MapO.store hmap Tryz.underlying62 Tryz.underlying3 1 (by decide) (w.heap.size + 1 + 1) (by decide)
  have hsz := hmod4.size
  have HN4 := Lib.hid (hnm.mod hmod4 (by omega))
  have HD4 := Lib.hid (blk_mod hmod4 hnode (by omega))
  have HM4 := Lib.hid hm4
  have HK4 : RowKit.Hid (Keep w w4) := Lib.hid (((((Mod.refl (fun _ => False) w).alloc _).alloc _).alloc _).new hmod4 (Nat.le_refl _))
  simp at hsz
  clear hk3 hmap hnm hnode hm4 hmod4
  go_enter Tryz.func16, Tryz.ntmps16
  go_wp2_with fail
  go_ret
  obtain ⟨N, hN⟩ : ∃ N, w.heap.size = N := ⟨_, rfl⟩
  rw [hN] at HN4 HD4 HM4 hsz
  rw [hN]
  refine ⟨w4.heap.size, N, fun _ => N + 2, fun _ => N + 1, fun b => if b = w4.heap.size then .tree else if b = N then .of else if b = N + 2 then .node 1 else if b = N + 1 then .names 1 else .none, rfl, ⟨blk_new _ _ _, if_pos rfl, HM4.out.mod ((Mod.refl (fun _ => False) w4).alloc _) id, ?_, ?_, ?_, ?_, ?_, ?_⟩, ?_, HK4.out.alloc _⟩
  · rw [if_neg (by omega), if_pos rfl]
  · intro n hn
    rw [Tr.new, List.mem_singleton] at hn
    subst hn
    exact blk_alloc HD4.out _
  · intro n hn
    rw [Tr.new, List.mem_singleton] at hn
    subst hn
    show (if N + 2 = w4.heap.size then _ else _) = _
    rw [if_neg (by omega), if_neg (by omega), if_pos rfl]
  · intro n hn _
    rw [Tr.new, List.mem_singleton] at hn
    subst hn
    exact HN4.out.mod ((Mod.refl (fun _ => False) w4).alloc _) id
  · intro n hn _
    rw [Tr.new, List.mem_singleton] at hn
    subst hn
    show (if N + 1 = w4.heap.size then _ else _) = _
    rw [if_neg (by omega), if_neg (by omega), if_neg (by omega), if_pos rfl]
  · intro b hb
    simp only [World.alloc, Array.size_push]
    by_cases h1 : b = w4.heap.size
    · omega
    · by_cases h2 : b = N
      · omega
      · by_cases h3 : b = N + 2
        · omega
        · by_cases h4 : b = N + 1
          · omega
          · rw [if_neg h1, if_neg h2, if_neg h3, if_neg h4] at hb
            exact absurd rfl hb
  · intro b hb
    by_cases h1 : b = w4.heap.size
    · omega
    · by_cases h2 : b = N
      · omega
      · by_cases h3 : b = N + 2
        · omega
        · by_cases h4 : b = N + 1
          · omega
          · simp only [if_neg h1, if_neg h2, if_neg h3, if_neg h4] at hb
            exact absurd rfl hb
theorem Turned.from {w w1 w' : World} {p tb : Nat} {role : Nat → Role} {X : Tr} (k : Keep w w1) (h : Turned w1 w' p tb role X) : Turned w w' p tb role X := by
  obtain ⟨A', M', role', h1, h2, h3⟩ := h
  exact ⟨A', M', role', h1, fun b hb => (h2 b hb).imp id (fun h => Nat.le_trans k.size h), (k.mono (fun _ _ h => h.elim)).trans h3 (fun _ _ h => h)⟩
section
variable {w : World} {p tb : Nat} {T : Tr} {A M : Int → Nat} {role : Nat → Role} {d : Int → Nat}
set_option maxRecDepth 100000 in
set_option maxHeartbeats 8000000 in
theorem do_any (h : TreeAt w p T tb A M role) (hw : WF T d) (he : Env w) (c : Cmd) (hc : c.Small) :
    Calls Tryz.prog 17 #[.pointer (some ⟨p, 0, none⟩), cmdV c] w fun e w' => e = .returned (.int .i64 (doT T c).2) ∧ Turned w w' p tb role (doT T c).1 := by
  have HC := Lib.hid hc
  have hk0 : Keep w (w.alloc (.cells (cmdC c) 38)) := (Mod.refl _ w).alloc _
  have HT := Lib.hid (h.keep hk0)
  have HW := Lib.hid hw
  have He := Lib.hid (he.keep hk0)
  have HT0 := Lib.hid h
  have HCB : RowKit.Hid (World.blk (w.alloc (.cells (cmdC c) 38)) w.heap.size (cmdC c) 38) := Lib.hid (blk_new _ _ _)
  clear h hw he hc hk0
  go_enter Tryz.func17, Tryz.ntmps17
  unfold cmdV cmdC
  go_wp2_with fail
  unfold cmdC at HT He HCB
  have HK0 : RowKit.Hid (Keep w (w.alloc (.cells #[.int .i64 c.kind, .string ⟨c.path.toArray⟩, .string ⟨c.dest.toArray⟩, .int .i64 c.pos, .string ⟨c.data.toArray⟩] 38))) := Lib.hid ((Mod.refl _ w).alloc _)
  generalize w.alloc (.cells #[.int .i64 c.kind, .string ⟨c.path.toArray⟩, .string ⟨c.dest.toArray⟩, .int .i64 c.pos, .string ⟨c.data.toArray⟩] 38) = w0 at *
  refine (print_any c w0 He.out HC.out).mono ?_
  rintro e w1 ⟨rfl, hk⟩
  have HCB1 := Lib.hid (blk_mod hk HCB.out id)
  have HT1 := Lib.hid (HT.out.keep hk)
  have He1 := Lib.hid (He.out.keep hk)
  have HK1 := Lib.hid (HK0.out.keep hk)
  clear hk HCB HT He HK0
  cases hok : c.ok with
  | false =>
    have Hv : RowKit.Hid (doT T c = (T, 1)) := Lib.hid (by rw [doT, if_pos hok])
    have hp : printV c = .tuple #[.string ⟨#[]⟩, .int .i64 130] := by rw [printV, hok]; rfl
    rw [hp]
    clear hp hok
    go_wp2_with fail
    go_ret
    exact ⟨by rw [Hv.out]; rfl, by rw [Hv.out]; exact Turned.same HT0.out HK1.out⟩
  | true =>
    have hp : printV c = .tuple #[.string ⟨c.line.toArray⟩, .int .i64 0] := by rw [printV, hok]; rfl
    rw [hp]
    obtain ⟨h9, _, _⟩ := ok_parts hok
    have hk := k_lt h9
    have Hpos := Lib.hid (ok_pos hok)
    have Hdat := Lib.hid (ok_data hok)
    have Hv0 : RowKit.Hid (doT T c = if c.kind = 0 ∨ c.kind = 1 then makesT T c else if c.kind = 2 ∨ c.kind = 3 then writesT T c else if c.kind = 4 then linksT T c else if c.kind = 5 then renamesT T c else if c.kind = 6 then removesT T c else (T, 1)) := Lib.hid (by rw [doT, if_neg (by rw [hok]; decide)])
    have z0 : w1.cell? ⟨w.heap.size, 0, none⟩ = some (.int .i64 c.kind) := blk_cell HCB1.out 0
    have z1 : w1.cell? ⟨w.heap.size, 1, none⟩ = some (.string ⟨c.path.toArray⟩) := blk_cell HCB1.out 1
    have z2 : w1.cell? ⟨w.heap.size, 2, none⟩ = some (.string ⟨c.dest.toArray⟩) := blk_cell HCB1.out 2
    have z3 : w1.cell? ⟨w.heap.size, 3, none⟩ = some (.int .i64 c.pos) := blk_cell HCB1.out 3
    have z4 : w1.cell? ⟨w.heap.size, 4, none⟩ = some (.string ⟨c.data.toArray⟩) := blk_cell HCB1.out 4
    have hkn : c.kind = 0 ∨ c.kind = 1 ∨ c.kind = 2 ∨ c.kind = 3 ∨ c.kind = 4 ∨ c.kind = 5 ∨ c.kind = 6 ∨ c.kind = 7 ∨ c.kind = 8 := by omega
    clear hp hok h9 hk
    rcases hkn with hq | hq | hq | hq | hq | hq | hq | hq | hq
    · have Hv : RowKit.Hid (doT T c = makesT T c) := Lib.hid (by rw [Hv0.out]; simp [hq])
      have hcall := makes_any HT1.out HW.out He1.out c HC.out (.inl hq)
      unfold cmdV cmdC at hcall
      rw [hq] at hcall
      have HCL := Lib.hid hcall
      rw [hq] at z0
      clear hq hcall
      go_wp2_with fail
      refine HCL.out.mono ?_
      rintro e w2 ⟨rfl, ht⟩
      have HT2 := Lib.hid ht
      clear ht
      go_wp2_with fail
      go_ret
      exact ⟨by rw [Hv.out]; rfl, by rw [Hv.out]; exact Turned.from HK1.out HT2.out⟩
    · have Hv : RowKit.Hid (doT T c = makesT T c) := Lib.hid (by rw [Hv0.out]; simp [hq])
      have hcall := makes_any HT1.out HW.out He1.out c HC.out (.inr hq)
      unfold cmdV cmdC at hcall
      rw [hq] at hcall
      have HCL := Lib.hid hcall
      rw [hq] at z0
      clear hq hcall
      go_wp2_with fail
      refine HCL.out.mono ?_
      rintro e w2 ⟨rfl, ht⟩
      have HT2 := Lib.hid ht
      clear ht
      go_wp2_with fail
      go_ret
      exact ⟨by rw [Hv.out]; rfl, by rw [Hv.out]; exact Turned.from HK1.out HT2.out⟩
    · have Hv : RowKit.Hid (doT T c = writesT T c) := Lib.hid (by rw [Hv0.out]; simp [hq])
      have hcall := writes_any HT1.out HW.out He1.out c HC.out Hpos.out Hdat.out.1 Hdat.out.2
      unfold cmdV cmdC at hcall
      rw [hq] at hcall
      have HCL := Lib.hid hcall
      rw [hq] at z0
      clear hq hcall
      go_wp2_with fail
      refine HCL.out.mono ?_
      rintro e w2 ⟨rfl, ht⟩
      have HT2 := Lib.hid ht
      clear ht
      go_wp2_with fail
      go_ret
      exact ⟨by rw [Hv.out]; rfl, by rw [Hv.out]; exact Turned.from HK1.out HT2.out⟩
    · have Hv : RowKit.Hid (doT T c = writesT T c) := Lib.hid (by rw [Hv0.out]; simp [hq])
      have hcall := writes_any HT1.out HW.out He1.out c HC.out Hpos.out Hdat.out.1 Hdat.out.2
      unfold cmdV cmdC at hcall
      rw [hq] at hcall
      have HCL := Lib.hid hcall
      rw [hq] at z0
      clear hq hcall
      go_wp2_with fail
      refine HCL.out.mono ?_
      rintro e w2 ⟨rfl, ht⟩
      have HT2 := Lib.hid ht
      clear ht
      go_wp2_with fail
      go_ret
      exact ⟨by rw [Hv.out]; rfl, by rw [Hv.out]; exact Turned.from HK1.out HT2.out⟩
    · have Hv : RowKit.Hid (doT T c = linksT T c) := Lib.hid (by rw [Hv0.out]; simp [hq])
      have hcall := links_any HT1.out HW.out He1.out c HC.out
      unfold cmdV cmdC at hcall
      rw [hq] at hcall
      have HCL := Lib.hid hcall
      rw [hq] at z0
      clear hq hcall
      go_wp2_with fail
      refine HCL.out.mono ?_
      rintro e w2 ⟨rfl, ht⟩
      have HT2 := Lib.hid ht
      clear ht
      go_wp2_with fail
      go_ret
      exact ⟨by rw [Hv.out]; rfl, by rw [Hv.out]; exact Turned.from HK1.out HT2.out⟩
    · have Hv : RowKit.Hid (doT T c = renamesT T c) := Lib.hid (by rw [Hv0.out]; simp [hq])
      have hcall := renames_any HT1.out HW.out He1.out c HC.out
      unfold cmdV cmdC at hcall
      rw [hq] at hcall
      have HCL := Lib.hid hcall
      rw [hq] at z0
      clear hq hcall
      go_wp2_with fail
      refine HCL.out.mono ?_
      rintro e w2 ⟨rfl, ht⟩
      have HT2 := Lib.hid ht
      clear ht
      go_wp2_with fail
      go_ret
      exact ⟨by rw [Hv.out]; rfl, by rw [Hv.out]; exact Turned.from HK1.out HT2.out⟩
    · have Hv : RowKit.Hid (doT T c = removesT T c) := Lib.hid (by rw [Hv0.out]; simp [hq])
      have hcall := removes_any HT1.out HW.out He1.out c HC.out
      unfold cmdV cmdC at hcall
      rw [hq] at hcall
      have HCL := Lib.hid hcall
      rw [hq] at z0
      clear hq hcall
      go_wp2_with fail
      refine HCL.out.mono ?_
      rintro e w2 ⟨rfl, ht⟩
      have HT2 := Lib.hid ht
      clear ht
      go_wp2_with fail
      go_ret
      exact ⟨by rw [Hv.out]; rfl, by rw [Hv.out]; exact Turned.from HK1.out HT2.out⟩
    all_goals
      have Hv : RowKit.Hid (doT T c = (T, 1)) := Lib.hid (by rw [Hv0.out]; simp [hq])
      rw [hq] at z0
      clear hq
      go_wp2_with fail
      go_ret
      exact ⟨by rw [Hv.out]; rfl, by rw [Hv.out]; exact Turned.same HT0.out HK1.out⟩
end
end
end Go.Proofs.YthmpblccplphfaaGreatDoor
