/-
  files: writes.
-/
import Derived.Test.YthmpblccplphfaaGreatDoorFilDoA
namespace Go.Proofs.YthmpblccplphfaaGreatDoor
open Go.RowKit
section
variable {w : World} {p tb : Nat} {T : Tr} {A M : Int → Nat} {role : Nat → Role} {d : Int → Nat}
set_option maxRecDepth 100000 in
set_option maxHeartbeats 8000000 in
theorem writes_any (h : TreeAt w p T tb A M role) (hw : WF T d) (he : Env w) (c : Cmd) (hc : c.Small) (hp0 : 0 ≤ c.pos ∧ c.pos ≤ 16384) (hdl : c.data.length ≤ 512) (hcut : c.kind ≠ 2 → c.data = []) :
    Calls Tryz.prog 38 #[.pointer (some ⟨p, 0, none⟩), cmdV c] w fun e w' => e = .returned (.int .i64 (writesT T c).2) ∧ Turned w w' p tb role (writesT T c).1 := by
  have HC := Lib.hid hc
  have hk0 : Keep w (w.alloc (.cells (cmdC c) 38)) := (Mod.refl _ w).alloc _
  have HT := Lib.hid (h.keep hk0)
  have HW := Lib.hid hw
  have He := Lib.hid (he.keep hk0)
  have HT0 := Lib.hid h
  have HCB : RowKit.Hid (World.blk (w.alloc (.cells (cmdC c) 38)) w.heap.size (cmdC c) 38) := Lib.hid (blk_new _ _ _)
  have Hpos := Lib.hid hp0
  have Hdl := Lib.hid hdl
  have Hcut := Lib.hid hcut
  clear h hw he hc hk0 hp0 hdl hcut
  go_enter Tryz.func38, Tryz.ntmps38
  unfold cmdV cmdC
  go_wp2_with fail
  unfold cmdC at HT He HCB
  have HK0 : RowKit.Hid (Keep w (w.alloc (.cells #[.int .i64 c.kind, .string ⟨c.path.toArray⟩, .string ⟨c.dest.toArray⟩, .int .i64 c.pos, .string ⟨c.data.toArray⟩] 38))) := Lib.hid ((Mod.refl _ w).alloc _)
  generalize w.alloc (.cells #[.int .i64 c.kind, .string ⟨c.path.toArray⟩, .string ⟨c.dest.toArray⟩, .int .i64 c.pos, .string ⟨c.data.toArray⟩] 38) = w0 at *
  refine (at_any HT.out HW.out He.out c.path HC.out.path).mono ?_
  rintro e w1 ⟨rfl, hk⟩
  have HCB1 := Lib.hid (blk_mod hk HCB.out id)
  have HT1 := Lib.hid (HT.out.keep hk)
  have He1 := Lib.hid (He.out.keep hk)
  have HK1 := Lib.hid (HK0.out.keep hk)
  clear hk HCB HT He HK0
  cases ha : atT T c.path with
  | error e =>
    have hne : (e == 0) = false := by have := at_err ha; rw [beq_eq_false_iff_ne]; omega
    have Hv : RowKit.Hid (writesT T c = (T, e)) := Lib.hid (by rw [writesT, ha])
    clear ha
    unfold findV
    go_wp2_with fail
    go_ret
    exact ⟨by rw [Hv.out]; rfl, by rw [Hv.out]; exact Turned.same HT0.out HK1.out⟩
  | ok j =>
    obtain ⟨_, n, _, _, hg⟩ := at_ok HW.out ha
    have c1 : w1.cell? ⟨A j, 1, none⟩ = some (.bool n.dir) := HT1.out.cell HW.out.sorted hg 1
    have c3 : w1.cell? ⟨A j, 3, none⟩ = some (.string ⟨n.data.toArray⟩) := HT1.out.cell HW.out.sorted hg 3
    unfold findV
    cases hd : n.dir with
    | true =>
      rw [hd] at c1
      have Hv : RowKit.Hid (writesT T c = (T, 143)) := Lib.hid (by rw [writesT, ha]; simp [hg, hd])
      clear ha hg hd
      go_wp2_with fail
      go_ret
      exact ⟨by rw [Hv.out]; rfl, by rw [Hv.out]; exact Turned.same HT0.out HK1.out⟩
    | false =>
      rw [hd] at c1
      have Hv : RowKit.Hid (writesT T c = if (n.data.length : Int) < c.pos ∨ c.kind = 2 ∧ 16384 < c.pos + c.data.length then (T, 145) else (T.upd j fun n => { n with data := cutW c n.data }, 0)) := Lib.hid (by rw [writesT, ha]; simp [hg, hd])
      have hnl := (HW.out.file n ((get_iff HW.out.sorted).1 hg).1 hd).2
      have Hnl := Lib.hid hnl
      have Hg := Lib.hid hg
      have z0 : w1.cell? ⟨w.heap.size, 0, none⟩ = some (.int .i64 c.kind) := blk_cell HCB1.out 0
      have z3 : w1.cell? ⟨w.heap.size, 3, none⟩ = some (.int .i64 c.pos) := blk_cell HCB1.out 3
      have z4 : w1.cell? ⟨w.heap.size, 4, none⟩ = some (.string ⟨c.data.toArray⟩) := blk_cell HCB1.out 4
      obtain ⟨pos, hpos⟩ : ∃ pos : Nat, c.pos = pos := ⟨c.pos.toNat, by have := Hpos.out; omega⟩
      have HP := Lib.hid hpos
      rw [hpos] at z3
      have hpb : pos ≤ 16384 := by have := Hpos.out; omega
      have Hpb := Lib.hid hpb
      obtain ⟨kd, hkd⟩ : ∃ kd, c.kind = kd := ⟨_, rfl⟩
      rw [hkd] at z0
      have HKd := Lib.hid hkd
      obtain ⟨D, hD⟩ : ∃ D, c.data = D := ⟨_, rfl⟩
      rw [hD] at z4
      have HD := Lib.hid hD
      have hDl : D.length ≤ 512 := by rw [← hD]; exact Hdl.out
      have HDl := Lib.hid hDl
      clear ha hg hd hnl hpos hkd hD hpb hDl
      by_cases hb1 : (n.data.length : Int) < pos
      · have Hv2 : RowKit.Hid (writesT T c = (T, 145)) := Lib.hid (by rw [Hv.out, HP.out, if_pos (.inl hb1)])
        go_wp2_with fail
        refine wp_region_qe0 (by kernel_rfl) (by kernel_rfl) ?_
        repeat (go_big_quiet_step (fail))
        refine wpQuiet_nil ?_
        intro _ hw'
        obtain ⟨nq, rfl⟩ := hw'
        go_wp2_with fail
        go_ret
        exact ⟨by rw [Hv2.out]; rfl, by rw [Hv2.out]; exact Turned.same HT0.out (HK1.out.drewN nq)⟩
      · have hle : pos ≤ n.data.length := by omega
        have hd1 : decide (n.data.length < pos) = false := by rw [decide_eq_false_iff_not]; omega
        have hsum : IntKind.i64.wrap ((pos : Int) + (D.length : Int)) = (pos : Int) + (D.length : Int) := by rw [IntKind.wrap_i64]; have := Hpb.out; have := HDl.out; omega
        by_cases hk2 : kd = 2
        · have hq2 : (kd == 2) = true := beq_iff_eq.2 hk2
          by_cases hb2 : (16384 : Int) < (pos : Int) + (D.length : Int)
          · have Hv2 : RowKit.Hid (writesT T c = (T, 145)) := Lib.hid (by rw [Hv.out, HP.out, HKd.out, HD.out, if_pos (.inr ⟨hk2, hb2⟩)])
            have hd2 : decide ((16384 : Int) < (pos : Int) + (D.length : Int)) = true := by rw [decide_eq_true_iff]; exact hb2
            clear hk2 hle hb1 hb2
            go_wp2_with fail
            refine wp_region_qe0 (by kernel_rfl) (by kernel_rfl) ?_
            repeat (go_big_quiet_step (fail))
            refine wpQuiet_nil ?_
            intro _ hw'
            obtain ⟨nq, rfl⟩ := hw'
            go_wp2_with fail
            go_ret
            exact ⟨by rw [Hv2.out]; rfl, by rw [Hv2.out]; exact Turned.same HT0.out (HK1.out.drewN nq)⟩
          · have Hv2 : RowKit.Hid (writesT T c = (T.upd j fun n => { n with data := cutW c n.data }, 0)) := Lib.hid (by rw [Hv.out, HP.out, HKd.out, HD.out, if_neg (by rintro (h | ⟨_, h⟩); exact hb1 h; exact hb2 h)])
            have Hle := Lib.hid hle
            have hz1 : (pos : Int) ≤ n.data.length := by omega
            have hz0 : (0 : Int) ≤ pos := by omega
            have hcat : ¬ 9223372036854775807 < min pos n.data.length + D.length := by have := Hpb.out; have := HDl.out; omega
            have hd2 : decide ((16384 : Int) < (pos : Int) + (D.length : Int)) = false := by rw [decide_eq_false_iff_not]; exact hb2
            clear hle hb1 hb2 hk2
            go_wp2_with fail
            refine wp_region_qe0 (by kernel_rfl) (by kernel_rfl) ?_
            repeat (go_big_quiet_step (fail))
            refine wpQuiet_nil ?_
            intro _ hw'
            obtain ⟨nq, rfl⟩ := hw'
            go_wp2_with fail
            refine wp_region_qe (by kernel_rfl) (by kernel_rfl) ?_
            repeat (go_big_quiet_step (fail))
            refine wpQuiet_nil ?_
            intro _ hw'
            obtain ⟨nr, rfl⟩ := hw'
            have hsl : (n.data.take pos ++ D).length ≤ 16896 := by have := Hpb.out; have := HDl.out; rw [List.length_append, List.length_take]; omega
            obtain ⟨s, hs⟩ : ∃ s, n.data.take pos ++ D = s := ⟨_, rfl⟩
            rw [hs] at hsl
            rw [hs]
            have Hs := Lib.hid hs
            have Hsl := Lib.hid hsl
            have hf3 : w1.frozen? ⟨A j, 3, none⟩ = false := by
              have hB := HT1.out.node n ((get_iff HW.out.sorted).1 Hg.out).1
              rw [(node_num HW.out Hg.out).1] at hB
              exact blk_free hB _ rfl
            clear hs hsl hd1 hsum hz1 hz0 hcat hd2 c1 z3 z4
            by_cases hlt : s.length < n.data.length
            · have hX : RowKit.Hid (s ++ n.data.drop s.length = cutW c n.data) := Lib.hid (by
                unfold cutW
                rw [HP.out, Int.toNat_natCast, HD.out, Hs.out]
                simp only
                rw [if_pos ⟨HKd.out.trans (by simpa using hq2), hlt⟩])
              have hl1 : (s.length : Int) < n.data.length := by omega
              have hl2 : (s.length : Int) ≤ n.data.length := by omega
              have hl0 : (0 : Int) ≤ s.length := by omega
              have hcat : ¬ 9223372036854775807 < s.length + (n.data.length - s.length) := by have := Hnl.out; omega
              have hl3 : s.length ≤ n.data.length := by omega
              go_wp2_with fail
              go_ret
              refine ⟨by rw [Hv2.out]; rfl, ?_⟩
              rw [Hv2.out]
              have hnum := (node_num HW.out Hg.out).1
              have hB := (HT1.out.keep ((Mod.refl (fun _ => False) w1).drewN nr)).node n ((get_iff HW.out.sorted).1 Hg.out).1
              rw [hnum] at hB
              have hrA := HT0.out.rnode n ((get_iff HW.out.sorted).1 Hg.out).1
              rw [hnum] at hrA
              have hmod4 : Mod (· = A j) (w1.drewN nr) ((w1.drewN nr).setCell ⟨A j, 3, none⟩ (.string ⟨(cutW c n.data).toArray⟩)) := (Mod.refl (fun x => x = A j) _).setCell (p := ⟨A j, 3, none⟩) (.inl rfl) _
              have hX := hX.out
              rw [hX]
              exact ⟨A, M, role, tree_upd (f := fun n => { n with data := cutW c n.data }) (HT1.out.keep ((Mod.refl (fun _ => False) w1).drewN nr)) HW.out.sorted (fun _ => ⟨rfl, rfl, rfl⟩) Hg.out hmod4 (blk_set hB 3 _), fun _ hb => .inl hb, ((HK1.out.drewN nr).mono (fun _ _ h => h.elim)).trans hmod4 (fun i hi e => by rw [e, hrA]; exact Role.noConfusion)⟩
            · have hX : RowKit.Hid (s = cutW c n.data) := Lib.hid (by
                unfold cutW
                rw [HP.out, Int.toNat_natCast, HD.out, Hs.out]
                simp only
                rw [if_neg (fun h => hlt h.2)])
              have hl1 : ¬ (s.length : Int) < n.data.length := by omega
              clear hlt
              go_wp2_with fail
              go_ret
              refine ⟨by rw [Hv2.out]; rfl, ?_⟩
              rw [Hv2.out]
              have hnum := (node_num HW.out Hg.out).1
              have hB := (HT1.out.keep ((Mod.refl (fun _ => False) w1).drewN nr)).node n ((get_iff HW.out.sorted).1 Hg.out).1
              rw [hnum] at hB
              have hrA := HT0.out.rnode n ((get_iff HW.out.sorted).1 Hg.out).1
              rw [hnum] at hrA
              have hmod4 : Mod (· = A j) (w1.drewN nr) ((w1.drewN nr).setCell ⟨A j, 3, none⟩ (.string ⟨(cutW c n.data).toArray⟩)) := (Mod.refl (fun x => x = A j) _).setCell (p := ⟨A j, 3, none⟩) (.inl rfl) _
              have hX := hX.out
              rw [hX]
              exact ⟨A, M, role, tree_upd (f := fun n => { n with data := cutW c n.data }) (HT1.out.keep ((Mod.refl (fun _ => False) w1).drewN nr)) HW.out.sorted (fun _ => ⟨rfl, rfl, rfl⟩) Hg.out hmod4 (blk_set hB 3 _), fun _ hb => .inl hb, ((HK1.out.drewN nr).mono (fun _ _ h => h.elim)).trans hmod4 (fun i hi e => by rw [e, hrA]; exact Role.noConfusion)⟩
        · have hq2 : (kd == 2) = false := beq_false_of_ne hk2
          have Hv2 : RowKit.Hid (writesT T c = (T.upd j fun n => { n with data := cutW c n.data }, 0)) := Lib.hid (by rw [Hv.out, HP.out, HKd.out, HD.out, if_neg (by rintro (h | ⟨h, _⟩); exact hb1 h; exact hk2 h)])
          have Hle := Lib.hid hle
          have hz1 : (pos : Int) ≤ n.data.length := by omega
          have hz0 : (0 : Int) ≤ pos := by omega
          have hcat : ¬ 9223372036854775807 < min pos n.data.length + D.length := by have := Hpb.out; have := HDl.out; omega
          have Hk2 := Lib.hid hk2
          clear hle hb1 hk2
          go_wp2_with fail
          refine wp_region_qe0 (by kernel_rfl) (by kernel_rfl) ?_
          repeat (go_big_quiet_step (fail))
          refine wpQuiet_nil ?_
          intro _ hw'
          obtain ⟨nq, rfl⟩ := hw'
          go_wp2_with fail
          refine wp_region_qe (by kernel_rfl) (by kernel_rfl) ?_
          repeat (go_big_quiet_step (fail))
          refine wpQuiet_nil ?_
          intro _ hw'
          obtain ⟨nr, rfl⟩ := hw'
          have hX : RowKit.Hid (n.data.take pos ++ D = cutW c n.data) := Lib.hid (by
            unfold cutW
            rw [HP.out, Int.toNat_natCast, HD.out]
            simp only
            rw [if_neg (fun h => Hk2.out (HKd.out.symm.trans h.1))])
          have hf3 : w1.frozen? ⟨A j, 3, none⟩ = false := by
            have hB := HT1.out.node n ((get_iff HW.out.sorted).1 Hg.out).1
            rw [(node_num HW.out Hg.out).1] at hB
            exact blk_free hB _ rfl
          rw [hX.out]
          clear hd1 hsum hz1 hz0 hcat c1 z3 z4
          go_wp2_with fail
          go_ret
          refine ⟨by rw [Hv2.out]; rfl, ?_⟩
          rw [Hv2.out]
          have hnum := (node_num HW.out Hg.out).1
          have hB := (HT1.out.keep ((Mod.refl (fun _ => False) w1).drewN nr)).node n ((get_iff HW.out.sorted).1 Hg.out).1
          rw [hnum] at hB
          have hrA := HT0.out.rnode n ((get_iff HW.out.sorted).1 Hg.out).1
          rw [hnum] at hrA
          have hmod4 : Mod (· = A j) (w1.drewN nr) ((w1.drewN nr).setCell ⟨A j, 3, none⟩ (.string ⟨(cutW c n.data).toArray⟩)) := (Mod.refl (fun x => x = A j) _).setCell (p := ⟨A j, 3, none⟩) (.inl rfl) _
          exact ⟨A, M, role, tree_upd (f := fun n => { n with data := cutW c n.data }) (HT1.out.keep ((Mod.refl (fun _ => False) w1).drewN nr)) HW.out.sorted (fun _ => ⟨rfl, rfl, rfl⟩) Hg.out hmod4 (blk_set hB 3 _), fun _ hb => .inl hb, ((HK1.out.drewN nr).mono (fun _ _ h => h.elim)).trans hmod4 (fun i hi e => by rw [e, hrA]; exact Role.noConfusion)⟩
end
end Go.Proofs.YthmpblccplphfaaGreatDoor
