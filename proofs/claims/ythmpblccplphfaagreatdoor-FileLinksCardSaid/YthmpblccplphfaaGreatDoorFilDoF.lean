/-
  files: renames.
-/
import Derived.Test.YthmpblccplphfaaGreatDoorFilDoE
namespace Go.Proofs.YthmpblccplphfaaGreatDoor
open Go.RowKit Go.Maps
theorem hasPrefix_any (s p : List UInt8) (w : World) :
    Calls Tryz.prog 72 #[.string ⟨s.toArray⟩, .string ⟨p.toArray⟩] w fun e w' => e = .returned (.bool (Lib.hasPrefix s p)) ∧ w' = w :=
  Tryz.strings_HasPrefix ⟨s.toArray⟩ ⟨p.toArray⟩ w
section
variable {w : World} {p tb : Nat} {T : Tr} {A M : Int → Nat} {role : Nat → Role} {d : Int → Nat}
set_option maxRecDepth 100000 in
set_option maxHeartbeats 8000000 in
theorem renames_any (h : TreeAt w p T tb A M role) (hw : WF T d) (he : Env w) (c : Cmd) (hc : c.Small) :
    Calls Tryz.prog 40 #[.pointer (some ⟨p, 0, none⟩), cmdV c] w fun e w' => e = .returned (.int .i64 (renamesT T c).2) ∧ Turned w w' p tb role (renamesT T c).1 := by
  have HC := Lib.hid hc
  have hk0 : Keep w (w.alloc (.cells (cmdC c) 38)) := (Mod.refl _ w).alloc _
  have HT := Lib.hid (h.keep hk0)
  have HW := Lib.hid hw
  have He := Lib.hid (he.keep hk0)
  have HT0 := Lib.hid h
  have HCB : RowKit.Hid (World.blk (w.alloc (.cells (cmdC c) 38)) w.heap.size (cmdC c) 38) := Lib.hid (blk_new _ _ _)
  clear h hw he hc hk0
  by_cases hroot : c.path = [47]
  · have hq : (c.path == [47]) = true := beq_iff_eq.2 hroot
    have Hv : RowKit.Hid (renamesT T c = (T, 144)) := Lib.hid (by rw [renamesT, if_pos hroot])
    clear hroot HT He HCB
    go_enter Tryz.func40, Tryz.ntmps40
    unfold cmdV cmdC
    go_wp2_with fail
    go_ret
    exact ⟨by rw [Hv.out]; rfl, by rw [Hv.out]; exact Turned.same HT0.out ((Mod.refl _ w).alloc _)⟩
  · have hq : (c.path == [47]) = false := beq_false_of_ne hroot
    have Hroot := Lib.hid hroot
    clear hroot
    go_enter Tryz.func40, Tryz.ntmps40
    unfold cmdV cmdC
    go_wp2_with fail
    unfold cmdC at HT He HCB
    have HK0 : RowKit.Hid (Keep w (w.alloc (.cells #[.int .i64 c.kind, .string ⟨c.path.toArray⟩, .string ⟨c.dest.toArray⟩, .int .i64 c.pos, .string ⟨c.data.toArray⟩] 38))) := Lib.hid ((Mod.refl _ w).alloc _)
    generalize w.alloc (.cells #[.int .i64 c.kind, .string ⟨c.path.toArray⟩, .string ⟨c.dest.toArray⟩, .int .i64 c.pos, .string ⟨c.data.toArray⟩] 38) = w0 at *
    refine (at_any HT.out HW.out He.out c.path HC.out.path).mono ?_
    rintro e w1 ⟨rfl, hk⟩
    have HCB1 := Lib.hid (blk_mod hk HCB.out id)
    have HT1 := Lib.hid (HT.out.keep hk)
    have He1 := Lib.hid (He.out.keep hk)
    have HK1 := Lib.hid (HK0.out.keep hk)
    clear hk HCB HT He HK0
    cases ha : atT T c.path with
    | error e =>
      have hne : (e == 0) = false := by have := at_err ha; rw [beq_eq_false_iff_ne]; omega
      have Hv : RowKit.Hid (renamesT T c = (T, e)) := Lib.hid (by rw [renamesT, if_neg Hroot.out, ha])
      clear ha
      unfold findV
      go_wp2_with fail
      go_ret
      exact ⟨by rw [Hv.out]; rfl, by rw [Hv.out]; exact Turned.same HT0.out HK1.out⟩
    | ok j =>
      obtain ⟨_, n, _, _, hg⟩ := at_ok HW.out ha
      obtain ⟨q, s, o, up, hpo, hfj, hfo, hgo, hdo, hs⟩ := last_ok HW.out ha Hroot.out
      obtain ⟨hnum, hnb⟩ := node_num HW.out hg
      have Hnum := Lib.hid hnum
      have Hg := Lib.hid hg
      have Hup := Lib.hid (And.intro hgo (And.intro hdo hs))
      have Hpo := Lib.hid hpo
      have Hfo := Lib.hid hfo
      have Ha := Lib.hid ha
      have Hsl := Lib.hid ((names_small hpo).2 s (by simp))
      clear ha hg hpo hfj hfo hgo hdo hs hnum
      have z1 : w1.cell? ⟨w.heap.size, 1, none⟩ = some (.string ⟨c.path.toArray⟩) := blk_cell HCB1.out 1
      have z2 : w1.cell? ⟨w.heap.size, 2, none⟩ = some (.string ⟨c.dest.toArray⟩) := blk_cell HCB1.out 2
      have hpl : ¬ 9223372036854775807 < c.path.length + 1 := by have := HC.out.path; omega
      unfold findV
      go_wp2_with fail
      refine (hasPrefix_any c.dest (c.path ++ [47]) w1).mono ?_
      rintro e w' ⟨rfl, rfl⟩
      cases hpx : Lib.hasPrefix c.dest (c.path ++ [47]) with
      | true =>
        have Hv : RowKit.Hid (renamesT T c = (T, 144)) := Lib.hid (by rw [renamesT, if_neg Hroot.out, Ha.out]; simp only [hpx, if_true])
        clear hpx
        go_wp2_with fail
        go_ret
        exact ⟨by rw [Hv.out]; rfl, by rw [Hv.out]; exact Turned.same HT0.out HK1.out⟩
      | false =>
        have Hpx := Lib.hid hpx
        clear hpx
        go_wp2_with fail
        refine (room_any HT1.out HW.out He1.out c.dest HC.out.dest).mono ?_
        rintro e w2 ⟨rfl, hk⟩
        have HT2 := Lib.hid (HT1.out.keep hk)
        have HK2 := Lib.hid (HK1.out.keep hk)
        have He2 := Lib.hid (He1.out.keep hk)
        have HCB2 := Lib.hid (blk_mod hk HCB1.out id)
        clear hk z1 z2 HCB1 HT1 He1 HK1
        cases hr : roomT T c.dest with
        | error e =>
          have hne : (e == 0) = false := by have := room_err hr; rw [beq_eq_false_iff_ne]; omega
          have Hv : RowKit.Hid (renamesT T c = (T, e)) := Lib.hid (by rw [renamesT, if_neg Hroot.out, Ha.out]; simp only [Hpx.out, hr]; rfl)
          clear hr
          unfold roomV
          go_wp2_with fail
          go_ret
          exact ⟨by rw [Hv.out]; rfl, by rw [Hv.out]; exact Turned.same HT0.out HK2.out⟩
        | ok x =>
          obtain ⟨k, s2⟩ := x
          obtain ⟨q2, up2, hp2, hp7, hok, hf2, hgk, hdk, hn2, h60, hdd⟩ := room_ok HW.out hr
          have Hv0 : RowKit.Hid (renamesT T c = if 8 < (q2 ++ [s2]).length + deepT T 9 j then (T, 145) else ((T.named o (delN s)).named k (putN s2 j), 0)) := Lib.hid (by
            rw [renamesT, if_neg Hroot.out, Ha.out]
            simp only [Hpx.out, hr, hp2, Option.getD_some, Hpo.out, List.dropLast_concat, List.getLastD_concat, Hfo.out]
            rfl)
          have hsl2 : s2.length ≤ 16 := by
            simp only [nameOk, Bool.and_eq_true, decide_eq_true_eq] at hok
            exact hok.1.1.2
          have Hp2 := Lib.hid hp2
          have Hup2 := Lib.hid (And.intro hgk (And.intro hdk (And.intro hn2 h60)))
          have z1 : w2.cell? ⟨w.heap.size, 1, none⟩ = some (.string ⟨c.path.toArray⟩) := blk_cell HCB2.out 1
          have z2 : w2.cell? ⟨w.heap.size, 2, none⟩ = some (.string ⟨c.dest.toArray⟩) := blk_cell HCB2.out 2
          clear hr hp2 hok hf2 hgk hdk hn2 h60 hdd
          unfold roomV
          go_wp2_with fail
          refine (path_any c.dest w2 He2.out HC.out.dest).mono ?_
          rintro e w3 ⟨v3, rfl, ho3, hk3⟩
          have hL : pathNames c.dest = q2 ++ [s2] := by rw [pathNames, Hp2.out]; rfl
          rw [hL] at ho3
          obtain ⟨a3, cap3, hv3⟩ := row_shape (row_strs ho3)
          rw [srow_len] at hv3
          obtain ⟨L2, hL2⟩ : ∃ L2, (q2 ++ [s2]).length = L2 := ⟨_, rfl⟩
          rw [hL2] at hv3
          subst hv3
          have HL2 := Lib.hid hL2
          have hLb : L2 ≤ 8 := by rw [← hL2]; simp; omega
          obtain ⟨pe, hpe⟩ : ∃ pe, pathErr c.dest = pe := ⟨_, rfl⟩
          rw [hpe]
          have HT3 := Lib.hid (HT2.out.keep hk3)
          have HK3 := Lib.hid (HK2.out.keep hk3)
          have He3 := Lib.hid (He2.out.keep hk3)
          have HCB3 := Lib.hid (blk_mod hk3 HCB2.out id)
          clear hL hpe ho3 hk3 z1 z2 HT2 HK2 He2 HCB2 hL2
          go_wp2_with fail
          refine (deep_any HW.out 9 j n w3 HT3.out Hg.out (by omega) (by omega) (fun _ => by omega)).mono ?_
          rintro e w4 ⟨rfl, hk4⟩
          have HT4 := Lib.hid (HT3.out.keep hk4)
          have HK4 := Lib.hid (HK3.out.keep hk4)
          have He4 := Lib.hid (He3.out.keep hk4)
          have HCB4 := Lib.hid (blk_mod hk4 HCB3.out id)
          have hdl := deep_le (T := T) 9 j
          obtain ⟨dv, hdv⟩ : ∃ dv, deepT T 9 j = dv := ⟨_, rfl⟩
          rw [hdv] at hdl Hv0
          rw [hdv]
          clear hk4 HT3 HK3 He3 HCB3 hdv
          have z1 : w4.cell? ⟨w.heap.size, 1, none⟩ = some (.string ⟨c.path.toArray⟩) := blk_cell HCB4.out 1
          by_cases h8 : 8 < L2 + dv
          · have Hv : RowKit.Hid (renamesT T c = (T, 145)) := Lib.hid (by rw [Hv0.out, HL2.out, if_pos h8])
            have h8' : (8 : Int) < (L2 : Int) + (dv : Int) := by omega
            clear h8
            go_wp2_with fail
            go_ret
            exact ⟨by rw [Hv.out]; rfl, by rw [Hv.out]; exact Turned.same HT0.out HK4.out⟩
          · have Hv : RowKit.Hid (renamesT T c = ((T.named o (delN s)).named k (putN s2 j), 0)) := Lib.hid (by rw [Hv0.out, HL2.out, if_neg h8])
            have h8' : ¬ (8 : Int) < (L2 : Int) + (dv : Int) := by omega
            clear h8
            go_wp2_with fail
            refine (parent_any HT4.out HW.out He4.out c.path HC.out.path Hpo.out Hfo.out).mono ?_
            rintro e w5 ⟨rfl, hk⟩
            have HT5 := Lib.hid (HT4.out.keep hk)
            have HK5 := Lib.hid (HK4.out.keep hk)
            clear hk z1 HT4 HK4 He4 HCB4
            have Hon := Lib.hid ((get_iff HW.out.sorted).1 Hup.out.1)
            have d4 : w5.cell? ⟨A o, 4, none⟩ = some (.map (if up.dir = true then some (M o) else none)) := HT5.out.cell HW.out.sorted Hup.out.1 4
            rw [if_pos Hup.out.2.1] at d4
            have hmap := HT5.out.names up Hon.out.1 Hup.out.2.1
            rw [Hon.out.2] at hmap
            have Hmap := Lib.hid hmap
            have hs6 : Sorted (T.named o (delN s)) := upd_sorted (fun _ => rfl) HW.out.sorted
            have HS6 := Lib.hid hs6
            -- the other directory, behind the strike
            obtain ⟨up3, hg3, hd3, hn3, hl3⟩ : ∃ up3, (T.named o (delN s)).get k = some up3 ∧ up3.dir = true ∧ getN s2 up3.names = none ∧ up3.names.length < 60 := by
              rw [get_named]
              by_cases e : k = o
              · rw [if_pos e, Hup2.out.1]
                refine ⟨_, rfl, Hup2.out.2.1, ?_, Nat.lt_of_le_of_lt (delG_len _ _) Hup2.out.2.2.2⟩
                rw [getG_none]
                intro x hx
                exact getG_none.1 Hup2.out.2.2.1 x (delG_mem.1 hx).1
              · rw [if_neg e]; exact ⟨up2, Hup2.out.1, Hup2.out.2.1, Hup2.out.2.2.1, Hup2.out.2.2.2⟩
            obtain ⟨n3, hgj3, hnn3⟩ : ∃ n3, (T.named o (delN s)).get j = some n3 ∧ n3.num = j := by
              rw [get_named]
              by_cases e : j = o
              · rw [if_pos e, Hg.out]; exact ⟨_, rfl, Hnum.out⟩
              · rw [if_neg e]; exact ⟨n, Hg.out, Hnum.out⟩
            have Hup3 := Lib.hid (And.intro hg3 (And.intro hd3 (And.intro hn3 hl3)))
            have Hn3 := Lib.hid (And.intro hgj3 hnn3)
            clear hmap hs6 hg3 hd3 hn3 hl3 hgj3 hnn3
            have hsl := Hsl.out
            go_wp2_with (
              (at_delete
               refine wpList_delete_N Hmap.out Tryz.underlying68 Tryz.underlying9 s (by omega) rfl rfl rfl rfl ?_
               intro w6 hm6 hmod6
               have ht6 := tree_named (f := delN s) HT5.out HW.out.sorted Hup.out.1 Hup.out.2.1 hmod6 hm6
               have HT6 := Lib.hid ht6
               have HM6 : RowKit.Hid (Mod (fun b => role b ≠ .none) w w6) := Lib.hid ((HK5.out.mono (fun _ _ h => h.elim)).trans hmod6 (fun i hi e => by
                 have hr := HT0.out.rnames up Hon.out.1 Hup.out.2.1
                 rw [Hon.out.2] at hr
                 rw [e, hr]; exact Role.noConfusion))
               have e4 : w6.cell? ⟨A k, 4, none⟩ = some (.map (if up3.dir = true then some (M k) else none)) := ht6.cell HS6.out Hup3.out.1 4
               rw [if_pos Hup3.out.2.1] at e4
               have e0 : w6.cell? ⟨A j, 0, none⟩ = some (.int .i64 n3.num) := ht6.cell HS6.out Hn3.out.1 0
               rw [Hn3.out.2] at e0
               clear hm6 hmod6 ht6 d4))
            refine wp_region_qd0 9 (by kernel_rfl) (by kernel_rfl) ?_
            simp only [List.take_succ_cons, List.take_zero, List.drop_succ_cons, List.drop_zero]
            repeat (quiet_step (fail))
            refine wpQuiet_nil ?_
            intro _ hw'
            obtain ⟨nq, rfl⟩ := hw'
            have HT6d := HT6.out.keep ((Mod.refl (fun _ => False) w6).drewN nq)
            have hmk := (get_iff HS6.out).1 Hup3.out.1
            have hmap3 := HT6d.names up3 hmk.1 Hup3.out.2.1
            rw [hmk.2] at hmap3
            have hr3 := HT6.out.rnames up3 hmk.1 Hup3.out.2.1
            rw [hmk.2] at hr3
            refine wpList_store_N hmap3 Tryz.underlying68 Tryz.underlying9 Tryz.underlying3 s2 (by omega) j hnb (by have := Hup3.out.2.2.2; omega) rfl rfl rfl rfl rfl ?_
            intro w7 hm7 hmod7
            have ht7 := tree_named (f := putN s2 j) HT6d HS6.out Hup3.out.1 Hup3.out.2.1 hmod7 hm7
            have HT7 := Lib.hid ht7
            have HM7 := Lib.hid ((HM6.out.drewN nq).trans hmod7 (fun i hi e => by rw [e, hr3]; exact Role.noConfusion))
            clear ht7 hm7 hmod7 HT6d hmk hmap3 hr3 e4 e0
            go_wp2_with fail
            go_ret
            refine ⟨by rw [Hv.out]; rfl, ?_⟩
            rw [Hv.out]
            exact ⟨A, M, role, HT7.out, fun _ hb => .inl hb, HM7.out⟩
end
end Go.Proofs.YthmpblccplphfaaGreatDoor
